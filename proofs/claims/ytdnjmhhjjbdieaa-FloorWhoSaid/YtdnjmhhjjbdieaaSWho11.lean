/- Texts of a proof, joined: see the last one. -/
import Derived.Test.YtdnjmhhjjbdieaaSWho2
import Derived.Test.YtdnjmhhjjbdieaaSWho5
import Derived.Test.YtdnjmhhjjbdieaaSWho6
import Derived.Test.YtdnjmhhjjbdieaaSWho8
import Derived.Test.YtdnjmhhjjbdieaaSWho10
import Derived.Laws.MakeOwn
import Derived.LoopTactic
import Derived.Lib.Hide
namespace Go.Proofs.YtdnjmhhjjbdieaaW.PrintLast
end Go.Proofs.YtdnjmhhjjbdieaaW.PrintLast
namespace Go.Proofs.YtdnjmhhjjbdieaaW.PrintWords
end Go.Proofs.YtdnjmhhjjbdieaaW.PrintWords
section
namespace Go.Proofs.Ytdnjmhhjjbdieaa.Q
open Go.RowKit Go.Proofs.YtdnjmhhjjbdieaaW.PrintWords Go.Proofs.YtdnjmhhjjbdieaaW.PrintLast
set_option linter.unusedVariables false
set_option linter.unusedSimpArgs false
def palantypelaw02_Thin.f (a0_0 : Int) (a0_1 : Int) (a0_2 : Int) (a0_3 : Int) (l0_4 : List (S59)) : Option (Bool) := some (decide ((l0_4.length : Int) ≤ 45))
set_option maxHeartbeats 8000000 in
set_option maxRecDepth 100000 in
theorem palantypelaw02_Thin.calls (a0_0 : Int) (a0_1 : Int) (a0_2 : Int) (a0_3 : Int) (A0_4 : Option Addr) (c0_4 : Nat) (l0_4 : List (S59)) (r : Bool) (w : World) (hr0_4 : Kd.C k59 w A0_4 l0_4.length l0_4) (hc0_4 : l0_4.length ≤ c0_4) (h : palantypelaw02_Thin.f a0_0 a0_1 a0_2 a0_3 l0_4 = some r) :
    Calls Try.prog 33 #[.agg #[.int .i64 a0_0, .int .i64 a0_1, .int .i64 a0_2, .int .i64 a0_3, .slice A0_4 l0_4.length c0_4]] w fun e w' => e = .returned (.bool r) ∧ Below w.heap.size w w' := by
  have hu24 := Try.underlying24
  have HR0_4 := Aside0.mk hr0_4
  have HC0_4 := Aside0.mk hc0_4
  clear hr0_4 hc0_4
  have HB := Aside0.mk (Below.refl w.heap.size w)
  have H : (some (decide ((l0_4.length : Int) ≤ 45))) = some r := h
  clear h
  obtain rfl := Option.some.inj H
  go_enter Try.func33, Try.ntmps33
  go_wp2_with (first | ((with_reducible refine gate_dst (N := 1) rfl ?_); refine box_event ?hg (N := 1) ?hd (cs := #[.int .i64 a0_0, .int .i64 a0_1, .int .i64 a0_2, .int .i64 a0_3, .slice A0_4 l0_4.length c0_4]) (t := 24) ?hr ?_; (case hd => rfl); (case hg => rfl); (case hr => first | (go_simp; done) | (go_simp; rfl)); intro gb112 hg w2 hbox hb; have n0_ := Aside0.mk (below_step (by repeat (first | (with_reducible first | exact HB.out | apply below_alloc | apply pw_below_drewN | apply below_drew1) | exact HB.out)) hb); have n1_ := Aside0.mk (hbox); have n2_ := Aside0.mk ((by rw [hg]; exact (below_size (by repeat (first | (with_reducible first | exact HB.out | apply below_alloc | apply pw_below_drewN | apply below_drew1) | exact HB.out))) : w.heap.size ≤ gb112)); have n3_ := Aside0.mk ((by rw [hg]; exact (below_size (by repeat (first | (with_reducible first | exact HB.out | apply below_alloc | apply pw_below_drewN | apply below_drew1) | exact HB.out))) : w.heap.size ≤ gb112)); clear HB; have HB := n0_; have BK112 := n1_; have GW112 := n2_; have GE112 := n3_; clear n0_ n1_ n2_ n3_; clear hb hbox hg; have hcz3_0 : w2.cell? ⟨gb112, 0, none⟩ = some (.int .i64 a0_0) := (blk_cell BK112.out 0).trans rfl; have hcz3_1 : w2.cell? ⟨gb112, 1, none⟩ = some (.int .i64 a0_1) := (blk_cell BK112.out 1).trans rfl; have hcz3_2 : w2.cell? ⟨gb112, 2, none⟩ = some (.int .i64 a0_2) := (blk_cell BK112.out 2).trans rfl; have hcz3_3 : w2.cell? ⟨gb112, 3, none⟩ = some (.int .i64 a0_3) := (blk_cell BK112.out 3).trans rfl; have hcz3_4 : w2.cell? ⟨gb112, 4, none⟩ = some (.slice A0_4 l0_4.length c0_4) := (blk_cell BK112.out 4).trans rfl; have hfz3_0 := blk_frozen BK112.out 0; have hfz3_1 := blk_frozen BK112.out 1; have hfz3_2 := blk_frozen BK112.out 2; have hfz3_3 := blk_frozen BK112.out 3; have hfz3_4 := blk_frozen BK112.out 4))
  go_ret
  exact ⟨by first | rfl | (simp [errW_none, errW_some] <;> rfl) | (simp [*, errW_none, errW_some] <;> rfl), by repeat (first | (with_reducible first | exact HB.out | apply below_alloc | apply pw_below_drewN | apply below_drew1 | refine below_set ?_ GE112.out) | exact HB.out)⟩
end Go.Proofs.Ytdnjmhhjjbdieaa.Q
end
section
namespace Go.Proofs.Ytdnjmhhjjbdieaa.Q
open Go.RowKit Go.Shelf Go.Proofs.YtdnjmhhjjbdieaaW.PrintWords Go.Proofs.YtdnjmhhjjbdieaaW.PrintLast
set_option linter.unusedVariables false
set_option linter.unusedSimpArgs false
attribute [local go_sem] Oper.semAt_some
def reachL (least most short : Int) (n : Nat) (l : List S52) : Nat := ((List.range l.length).filter fun j => !(fwdL least most short n l (j + 1)).isEmpty).length
theorem filter_below (p : Nat → Bool) (i : Nat) : ∀ n, i ≤ n → (∀ j, j < i → p j = true) → (∀ j, i ≤ j → j < n → p j = false) → ((List.range n).filter p).length = i := by
  intro n
  induction n with
  | zero => intro h _ _; obtain rfl : i = 0 := by omega
            rfl
  | succ n ih =>
    intro h h1 h2
    rw [List.range_succ, List.filter_append, List.length_append]
    by_cases e : i = n + 1
    · subst e
      have : (List.range n).filter p = List.range n := List.filter_eq_self.2 (fun j hj => h1 j (by have := List.mem_range.1 hj; omega))
      rw [this]
      simp [h1 n (by omega)]
    · rw [ih (by omega) h1 (fun j a b => h2 j a (by omega))]
      simp [h2 n (by omega) (by omega)]
theorem reach_eq {least most short : Int} {n : Nat} {l : List S52} {i : Nat} (hi : i ≤ l.length) (hne : ∀ j, j ≤ i → ∃ x, fwd least most short n l j x) (hno : i < l.length → ∀ x, ¬ fwd least most short n l (i + 1) x) : reachL least most short n l = i := by
  refine filter_below _ i _ hi (fun j hj => ?_) (fun j h1 h2 => ?_)
  · obtain ⟨x, hx⟩ := hne (j + 1) (by omega)
    cases h : (fwdL least most short n l (j + 1)).isEmpty
    · rfl
    · exact absurd hx (fwdL_empty.1 h x)
  · have : (fwdL least most short n l (j + 1)).isEmpty = true := fwdL_empty.2 (fun x => by
      have := fwd_later (hno (by omega)) (j - i) x
      rwa [show i + 1 + (j - i) = j + 1 by omega] at this)
    simp [this]
end Go.Proofs.Ytdnjmhhjjbdieaa.Q
end
section
namespace Go.Proofs.Ytdnjmhhjjbdieaa.Q
open Go.RowKit Go.Proofs.YtdnjmhhjjbdieaaW.PrintWords
set_option linter.unusedVariables false
theorem wf_moments {l : List S59} (h : ∀ y ∈ l, (Lit.int .u16 y.f0).wf = true ∧ (Lit.int .u16 y.f1).wf = true) : ∀ y ∈ l, (0 ≤ y.f0 ∧ y.f0 < 65536) ∧ (0 ≤ y.f1 ∧ y.f1 < 65536) := fun y hy => ⟨wf_u16 (h y hy).1, wf_u16 (h y hy).2⟩
end Go.Proofs.Ytdnjmhhjjbdieaa.Q
end
section
namespace Go.Proofs.Ytdnjmhhjjbdieaa.Q
open Go.RowKit Go.Proofs.YtdnjmhhjjbdieaaW.PrintWords Go.Proofs.YtdnjmhhjjbdieaaW.PrintLast
set_option linter.unusedVariables false
set_option linter.unusedSimpArgs false
def palantypelaw02_few.f (k : Nat) (a0_0 : Int) (a0_1 : Int) (a0_2 : Int) (a0_3 : Int) (l0_4 : List (S59)) : Option (Bool) := (palantypelaw02_Thin.f a0_0 a0_1 a0_2 a0_3 l0_4).bind fun t114 => (if t114 = true then ((palantyperef02_Fault.f k a0_0 a0_1 a0_2 a0_3 l0_4).bind fun t115 => (if t115 = 0 then (if a0_0 ≤ 3 then (if (l0_4.length : Int) ≤ 5 then (some true) else (if a0_0 ≤ 2 then (some (decide ((l0_4.length : Int) ≤ 6))) else (some false))) else (if a0_0 ≤ 2 then (some (decide ((l0_4.length : Int) ≤ 6))) else (some false))) else (some true))) else (some false))
theorem palantypelaw02_few.mono : ∀ a0 a1 a2 a3 a4 k, LeO (palantypelaw02_few.f k a0 a1 a2 a3 a4) (palantypelaw02_few.f (k + 1) a0 a1 a2 a3 a4) := by
  intro a0 a1 a2 a3 a4 k
  unfold palantypelaw02_few.f
  repeat' first
      | (with_reducible exact palantyperef02_Fault.mono _ _ _ _ _ _)
      | (with_reducible exact LeO.refl _)
      | (with_reducible exact LeO.none _)
      | (with_reducible refine LeO.ite ?_ ?_)
      | (with_reducible refine LeO.bind ?_ (fun _ => ?_))
      | exact palantyperef02_Fault.mono _ _ _ _ _ _
      | exact LeO.none _
      | refine LeO.ite ?_ ?_
      | refine LeO.bind ?_ (fun _ => ?_)
set_option maxHeartbeats 8000000 in
set_option maxRecDepth 100000 in
theorem palantypelaw02_few.calls (k : Nat) (a0_0 : Int) (a0_1 : Int) (a0_2 : Int) (a0_3 : Int) (A0_4 : Option Addr) (c0_4 : Nat) (l0_4 : List (S59)) (r : Bool) (w : World) (hr0_4 : Kd.C k59 w A0_4 l0_4.length l0_4) (hc0_4 : l0_4.length ≤ c0_4) (h : palantypelaw02_few.f k a0_0 a0_1 a0_2 a0_3 l0_4 = some r) :
    Calls Try.prog 16 #[.agg #[.int .i64 a0_0, .int .i64 a0_1, .int .i64 a0_2, .int .i64 a0_3, .slice A0_4 l0_4.length c0_4]] w fun e w' => e = .returned (.bool r) ∧ Below w.heap.size w w' := by
  have hu24 := Try.underlying24
  have HR0_4 := Aside0.mk hr0_4
  have HC0_4 := Aside0.mk hc0_4
  clear hr0_4 hc0_4
  have HB := Aside0.mk (Below.refl w.heap.size w)
  have H : ((palantypelaw02_Thin.f a0_0 a0_1 a0_2 a0_3 l0_4).bind fun t114 => (if t114 = true then ((palantyperef02_Fault.f k a0_0 a0_1 a0_2 a0_3 l0_4).bind fun t115 => (if t115 = 0 then (if a0_0 ≤ 3 then (if (l0_4.length : Int) ≤ 5 then (some true) else (if a0_0 ≤ 2 then (some (decide ((l0_4.length : Int) ≤ 6))) else (some false))) else (if a0_0 ≤ 2 then (some (decide ((l0_4.length : Int) ≤ 6))) else (some false))) else (some true))) else (some false))) = some r := h
  clear h
  replace H := Option.bind_eq_some_iff.mp H
  obtain ⟨t114, A20, H⟩ := H
  replace H : (if t114 = true then ((palantyperef02_Fault.f k a0_0 a0_1 a0_2 a0_3 l0_4).bind fun t115 => (if t115 = 0 then (if a0_0 ≤ 3 then (if (l0_4.length : Int) ≤ 5 then (some true) else (if a0_0 ≤ 2 then (some (decide ((l0_4.length : Int) ≤ 6))) else (some false))) else (if a0_0 ≤ 2 then (some (decide ((l0_4.length : Int) ≤ 6))) else (some false))) else (some true))) else (some false)) = some r := H
  have A2 := Aside0.mk A20
  clear A20
  by_cases c3 : t114 = true
  · subst c3
    have H1 : ((palantyperef02_Fault.f k a0_0 a0_1 a0_2 a0_3 l0_4).bind fun t115 => (if t115 = 0 then (if a0_0 ≤ 3 then (if (l0_4.length : Int) ≤ 5 then (some true) else (if a0_0 ≤ 2 then (some (decide ((l0_4.length : Int) ≤ 6))) else (some false))) else (if a0_0 ≤ 2 then (some (decide ((l0_4.length : Int) ≤ 6))) else (some false))) else (some true))) = some r := by rw [if_pos rfl] at H; exact H
    clear H
    have H := H1
    clear H1
    replace H := Option.bind_eq_some_iff.mp H
    obtain ⟨t115, A40, H⟩ := H
    replace H : (if t115 = 0 then (if a0_0 ≤ 3 then (if (l0_4.length : Int) ≤ 5 then (some true) else (if a0_0 ≤ 2 then (some (decide ((l0_4.length : Int) ≤ 6))) else (some false))) else (if a0_0 ≤ 2 then (some (decide ((l0_4.length : Int) ≤ 6))) else (some false))) else (some true)) = some r := H
    have A4 := Aside0.mk A40
    clear A40
    by_cases c5 : t115 = 0
    · rw [if_pos c5] at H
      have c5b0 : (t115 == 0) = true := beq_iff_eq.mpr c5
      have c5b1 : (t115 != 0) = false := bne_eq_false_iff_eq.mpr c5
      clear c5
      by_cases c6 : a0_0 ≤ 3
      · rw [if_pos c6] at H
        have c6b0 : decide (a0_0 ≤ 3) = true := decide_eq_true c6
        clear c6
        by_cases c7 : (l0_4.length : Int) ≤ 5
        · rw [if_pos c7] at H
          have c7b0 : decide ((l0_4.length : Int) ≤ 5) = true := decide_eq_true c7
          have c7b1 : decide (l0_4.length ≤ 5) = true := decide_eq_true (by omega)
          clear c7
          obtain rfl := Option.some.inj H
          go_enter Try.func16, Try.ntmps16
          go_wp2_with (first | ((with_reducible refine gate_dst (N := 1) rfl ?_); refine box_event ?hg (N := 1) ?hd (cs := #[.int .i64 a0_0, .int .i64 a0_1, .int .i64 a0_2, .int .i64 a0_3, .slice A0_4 l0_4.length c0_4]) (t := 24) ?hr ?_; (case hd => rfl); (case hg => rfl); (case hr => first | (go_simp; done) | (go_simp; rfl)); intro gb113 hg w8 hbox hb; have n0_ := Aside0.mk (below_step (by repeat (first | (with_reducible first | exact HB.out | apply below_alloc | apply pw_below_drewN | apply below_drew1) | exact HB.out)) hb); have n1_ := Aside0.mk (hbox); have n2_ := Aside0.mk ((by rw [hg]; exact (below_size (by repeat (first | (with_reducible first | exact HB.out | apply below_alloc | apply pw_below_drewN | apply below_drew1) | exact HB.out))) : w.heap.size ≤ gb113)); have n3_ := Aside0.mk ((by rw [hg]; exact (below_size (by repeat (first | (with_reducible first | exact HB.out | apply below_alloc | apply pw_below_drewN | apply below_drew1) | exact HB.out))) : w.heap.size ≤ gb113)); clear HB; have HB := n0_; have BK113 := n1_; have GW113 := n2_; have GE113 := n3_; clear n0_ n1_ n2_ n3_; clear hb hbox hg; have hcz9_0 : w8.cell? ⟨gb113, 0, none⟩ = some (.int .i64 a0_0) := (blk_cell BK113.out 0).trans rfl; have hcz9_1 : w8.cell? ⟨gb113, 1, none⟩ = some (.int .i64 a0_1) := (blk_cell BK113.out 1).trans rfl; have hcz9_2 : w8.cell? ⟨gb113, 2, none⟩ = some (.int .i64 a0_2) := (blk_cell BK113.out 2).trans rfl; have hcz9_3 : w8.cell? ⟨gb113, 3, none⟩ = some (.int .i64 a0_3) := (blk_cell BK113.out 3).trans rfl; have hcz9_4 : w8.cell? ⟨gb113, 4, none⟩ = some (.slice A0_4 l0_4.length c0_4) := (blk_cell BK113.out 4).trans rfl; have hfz9_0 := blk_frozen BK113.out 0; have hfz9_1 := blk_frozen BK113.out 1; have hfz9_2 := blk_frozen BK113.out 2; have hfz9_3 := blk_frozen BK113.out 3; have hfz9_4 := blk_frozen BK113.out 4) | ((with_reducible refine gate_callee (f := 33) rfl ?_); refine goesL_ (some 4) rfl rfl Try.func33 (by kernel_rfl) rfl #[.agg #[.int .i64 a0_0, .int .i64 a0_1, .int .i64 a0_2, .int .i64 a0_3, .slice A0_4 l0_4.length c0_4]] rfl (by (try simp only [List.map_toArray, List.map_cons, List.map_nil]); first | done | rfl | (simp only [List.length_drop, List.length_take]; rfl)) ?_; (with_reducible refine (palantypelaw02_Thin.calls a0_0 a0_1 a0_2 a0_3 _ _ l0_4 true _ ?side1 ?side2 A2.out).mono ?_); (case side1 => repeat (first | exact (Kd.C_below HR0_4.out HB.out) | (with_reducible refine Kd.C_alloc ?_ _) | (with_reducible refine Kd.C_drewN ?_ _) | (with_reducible refine Kd.C_drew ?_))); (case side2 => exact HC0_4.out); rintro e w10 ⟨rfl, hb⟩; refine ⟨_, rfl, ?_⟩; have n0_ := Aside0.mk (blk_below (g := gb113) (o := .cells #[.int .i64 a0_0, .int .i64 a0_1, .int .i64 a0_2, .int .i64 a0_3, .slice A0_4 l0_4.length c0_4] 24 (0, 0)) (by (with_reducible repeat (first | refine blk_drewN ?_ _ | refine blk_drew ?_ | refine blk_alloc ?_ _)); exact BK113.out) hb); have n1_ := Aside0.mk (below_step (by repeat (first | (with_reducible first | exact HB.out | apply below_alloc | apply pw_below_drewN | apply below_drew1 | refine below_set ?_ GE113.out) | exact HB.out)) hb); clear BK113; clear HB; have BK113 := n0_; have HB := n1_; clear n0_ n1_; (try clear hb); (try clear hb2); (try clear hk); (try clear hi); have hcz11_0 : w10.cell? ⟨gb113, 0, none⟩ = some (.int .i64 a0_0) := (blk_cell BK113.out 0).trans rfl; have hcz11_1 : w10.cell? ⟨gb113, 1, none⟩ = some (.int .i64 a0_1) := (blk_cell BK113.out 1).trans rfl; have hcz11_2 : w10.cell? ⟨gb113, 2, none⟩ = some (.int .i64 a0_2) := (blk_cell BK113.out 2).trans rfl; have hcz11_3 : w10.cell? ⟨gb113, 3, none⟩ = some (.int .i64 a0_3) := (blk_cell BK113.out 3).trans rfl; have hcz11_4 : w10.cell? ⟨gb113, 4, none⟩ = some (.slice A0_4 l0_4.length c0_4) := (blk_cell BK113.out 4).trans rfl; have hfz11_0 := blk_frozen BK113.out 0; have hfz11_1 := blk_frozen BK113.out 1; have hfz11_2 := blk_frozen BK113.out 2; have hfz11_3 := blk_frozen BK113.out 3; have hfz11_4 := blk_frozen BK113.out 4) | (go_at_call 20; (with_reducible refine (palantyperef02_Fault.calls k a0_0 a0_1 a0_2 a0_3 _ _ l0_4 t115 _ ?side1 ?side2 A4.out).mono ?_); (case side1 => repeat (first | exact (Kd.C_below HR0_4.out HB.out) | (with_reducible refine Kd.C_alloc ?_ _) | (with_reducible refine Kd.C_drewN ?_ _) | (with_reducible refine Kd.C_drew ?_))); (case side2 => exact HC0_4.out); rintro e w12 ⟨rfl, hb⟩; have n0_ := Aside0.mk (blk_below (g := gb113) (o := .cells #[.int .i64 a0_0, .int .i64 a0_1, .int .i64 a0_2, .int .i64 a0_3, .slice A0_4 l0_4.length c0_4] 24 (0, 0)) (by (with_reducible repeat (first | refine blk_drewN ?_ _ | refine blk_drew ?_ | refine blk_alloc ?_ _)); exact BK113.out) hb); have n1_ := Aside0.mk (below_step (by repeat (first | (with_reducible first | exact HB.out | apply below_alloc | apply pw_below_drewN | apply below_drew1 | refine below_set ?_ GE113.out) | exact HB.out)) hb); clear BK113; clear HB; have BK113 := n0_; have HB := n1_; clear n0_ n1_; (try clear hb); (try clear hb2); (try clear hk); (try clear hi); have hcz13_0 : w12.cell? ⟨gb113, 0, none⟩ = some (.int .i64 a0_0) := (blk_cell BK113.out 0).trans rfl; have hcz13_1 : w12.cell? ⟨gb113, 1, none⟩ = some (.int .i64 a0_1) := (blk_cell BK113.out 1).trans rfl; have hcz13_2 : w12.cell? ⟨gb113, 2, none⟩ = some (.int .i64 a0_2) := (blk_cell BK113.out 2).trans rfl; have hcz13_3 : w12.cell? ⟨gb113, 3, none⟩ = some (.int .i64 a0_3) := (blk_cell BK113.out 3).trans rfl; have hcz13_4 : w12.cell? ⟨gb113, 4, none⟩ = some (.slice A0_4 l0_4.length c0_4) := (blk_cell BK113.out 4).trans rfl; have hfz13_0 := blk_frozen BK113.out 0; have hfz13_1 := blk_frozen BK113.out 1; have hfz13_2 := blk_frozen BK113.out 2; have hfz13_3 := blk_frozen BK113.out 3; have hfz13_4 := blk_frozen BK113.out 4))
          go_ret
          exact ⟨by first | rfl | (simp [errW_none, errW_some] <;> rfl) | (simp [*, errW_none, errW_some] <;> rfl), by repeat (first | (with_reducible first | exact HB.out | apply below_alloc | apply pw_below_drewN | apply below_drew1 | refine below_set ?_ GE113.out) | exact HB.out)⟩
        · rw [if_neg c7] at H
          have c7b0 : decide ((l0_4.length : Int) ≤ 5) = false := decide_eq_false c7
          have c7b1 : decide (l0_4.length ≤ 5) = false := decide_eq_false (by omega)
          clear c7
          by_cases c14 : a0_0 ≤ 2
          · rw [if_pos c14] at H
            have c14b0 : decide (a0_0 ≤ 2) = true := decide_eq_true c14
            clear c14
            obtain rfl := Option.some.inj H
            go_enter Try.func16, Try.ntmps16
            go_wp2_with (first | ((with_reducible refine gate_dst (N := 1) rfl ?_); refine box_event ?hg (N := 1) ?hd (cs := #[.int .i64 a0_0, .int .i64 a0_1, .int .i64 a0_2, .int .i64 a0_3, .slice A0_4 l0_4.length c0_4]) (t := 24) ?hr ?_; (case hd => rfl); (case hg => rfl); (case hr => first | (go_simp; done) | (go_simp; rfl)); intro gb113 hg w15 hbox hb; have n0_ := Aside0.mk (below_step (by repeat (first | (with_reducible first | exact HB.out | apply below_alloc | apply pw_below_drewN | apply below_drew1) | exact HB.out)) hb); have n1_ := Aside0.mk (hbox); have n2_ := Aside0.mk ((by rw [hg]; exact (below_size (by repeat (first | (with_reducible first | exact HB.out | apply below_alloc | apply pw_below_drewN | apply below_drew1) | exact HB.out))) : w.heap.size ≤ gb113)); have n3_ := Aside0.mk ((by rw [hg]; exact (below_size (by repeat (first | (with_reducible first | exact HB.out | apply below_alloc | apply pw_below_drewN | apply below_drew1) | exact HB.out))) : w.heap.size ≤ gb113)); clear HB; have HB := n0_; have BK113 := n1_; have GW113 := n2_; have GE113 := n3_; clear n0_ n1_ n2_ n3_; clear hb hbox hg; have hcz16_0 : w15.cell? ⟨gb113, 0, none⟩ = some (.int .i64 a0_0) := (blk_cell BK113.out 0).trans rfl; have hcz16_1 : w15.cell? ⟨gb113, 1, none⟩ = some (.int .i64 a0_1) := (blk_cell BK113.out 1).trans rfl; have hcz16_2 : w15.cell? ⟨gb113, 2, none⟩ = some (.int .i64 a0_2) := (blk_cell BK113.out 2).trans rfl; have hcz16_3 : w15.cell? ⟨gb113, 3, none⟩ = some (.int .i64 a0_3) := (blk_cell BK113.out 3).trans rfl; have hcz16_4 : w15.cell? ⟨gb113, 4, none⟩ = some (.slice A0_4 l0_4.length c0_4) := (blk_cell BK113.out 4).trans rfl; have hfz16_0 := blk_frozen BK113.out 0; have hfz16_1 := blk_frozen BK113.out 1; have hfz16_2 := blk_frozen BK113.out 2; have hfz16_3 := blk_frozen BK113.out 3; have hfz16_4 := blk_frozen BK113.out 4) | ((with_reducible refine gate_callee (f := 33) rfl ?_); refine goesL_ (some 4) rfl rfl Try.func33 (by kernel_rfl) rfl #[.agg #[.int .i64 a0_0, .int .i64 a0_1, .int .i64 a0_2, .int .i64 a0_3, .slice A0_4 l0_4.length c0_4]] rfl (by (try simp only [List.map_toArray, List.map_cons, List.map_nil]); first | done | rfl | (simp only [List.length_drop, List.length_take]; rfl)) ?_; (with_reducible refine (palantypelaw02_Thin.calls a0_0 a0_1 a0_2 a0_3 _ _ l0_4 true _ ?side1 ?side2 A2.out).mono ?_); (case side1 => repeat (first | exact (Kd.C_below HR0_4.out HB.out) | (with_reducible refine Kd.C_alloc ?_ _) | (with_reducible refine Kd.C_drewN ?_ _) | (with_reducible refine Kd.C_drew ?_))); (case side2 => exact HC0_4.out); rintro e w17 ⟨rfl, hb⟩; refine ⟨_, rfl, ?_⟩; have n0_ := Aside0.mk (blk_below (g := gb113) (o := .cells #[.int .i64 a0_0, .int .i64 a0_1, .int .i64 a0_2, .int .i64 a0_3, .slice A0_4 l0_4.length c0_4] 24 (0, 0)) (by (with_reducible repeat (first | refine blk_drewN ?_ _ | refine blk_drew ?_ | refine blk_alloc ?_ _)); exact BK113.out) hb); have n1_ := Aside0.mk (below_step (by repeat (first | (with_reducible first | exact HB.out | apply below_alloc | apply pw_below_drewN | apply below_drew1 | refine below_set ?_ GE113.out) | exact HB.out)) hb); clear BK113; clear HB; have BK113 := n0_; have HB := n1_; clear n0_ n1_; (try clear hb); (try clear hb2); (try clear hk); (try clear hi); have hcz18_0 : w17.cell? ⟨gb113, 0, none⟩ = some (.int .i64 a0_0) := (blk_cell BK113.out 0).trans rfl; have hcz18_1 : w17.cell? ⟨gb113, 1, none⟩ = some (.int .i64 a0_1) := (blk_cell BK113.out 1).trans rfl; have hcz18_2 : w17.cell? ⟨gb113, 2, none⟩ = some (.int .i64 a0_2) := (blk_cell BK113.out 2).trans rfl; have hcz18_3 : w17.cell? ⟨gb113, 3, none⟩ = some (.int .i64 a0_3) := (blk_cell BK113.out 3).trans rfl; have hcz18_4 : w17.cell? ⟨gb113, 4, none⟩ = some (.slice A0_4 l0_4.length c0_4) := (blk_cell BK113.out 4).trans rfl; have hfz18_0 := blk_frozen BK113.out 0; have hfz18_1 := blk_frozen BK113.out 1; have hfz18_2 := blk_frozen BK113.out 2; have hfz18_3 := blk_frozen BK113.out 3; have hfz18_4 := blk_frozen BK113.out 4) | (go_at_call 20; (with_reducible refine (palantyperef02_Fault.calls k a0_0 a0_1 a0_2 a0_3 _ _ l0_4 t115 _ ?side1 ?side2 A4.out).mono ?_); (case side1 => repeat (first | exact (Kd.C_below HR0_4.out HB.out) | (with_reducible refine Kd.C_alloc ?_ _) | (with_reducible refine Kd.C_drewN ?_ _) | (with_reducible refine Kd.C_drew ?_))); (case side2 => exact HC0_4.out); rintro e w19 ⟨rfl, hb⟩; have n0_ := Aside0.mk (blk_below (g := gb113) (o := .cells #[.int .i64 a0_0, .int .i64 a0_1, .int .i64 a0_2, .int .i64 a0_3, .slice A0_4 l0_4.length c0_4] 24 (0, 0)) (by (with_reducible repeat (first | refine blk_drewN ?_ _ | refine blk_drew ?_ | refine blk_alloc ?_ _)); exact BK113.out) hb); have n1_ := Aside0.mk (below_step (by repeat (first | (with_reducible first | exact HB.out | apply below_alloc | apply pw_below_drewN | apply below_drew1 | refine below_set ?_ GE113.out) | exact HB.out)) hb); clear BK113; clear HB; have BK113 := n0_; have HB := n1_; clear n0_ n1_; (try clear hb); (try clear hb2); (try clear hk); (try clear hi); have hcz20_0 : w19.cell? ⟨gb113, 0, none⟩ = some (.int .i64 a0_0) := (blk_cell BK113.out 0).trans rfl; have hcz20_1 : w19.cell? ⟨gb113, 1, none⟩ = some (.int .i64 a0_1) := (blk_cell BK113.out 1).trans rfl; have hcz20_2 : w19.cell? ⟨gb113, 2, none⟩ = some (.int .i64 a0_2) := (blk_cell BK113.out 2).trans rfl; have hcz20_3 : w19.cell? ⟨gb113, 3, none⟩ = some (.int .i64 a0_3) := (blk_cell BK113.out 3).trans rfl; have hcz20_4 : w19.cell? ⟨gb113, 4, none⟩ = some (.slice A0_4 l0_4.length c0_4) := (blk_cell BK113.out 4).trans rfl; have hfz20_0 := blk_frozen BK113.out 0; have hfz20_1 := blk_frozen BK113.out 1; have hfz20_2 := blk_frozen BK113.out 2; have hfz20_3 := blk_frozen BK113.out 3; have hfz20_4 := blk_frozen BK113.out 4))
            go_ret
            exact ⟨by first | rfl | (simp [errW_none, errW_some] <;> rfl) | (simp [*, errW_none, errW_some] <;> rfl), by repeat (first | (with_reducible first | exact HB.out | apply below_alloc | apply pw_below_drewN | apply below_drew1 | refine below_set ?_ GE113.out) | exact HB.out)⟩
          · rw [if_neg c14] at H
            have c14b0 : decide (a0_0 ≤ 2) = false := decide_eq_false c14
            clear c14
            obtain rfl := Option.some.inj H
            go_enter Try.func16, Try.ntmps16
            go_wp2_with (first | ((with_reducible refine gate_dst (N := 1) rfl ?_); refine box_event ?hg (N := 1) ?hd (cs := #[.int .i64 a0_0, .int .i64 a0_1, .int .i64 a0_2, .int .i64 a0_3, .slice A0_4 l0_4.length c0_4]) (t := 24) ?hr ?_; (case hd => rfl); (case hg => rfl); (case hr => first | (go_simp; done) | (go_simp; rfl)); intro gb113 hg w21 hbox hb; have n0_ := Aside0.mk (below_step (by repeat (first | (with_reducible first | exact HB.out | apply below_alloc | apply pw_below_drewN | apply below_drew1) | exact HB.out)) hb); have n1_ := Aside0.mk (hbox); have n2_ := Aside0.mk ((by rw [hg]; exact (below_size (by repeat (first | (with_reducible first | exact HB.out | apply below_alloc | apply pw_below_drewN | apply below_drew1) | exact HB.out))) : w.heap.size ≤ gb113)); have n3_ := Aside0.mk ((by rw [hg]; exact (below_size (by repeat (first | (with_reducible first | exact HB.out | apply below_alloc | apply pw_below_drewN | apply below_drew1) | exact HB.out))) : w.heap.size ≤ gb113)); clear HB; have HB := n0_; have BK113 := n1_; have GW113 := n2_; have GE113 := n3_; clear n0_ n1_ n2_ n3_; clear hb hbox hg; have hcz22_0 : w21.cell? ⟨gb113, 0, none⟩ = some (.int .i64 a0_0) := (blk_cell BK113.out 0).trans rfl; have hcz22_1 : w21.cell? ⟨gb113, 1, none⟩ = some (.int .i64 a0_1) := (blk_cell BK113.out 1).trans rfl; have hcz22_2 : w21.cell? ⟨gb113, 2, none⟩ = some (.int .i64 a0_2) := (blk_cell BK113.out 2).trans rfl; have hcz22_3 : w21.cell? ⟨gb113, 3, none⟩ = some (.int .i64 a0_3) := (blk_cell BK113.out 3).trans rfl; have hcz22_4 : w21.cell? ⟨gb113, 4, none⟩ = some (.slice A0_4 l0_4.length c0_4) := (blk_cell BK113.out 4).trans rfl; have hfz22_0 := blk_frozen BK113.out 0; have hfz22_1 := blk_frozen BK113.out 1; have hfz22_2 := blk_frozen BK113.out 2; have hfz22_3 := blk_frozen BK113.out 3; have hfz22_4 := blk_frozen BK113.out 4) | ((with_reducible refine gate_callee (f := 33) rfl ?_); refine goesL_ (some 4) rfl rfl Try.func33 (by kernel_rfl) rfl #[.agg #[.int .i64 a0_0, .int .i64 a0_1, .int .i64 a0_2, .int .i64 a0_3, .slice A0_4 l0_4.length c0_4]] rfl (by (try simp only [List.map_toArray, List.map_cons, List.map_nil]); first | done | rfl | (simp only [List.length_drop, List.length_take]; rfl)) ?_; (with_reducible refine (palantypelaw02_Thin.calls a0_0 a0_1 a0_2 a0_3 _ _ l0_4 true _ ?side1 ?side2 A2.out).mono ?_); (case side1 => repeat (first | exact (Kd.C_below HR0_4.out HB.out) | (with_reducible refine Kd.C_alloc ?_ _) | (with_reducible refine Kd.C_drewN ?_ _) | (with_reducible refine Kd.C_drew ?_))); (case side2 => exact HC0_4.out); rintro e w23 ⟨rfl, hb⟩; refine ⟨_, rfl, ?_⟩; have n0_ := Aside0.mk (blk_below (g := gb113) (o := .cells #[.int .i64 a0_0, .int .i64 a0_1, .int .i64 a0_2, .int .i64 a0_3, .slice A0_4 l0_4.length c0_4] 24 (0, 0)) (by (with_reducible repeat (first | refine blk_drewN ?_ _ | refine blk_drew ?_ | refine blk_alloc ?_ _)); exact BK113.out) hb); have n1_ := Aside0.mk (below_step (by repeat (first | (with_reducible first | exact HB.out | apply below_alloc | apply pw_below_drewN | apply below_drew1 | refine below_set ?_ GE113.out) | exact HB.out)) hb); clear BK113; clear HB; have BK113 := n0_; have HB := n1_; clear n0_ n1_; (try clear hb); (try clear hb2); (try clear hk); (try clear hi); have hcz24_0 : w23.cell? ⟨gb113, 0, none⟩ = some (.int .i64 a0_0) := (blk_cell BK113.out 0).trans rfl; have hcz24_1 : w23.cell? ⟨gb113, 1, none⟩ = some (.int .i64 a0_1) := (blk_cell BK113.out 1).trans rfl; have hcz24_2 : w23.cell? ⟨gb113, 2, none⟩ = some (.int .i64 a0_2) := (blk_cell BK113.out 2).trans rfl; have hcz24_3 : w23.cell? ⟨gb113, 3, none⟩ = some (.int .i64 a0_3) := (blk_cell BK113.out 3).trans rfl; have hcz24_4 : w23.cell? ⟨gb113, 4, none⟩ = some (.slice A0_4 l0_4.length c0_4) := (blk_cell BK113.out 4).trans rfl; have hfz24_0 := blk_frozen BK113.out 0; have hfz24_1 := blk_frozen BK113.out 1; have hfz24_2 := blk_frozen BK113.out 2; have hfz24_3 := blk_frozen BK113.out 3; have hfz24_4 := blk_frozen BK113.out 4) | (go_at_call 20; (with_reducible refine (palantyperef02_Fault.calls k a0_0 a0_1 a0_2 a0_3 _ _ l0_4 t115 _ ?side1 ?side2 A4.out).mono ?_); (case side1 => repeat (first | exact (Kd.C_below HR0_4.out HB.out) | (with_reducible refine Kd.C_alloc ?_ _) | (with_reducible refine Kd.C_drewN ?_ _) | (with_reducible refine Kd.C_drew ?_))); (case side2 => exact HC0_4.out); rintro e w25 ⟨rfl, hb⟩; have n0_ := Aside0.mk (blk_below (g := gb113) (o := .cells #[.int .i64 a0_0, .int .i64 a0_1, .int .i64 a0_2, .int .i64 a0_3, .slice A0_4 l0_4.length c0_4] 24 (0, 0)) (by (with_reducible repeat (first | refine blk_drewN ?_ _ | refine blk_drew ?_ | refine blk_alloc ?_ _)); exact BK113.out) hb); have n1_ := Aside0.mk (below_step (by repeat (first | (with_reducible first | exact HB.out | apply below_alloc | apply pw_below_drewN | apply below_drew1 | refine below_set ?_ GE113.out) | exact HB.out)) hb); clear BK113; clear HB; have BK113 := n0_; have HB := n1_; clear n0_ n1_; (try clear hb); (try clear hb2); (try clear hk); (try clear hi); have hcz26_0 : w25.cell? ⟨gb113, 0, none⟩ = some (.int .i64 a0_0) := (blk_cell BK113.out 0).trans rfl; have hcz26_1 : w25.cell? ⟨gb113, 1, none⟩ = some (.int .i64 a0_1) := (blk_cell BK113.out 1).trans rfl; have hcz26_2 : w25.cell? ⟨gb113, 2, none⟩ = some (.int .i64 a0_2) := (blk_cell BK113.out 2).trans rfl; have hcz26_3 : w25.cell? ⟨gb113, 3, none⟩ = some (.int .i64 a0_3) := (blk_cell BK113.out 3).trans rfl; have hcz26_4 : w25.cell? ⟨gb113, 4, none⟩ = some (.slice A0_4 l0_4.length c0_4) := (blk_cell BK113.out 4).trans rfl; have hfz26_0 := blk_frozen BK113.out 0; have hfz26_1 := blk_frozen BK113.out 1; have hfz26_2 := blk_frozen BK113.out 2; have hfz26_3 := blk_frozen BK113.out 3; have hfz26_4 := blk_frozen BK113.out 4))
            go_ret
            exact ⟨by first | rfl | (simp [errW_none, errW_some] <;> rfl) | (simp [*, errW_none, errW_some] <;> rfl), by repeat (first | (with_reducible first | exact HB.out | apply below_alloc | apply pw_below_drewN | apply below_drew1 | refine below_set ?_ GE113.out) | exact HB.out)⟩
      · rw [if_neg c6] at H
        have c6b0 : decide (a0_0 ≤ 3) = false := decide_eq_false c6
        clear c6
        by_cases c27 : a0_0 ≤ 2
        · rw [if_pos c27] at H
          have c27b0 : decide (a0_0 ≤ 2) = true := decide_eq_true c27
          clear c27
          obtain rfl := Option.some.inj H
          go_enter Try.func16, Try.ntmps16
          go_wp2_with (first | ((with_reducible refine gate_dst (N := 1) rfl ?_); refine box_event ?hg (N := 1) ?hd (cs := #[.int .i64 a0_0, .int .i64 a0_1, .int .i64 a0_2, .int .i64 a0_3, .slice A0_4 l0_4.length c0_4]) (t := 24) ?hr ?_; (case hd => rfl); (case hg => rfl); (case hr => first | (go_simp; done) | (go_simp; rfl)); intro gb113 hg w28 hbox hb; have n0_ := Aside0.mk (below_step (by repeat (first | (with_reducible first | exact HB.out | apply below_alloc | apply pw_below_drewN | apply below_drew1) | exact HB.out)) hb); have n1_ := Aside0.mk (hbox); have n2_ := Aside0.mk ((by rw [hg]; exact (below_size (by repeat (first | (with_reducible first | exact HB.out | apply below_alloc | apply pw_below_drewN | apply below_drew1) | exact HB.out))) : w.heap.size ≤ gb113)); have n3_ := Aside0.mk ((by rw [hg]; exact (below_size (by repeat (first | (with_reducible first | exact HB.out | apply below_alloc | apply pw_below_drewN | apply below_drew1) | exact HB.out))) : w.heap.size ≤ gb113)); clear HB; have HB := n0_; have BK113 := n1_; have GW113 := n2_; have GE113 := n3_; clear n0_ n1_ n2_ n3_; clear hb hbox hg; have hcz29_0 : w28.cell? ⟨gb113, 0, none⟩ = some (.int .i64 a0_0) := (blk_cell BK113.out 0).trans rfl; have hcz29_1 : w28.cell? ⟨gb113, 1, none⟩ = some (.int .i64 a0_1) := (blk_cell BK113.out 1).trans rfl; have hcz29_2 : w28.cell? ⟨gb113, 2, none⟩ = some (.int .i64 a0_2) := (blk_cell BK113.out 2).trans rfl; have hcz29_3 : w28.cell? ⟨gb113, 3, none⟩ = some (.int .i64 a0_3) := (blk_cell BK113.out 3).trans rfl; have hcz29_4 : w28.cell? ⟨gb113, 4, none⟩ = some (.slice A0_4 l0_4.length c0_4) := (blk_cell BK113.out 4).trans rfl; have hfz29_0 := blk_frozen BK113.out 0; have hfz29_1 := blk_frozen BK113.out 1; have hfz29_2 := blk_frozen BK113.out 2; have hfz29_3 := blk_frozen BK113.out 3; have hfz29_4 := blk_frozen BK113.out 4) | ((with_reducible refine gate_callee (f := 33) rfl ?_); refine goesL_ (some 4) rfl rfl Try.func33 (by kernel_rfl) rfl #[.agg #[.int .i64 a0_0, .int .i64 a0_1, .int .i64 a0_2, .int .i64 a0_3, .slice A0_4 l0_4.length c0_4]] rfl (by (try simp only [List.map_toArray, List.map_cons, List.map_nil]); first | done | rfl | (simp only [List.length_drop, List.length_take]; rfl)) ?_; (with_reducible refine (palantypelaw02_Thin.calls a0_0 a0_1 a0_2 a0_3 _ _ l0_4 true _ ?side1 ?side2 A2.out).mono ?_); (case side1 => repeat (first | exact (Kd.C_below HR0_4.out HB.out) | (with_reducible refine Kd.C_alloc ?_ _) | (with_reducible refine Kd.C_drewN ?_ _) | (with_reducible refine Kd.C_drew ?_))); (case side2 => exact HC0_4.out); rintro e w30 ⟨rfl, hb⟩; refine ⟨_, rfl, ?_⟩; have n0_ := Aside0.mk (blk_below (g := gb113) (o := .cells #[.int .i64 a0_0, .int .i64 a0_1, .int .i64 a0_2, .int .i64 a0_3, .slice A0_4 l0_4.length c0_4] 24 (0, 0)) (by (with_reducible repeat (first | refine blk_drewN ?_ _ | refine blk_drew ?_ | refine blk_alloc ?_ _)); exact BK113.out) hb); have n1_ := Aside0.mk (below_step (by repeat (first | (with_reducible first | exact HB.out | apply below_alloc | apply pw_below_drewN | apply below_drew1 | refine below_set ?_ GE113.out) | exact HB.out)) hb); clear BK113; clear HB; have BK113 := n0_; have HB := n1_; clear n0_ n1_; (try clear hb); (try clear hb2); (try clear hk); (try clear hi); have hcz31_0 : w30.cell? ⟨gb113, 0, none⟩ = some (.int .i64 a0_0) := (blk_cell BK113.out 0).trans rfl; have hcz31_1 : w30.cell? ⟨gb113, 1, none⟩ = some (.int .i64 a0_1) := (blk_cell BK113.out 1).trans rfl; have hcz31_2 : w30.cell? ⟨gb113, 2, none⟩ = some (.int .i64 a0_2) := (blk_cell BK113.out 2).trans rfl; have hcz31_3 : w30.cell? ⟨gb113, 3, none⟩ = some (.int .i64 a0_3) := (blk_cell BK113.out 3).trans rfl; have hcz31_4 : w30.cell? ⟨gb113, 4, none⟩ = some (.slice A0_4 l0_4.length c0_4) := (blk_cell BK113.out 4).trans rfl; have hfz31_0 := blk_frozen BK113.out 0; have hfz31_1 := blk_frozen BK113.out 1; have hfz31_2 := blk_frozen BK113.out 2; have hfz31_3 := blk_frozen BK113.out 3; have hfz31_4 := blk_frozen BK113.out 4) | (go_at_call 20; (with_reducible refine (palantyperef02_Fault.calls k a0_0 a0_1 a0_2 a0_3 _ _ l0_4 t115 _ ?side1 ?side2 A4.out).mono ?_); (case side1 => repeat (first | exact (Kd.C_below HR0_4.out HB.out) | (with_reducible refine Kd.C_alloc ?_ _) | (with_reducible refine Kd.C_drewN ?_ _) | (with_reducible refine Kd.C_drew ?_))); (case side2 => exact HC0_4.out); rintro e w32 ⟨rfl, hb⟩; have n0_ := Aside0.mk (blk_below (g := gb113) (o := .cells #[.int .i64 a0_0, .int .i64 a0_1, .int .i64 a0_2, .int .i64 a0_3, .slice A0_4 l0_4.length c0_4] 24 (0, 0)) (by (with_reducible repeat (first | refine blk_drewN ?_ _ | refine blk_drew ?_ | refine blk_alloc ?_ _)); exact BK113.out) hb); have n1_ := Aside0.mk (below_step (by repeat (first | (with_reducible first | exact HB.out | apply below_alloc | apply pw_below_drewN | apply below_drew1 | refine below_set ?_ GE113.out) | exact HB.out)) hb); clear BK113; clear HB; have BK113 := n0_; have HB := n1_; clear n0_ n1_; (try clear hb); (try clear hb2); (try clear hk); (try clear hi); have hcz33_0 : w32.cell? ⟨gb113, 0, none⟩ = some (.int .i64 a0_0) := (blk_cell BK113.out 0).trans rfl; have hcz33_1 : w32.cell? ⟨gb113, 1, none⟩ = some (.int .i64 a0_1) := (blk_cell BK113.out 1).trans rfl; have hcz33_2 : w32.cell? ⟨gb113, 2, none⟩ = some (.int .i64 a0_2) := (blk_cell BK113.out 2).trans rfl; have hcz33_3 : w32.cell? ⟨gb113, 3, none⟩ = some (.int .i64 a0_3) := (blk_cell BK113.out 3).trans rfl; have hcz33_4 : w32.cell? ⟨gb113, 4, none⟩ = some (.slice A0_4 l0_4.length c0_4) := (blk_cell BK113.out 4).trans rfl; have hfz33_0 := blk_frozen BK113.out 0; have hfz33_1 := blk_frozen BK113.out 1; have hfz33_2 := blk_frozen BK113.out 2; have hfz33_3 := blk_frozen BK113.out 3; have hfz33_4 := blk_frozen BK113.out 4))
          go_ret
          exact ⟨by first | rfl | (simp [errW_none, errW_some] <;> rfl) | (simp [*, errW_none, errW_some] <;> rfl), by repeat (first | (with_reducible first | exact HB.out | apply below_alloc | apply pw_below_drewN | apply below_drew1 | refine below_set ?_ GE113.out) | exact HB.out)⟩
        · rw [if_neg c27] at H
          have c27b0 : decide (a0_0 ≤ 2) = false := decide_eq_false c27
          clear c27
          obtain rfl := Option.some.inj H
          go_enter Try.func16, Try.ntmps16
          go_wp2_with (first | ((with_reducible refine gate_dst (N := 1) rfl ?_); refine box_event ?hg (N := 1) ?hd (cs := #[.int .i64 a0_0, .int .i64 a0_1, .int .i64 a0_2, .int .i64 a0_3, .slice A0_4 l0_4.length c0_4]) (t := 24) ?hr ?_; (case hd => rfl); (case hg => rfl); (case hr => first | (go_simp; done) | (go_simp; rfl)); intro gb113 hg w34 hbox hb; have n0_ := Aside0.mk (below_step (by repeat (first | (with_reducible first | exact HB.out | apply below_alloc | apply pw_below_drewN | apply below_drew1) | exact HB.out)) hb); have n1_ := Aside0.mk (hbox); have n2_ := Aside0.mk ((by rw [hg]; exact (below_size (by repeat (first | (with_reducible first | exact HB.out | apply below_alloc | apply pw_below_drewN | apply below_drew1) | exact HB.out))) : w.heap.size ≤ gb113)); have n3_ := Aside0.mk ((by rw [hg]; exact (below_size (by repeat (first | (with_reducible first | exact HB.out | apply below_alloc | apply pw_below_drewN | apply below_drew1) | exact HB.out))) : w.heap.size ≤ gb113)); clear HB; have HB := n0_; have BK113 := n1_; have GW113 := n2_; have GE113 := n3_; clear n0_ n1_ n2_ n3_; clear hb hbox hg; have hcz35_0 : w34.cell? ⟨gb113, 0, none⟩ = some (.int .i64 a0_0) := (blk_cell BK113.out 0).trans rfl; have hcz35_1 : w34.cell? ⟨gb113, 1, none⟩ = some (.int .i64 a0_1) := (blk_cell BK113.out 1).trans rfl; have hcz35_2 : w34.cell? ⟨gb113, 2, none⟩ = some (.int .i64 a0_2) := (blk_cell BK113.out 2).trans rfl; have hcz35_3 : w34.cell? ⟨gb113, 3, none⟩ = some (.int .i64 a0_3) := (blk_cell BK113.out 3).trans rfl; have hcz35_4 : w34.cell? ⟨gb113, 4, none⟩ = some (.slice A0_4 l0_4.length c0_4) := (blk_cell BK113.out 4).trans rfl; have hfz35_0 := blk_frozen BK113.out 0; have hfz35_1 := blk_frozen BK113.out 1; have hfz35_2 := blk_frozen BK113.out 2; have hfz35_3 := blk_frozen BK113.out 3; have hfz35_4 := blk_frozen BK113.out 4) | ((with_reducible refine gate_callee (f := 33) rfl ?_); refine goesL_ (some 4) rfl rfl Try.func33 (by kernel_rfl) rfl #[.agg #[.int .i64 a0_0, .int .i64 a0_1, .int .i64 a0_2, .int .i64 a0_3, .slice A0_4 l0_4.length c0_4]] rfl (by (try simp only [List.map_toArray, List.map_cons, List.map_nil]); first | done | rfl | (simp only [List.length_drop, List.length_take]; rfl)) ?_; (with_reducible refine (palantypelaw02_Thin.calls a0_0 a0_1 a0_2 a0_3 _ _ l0_4 true _ ?side1 ?side2 A2.out).mono ?_); (case side1 => repeat (first | exact (Kd.C_below HR0_4.out HB.out) | (with_reducible refine Kd.C_alloc ?_ _) | (with_reducible refine Kd.C_drewN ?_ _) | (with_reducible refine Kd.C_drew ?_))); (case side2 => exact HC0_4.out); rintro e w36 ⟨rfl, hb⟩; refine ⟨_, rfl, ?_⟩; have n0_ := Aside0.mk (blk_below (g := gb113) (o := .cells #[.int .i64 a0_0, .int .i64 a0_1, .int .i64 a0_2, .int .i64 a0_3, .slice A0_4 l0_4.length c0_4] 24 (0, 0)) (by (with_reducible repeat (first | refine blk_drewN ?_ _ | refine blk_drew ?_ | refine blk_alloc ?_ _)); exact BK113.out) hb); have n1_ := Aside0.mk (below_step (by repeat (first | (with_reducible first | exact HB.out | apply below_alloc | apply pw_below_drewN | apply below_drew1 | refine below_set ?_ GE113.out) | exact HB.out)) hb); clear BK113; clear HB; have BK113 := n0_; have HB := n1_; clear n0_ n1_; (try clear hb); (try clear hb2); (try clear hk); (try clear hi); have hcz37_0 : w36.cell? ⟨gb113, 0, none⟩ = some (.int .i64 a0_0) := (blk_cell BK113.out 0).trans rfl; have hcz37_1 : w36.cell? ⟨gb113, 1, none⟩ = some (.int .i64 a0_1) := (blk_cell BK113.out 1).trans rfl; have hcz37_2 : w36.cell? ⟨gb113, 2, none⟩ = some (.int .i64 a0_2) := (blk_cell BK113.out 2).trans rfl; have hcz37_3 : w36.cell? ⟨gb113, 3, none⟩ = some (.int .i64 a0_3) := (blk_cell BK113.out 3).trans rfl; have hcz37_4 : w36.cell? ⟨gb113, 4, none⟩ = some (.slice A0_4 l0_4.length c0_4) := (blk_cell BK113.out 4).trans rfl; have hfz37_0 := blk_frozen BK113.out 0; have hfz37_1 := blk_frozen BK113.out 1; have hfz37_2 := blk_frozen BK113.out 2; have hfz37_3 := blk_frozen BK113.out 3; have hfz37_4 := blk_frozen BK113.out 4) | (go_at_call 20; (with_reducible refine (palantyperef02_Fault.calls k a0_0 a0_1 a0_2 a0_3 _ _ l0_4 t115 _ ?side1 ?side2 A4.out).mono ?_); (case side1 => repeat (first | exact (Kd.C_below HR0_4.out HB.out) | (with_reducible refine Kd.C_alloc ?_ _) | (with_reducible refine Kd.C_drewN ?_ _) | (with_reducible refine Kd.C_drew ?_))); (case side2 => exact HC0_4.out); rintro e w38 ⟨rfl, hb⟩; have n0_ := Aside0.mk (blk_below (g := gb113) (o := .cells #[.int .i64 a0_0, .int .i64 a0_1, .int .i64 a0_2, .int .i64 a0_3, .slice A0_4 l0_4.length c0_4] 24 (0, 0)) (by (with_reducible repeat (first | refine blk_drewN ?_ _ | refine blk_drew ?_ | refine blk_alloc ?_ _)); exact BK113.out) hb); have n1_ := Aside0.mk (below_step (by repeat (first | (with_reducible first | exact HB.out | apply below_alloc | apply pw_below_drewN | apply below_drew1 | refine below_set ?_ GE113.out) | exact HB.out)) hb); clear BK113; clear HB; have BK113 := n0_; have HB := n1_; clear n0_ n1_; (try clear hb); (try clear hb2); (try clear hk); (try clear hi); have hcz39_0 : w38.cell? ⟨gb113, 0, none⟩ = some (.int .i64 a0_0) := (blk_cell BK113.out 0).trans rfl; have hcz39_1 : w38.cell? ⟨gb113, 1, none⟩ = some (.int .i64 a0_1) := (blk_cell BK113.out 1).trans rfl; have hcz39_2 : w38.cell? ⟨gb113, 2, none⟩ = some (.int .i64 a0_2) := (blk_cell BK113.out 2).trans rfl; have hcz39_3 : w38.cell? ⟨gb113, 3, none⟩ = some (.int .i64 a0_3) := (blk_cell BK113.out 3).trans rfl; have hcz39_4 : w38.cell? ⟨gb113, 4, none⟩ = some (.slice A0_4 l0_4.length c0_4) := (blk_cell BK113.out 4).trans rfl; have hfz39_0 := blk_frozen BK113.out 0; have hfz39_1 := blk_frozen BK113.out 1; have hfz39_2 := blk_frozen BK113.out 2; have hfz39_3 := blk_frozen BK113.out 3; have hfz39_4 := blk_frozen BK113.out 4))
          go_ret
          exact ⟨by first | rfl | (simp [errW_none, errW_some] <;> rfl) | (simp [*, errW_none, errW_some] <;> rfl), by repeat (first | (with_reducible first | exact HB.out | apply below_alloc | apply pw_below_drewN | apply below_drew1 | refine below_set ?_ GE113.out) | exact HB.out)⟩
    · rw [if_neg c5] at H
      have c5b0 : (t115 == 0) = false := beq_eq_false_iff_ne.mpr c5
      have c5b1 : (t115 != 0) = true := bne_iff_ne.mpr c5
      obtain rfl := Option.some.inj H
      go_enter Try.func16, Try.ntmps16
      go_wp2_with (first | ((with_reducible refine gate_dst (N := 1) rfl ?_); refine box_event ?hg (N := 1) ?hd (cs := #[.int .i64 a0_0, .int .i64 a0_1, .int .i64 a0_2, .int .i64 a0_3, .slice A0_4 l0_4.length c0_4]) (t := 24) ?hr ?_; (case hd => rfl); (case hg => rfl); (case hr => first | (go_simp; done) | (go_simp; rfl)); intro gb113 hg w40 hbox hb; have n0_ := Aside0.mk (below_step (by repeat (first | (with_reducible first | exact HB.out | apply below_alloc | apply pw_below_drewN | apply below_drew1) | exact HB.out)) hb); have n1_ := Aside0.mk (hbox); have n2_ := Aside0.mk ((by rw [hg]; exact (below_size (by repeat (first | (with_reducible first | exact HB.out | apply below_alloc | apply pw_below_drewN | apply below_drew1) | exact HB.out))) : w.heap.size ≤ gb113)); have n3_ := Aside0.mk ((by rw [hg]; exact (below_size (by repeat (first | (with_reducible first | exact HB.out | apply below_alloc | apply pw_below_drewN | apply below_drew1) | exact HB.out))) : w.heap.size ≤ gb113)); clear HB; have HB := n0_; have BK113 := n1_; have GW113 := n2_; have GE113 := n3_; clear n0_ n1_ n2_ n3_; clear hb hbox hg; have hcz41_0 : w40.cell? ⟨gb113, 0, none⟩ = some (.int .i64 a0_0) := (blk_cell BK113.out 0).trans rfl; have hcz41_1 : w40.cell? ⟨gb113, 1, none⟩ = some (.int .i64 a0_1) := (blk_cell BK113.out 1).trans rfl; have hcz41_2 : w40.cell? ⟨gb113, 2, none⟩ = some (.int .i64 a0_2) := (blk_cell BK113.out 2).trans rfl; have hcz41_3 : w40.cell? ⟨gb113, 3, none⟩ = some (.int .i64 a0_3) := (blk_cell BK113.out 3).trans rfl; have hcz41_4 : w40.cell? ⟨gb113, 4, none⟩ = some (.slice A0_4 l0_4.length c0_4) := (blk_cell BK113.out 4).trans rfl; have hfz41_0 := blk_frozen BK113.out 0; have hfz41_1 := blk_frozen BK113.out 1; have hfz41_2 := blk_frozen BK113.out 2; have hfz41_3 := blk_frozen BK113.out 3; have hfz41_4 := blk_frozen BK113.out 4) | ((with_reducible refine gate_callee (f := 33) rfl ?_); refine goesL_ (some 4) rfl rfl Try.func33 (by kernel_rfl) rfl #[.agg #[.int .i64 a0_0, .int .i64 a0_1, .int .i64 a0_2, .int .i64 a0_3, .slice A0_4 l0_4.length c0_4]] rfl (by (try simp only [List.map_toArray, List.map_cons, List.map_nil]); first | done | rfl | (simp only [List.length_drop, List.length_take]; rfl)) ?_; (with_reducible refine (palantypelaw02_Thin.calls a0_0 a0_1 a0_2 a0_3 _ _ l0_4 true _ ?side1 ?side2 A2.out).mono ?_); (case side1 => repeat (first | exact (Kd.C_below HR0_4.out HB.out) | (with_reducible refine Kd.C_alloc ?_ _) | (with_reducible refine Kd.C_drewN ?_ _) | (with_reducible refine Kd.C_drew ?_))); (case side2 => exact HC0_4.out); rintro e w42 ⟨rfl, hb⟩; refine ⟨_, rfl, ?_⟩; have n0_ := Aside0.mk (blk_below (g := gb113) (o := .cells #[.int .i64 a0_0, .int .i64 a0_1, .int .i64 a0_2, .int .i64 a0_3, .slice A0_4 l0_4.length c0_4] 24 (0, 0)) (by (with_reducible repeat (first | refine blk_drewN ?_ _ | refine blk_drew ?_ | refine blk_alloc ?_ _)); exact BK113.out) hb); have n1_ := Aside0.mk (below_step (by repeat (first | (with_reducible first | exact HB.out | apply below_alloc | apply pw_below_drewN | apply below_drew1 | refine below_set ?_ GE113.out) | exact HB.out)) hb); clear BK113; clear HB; have BK113 := n0_; have HB := n1_; clear n0_ n1_; (try clear hb); (try clear hb2); (try clear hk); (try clear hi); have hcz43_0 : w42.cell? ⟨gb113, 0, none⟩ = some (.int .i64 a0_0) := (blk_cell BK113.out 0).trans rfl; have hcz43_1 : w42.cell? ⟨gb113, 1, none⟩ = some (.int .i64 a0_1) := (blk_cell BK113.out 1).trans rfl; have hcz43_2 : w42.cell? ⟨gb113, 2, none⟩ = some (.int .i64 a0_2) := (blk_cell BK113.out 2).trans rfl; have hcz43_3 : w42.cell? ⟨gb113, 3, none⟩ = some (.int .i64 a0_3) := (blk_cell BK113.out 3).trans rfl; have hcz43_4 : w42.cell? ⟨gb113, 4, none⟩ = some (.slice A0_4 l0_4.length c0_4) := (blk_cell BK113.out 4).trans rfl; have hfz43_0 := blk_frozen BK113.out 0; have hfz43_1 := blk_frozen BK113.out 1; have hfz43_2 := blk_frozen BK113.out 2; have hfz43_3 := blk_frozen BK113.out 3; have hfz43_4 := blk_frozen BK113.out 4) | (go_at_call 20; (with_reducible refine (palantyperef02_Fault.calls k a0_0 a0_1 a0_2 a0_3 _ _ l0_4 t115 _ ?side1 ?side2 A4.out).mono ?_); (case side1 => repeat (first | exact (Kd.C_below HR0_4.out HB.out) | (with_reducible refine Kd.C_alloc ?_ _) | (with_reducible refine Kd.C_drewN ?_ _) | (with_reducible refine Kd.C_drew ?_))); (case side2 => exact HC0_4.out); rintro e w44 ⟨rfl, hb⟩; have n0_ := Aside0.mk (blk_below (g := gb113) (o := .cells #[.int .i64 a0_0, .int .i64 a0_1, .int .i64 a0_2, .int .i64 a0_3, .slice A0_4 l0_4.length c0_4] 24 (0, 0)) (by (with_reducible repeat (first | refine blk_drewN ?_ _ | refine blk_drew ?_ | refine blk_alloc ?_ _)); exact BK113.out) hb); have n1_ := Aside0.mk (below_step (by repeat (first | (with_reducible first | exact HB.out | apply below_alloc | apply pw_below_drewN | apply below_drew1 | refine below_set ?_ GE113.out) | exact HB.out)) hb); clear BK113; clear HB; have BK113 := n0_; have HB := n1_; clear n0_ n1_; (try clear hb); (try clear hb2); (try clear hk); (try clear hi)))
      go_ret
      exact ⟨by first | rfl | (simp [errW_none, errW_some] <;> rfl) | (simp [*, errW_none, errW_some] <;> rfl), by repeat (first | (with_reducible first | exact HB.out | apply below_alloc | apply pw_below_drewN | apply below_drew1 | refine below_set ?_ GE113.out) | exact HB.out)⟩
  · replace c3 := Bool.eq_false_iff.mpr c3
    subst c3
    have H1 : (some false) = some r := by rw [if_neg (show ¬ (false = true) by decide)] at H; exact H
    clear H
    have H := H1
    clear H1
    obtain rfl := Option.some.inj H
    go_enter Try.func16, Try.ntmps16
    go_wp2_with (first | ((with_reducible refine gate_dst (N := 1) rfl ?_); refine box_event ?hg (N := 1) ?hd (cs := #[.int .i64 a0_0, .int .i64 a0_1, .int .i64 a0_2, .int .i64 a0_3, .slice A0_4 l0_4.length c0_4]) (t := 24) ?hr ?_; (case hd => rfl); (case hg => rfl); (case hr => first | (go_simp; done) | (go_simp; rfl)); intro gb113 hg w45 hbox hb; have n0_ := Aside0.mk (below_step (by repeat (first | (with_reducible first | exact HB.out | apply below_alloc | apply pw_below_drewN | apply below_drew1) | exact HB.out)) hb); have n1_ := Aside0.mk (hbox); have n2_ := Aside0.mk ((by rw [hg]; exact (below_size (by repeat (first | (with_reducible first | exact HB.out | apply below_alloc | apply pw_below_drewN | apply below_drew1) | exact HB.out))) : w.heap.size ≤ gb113)); have n3_ := Aside0.mk ((by rw [hg]; exact (below_size (by repeat (first | (with_reducible first | exact HB.out | apply below_alloc | apply pw_below_drewN | apply below_drew1) | exact HB.out))) : w.heap.size ≤ gb113)); clear HB; have HB := n0_; have BK113 := n1_; have GW113 := n2_; have GE113 := n3_; clear n0_ n1_ n2_ n3_; clear hb hbox hg; have hcz46_0 : w45.cell? ⟨gb113, 0, none⟩ = some (.int .i64 a0_0) := (blk_cell BK113.out 0).trans rfl; have hcz46_1 : w45.cell? ⟨gb113, 1, none⟩ = some (.int .i64 a0_1) := (blk_cell BK113.out 1).trans rfl; have hcz46_2 : w45.cell? ⟨gb113, 2, none⟩ = some (.int .i64 a0_2) := (blk_cell BK113.out 2).trans rfl; have hcz46_3 : w45.cell? ⟨gb113, 3, none⟩ = some (.int .i64 a0_3) := (blk_cell BK113.out 3).trans rfl; have hcz46_4 : w45.cell? ⟨gb113, 4, none⟩ = some (.slice A0_4 l0_4.length c0_4) := (blk_cell BK113.out 4).trans rfl; have hfz46_0 := blk_frozen BK113.out 0; have hfz46_1 := blk_frozen BK113.out 1; have hfz46_2 := blk_frozen BK113.out 2; have hfz46_3 := blk_frozen BK113.out 3; have hfz46_4 := blk_frozen BK113.out 4) | ((with_reducible refine gate_callee (f := 33) rfl ?_); refine goesL_ (some 4) rfl rfl Try.func33 (by kernel_rfl) rfl #[.agg #[.int .i64 a0_0, .int .i64 a0_1, .int .i64 a0_2, .int .i64 a0_3, .slice A0_4 l0_4.length c0_4]] rfl (by (try simp only [List.map_toArray, List.map_cons, List.map_nil]); first | done | rfl | (simp only [List.length_drop, List.length_take]; rfl)) ?_; (with_reducible refine (palantypelaw02_Thin.calls a0_0 a0_1 a0_2 a0_3 _ _ l0_4 false _ ?side1 ?side2 A2.out).mono ?_); (case side1 => repeat (first | exact (Kd.C_below HR0_4.out HB.out) | (with_reducible refine Kd.C_alloc ?_ _) | (with_reducible refine Kd.C_drewN ?_ _) | (with_reducible refine Kd.C_drew ?_))); (case side2 => exact HC0_4.out); rintro e w47 ⟨rfl, hb⟩; refine ⟨_, rfl, ?_⟩; have n0_ := Aside0.mk (blk_below (g := gb113) (o := .cells #[.int .i64 a0_0, .int .i64 a0_1, .int .i64 a0_2, .int .i64 a0_3, .slice A0_4 l0_4.length c0_4] 24 (0, 0)) (by (with_reducible repeat (first | refine blk_drewN ?_ _ | refine blk_drew ?_ | refine blk_alloc ?_ _)); exact BK113.out) hb); have n1_ := Aside0.mk (below_step (by repeat (first | (with_reducible first | exact HB.out | apply below_alloc | apply pw_below_drewN | apply below_drew1 | refine below_set ?_ GE113.out) | exact HB.out)) hb); clear BK113; clear HB; have BK113 := n0_; have HB := n1_; clear n0_ n1_; (try clear hb); (try clear hb2); (try clear hk); (try clear hi)))
    go_ret
    exact ⟨by first | rfl | (simp [errW_none, errW_some] <;> rfl) | (simp [*, errW_none, errW_some] <;> rfl), by repeat (first | (with_reducible first | exact HB.out | apply below_alloc | apply pw_below_drewN | apply below_drew1 | refine below_set ?_ GE113.out) | exact HB.out)⟩
end Go.Proofs.Ytdnjmhhjjbdieaa.Q
end
section
namespace Go.Proofs.Ytdnjmhhjjbdieaa.Q
open Go.RowKit Go.Proofs.YtdnjmhhjjbdieaaW.PrintWords
set_option linter.unusedVariables false
theorem few_ev {a0 a1 a2 a3 : Int} {l : List RM} {r : Int} (hr : Ev (fun k => palantyperef02_Fault.f k a0 a1 a2 a3 l) r) :
    Ev (fun k => palantypelaw02_few.f k a0 a1 a2 a3 l) (decide (l.length ≤ 45) && (decide (r ≠ 0) || (decide (a0 ≤ 3) && decide (l.length ≤ 5)) || (decide (a0 ≤ 2) && decide (l.length ≤ 6)))) := by
  unfold palantypelaw02_few.f palantypelaw02_Thin.f
  by_cases h45 : (l.length : Int) ≤ 45
  · have e : decide (l.length ≤ 45) = true := decide_eq_true (by omega)
    rw [e, Bool.true_and]
    simp only [Option.bind_some, decide_eq_true h45, if_true]
    refine Ev.bind hr ?_
    by_cases h0 : r = 0
    · subst h0
      simp only [if_true, ne_eq, not_true_eq_false, decide_false, Bool.false_or]
      by_cases h3 : a0 ≤ 3
      · by_cases h5 : (l.length : Int) ≤ 5
        · have : decide (l.length ≤ 5) = true := decide_eq_true (by omega)
          simp only [h3, h5, if_true, this, decide_true, Bool.and_self, Bool.true_or]; exact Ev.now _
        · have e5 : decide (l.length ≤ 5) = false := decide_eq_false (by omega)
          by_cases h2 : a0 ≤ 2
          · have e6 : decide ((l.length : Int) ≤ 6) = decide (l.length ≤ 6) := decide_eq_decide.2 (by omega)
            simp only [h3, h5, h2, if_true, if_false, e5, e6, decide_true, Bool.and_false, Bool.false_or, Bool.true_and]; exact Ev.now _
          · simp only [h3, h5, h2, if_true, if_false, e5, decide_true, decide_false, Bool.and_false, Bool.false_or, Bool.false_and]; exact Ev.now _
      · have h2 : ¬ a0 ≤ 2 := by omega
        simp only [h3, h2, if_false, decide_false, Bool.false_and, Bool.or_self]; exact Ev.now _
    · simp only [h0, if_false, ne_eq, not_false_eq_true, decide_true, Bool.true_or]; exact Ev.now _
  · have e : decide (l.length ≤ 45) = false := decide_eq_false (by omega)
    rw [e, Bool.false_and]
    simp only [Option.bind_some, decide_eq_false h45, Bool.false_eq_true, if_false]; exact Ev.now _
theorem few_small {n : Nat} {len : Nat} (h : (decide (len ≤ 45) && (decide ((0 : Int) ≠ 0) || (decide ((n : Int) ≤ 3) && decide (len ≤ 5)) || (decide ((n : Int) ≤ 2) && decide (len ≤ 6)))) = true) : len ≤ 6 ∧ ((n + 1) * (n + 1)) ^ len ≤ 100000000 := by
  have h1 : (n ≤ 3 ∧ len ≤ 5) ∨ (n ≤ 2 ∧ len ≤ 6) := by
    simp at h
    omega
  rcases h1 with ⟨h1, h2⟩ | ⟨h1, h2⟩
  · refine ⟨by omega, Nat.le_trans (Nat.pow_le_pow_left (Nat.mul_le_mul (by omega : n + 1 ≤ 4) (by omega : n + 1 ≤ 4)) len) (Nat.le_trans (Nat.pow_le_pow_right (by decide) h2) (by decide))⟩
  · refine ⟨by omega, Nat.le_trans (Nat.pow_le_pow_left (Nat.mul_le_mul (by omega : n + 1 ≤ 3) (by omega : n + 1 ≤ 3)) len) (Nat.le_trans (Nat.pow_le_pow_right (by decide) h2) (by decide))⟩
end Go.Proofs.Ytdnjmhhjjbdieaa.Q
end
section
namespace Go.Proofs.Ytdnjmhhjjbdieaa.Q
open Go.RowKit Go.Proofs.YtdnjmhhjjbdieaaW.PrintWords Go.Proofs.YtdnjmhhjjbdieaaW.PrintLast
set_option linter.unusedVariables false
set_option linter.unusedSimpArgs false
def palantypelaw02_house.f  : Option (Int × Int × Int × Int × (List (S52))) := some (3, 2, 3, 1, (([(⟨3, 3⟩ : S52), (⟨3, 4⟩ : S52), (⟨3, 1⟩ : S52), (⟨Go.bits .or .u16 2 32768, Go.bits .or .u16 2 32768⟩ : S52), (⟨2, 6⟩ : S52)] : List (S52))))
set_option maxHeartbeats 8000000 in
set_option maxRecDepth 100000 in
theorem palantypelaw02_house.calls  (r1 : Int) (r2 : Int) (r3 : Int) (r4 : Int) (r5 : List (S52)) (w : World) (h : palantypelaw02_house.f  = some (r1, r2, r3, r4, r5)) :
    Calls Try.prog 49 #[] w fun e w' => ∃ v4_ : Value, e = .returned (.agg #[.int .i64 r1, .int .i64 r2, .int .i64 r3, .int .i64 r4, v4_]) ∧ Kd.R k52 52 w' w.heap.size (fun _ => True) v4_ r5 ∧ Below w.heap.size w w' := by
  have hu33 := Try.underlying33
  have hu52 := Try.underlying52
  have HB := Aside0.mk (Below.refl w.heap.size w)
  have H : (some (3, 2, 3, 1, (([(⟨3, 3⟩ : S52), (⟨3, 4⟩ : S52), (⟨3, 1⟩ : S52), (⟨Go.bits .or .u16 2 32768, Go.bits .or .u16 2 32768⟩ : S52), (⟨2, 6⟩ : S52)] : List (S52))))) = some (r1, r2, r3, r4, r5) := h
  clear h
  obtain ⟨y122, hy122⟩ : ∃ y_ : List (S52), y_ = (([(⟨3, 3⟩ : S52), (⟨3, 4⟩ : S52), (⟨3, 1⟩ : S52), (⟨Go.bits .or .u16 2 32768, Go.bits .or .u16 2 32768⟩ : S52), (⟨2, 6⟩ : S52)] : List (S52))) := ⟨_, rfl⟩
  replace H : (some (3, 2, 3, 1, y122)) = some (r1, r2, r3, r4, r5) := by first | (rw [hy122]; with_reducible exact H) | (have H2_ := (Option.bind_some _ _).symm.trans H; rw [hy122]; with_reducible exact H2_) | (have H2_ := (Option.bind_some _ _).symm.trans H; with_reducible exact H2_) | with_reducible exact H | (rw [hy122]; exact H) | exact H
  have Ny122 := Aside0.mk hy122
  clear hy122
  simp only [Option.some.injEq, Prod.mk.injEq] at H
  obtain ⟨rfl, rfl, rfl, rfl, rfl⟩ := H
  go_enter Try.func49, Try.ntmps49
  go_wp2_with (first | ((with_reducible refine gate_dst (N := 0) rfl ?_); refine box_event ?hg (N := 0) ?hd (cs := #[.int .i64 0, .int .i64 0, .int .i64 0, .int .i64 0, .slice none 0 0]) (t := 33) ?hr ?_; (case hd => rfl); (case hg => rfl); (case hr => first | (go_simp; done) | (go_simp; rfl)); intro gb121 hg w1 hbox hb; have n0_ := Aside0.mk (below_step (by repeat (first | (with_reducible first | exact HB.out | apply below_alloc | apply pw_below_drewN | apply below_drew1) | exact HB.out)) hb); have n1_ := Aside0.mk (hbox); have n2_ := Aside0.mk ((by rw [hg]; exact (below_size (by repeat (first | (with_reducible first | exact HB.out | apply below_alloc | apply pw_below_drewN | apply below_drew1) | exact HB.out))) : w.heap.size ≤ gb121)); have n3_ := Aside0.mk ((by rw [hg]; exact (below_size (by repeat (first | (with_reducible first | exact HB.out | apply below_alloc | apply pw_below_drewN | apply below_drew1) | exact HB.out))) : w.heap.size ≤ gb121)); clear HB; have HB := n0_; have BK121 := n1_; have GW121 := n2_; have GE121 := n3_; clear n0_ n1_ n2_ n3_; clear hb hbox hg) | ((with_reducible refine gate_dst (N := 11) rfl ?_); refine Kd.R_lit k52 _ 52 ?hg (N := 11) ?hd (xs := ([(⟨3, 3⟩ : S52), (⟨3, 4⟩ : S52), (⟨3, 1⟩ : S52), (⟨Go.bits .or .u16 2 32768, Go.bits .or .u16 2 32768⟩ : S52), (⟨2, 6⟩ : S52)] : List (S52))) (inner := [.int .u16 3, .int .u16 3, .int .u16 3, .int .u16 4, .int .u16 3, .int .u16 1, .int .u16 (Go.bits .or .u16 2 32768), .int .u16 (Go.bits .or .u16 2 32768), .int .u16 2, .int .u16 6]) (ok := fun _ => True) (okp := fun _ => True) ?hr ?hp (fun _ hk => hk) trivial (Below.refl _ _) (Nat.le_refl _) (by simp) ?_; (case hd => rfl); (case hg => rfl); (case hr => first | (go_simp; done) | (go_simp; rfl)); (case hp => exact (Reps.c2 (show Kd.M k52 _ _ _ (⟨3, 3⟩ : S52) [.int .u16 3, .int .u16 3] from (k52_mkM _ _ _ (⟨3, 3⟩ : S52) )) (Reps.c2 (show Kd.M k52 _ _ _ (⟨3, 4⟩ : S52) [.int .u16 3, .int .u16 4] from (k52_mkM _ _ _ (⟨3, 4⟩ : S52) )) (Reps.c2 (show Kd.M k52 _ _ _ (⟨3, 1⟩ : S52) [.int .u16 3, .int .u16 1] from (k52_mkM _ _ _ (⟨3, 1⟩ : S52) )) (Reps.c2 (show Kd.M k52 _ _ _ (⟨Go.bits .or .u16 2 32768, Go.bits .or .u16 2 32768⟩ : S52) [.int .u16 (Go.bits .or .u16 2 32768), .int .u16 (Go.bits .or .u16 2 32768)] from (k52_mkM _ _ _ (⟨Go.bits .or .u16 2 32768, Go.bits .or .u16 2 32768⟩ : S52) )) (Reps.c2 (show Kd.M k52 _ _ _ (⟨2, 6⟩ : S52) [.int .u16 2, .int .u16 6] from (k52_mkM _ _ _ (⟨2, 6⟩ : S52) )) (Reps.none _ _))))))); intro v123 w2 ho3 hb hg_ hnew_; clear hg_ hnew_; (first | rw [← Ny122.out] at ho3 | (simp only [Int.reduceToNat] at ho3; rw [← Ny122.out] at ho3)); have n0_ := Aside0.mk (Kd.R_lower ho3 (below_size (by repeat (first | (with_reducible first | exact HB.out | apply below_alloc | apply pw_below_drewN | apply below_drew1 | refine below_set ?_ GE121.out) | exact HB.out)))); have n1_ := Aside0.mk (blk_below (g := gb121) (o := .cells #[.int .i64 0, .int .i64 0, .int .i64 0, .int .i64 0, .slice none 0 0] 33 (0, 0)) (by (with_reducible repeat (first | refine blk_drewN ?_ _ | refine blk_drew ?_ | refine blk_alloc ?_ _)); exact BK121.out) hb); have n2_ := Aside0.mk (below_step (by repeat (first | (with_reducible first | exact HB.out | apply below_alloc | apply pw_below_drewN | apply below_drew1 | refine below_set ?_ GE121.out) | exact HB.out)) hb); clear BK121; clear HB; have HO124 := n0_; have BK121 := n1_; have HB := n2_; clear n0_ n1_ n2_; clear hb ho3; obtain ⟨Ao4, co4, eo4⟩ := Kd.R_slice HO124.out; subst eo4; have hcz5_0 : w2.cell? ⟨gb121, 0, none⟩ = some (.int .i64 0) := (blk_cell BK121.out 0).trans rfl; have hcz5_1 : w2.cell? ⟨gb121, 1, none⟩ = some (.int .i64 0) := (blk_cell BK121.out 1).trans rfl; have hcz5_2 : w2.cell? ⟨gb121, 2, none⟩ = some (.int .i64 0) := (blk_cell BK121.out 2).trans rfl; have hcz5_3 : w2.cell? ⟨gb121, 3, none⟩ = some (.int .i64 0) := (blk_cell BK121.out 3).trans rfl; have hcz5_4 : w2.cell? ⟨gb121, 4, none⟩ = some (.slice none 0 0) := (blk_cell BK121.out 4).trans rfl; have hfz5_0 := blk_frozen BK121.out 0; have hfz5_1 := blk_frozen BK121.out 1; have hfz5_2 := blk_frozen BK121.out 2; have hfz5_3 := blk_frozen BK121.out 3; have hfz5_4 := blk_frozen BK121.out 4))
  refine bodyPost_ret (results_cell_row rfl _ _ gb121 33 #[.int .i64 3, .int .i64 2, .int .i64 3, .int .i64 1, .slice Ao4 y122.length co4] (0, 0) _ rfl (by (with_reducible repeat (first | refine blk_drewN ?_ _ | refine blk_drew ?_ | refine blk_alloc ?_ _)); refine blk_put (cs := #[.int .i64 3, .int .i64 2, .int .i64 3, .int .i64 1, .slice none 0 0]) ?_ 4 _ rfl; (with_reducible repeat (first | refine blk_drewN ?_ _ | refine blk_drew ?_ | refine blk_alloc ?_ _)); refine blk_put (cs := #[.int .i64 3, .int .i64 2, .int .i64 3, .int .i64 0, .slice none 0 0]) ?_ 3 _ rfl; (with_reducible repeat (first | refine blk_drewN ?_ _ | refine blk_drew ?_ | refine blk_alloc ?_ _)); refine blk_put (cs := #[.int .i64 3, .int .i64 2, .int .i64 0, .int .i64 0, .slice none 0 0]) ?_ 2 _ rfl; (with_reducible repeat (first | refine blk_drewN ?_ _ | refine blk_drew ?_ | refine blk_alloc ?_ _)); refine blk_put (cs := #[.int .i64 3, .int .i64 0, .int .i64 0, .int .i64 0, .slice none 0 0]) ?_ 1 _ rfl; (with_reducible repeat (first | refine blk_drewN ?_ _ | refine blk_drew ?_ | refine blk_alloc ?_ _)); refine blk_put (cs := #[.int .i64 0, .int .i64 0, .int .i64 0, .int .i64 0, .slice none 0 0]) ?_ 0 _ rfl; (with_reducible repeat (first | refine blk_drewN ?_ _ | refine blk_drew ?_ | refine blk_alloc ?_ _)); exact BK121.out) Try.underlying33 rfl (by kernel_rfl)) rfl ?_
  exact ⟨_, by first | rfl | (simp [errW_none, errW_some] <;> rfl) | (simp [*, errW_none, errW_some] <;> rfl), by (with_reducible repeat (first | apply Kd.R_alloc | apply Kd.R_drewN | apply Kd.R_drew)); exact Kd.R_mono (Kd.R_far (p := ⟨gb121, 4, none⟩) (Kd.R_far (p := ⟨gb121, 3, none⟩) (Kd.R_far (p := ⟨gb121, 2, none⟩) (Kd.R_far (p := ⟨gb121, 1, none⟩) (Kd.R_far (p := ⟨gb121, 0, none⟩) (Kd.R_types HO124.out BK121.out (by decide)) (fun _ hk => hk.2) (.int .i64 3)) (fun _ hk => hk.2) (.int .i64 2)) (fun _ hk => hk.2) (.int .i64 3)) (fun _ hk => hk.2) (.int .i64 1)) (fun _ hk => hk.2) (.slice Ao4 y122.length co4)) (fun _ hk => trivial), by repeat (first | (with_reducible first | exact HB.out | apply below_alloc | apply pw_below_drewN | apply below_drew1 | refine below_set ?_ GE121.out) | exact HB.out)⟩
end Go.Proofs.Ytdnjmhhjjbdieaa.Q
end
section
namespace Go.Proofs.Ytdnjmhhjjbdieaa.Q
open Go.RowKit Go.Shelf Go.Proofs.YtdnjmhhjjbdieaaW.PrintWords Go.Proofs.YtdnjmhhjjbdieaaW.PrintLast
set_option linter.unusedVariables false
set_option linter.unusedSimpArgs false
attribute [local go_sem] Oper.semAt_some
theorem infoTold : (Try.prog.info? 54).map (fun i => (i.zero, i.size, i.bytes)) = some (some (.agg #[(.int .u16 0), (.int .u16 0)]), 2, 4) := by kernel_rfl
theorem made_zero (m k : Nat) (h : k < m) : (madeCells #[Value.int .u16 0, .int .u16 0] m)[k]? = some (.int .u16 0) := by
  unfold madeCells
  rw [Array.getElem?_map, Array.getElem?_range, if_pos h]
  simp only [Option.map_some]
  have : k % 2 = 0 ∨ k % 2 = 1 := by omega
  rcases this with e | e <;> simp [e]
theorem made_told (m : Nat) (hm : m ≤ 40) (W : World) : (Instr.makeSlice 27 (.int .i64 m) (.int .i64 m)).run Try.prog W = .ok (.slice (some ⟨W.heap.size, 0, none⟩) m m) (W.alloc (.cells (madeCells #[Value.int .u16 0, .int .u16 0] (m * 2)) 54)) := by
  obtain ⟨inf, hinf, hif⟩ : ∃ i, Try.prog.info? 54 = some i ∧ (i.zero, i.size, i.bytes) = (some (.agg #[(.int .u16 0), (.int .u16 0)]), 2, 4) := by
    have h := infoTold
    cases h2 : Try.prog.info? 54 with
    | none => rw [h2] at h; cases h
    | some i => rw [h2] at h; exact ⟨i, rfl, Option.some.inj h⟩
  simp only [Prod.mk.injEq] at hif
  have := run_makeSlice (P := Try.prog) W 27 54 inf (.agg #[(.int .u16 0), (.int .u16 0)]) Try.underlying27 hinf hif.1 .i64 .i64 m m (by omega) (Int.le_refl _) (by rw [hif.2.1]; omega) (by rw [hif.2.2]; omega) (by omega)
  rw [hif.2.1] at this
  exact this
set_option maxRecDepth 100000 in
set_option maxHeartbeats 4000000 in
theorem floor_Who.calls (a0_0 a0_1 a0_2 a0_3 : Int) (A0_4 : Option Addr) (c0_4 : Nat) (l0_4 : List S52) (r1 : List S54) (r2 : Int) (w : World) (hr0_4 : Kd.C k52 w A0_4 l0_4.length l0_4) (hc0_4 : l0_4.length ≤ c0_4)
    (h : floor_Who.f a0_0 a0_1 a0_2 a0_3 l0_4 = some (r1, r2)) :
    Calls Try.prog 18 #[.agg #[.int .i64 a0_0, .int .i64 a0_1, .int .i64 a0_2, .int .i64 a0_3, .slice A0_4 l0_4.length c0_4]] w fun e w' => ∃ v0_ : Value, e = .returned (.tuple #[v0_, .int .i64 r2]) ∧ Kd.R k54 54 w' w.heap.size (fun _ => True) v0_ r1 ∧ Below w.heap.size w w' := by
  have hu := Try.underlying33
  refine (callsIn_wide (n := 0)).1 ?_
  refine callsIn_of_wp_marks Try.func18 rfl trivial ?_ rfl
  simp only [Try.ntmps18, List.size_toArray, List.length_cons, List.length_nil, Nat.reduceAdd, Nat.reduceSub, Array.replicate_succ, Array.replicate_zero, List.push_toArray, List.append_toArray, List.nil_append, List.cons_append]
  unfold floor_Who.f at h
  obtain ⟨W0, hW0⟩ : ∃ W0, w.alloc (.cells #[.int .i64 a0_0, .int .i64 a0_1, .int .i64 a0_2, .int .i64 a0_3, .slice A0_4 l0_4.length c0_4] 33) = W0 := ⟨_, rfl⟩
  have hs0 : W0.heap.size = w.heap.size + 1 := by rw [← hW0]; simp
  have hsc0 : W0.heap[w.heap.size]? = some (.cells #[.int .i64 a0_0, .int .i64 a0_1, .int .i64 a0_2, .int .i64 a0_3, .slice A0_4 l0_4.length c0_4] 33 (0, 0)) := by rw [← hW0]; exact heap_new rfl
  have hb0 : Below w.heap.size w W0 := by rw [← hW0]; exact (Below.refl _ w).alloc (Nat.le_refl _) _
  have e0 := cell_of hsc0 (i := 0) rfl
  have e1 := cell_of hsc0 (i := 1) rfl
  have e2 := cell_of hsc0 (i := 2) rfl
  have e3 := cell_of hsc0 (i := 3) rfl
  have e4 := cell_of hsc0 (i := 4) rfl
  simp only [List.getElem_toArray, List.getElem_cons_zero, List.getElem_cons_succ] at e0 e1 e2 e3 e4
  have HS0 := Lib.hid hs0
  have HSC0 := Lib.hid hsc0
  have HB0 := Lib.hid hb0
  have HR := Lib.hid (Kd.C_below hr0_4 hb0)
  have HR' := Lib.hid hr0_4
  clear hs0 hsc0 hb0 hr0_4
  gi_wp2
  clear hW0
  cases hck : floor_Scene_check.f a0_0 a0_1 a0_2 a0_3 l0_4 with
  | none => rw [hck] at h; cases h
  | some r =>
    rw [hck] at h
    simp only [] at h
    have HCK := Lib.hid hck
    have HH := Lib.hid h
    clear hck h
    by_cases hr : r = 0
    · subst hr
      obtain ⟨hl, ⟨n, rfl, hn1, hn⟩, _⟩ := check_ok HCK.out
      have hnn : (n : Int).toNat = n := Int.toNat_natCast n
      refine ⟨trivial, rfl, (callsIn_wide.2 (checked.good n a0_1 a0_2 a0_3 A0_4 c0_4 l0_4 W0 HR.out hc0_4 HCK.out)).mono ?_⟩
      rintro e W1 ⟨g, i, rfl, hb1, hL⟩
      obtain ⟨sb, cS, bs, hne, hcase⟩ := hL
      have h' := HH.out
      rw [if_pos rfl, hnn] at h'
      have HB1 := Lib.hid hb1
      have HNE := Lib.hid hne
      clear hb1 hne HH
      by_cases hi : i = l0_4.length
      · rcases hcase with ⟨_, hSe⟩ | ⟨hi', _⟩
        · subst hi
          have hem : ¬ (fwdL a0_1 a0_2 a0_3 n l0_4 l0_4.length).isEmpty = true := fun hc => by
            obtain ⟨x, hx⟩ := HNE.out _ (Nat.le_refl _)
            exact fwdL_empty.1 hc x hx
          rw [if_neg hem] at h'
          obtain ⟨rfl, rfl⟩ := Prod.mk.inj (Option.some.inj h')
          rw [if_pos rfl]
          have hz1 := HB1.out.size
          have hz0 := HS0.out
          obtain ⟨Wx, hWx⟩ : ∃ Wx, W1.alloc (.cells #[.pointer (some ⟨g, 0, none⟩)] 101) = Wx := ⟨_, rfl⟩
          have hzx : Wx.heap.size = W1.heap.size + 1 := by rw [← hWx]; simp
          have hmk := made_told l0_4.length hl (W1.alloc (.cells #[.pointer (some ⟨g, 0, none⟩)] 101))
          rw [World.size_alloc] at hmk
          have f4 : W1.cell? ⟨w.heap.size, 4, none⟩ = _ := (HB1.out.cell (p := ⟨w.heap.size, 4, none⟩) (by show w.heap.size < W0.heap.size; omega)).trans e4
          have q0 : w.heap.size < W1.heap.size := by omega
          have q1 : w.heap.size < W1.heap.size + 1 := by omega
          have q2 : w.heap.size < W1.heap.size + 1 + 1 := by omega
          have q3 : w.heap.size < W1.heap.size + 1 + 1 + 1 := by omega
          have HSE := Lib.hid hSe
          have HZ1 := Lib.hid hz1
          have HZ0 := Lib.hid hz0
          clear h' hem e0 e1 e2 e3 e4 hSe hz1 hz0 hzx hWx Wx
          gi_wp2
          obtain ⟨Wz, hWz⟩ : ∃ Wz, ((W1.alloc (.cells #[.pointer (some ⟨g, 0, none⟩)] 101)).alloc (.cells (madeCells #[Value.int .u16 0, .int .u16 0] (l0_4.length * 2)) 54)).alloc (.cells #[.slice (some ⟨W1.heap.size + 1, 0, none⟩) l0_4.length l0_4.length] 27) = Wz := ⟨_, rfl⟩
          rw [hWz]
          have hz1 := HZ1.out
          have hz0 := HZ0.out
          have hbz : Below W1.heap.size W1 Wz := by rw [← hWz]; exact (((Below.refl _ W1).alloc (Nat.le_refl _) _).alloc (by simp) _).alloc (by simp; omega) _
          have hzz : Wz.heap.size = W1.heap.size + 3 := by rw [← hWz]; simp
          have hxc : Wz.heap[W1.heap.size]? = some (.cells #[.pointer (some ⟨g, 0, none⟩)] 101 (0, 0)) := by rw [← hWz]; exact heap_old (heap_old (heap_new rfl))
          have hob : Wz.heap[W1.heap.size + 1]? = some (.cells (madeCells #[Value.int .u16 0, .int .u16 0] (l0_4.length * 2)) 54 (0, 0)) := by rw [← hWz]; exact heap_old (heap_new (by simp))
          have hoc : Wz.heap[W1.heap.size + 1 + 1]? = some (.cells #[.slice (some ⟨W1.heap.size + 1, 0, none⟩) l0_4.length l0_4.length] 27 (0, 0)) := by rw [← hWz]; exact heap_new (by simp)
          have hb0z : Below W0.heap.size W0 Wz := HB1.out.trans (hbz.mono hz1)
          have hout : Out (W1.heap.size + 1) l0_4.length (fun _ => (0, 0)) Wz := ⟨_, hob, by simp [size_madeCells], fun j hj => ⟨made_zero _ _ (by omega), made_zero _ _ (by omega)⟩⟩
          refine who.rounds n hn a0_1 a0_2 a0_3 A0_4 c0_4 l0_4 hl w.heap.size W1.heap.size (W1.heap.size + 1 + 1) g sb cS (W1.heap.size + 1) W0.heap.size bs _ _ _ _ _ _ _ _ _ _ _ _ _ _ _ _ _ _ _ _ _ _ _ _ _ _ _ _ _ _ _ _ _ _ _ _ _ _ _ _ _ _ _ _ _ _ _ _ _ _ _ _ _ _ _ _ _ _ _ _ _ _ _ _ _ _ _ _ _ _ _ _ _ _ _ _ _ _ _ Wz
            (Kd.C_below HR.out hb0z) (fun ad had hlen => by
              subst had
              obtain ⟨ad', e, m0, _⟩ := at_T52 HR'.out 0 (by omega) (by omega)
              cases e
              have := World.block_lt_of_cell? w _ m0
              have hbl : (ad.add 0).block = ad.block := by unfold Addr.add; split <;> rfl
              simp at this
              omega)
            ((hb0z.block _ (by omega)).trans HSC0.out) hxc hoc (HSE.out.below hbz) hout (by omega) ?_
          rintro ds3 a7 a8 a9 a10 a11 a27 a28 a29 a30 a31 a32 a33 a34 a35 a36 a37 a38 a39 a40 a41 a42 a43 a44 a45 a46 a47 a50 a51 a52 a53 a54 a55 a56 a57 a58 a59 a60 a61 a62 a63 a64 a65 a66 a67 a68 a69 a70 a71 a72 a73 a74 a75 a76 a77 a78 a79 a80 a81 a82 F W2 hF hO2 hfd hC
          have hoc2 := (hF.same _ (by omega) (by omega)).trans hoc
          have eo := cell_of hoc2 (i := 0) rfl
          simp only [List.getElem_toArray, List.getElem_cons_zero] at eo
          have HF := Lib.hid hF
          have HO2 := Lib.hid hO2
          have HFD := Lib.hid hfd
          have HC := Lib.hid hC
          have HBZ := Lib.hid hb0z
          have HZZ := Lib.hid hzz
          clear hF hO2 hfd hC hoc2 hbz hb0z hzz hxc hob hoc hout hWz
          gi_wp2
          have hzz := HZZ.out
          refine leave_marks _ _ HC.out (fun W4 hF4 => ⟨_, results_tmp2 rfl _ _ _, _, rfl, ?_, ?_⟩)
          · have hts : ((List.range l0_4.length).map (toldOf a0_1 a0_2 a0_3 n l0_4)).length = l0_4.length := by simp
            have hO4 : Out (W1.heap.size + 1) l0_4.length F W4 := HO2.out.same (hF4.same _ HO2.out.lt (fun h => by
              obtain ⟨cs, q, _⟩ := HO2.out
              rw [q] at h; cases h.2.2))
            have := Out.told (ob := W1.heap.size + 1) (F := F) (ts := (List.range l0_4.length).map (toldOf a0_1 a0_2 a0_3 n l0_4)) (w := W4) (base := w.heap.size) (by rw [hts]; exact hO4) (by omega) (fun j t hj => by
              obtain ⟨hj1, hj2⟩ := List.getElem?_eq_some_iff.1 hj
              have hjl : j < l0_4.length := by simpa using hj1
              simp at hj2
              rw [← hj2]
              exact found_told hn hjl (HFD.out j hjl)) (by rw [hts]; exact hl)
            rw [hts] at this
            exact this
          · have h02 : Below w.heap.size w Wz := HB0.out.trans (HBZ.out.mono HB0.out.size)
            exact (h02.trans ((HF.out.below (n := w.heap.size) (by omega) (fun k hk => by omega)))).trans (hF4.below (n := w.heap.size) (by have := HF.out.size; omega) (fun k hk h => by omega))
        · omega
      · rcases hcase with ⟨hi', _⟩ | ⟨hi', hno, _⟩
        · exact absurd hi' hi
        · have hem : (fwdL a0_1 a0_2 a0_3 n l0_4 l0_4.length).isEmpty = true := fwdL_empty.2 (fun x => by
            have := fwd_later hno (l0_4.length - (i + 1)) x
            rwa [show i + 1 + (l0_4.length - (i + 1)) = l0_4.length by omega] at this)
          rw [if_pos hem] at h'
          obtain ⟨rfl, rfl⟩ := Prod.mk.inj (Option.some.inj h')
          rw [if_neg hi]
          clear h' hem hno
          gi_wp2
          refine ⟨_, results_tmp2 rfl _ _ _, _, rfl, Kd.R_nil _ _ _ _ _, ?_⟩
          exact (HB0.out.trans (HB1.out.mono HB0.out.size)).alloc (Nat.le_trans HB0.out.size HB1.out.size) _
    · have h' := HH.out
      rw [if_neg hr] at h'
      obtain ⟨rfl, rfl⟩ := Prod.mk.inj (Option.some.inj h')
      have hr2 : (r == 0) = false := by simpa using hr
      clear h' HH
      refine ⟨trivial, rfl, (callsIn_wide.2 (checked.bad a0_0 a0_1 a0_2 a0_3 A0_4 c0_4 l0_4 r W0 HR.out hc0_4 HCK.out hr)).mono ?_⟩
      rintro e W1 ⟨rfl, hb1⟩
      have HB1 := Lib.hid hb1
      clear hb1
      gi_wp2
      refine ⟨_, results_tmp2 rfl _ _ _, _, rfl, Kd.R_nil _ _ _ _ _, ?_⟩
      exact (HB0.out.trans (HB1.out.mono HB0.out.size)).alloc (Nat.le_trans HB0.out.size HB1.out.size) _
end Go.Proofs.Ytdnjmhhjjbdieaa.Q
end
section
namespace Go.Proofs.Ytdnjmhhjjbdieaa.Q
open Go.RowKit Go.Proofs.YtdnjmhhjjbdieaaW.PrintWords Go.Proofs.YtdnjmhhjjbdieaaW.PrintLast
theorem max_of_ints (k k' : IntKind) (x y : Int) : Builtin.max2 (.int k x) (.int k' y) = pure (.int k (if x < y then y else x)) := by simp only [Builtin.max2, gt_iff_lt]
theorem min_of_ints (k k' : IntKind) (x y : Int) : Builtin.min2 (.int k x) (.int k' y) = pure (.int k (if y < x then y else x)) := by simp only [Builtin.min2]
attribute [local go_sem] max_of_ints min_of_ints
attribute [local go_sem] Oper.semAt_some
set_option linter.unusedVariables false
set_option linter.unusedSimpArgs false
def accMin (xs : List Int) : Nat → Int
  | 0 => xs.getD 0 0
  | k + 1 => if xs.getD k 0 < accMin xs k then xs.getD k 0 else accMin xs k
set_option maxRecDepth 100000 in
set_option maxHeartbeats 1000000 in
theorem slmin.calls (b c : Nat) (xs : List Int) (h0 : 0 < xs.length) (hb : xs.length ≤ 1000000000) (w : World) (hc : ∀ j, j < xs.length → w.cell? ⟨b, j, none⟩ = some (.int .i64 (xs.getD j 0))) :
    Calls Try.prog 77 #[.slice (some ⟨b, 0, none⟩) xs.length c] w fun e w' => e = .returned (.int .i64 (accMin xs xs.length)) ∧ w' = w := by
  have c0 := hc 0 h0
  have h1 : ¬ ((xs.length : Int) < 1) := by omega
  have h2 : (0 : Int) < xs.length := by omega
  go_enter Try.func77, Try.ntmps77
  go_wp2
  go_loop [3, 4] (fun m i => ∃ k : Nat, 1 ≤ k ∧ k ≤ xs.length ∧ i = .int .i64 k ∧ m = .int .i64 (accMin xs k)) (fun m i => xs.length - (intOf i).toNat)
  case atStart =>
    exact ⟨1, Nat.le_refl _, h0, rfl, by simp [accMin, List.getD, h0]⟩
  case round =>
    obtain ⟨k, hk1, hk2, rfl, rfl⟩ := hrel
    by_cases hlt : k < xs.length
    · have ck := hc k hlt
      have hk3 : (k : Int) < xs.length := by omega
      have hwr : IntKind.i64.wrap ((k : Int) + 1) = (k : Int) + 1 := by simp [IntKind.wrap, IntKind.bits, IntKind.signed]; omega
      clear hc c0
      go_wp2
      go_round
      case rel => exact ⟨k + 1, by omega, by omega, by simp, by simp [accMin, List.getD, hlt]⟩
      case measure => simp [intOf]; omega
    · obtain rfl : k = xs.length := by omega
      clear hc c0
      go_wp2
      go_ret
      exact ⟨rfl, rfl⟩
def accMax (xs : List Int) : Nat → Int
  | 0 => xs.getD 0 0
  | k + 1 => if accMax xs k < xs.getD k 0 then xs.getD k 0 else accMax xs k
set_option maxRecDepth 100000 in
set_option maxHeartbeats 1000000 in
theorem slmax.calls (b c : Nat) (xs : List Int) (h0 : 0 < xs.length) (hb : xs.length ≤ 1000000000) (w : World) (hc : ∀ j, j < xs.length → w.cell? ⟨b, j, none⟩ = some (.int .i64 (xs.getD j 0))) :
    Calls Try.prog 78 #[.slice (some ⟨b, 0, none⟩) xs.length c] w fun e w' => e = .returned (.int .i64 (accMax xs xs.length)) ∧ w' = w := by
  have c0 := hc 0 h0
  have h1 : ¬ ((xs.length : Int) < 1) := by omega
  have h2 : (0 : Int) < xs.length := by omega
  go_enter Try.func78, Try.ntmps78
  go_wp2
  go_loop [3, 4] (fun m i => ∃ k : Nat, 1 ≤ k ∧ k ≤ xs.length ∧ i = .int .i64 k ∧ m = .int .i64 (accMax xs k)) (fun m i => xs.length - (intOf i).toNat)
  case atStart =>
    exact ⟨1, Nat.le_refl _, h0, rfl, by simp [accMax, List.getD, h0]⟩
  case round =>
    obtain ⟨k, hk1, hk2, rfl, rfl⟩ := hrel
    by_cases hlt : k < xs.length
    · have ck := hc k hlt
      have hk3 : (k : Int) < xs.length := by omega
      have hwr : IntKind.i64.wrap ((k : Int) + 1) = (k : Int) + 1 := by simp [IntKind.wrap, IntKind.bits, IntKind.signed]; omega
      clear hc c0
      go_wp2
      go_round
      case rel => exact ⟨k + 1, by omega, by omega, by simp, by simp [accMax, List.getD, hlt]⟩
      case measure => simp [intOf]; omega
    · obtain rfl : k = xs.length := by omega
      clear hc c0
      go_wp2
      go_ret
      exact ⟨rfl, rfl⟩
end Go.Proofs.Ytdnjmhhjjbdieaa.Q
end
section
namespace Go.Proofs.Ytdnjmhhjjbdieaa.Q
open Go.RowKit Go.Shelf Go.Proofs.YtdnjmhhjjbdieaaW.PrintWords Go.Proofs.YtdnjmhhjjbdieaaW.PrintLast
set_option linter.unusedVariables false
set_option linter.unusedSimpArgs false
attribute [local go_sem] Oper.semAt_some
def endsOf (xs : List Int) : Int × Int := (accMin xs xs.length, accMax xs xs.length)
set_option maxRecDepth 100000 in
set_option maxHeartbeats 1000000 in
theorem ends.calls (b c : Nat) (xs : List Int) (h0 : 0 < xs.length) (hb : xs.length ≤ 1000000000) (w : World) (hc : ∀ j, j < xs.length → w.cell? ⟨b, j, none⟩ = some (.int .i64 (xs.getD j 0))) :
    Calls Try.prog 58 #[.slice (some ⟨b, 0, none⟩) xs.length c] w fun e w' => e = .returned (.agg #[.int .i64 (endsOf xs).1, .int .i64 (endsOf xs).2]) ∧ Below w.heap.size w w' := by
  have hu := Try.underlying115
  have kb : b < w.heap.size := World.block_lt_of_cell? w _ (hc 0 h0)
  have hc2 : ∀ (v : Obj) j, j < xs.length → (w.alloc v).cell? ⟨b, j, none⟩ = some (.int .i64 (xs.getD j 0)) := fun v j hj => (World.cell?_alloc_lt _ _ _ kb).trans (hc j hj)
  go_enter Try.func58, Try.ntmps58
  have HC := Lib.hid hc2
  clear hc hc2
  go_wp2_with fail
  refine (slmin.calls b c xs h0 hb _ (HC.out _)).mono ?_
  rintro e w' ⟨rfl, rfl⟩
  go_wp2_with fail
  refine (slmax.calls b c xs h0 hb _ (HC.out _)).mono ?_
  rintro e w' ⟨rfl, rfl⟩
  go_wp2_with fail
  refine bodyPost_ret (v := .agg #[.int .i64 (endsOf xs).1, .int .i64 (endsOf xs).2]) (by simp [results, Try.results58, go_sem, hu, endsOf]) rfl ⟨rfl, (Below.refl _ _).alloc (Nat.le_refl _) _⟩
def merge (was : Option (Int × Int)) (n : Int × Int) : Int × Int := match was with | none => n | some v => endsOf [n.1, n.2, v.1, v.2]
set_option maxRecDepth 100000 in
set_option maxHeartbeats 2000000 in
theorem join.calls (x : St) (hx : InBox x) (n : Int × Int) (cn bn : Nat) (M : St → Option (Int × Int)) (w : World) (hcn : w.heap[cn]? = some (.cells #[.map (some bn)] 116 (0, 0))) (hM : MapIs EP w bn M) :
    Calls Try.prog 57 #[.agg #[.int .i64 x.holder, .int .i64 x.turn, .int .i64 x.short, .bool x.own], .agg #[.int .i64 n.1, .int .i64 n.2], .pointer (some ⟨cn, 0, none⟩)] w fun e w' =>
      e = .returned (.tuple #[]) ∧ MapIs EP w' bn (fun y => if y = x then some (merge (M x) n) else M y) ∧ (w.heap.size ≤ w'.heap.size ∧ w'.os = w.os ∧ w'.tape = w.tape ∧ w'.output = w.output ∧ ∀ k, k < w.heap.size → k ≠ bn → w'.heap[k]? = w.heap[k]?) := by
  have hu := Try.underlying115
  have hu1 := Try.underlying109
  have hmn : cn ≠ bn := fun e => by
    subst e; obtain ⟨es, c, h⟩ := hM.isMap; rw [hcn] at h; cases h
  have kcn : cn < w.heap.size := (Array.getElem?_eq_some_iff.1 hcn).1
  have kcn1 : cn < w.heap.size + 1 := by omega
  have ecn := cell_of hcn (i := 0) rfl
  simp only [List.getElem_toArray, List.getElem_cons_zero] at ecn
  go_enter Try.func57, Try.ntmps57
  obtain ⟨W1, hW1⟩ : ∃ W1, (w.alloc (.cells #[.int .i64 x.holder, .int .i64 x.turn, .int .i64 x.short, .bool x.own] 109)).alloc (.cells #[.int .i64 n.1, .int .i64 n.2] 115) = W1 := ⟨_, rfl⟩
  have hb1 : Below w.heap.size w W1 := by rw [← hW1]; exact ((Below.refl _ w).alloc (Nat.le_refl _) _).alloc (by simp) _
  have hs1 : W1.heap.size = w.heap.size + 2 := by rw [← hW1]; simp
  have hx1 : W1.heap[w.heap.size]? = some (.cells #[.int .i64 x.holder, .int .i64 x.turn, .int .i64 x.short, .bool x.own] 109 (0, 0)) := by rw [← hW1]; exact heap_old (heap_new rfl)
  have hn1 : W1.heap[w.heap.size + 1]? = some (.cells #[.int .i64 n.1, .int .i64 n.2] 115 (0, 0)) := by rw [← hW1]; exact heap_new (by simp)
  have hM1 := hM.same (hb1.block _ hM.lt)
  have hlk0 := hM1.lookOk x hx
  have HM := Lib.hid hM
  have HM1 := Lib.hid hM1
  have HB1 := Lib.hid hb1
  have HX1 := Lib.hid hx1
  have HN1 := Lib.hid hn1
  have x0 := cell_of hx1 (i := 0) rfl
  have x1 := cell_of hx1 (i := 1) rfl
  have x2 := cell_of hx1 (i := 2) rfl
  have x3 := cell_of hx1 (i := 3) rfl
  have n0 := cell_of hn1 (i := 0) rfl
  have n1 := cell_of hn1 (i := 1) rfl
  have f0 := not_frozen (i := 0) hn1
  have f1 := not_frozen (i := 1) hn1
  have ecn1 := (hb1.cell (p := ⟨cn, 0, none⟩) kcn).trans ecn
  simp only [List.getElem_toArray, List.getElem_cons_zero, List.getElem_cons_succ] at x0 x1 x2 x3 n0 n1
  have q0 : cn < W1.heap.size := by omega
  have q1 : w.heap.size < W1.heap.size := by omega
  have q2 : w.heap.size + 1 < W1.heap.size := by omega
  have HS1 := Lib.hid hs1
  clear hM hM1 hb1 hx1 hn1 hcn ecn hs1
  cases hMx : M x with
  | none =>
    rw [hMx] at hlk0
    have hlk : (Instr.lookup 116 (.map (some bn)) (.agg #[.int .i64 x.holder, .int .i64 x.turn, .int .i64 x.short, .bool x.own]) true).run Try.prog W1 = .ok (.tuple #[.agg #[.int .i64 0, .int .i64 0], .bool false]) W1 := hlk0
    obtain ⟨W2, hup0, hM2, hg2, ht2, hs2⟩ := (HM1.out.same (w' := W1.alloc (.cells #[.int .i64 0, .int .i64 0] 115)) (Below.heap_alloc _ _ _ HM1.out.lt)).update x hx n
    have hup : (Instr.mapUpdate 116 (.map (some bn)) (.agg #[.int .i64 x.holder, .int .i64 x.turn, .int .i64 x.short, .bool x.own]) (.agg #[.int .i64 n.1, .int .i64 n.2])).run Try.prog (W1.alloc (.cells #[.int .i64 0, .int .i64 0] 115)) = .ok () W2 := hup0
    have HM2 := Lib.hid hM2
    have HG2 := Lib.hid hg2
    have HS2 := Lib.hid hs2
    clear hlk0 hup0 hM2 hg2 ht2 hs2
    go_wp2_with fail
    go_end0
    have hs1 := HS1.out
    have hg2 := HG2.out
    refine ⟨rfl, HM2.out, by have := HS2.out; simp at this; omega, hg2.os.trans HB1.out.os, hg2.tape.trans HB1.out.tape, hg2.output.trans HB1.out.output, fun k hk hne => ?_⟩
    exact (hg2.block k (by simp; omega) (fun e => hne (Option.some.inj e))).trans ((Below.heap_alloc _ _ _ (by omega)).trans (HB1.out.block k hk))
  | some v =>
    rw [hMx] at hlk0
    have hlk : (Instr.lookup 116 (.map (some bn)) (.agg #[.int .i64 x.holder, .int .i64 x.turn, .int .i64 x.short, .bool x.own]) true).run Try.prog W1 = .ok (.tuple #[.agg #[.int .i64 v.1, .int .i64 v.2], .bool true]) W1 := hlk0
    clear hlk0
    go_wp2_with fail
    obtain ⟨W3, hW3⟩ : ∃ W3, (W1.alloc (.cells #[.int .i64 v.1, .int .i64 v.2] 115)).alloc (.cells #[.int .i64 n.1, .int .i64 n.2, .int .i64 v.1, .int .i64 v.2] 3) = W3 := ⟨_, rfl⟩
    have hb3 : Below W1.heap.size W1 W3 := by rw [← hW3]; exact ((Below.refl _ W1).alloc (Nat.le_refl _) _).alloc (by simp) _
    have hs3 : W3.heap.size = W1.heap.size + 2 := by rw [← hW3]; simp
    have hl3 : W3.heap[W1.heap.size + 1]? = some (.cells #[.int .i64 n.1, .int .i64 n.2, .int .i64 v.1, .int .i64 v.2] 3 (0, 0)) := by rw [← hW3]; exact heap_new (by simp)
    rw [hW3]
    refine (ends.calls (W1.heap.size + 1) 4 [n.1, n.2, v.1, v.2] (by simp) (by simp) W3 (fun j hj => ?_)).mono ?_
    · have : j = 0 ∨ j = 1 ∨ j = 2 ∨ j = 3 := by simp at hj; omega
      rcases this with rfl | rfl | rfl | rfl <;> exact cell_of hl3 rfl
    rintro e W4 ⟨rfl, hb4⟩
    obtain ⟨d, hd⟩ : ∃ d, endsOf [n.1, n.2, v.1, v.2] = d := ⟨_, rfl⟩
    rw [hd]
    have hb14 : Below W1.heap.size W1 W4 := hb3.trans (hb4.mono (by omega))
    have hs4 : W1.heap.size + 2 ≤ W4.heap.size := by have := hb4.size; omega
    have hn4 := (hb14.block _ q2).trans HN1.out
    have n0' := cell_of hn4 (i := 0) rfl
    have n1' := cell_of hn4 (i := 1) rfl
    have f0' := not_frozen (i := 0) hn4
    have f1' := not_frozen (i := 1) hn4
    have x0' := (hb14.cell (p := ⟨w.heap.size, 0, none⟩) q1).trans x0
    have x1' := (hb14.cell (p := ⟨w.heap.size, 1, none⟩) q1).trans x1
    have x2' := (hb14.cell (p := ⟨w.heap.size, 2, none⟩) q1).trans x2
    have x3' := (hb14.cell (p := ⟨w.heap.size, 3, none⟩) q1).trans x3
    have ecn4 := (hb14.cell (p := ⟨cn, 0, none⟩) q0).trans ecn1
    simp only [List.getElem_toArray, List.getElem_cons_zero, List.getElem_cons_succ] at n0' n1'
    have hbn : bn < w.heap.size := HM.out.lt
    have hsame : ((W4.setCell ⟨w.heap.size + 1, 0, none⟩ (.int .i64 d.1)).setCell ⟨w.heap.size + 1, 1, none⟩ (.int .i64 d.2)).heap[bn]? = W1.heap[bn]? :=
      (Below.heap_setCell _ _ _ _ (by show bn ≠ w.heap.size + 1; omega)).trans ((Below.heap_setCell _ _ _ _ (by show bn ≠ w.heap.size + 1; omega)).trans (hb14.block bn (by omega)))
    obtain ⟨W5, hup0, hM5, hg5, ht5, hs5⟩ := (HM1.out.same hsame).update x hx d
    have hup : (Instr.mapUpdate 116 (.map (some bn)) (.agg #[.int .i64 x.holder, .int .i64 x.turn, .int .i64 x.short, .bool x.own]) (.agg #[.int .i64 d.1, .int .i64 d.2])).run Try.prog ((W4.setCell ⟨w.heap.size + 1, 0, none⟩ (.int .i64 d.1)).setCell ⟨w.heap.size + 1, 1, none⟩ (.int .i64 d.2)) = .ok () W5 := hup0
    have HB14 := Lib.hid hb14
    have HS4 := Lib.hid hs4
    have HN4 := Lib.hid hn4
    have HD := Lib.hid hd
    have HM5 := Lib.hid hM5
    have HG5 := Lib.hid hg5
    have HS5 := Lib.hid hs5
    clear hb14 hs4 hn4 hd hb3 hb4 hs3 hl3 hW3 hup0 hM5 hg5 ht5 hs5 hsame
    go_wp2_with fail
    go_end0
    have hs1 := HS1.out
    have hs4 := HS4.out
    have hs5 := HS5.out
    have hg5 := HG5.out
    have hb14 := HB14.out
    refine ⟨rfl, ?_, by simp [World.setCell] at hs5; omega, hg5.os.trans (hb14.os.trans HB1.out.os), hg5.tape.trans (hb14.tape.trans HB1.out.tape), hg5.output.trans (hb14.output.trans HB1.out.output), fun k hk hne => ?_⟩
    · have : merge (some v) n = d := HD.out
      rw [this]; exact HM5.out
    · refine (hg5.block k (by simp [World.setCell]; omega) (fun e => hne (Option.some.inj e))).trans ?_
      exact (Below.heap_setCell _ _ _ _ (by show k ≠ w.heap.size + 1; omega)).trans ((Below.heap_setCell _ _ _ _ (by show k ≠ w.heap.size + 1; omega)).trans ((hb14.block k (by omega)).trans (HB1.out.block k hk)))
end Go.Proofs.Ytdnjmhhjjbdieaa.Q
end
