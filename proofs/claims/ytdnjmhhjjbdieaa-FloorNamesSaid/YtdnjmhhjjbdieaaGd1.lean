/- FloorNames: the statement, which has no input, answers true. -/
import Derived.Test.YtdnjmhhjjbdieaaG1
import Derived.Test.YtdnjmhhjjbdieaaG2
import Derived.Test.YtdnjmhhjjbdieaaG5
import Derived.Test.YtdnjmhhjjbdieaaG7
import Derived.Test.YtdnjmhhjjbdieaaG9
import Derived.Test.YtdnjmhhjjbdieaaG10
import Derived.Deep.RegionHeld3
import Derived.Laws.MakeOwn
import Derived.Test.YtdnjmhhjjbdieaaRows
import Derived.WalkKit
import Derived.ProofKit
import Derived.OpenShut
import Derived.ShutString
import Derived.ChangeOld
import Derived.Below
import Derived.SizedLaws
import Derived.Carry
namespace Go.Proofs.Ytdnjmhhjjbdieaa.Q
end Go.Proofs.Ytdnjmhhjjbdieaa.Q
namespace Go.Proofs.YtdnjmhhjjbdieaaW.PrintLast
end Go.Proofs.YtdnjmhhjjbdieaaW.PrintLast
namespace Go.Proofs.YtdnjmhhjjbdieaaW.PrintWords
end Go.Proofs.YtdnjmhhjjbdieaaW.PrintWords
section
namespace Go.Proofs.Ytdnjmhhjjbdieaa.Q
open Go.RowKit Go.Proofs.YtdnjmhhjjbdieaaW.PrintWords Go.Proofs.YtdnjmhhjjbdieaaW.PrintLast
set_option linter.unusedVariables false
set_option linter.unusedSimpArgs false
def floor_CheckScene.f (a0_0 : Int) (a0_1 : Int) (a0_2 : Int) (a0_3 : Int) (l0_4 : List (S52)) : Option (Int) := (floor_Scene_check.f a0_0 a0_1 a0_2 a0_3 l0_4).bind fun t792 => (some t792)
set_option maxHeartbeats 8000000 in
set_option maxRecDepth 100000 in
theorem floor_CheckScene.calls (a0_0 : Int) (a0_1 : Int) (a0_2 : Int) (a0_3 : Int) (A0_4 : Option Addr) (c0_4 : Nat) (l0_4 : List (S52)) (r : Int) (w : World) (hr0_4 : Kd.C k52 w A0_4 l0_4.length l0_4) (hc0_4 : l0_4.length ≤ c0_4) (h : floor_CheckScene.f a0_0 a0_1 a0_2 a0_3 l0_4 = some r) :
    Calls Try.prog 47 #[.agg #[.int .i64 a0_0, .int .i64 a0_1, .int .i64 a0_2, .int .i64 a0_3, .slice A0_4 l0_4.length c0_4]] w fun e w' => e = .returned (.int .i64 r) ∧ Below w.heap.size w w' := by
  have hu33 := Try.underlying33
  have HR0_4 := Aside0.mk hr0_4
  have HC0_4 := Aside0.mk hc0_4
  clear hr0_4 hc0_4
  have HB := Aside0.mk (Below.refl w.heap.size w)
  have H : ((floor_Scene_check.f a0_0 a0_1 a0_2 a0_3 l0_4).bind fun t792 => (some t792)) = some r := h
  clear h
  replace H := Option.bind_eq_some_iff.mp H
  obtain ⟨t792, A20, H⟩ := H
  replace H : (some t792) = some r := H
  have A2 := Aside0.mk A20
  clear A20
  obtain rfl := Option.some.inj H
  go_enter Try.func47, Try.ntmps47
  go_wp2_with (first | ((with_reducible refine gate_dst (N := 1) rfl ?_); refine box_event ?hg (N := 1) ?hd (cs := #[.int .i64 a0_0, .int .i64 a0_1, .int .i64 a0_2, .int .i64 a0_3, .slice A0_4 l0_4.length c0_4]) (t := 33) ?hr ?_; (case hd => rfl); (case hg => rfl); (case hr => first | (go_simp; done) | (go_simp; rfl)); intro gb791 hg w3 hbox hb; have n0_ := Aside0.mk (below_step (by repeat (first | (with_reducible first | exact HB.out | apply below_alloc | apply pw_below_drewN | apply below_drew1) | exact HB.out)) hb); have n1_ := Aside0.mk (hbox); have n2_ := Aside0.mk ((by rw [hg]; exact (below_size (by repeat (first | (with_reducible first | exact HB.out | apply below_alloc | apply pw_below_drewN | apply below_drew1) | exact HB.out))) : w.heap.size ≤ gb791)); have n3_ := Aside0.mk ((by rw [hg]; exact (below_size (by repeat (first | (with_reducible first | exact HB.out | apply below_alloc | apply pw_below_drewN | apply below_drew1) | exact HB.out))) : w.heap.size ≤ gb791)); clear HB; have HB := n0_; have BK791 := n1_; have GW791 := n2_; have GE791 := n3_; clear n0_ n1_ n2_ n3_; clear hb hbox hg; have hcz4_0 : w3.cell? ⟨gb791, 0, none⟩ = some (.int .i64 a0_0) := (blk_cell BK791.out 0).trans rfl; have hcz4_1 : w3.cell? ⟨gb791, 1, none⟩ = some (.int .i64 a0_1) := (blk_cell BK791.out 1).trans rfl; have hcz4_2 : w3.cell? ⟨gb791, 2, none⟩ = some (.int .i64 a0_2) := (blk_cell BK791.out 2).trans rfl; have hcz4_3 : w3.cell? ⟨gb791, 3, none⟩ = some (.int .i64 a0_3) := (blk_cell BK791.out 3).trans rfl; have hcz4_4 : w3.cell? ⟨gb791, 4, none⟩ = some (.slice A0_4 l0_4.length c0_4) := (blk_cell BK791.out 4).trans rfl; have hfz4_0 := blk_frozen BK791.out 0; have hfz4_1 := blk_frozen BK791.out 1; have hfz4_2 := blk_frozen BK791.out 2; have hfz4_3 := blk_frozen BK791.out 3; have hfz4_4 := blk_frozen BK791.out 4) | ((with_reducible refine gate_callee (f := 54) rfl ?_); refine goesL_ (some 4) rfl rfl Try.func54 (by kernel_rfl) rfl #[.agg #[.int .i64 a0_0, .int .i64 a0_1, .int .i64 a0_2, .int .i64 a0_3, .slice A0_4 l0_4.length c0_4]] rfl (by (try simp only [List.map_toArray, List.map_cons, List.map_nil]); first | done | rfl | (simp only [List.length_drop, List.length_take]; rfl)) ?_; (with_reducible refine (floor_Scene_check.calls a0_0 a0_1 a0_2 a0_3 _ _ l0_4 t792 _ ?side1 ?side2 A2.out).mono ?_); (case side1 => repeat (first | exact (Kd.C_below HR0_4.out HB.out) | (with_reducible refine Kd.C_alloc ?_ _) | (with_reducible refine Kd.C_drewN ?_ _) | (with_reducible refine Kd.C_drew ?_))); (case side2 => exact HC0_4.out); rintro e w5 ⟨rfl, hb⟩; refine ⟨_, rfl, ?_⟩; have n0_ := Aside0.mk (blk_below (g := gb791) (o := .cells #[.int .i64 a0_0, .int .i64 a0_1, .int .i64 a0_2, .int .i64 a0_3, .slice A0_4 l0_4.length c0_4] 33 (0, 0)) (by (with_reducible repeat (first | refine blk_drewN ?_ _ | refine blk_drew ?_ | refine blk_alloc ?_ _)); exact BK791.out) hb); have n1_ := Aside0.mk (below_step (by repeat (first | (with_reducible first | exact HB.out | apply below_alloc | apply pw_below_drewN | apply below_drew1 | refine below_set ?_ GE791.out) | exact HB.out)) hb); clear BK791; clear HB; have BK791 := n0_; have HB := n1_; clear n0_ n1_; (try clear hb); (try clear hb2); (try clear hk); (try clear hi)))
  go_ret
  exact ⟨by first | rfl | (simp [errW_none, errW_some] <;> rfl) | (simp [*, errW_none, errW_some] <;> rfl), by repeat (first | (with_reducible first | exact HB.out | apply below_alloc | apply pw_below_drewN | apply below_drew1 | refine below_set ?_ GE791.out) | exact HB.out)⟩
end Go.Proofs.Ytdnjmhhjjbdieaa.Q
end
section
namespace Go.Proofs.Ytdnjmhhjjbdieaa.Q
open Go.RowKit Go.Shelf Go.Proofs.YtdnjmhhjjbdieaaW.PrintWords Go.Proofs.YtdnjmhhjjbdieaaW.PrintLast
set_option linter.unusedVariables false
theorem CheckScene.W {a0 a1 a2 a3 r : Int} {A : Option Addr} {c : Nat} {l : List FM} (w : World) (hr : Kd.C k52 w A l.length l) (hc : l.length ≤ c) (h : floor_Scene_check.f a0 a1 a2 a3 l = some r) :
    Calls Try.prog 47 #[.agg #[.int .i64 a0, .int .i64 a1, .int .i64 a2, .int .i64 a3, .slice A l.length c]] w fun e w' => e = .returned (.int .i64 r) ∧ Below w.heap.size w w' :=
  floor_CheckScene.calls a0 a1 a2 a3 A c l r w hr hc (by unfold floor_CheckScene.f; rw [h]; rfl)
theorem Back.R {A : Option Addr} {c : Nat} {t : List FP} {T : List RP} (hT : t.map op = T) (h0 : 0 < T.length) (w : World) (hr : Kd.C k65 w A t.length t) (hc : t.length ≤ c) (ht : t.length ≤ 1000000) :
    Calls Try.prog 43 #[.slice A t.length c] w fun e w' =>
      ∃ (g : Nat) (c' : Nat) (cur : Array Value), e = .returned (.slice (some ⟨g, 0, none⟩) T.length c') ∧ T.length ≤ c' ∧ w.heap.size ≤ g ∧ w'.heap[g]? = some (.cells cur 89 (0, 0)) ∧ Kd.C k89 w' (some ⟨g, 0, none⟩) T.length T ∧ Below w.heap.size w w' := by
  subst hT
  obtain ⟨k, hk⟩ := (Back_ev t ht).rounds
  refine (palantypelaw02_Back.calls k A c t _ w hr hc hk).mono ?_
  rintro e w' ⟨v, rfl, hR, hb⟩
  obtain ⟨A', c', rfl, h1, h2⟩ := Kd.R_reads hR
  obtain ⟨_, inner, ho, _⟩ := hR
  rcases ho.2 with ⟨hv, _⟩ | ⟨g, cap, cur, hv, hg, hh, _⟩
  · have hv2 : Value.slice A' (t.map op).length c' = .slice none 0 0 := hv
    injection hv2 with _ h4 _
    omega
  · have hv2 : Value.slice A' (t.map op).length c' = _ := hv
    injection hv2 with h3 h4 h5
    subst h3
    exact ⟨g, c', cur, rfl, h1, hg, hh, h2, hb⟩
end Go.Proofs.Ytdnjmhhjjbdieaa.Q
end
section
namespace Go.Proofs.Ytdnjmhhjjbdieaa.Q
open Go.RowKit Go.Shelf Go.Proofs.YtdnjmhhjjbdieaaW.PrintWords Go.Proofs.YtdnjmhhjjbdieaaW.PrintLast
set_option linter.unusedVariables false
set_option linter.unusedSimpArgs false
def nT : List FP := (tellTo 2 3 1 3 houseL 5).1
def nGood : List FP := [⟨0, 0⟩, ⟨0, 2⟩, ⟨0, 0⟩, ⟨1, 1⟩, ⟨1, 1⟩]
def nBad : List FP := [⟨1, 1⟩, ⟨1, 2⟩, ⟨1, 0⟩, ⟨1, 1⟩, ⟨1, 1⟩]
def nL1 : List FM := houseL.set 4 ⟨1, 6⟩
def nL8 : List FM := nL1.set 4 ⟨8, 6⟩
def nMany : List FM := List.replicate 41 ⟨0, 0⟩
theorem n_tell : floor_Tell.f 3 2 3 1 houseL = some (nT, 0) := by kernel_rfl
theorem n_held0 : floor_Held.f 3 2 3 1 houseL 0 = some (3, 3, 0) := by kernel_rfl
theorem n_held2 : floor_Held.f 3 2 3 1 houseL 2 = some (0, 0, 0) := by kernel_rfl
theorem n_held3 : floor_Held.f 3 2 3 1 houseL 3 = some (0, 0, 2) := by kernel_rfl
theorem n_prove : floor_ProveTelling.f 3 2 3 1 houseL nT = some true := by kernel_rfl
theorem n_good : floor_ProveTelling.f 3 2 3 1 houseL nGood = some true := by kernel_rfl
theorem n_bad : floor_ProveTelling.f 3 2 3 1 houseL nBad = some false := by kernel_rfl
theorem n_good4 : floor_ProveTelling.f 3 2 3 1 houseL (nGood.take 4) = some false := by kernel_rfl
theorem n_breaks : floor_Breaks.f 3 2 3 1 houseL = some (0, 7) := by kernel_rfl
theorem n_breaks1 : floor_Breaks.f 3 2 3 1 nL1 = some (4, 0) := by kernel_rfl
theorem n_tell1 : floor_Tell.f 3 2 3 1 nL1 = some ([], 10) := by kernel_rfl
theorem n_who1 : floor_Who.f 3 2 3 1 nL1 = some ([], 10) := by kernel_rfl
theorem n_held1 : floor_Held.f 3 2 3 1 nL1 0 = some (0, 0, 10) := by kernel_rfl
theorem n_who0 : floor_Who.f 1 1 1 0 [] = some ([], 0) := by kernel_rfl
theorem n_breaks0 : floor_Breaks.f 1 1 1 0 [] = some (0, 7) := by kernel_rfl
theorem n_check8 : floor_Scene_check.f 3 2 3 1 nL8 = some 1 := by kernel_rfl
theorem n_checkm : floor_Scene_check.f 0 0 0 0 nMany = some 3 := by kernel_rfl
theorem breaks.W {a0 a1 a2 a3 : Int} {A : Option Addr} {c : Nat} {l : List FM} {r1 r2 : Int} (w : World) (hr : Kd.C k52 w A l.length l) (hc : l.length ≤ c) (h : floor_Breaks.f a0 a1 a2 a3 l = some (r1, r2)) :
    Calls Try.prog 28 #[.agg #[.int .i64 a0, .int .i64 a1, .int .i64 a2, .int .i64 a3, .slice A l.length c]] w fun e w' => e = .returned (.tuple #[.int .i64 r1, .int .i64 r2]) ∧ Below w.heap.size w w' :=
  floor_Breaks.calls a0 a1 a2 a3 A c l r1 r2 w hr hc h
theorem prove.L {a0 a1 a2 a3 : Int} {A : Option Addr} {c : Nat} {l : List FM} {A1 : Option Addr} {c1 : Nat} {t : List FP} {r : Bool} {m m1 : Nat} (hm : l.length = m) (hm1 : t.length = m1) (w : World) (hr : Kd.C k52 w A m l) (hc : m ≤ c) (hr1 : Kd.C k65 w A1 m1 t) (hc1 : m1 ≤ c1) (h : floor_ProveTelling.f a0 a1 a2 a3 l t = some r) :
    Calls Try.prog 41 #[.agg #[.int .i64 a0, .int .i64 a1, .int .i64 a2, .int .i64 a3, .slice A m c], .slice A1 m1 c1] w fun e w' => e = .returned (.bool r) ∧ Below w.heap.size w w' := by
  subst hm hm1
  exact prove.W w hr hc hr1 hc1 h
theorem house.R (w : World) : Calls Try.prog 49 #[] w fun e w' =>
      ∃ (g : Nat) (c' : Nat) (cur : Array Value), e = .returned (.agg #[.int .i64 3, .int .i64 2, .int .i64 3, .int .i64 1, .slice (some ⟨g, 0, none⟩) 5 c']) ∧ 5 ≤ c' ∧ w.heap.size ≤ g ∧ w'.heap[g]? = some (.cells cur 52 (0, 0)) ∧ Kd.C k52 w' (some ⟨g, 0, none⟩) 5 houseL ∧ Below w.heap.size w w' := by
  refine (palantypelaw02_house.calls 3 2 3 1 houseL w rfl).mono ?_
  rintro e w' ⟨v, rfl, hR, hb⟩
  obtain ⟨A', c', rfl, h1, h2⟩ := Kd.R_reads hR
  obtain ⟨_, inner, ho, _⟩ := hR
  rcases ho.2 with ⟨hv, _⟩ | ⟨g, cap, cur, hv, hg, hh, _⟩
  · have hv2 : Value.slice A' houseL.length c' = .slice none 0 0 := hv
    injection hv2 with _ h4 _
    exact absurd h4 (by decide)
  · have hv2 : Value.slice A' houseL.length c' = _ := hv
    injection hv2 with h3 h4 h5
    subst h3
    exact ⟨g, c', cur, rfl, h1, hg, hh, h2, hb⟩
theorem pairsP_at (ps : List FP) : ∀ (j i : Nat) (p : FP) (u : Value), ps[j]? = some p → ([Value.int .i64 p.f0, .int .i64 p.f1] : List Value)[i]? = some u → (ps.flatMap fun p => [Value.int .i64 p.f0, .int .i64 p.f1])[j * 2 + i]? = some u := by
  induction ps with
  | nil => intro j i p u h; simp at h
  | cons q ps ih =>
    intro j i p u h hu
    rw [List.flatMap_cons]
    cases j with
    | zero =>
      obtain rfl : q = p := by simpa using h
      have hi : i < 2 := (List.getElem?_eq_some_iff.1 hu).1
      rw [List.getElem?_append_left (by simp; omega), Nat.zero_mul, Nat.zero_add]
      exact hu
    | succ j =>
      rw [List.getElem?_append_right (by simp; omega)]
      have := ih j i p u (by simpa using h) hu
      rw [show (j + 1) * 2 + i - ([Value.int .i64 q.f0, .int .i64 q.f1] : List Value).length = j * 2 + i by simp; omega]
      exact this
theorem pairsP_C {W : World} {b : Nat} {t : TypeId} {ps : List FP} {cs : Array Value} (h : W.heap[b]? = some (.cells cs t (0, 0))) (hcs : cs = (ps.flatMap fun p => [Value.int .i64 p.f0, .int .i64 p.f1]).toArray) (hl : ps.length ≤ 1000) : Kd.C k65 W (some ⟨b, 0, none⟩) ps.length ps := by
  subst hcs
  refine ⟨rfl, by omega, fun _ => ⟨⟨b, 0, none⟩, rfl, fun j p hj => ⟨[.int .i64 p.f0, .int .i64 p.f1], rfl, k65_mk W p, fun i u hu => ?_⟩⟩⟩
  have h2 := pairsP_at ps j i p u hj hu
  have h3 : W.cell? ⟨b, j * 2 + i, none⟩ = some u := cell_of h (by simpa using h2)
  show W.cell? (Addr.add ⟨b, 0, none⟩ (j * 2 + i)) = some u
  generalize j * 2 + i = m at h3
  rcases m with _ | m <;> simpa [Addr.add] using h3
theorem CP_take {W : World} {A : Option Addr} {n m : Nat} {xs : List FP} (h : Kd.C k65 W A n xs) (hm : m ≤ n) : Kd.C k65 W A m (xs.take m) := by
  obtain ⟨h1, h2, h3⟩ := h
  refine ⟨by rw [List.length_take]; omega, by omega, fun h0 => ?_⟩
  obtain ⟨ad, e, h4⟩ := h3 (by omega)
  refine ⟨ad, e, fun j p hj => h4 j p ?_⟩
  rw [List.getElem?_take] at hj
  split at hj
  · exact hj
  · cases hj
theorem CM_zero {W : World} {b : Nat} {t : TypeId} {m : Nat} {cs : Array Value} (h : W.heap[b]? = some (.cells cs t (0, 0))) (hcs : ∀ k, k < m * 2 → cs[k]? = some (.int .u16 0)) (hl : m ≤ 1000) : Kd.C k52 W (some ⟨b, 0, none⟩) m (List.replicate m ⟨0, 0⟩) := by
  refine ⟨by simp, by omega, fun _ => ⟨⟨b, 0, none⟩, rfl, fun j p hj => ?_⟩⟩
  obtain ⟨hj1, hj2⟩ := List.getElem?_eq_some_iff.1 hj
  have hj3 : j < m := by simpa using hj1
  have hp : (⟨0, 0⟩ : FM) = p := by rw [← hj2]; simp
  subst hp
  refine ⟨[.int .u16 0, .int .u16 0], rfl, k52_mk W ⟨0, 0⟩, fun i u hu => ?_⟩
  have hi : i < 2 := by have := (List.getElem?_eq_some_iff.1 hu).1; simpa using this
  have hu0 : u = .int .u16 0 := by
    rcases i with _ | _ | i
    · simpa using hu.symm
    · simpa using hu.symm
    · omega
  have h3 : W.cell? ⟨b, j * 2 + i, none⟩ = some u := cell_of h (by rw [hu0]; exact hcs _ (by omega))
  show W.cell? (Addr.add ⟨b, 0, none⟩ (j * 2 + i)) = some u
  generalize j * 2 + i = m at h3
  rcases m with _ | m <;> simpa [Addr.add] using h3
theorem infoMom : (Try.prog.info? 52).map (fun i => (i.zero, i.size, i.bytes)) = some (some (.agg #[(.int .u16 0), (.int .u16 0)]), 2, 4) := by kernel_rfl
def cells41 : Array Value := madeCells #[Value.int .u16 0, .int .u16 0] 82
theorem made_mom (W : World) : (Instr.makeSlice 31 (.int .i64 41) (.int .i64 41)).run Try.prog W = .ok (.slice (some ⟨W.heap.size, 0, none⟩) 41 41) (W.alloc (.cells cells41 52)) := by
  obtain ⟨inf, hinf, hif⟩ : ∃ i, Try.prog.info? 52 = some i ∧ (i.zero, i.size, i.bytes) = (some (.agg #[(.int .u16 0), (.int .u16 0)]), 2, 4) := by
    have h := infoMom
    cases h2 : Try.prog.info? 52 with
    | none => rw [h2] at h; cases h
    | some i => rw [h2] at h; exact ⟨i, rfl, Option.some.inj h⟩
  simp only [Prod.mk.injEq] at hif
  have := run_makeSlice (P := Try.prog) W 31 52 inf (.agg #[(.int .u16 0), (.int .u16 0)]) Try.underlying31 hinf hif.1 .i64 .i64 41 41 (by omega) (Int.le_refl _) (by rw [hif.2.1]; omega) (by rw [hif.2.2]; omega) (by omega)
  rw [hif.2.1] at this
  exact this
theorem cell8 {W : World} {g n : Nat} {xs : List FM} {f0 f1 : Int} (hC : Kd.C k52 W (some ⟨g, 0, none⟩) n xs) (h0 : 0 < n) (hx : xs[4]? = some ⟨f0, f1⟩) : W.cell? ⟨g, 8, none⟩ = some (.int .u16 f0) := by
  obtain ⟨_, _, h3⟩ := hC
  obtain ⟨ad, e, h4⟩ := h3 h0
  cases e
  obtain ⟨c, _, hK, hu⟩ := h4 4 _ hx
  obtain ⟨u, v, rfl, h5, h6⟩ := hK
  have h5 : u = [Value.int .u16 f0] := h5
  subst h5
  exact hu 0 (.int .u16 f0) rfl
set_option maxRecDepth 100000 in
set_option maxHeartbeats 8000000 in
theorem palantypelaw02_FloorNames.walk (w : World) : Calls Try.prog 15 #[] w fun e w' => e = .returned (.bool true) ∧ Below w.heap.size w w' := by
  have hu := Try.underlying33
  have hu2 := Try.underlying42
  have hu3 := Try.underlying52
  have hu4 := Try.underlying65
  go_enter Try.func15, Try.ntmps15
  have HB := Lib.hid (Below.refl w.heap.size w)
  go_wp2_with fail
  refine (house.R _).mono ?_
  rintro e V1 ⟨g, cg, cur, rfl, hcg, hgs, hgh, hC, hb⟩
  replace HB := Lib.hid (below_then HB.out HB.out.size hb)
  have HCL := Lib.hid hC
  clear hC
  have HGH := Lib.hid hgh
  clear hgh
  clear hb
  go_wp2_with fail
  have kg := (Array.getElem?_eq_some_iff.1 HGH.out).1
  obtain ⟨V2, hW⟩ : ∃ W, V1.alloc (.cells #[.int .i64 3, .int .i64 2, .int .i64 3, .int .i64 1, .slice (some ⟨g, 0, none⟩) 5 cg] 33) = W := ⟨_, rfl⟩
  have hb : Below V1.heap.size V1 V2 := by rw [← hW]; exact (Below.refl _ V1).alloc (Nat.le_refl _) _
  have HXB : Hid (V2.heap[V1.heap.size]? = some (.cells #[.int .i64 3, .int .i64 2, .int .i64 3, .int .i64 1, .slice (some ⟨g, 0, none⟩) 5 cg] 33 (0, 0))) := Lib.hid (by rw [← hW]; exact heap_new rfl)
  rw [hW]
  clear hW
  replace HCL := Lib.hid (Kd.C_below HCL.out hb)
  replace HGH := Lib.hid (blkBel HGH.out hb)
  replace HB := Lib.hid (below_then HB.out HB.out.size hb)
  clear hb
  obtain ⟨e0, e1, e2, e3, e4⟩ := agg5 HXB.out
  have kx := (Array.getElem?_eq_some_iff.1 HXB.out).1
  go_wp2_with fail
  refine (Tell.W _ HCL.out hcg n_tell).mono ?_
  rintro e V3 ⟨At, ct, rfl, hct, hC, hb⟩
  replace HCL := Lib.hid (Kd.C_below HCL.out hb)
  replace HGH := Lib.hid (blkBel HGH.out hb)
  replace HXB := Lib.hid (blkBel HXB.out hb)
  replace HB := Lib.hid (below_then HB.out HB.out.size hb)
  have HCt := Lib.hid hC
  clear hC
  clear hb
  clear e0 e1 e2 e3 e4 kx
  obtain ⟨e0, e1, e2, e3, e4⟩ := agg5 HXB.out
  have kx := (Array.getElem?_eq_some_iff.1 HXB.out).1
  go_wp2_with fail
  refine (held.W _ HCL.out hcg n_held0).mono ?_
  rintro e V4 ⟨rfl, hb⟩
  replace HCL := Lib.hid (Kd.C_below HCL.out hb)
  replace HGH := Lib.hid (blkBel HGH.out hb)
  replace HXB := Lib.hid (blkBel HXB.out hb)
  replace HCt := Lib.hid (Kd.C_below HCt.out hb)
  replace HB := Lib.hid (below_then HB.out HB.out.size hb)
  clear hb
  clear e0 e1 e2 e3 e4 kx
  obtain ⟨e0, e1, e2, e3, e4⟩ := agg5 HXB.out
  have kx := (Array.getElem?_eq_some_iff.1 HXB.out).1
  go_wp2_with fail
  obtain ⟨V5, hW⟩ : ∃ W, V4.alloc (.cells #[.int .i64 3, .int .i64 3] 42) = W := ⟨_, rfl⟩
  have hb : Below V4.heap.size V4 V5 := by rw [← hW]; exact (Below.refl _ V4).alloc (Nat.le_refl _) _
  have HR0 : Hid (V5.heap[V4.heap.size]? = some (.cells #[.int .i64 3, .int .i64 3] 42 (0, 0))) := Lib.hid (by rw [← hW]; exact heap_new rfl)
  rw [hW]
  clear hW
  replace HCL := Lib.hid (Kd.C_below HCL.out hb)
  replace HGH := Lib.hid (blkBel HGH.out hb)
  replace HXB := Lib.hid (blkBel HXB.out hb)
  replace HCt := Lib.hid (Kd.C_below HCt.out hb)
  replace HB := Lib.hid (below_then HB.out HB.out.size hb)
  clear hb
  clear e0 e1 e2 e3 e4 kx
  obtain ⟨e0, e1, e2, e3, e4⟩ := agg5 HXB.out
  have kx := (Array.getElem?_eq_some_iff.1 HXB.out).1
  go_wp2_with fail
  refine (held.W _ HCL.out hcg n_held2).mono ?_
  rintro e V6 ⟨rfl, hb⟩
  replace HCL := Lib.hid (Kd.C_below HCL.out hb)
  replace HGH := Lib.hid (blkBel HGH.out hb)
  replace HXB := Lib.hid (blkBel HXB.out hb)
  replace HCt := Lib.hid (Kd.C_below HCt.out hb)
  replace HR0 := Lib.hid (blkBel HR0.out hb)
  replace HB := Lib.hid (below_then HB.out HB.out.size hb)
  clear hb
  clear e0 e1 e2 e3 e4 kx
  obtain ⟨e0, e1, e2, e3, e4⟩ := agg5 HXB.out
  have kx := (Array.getElem?_eq_some_iff.1 HXB.out).1
  go_wp2_with fail
  obtain ⟨V7, hW⟩ : ∃ W, V6.alloc (.cells #[.int .i64 0, .int .i64 0] 42) = W := ⟨_, rfl⟩
  have hb : Below V6.heap.size V6 V7 := by rw [← hW]; exact (Below.refl _ V6).alloc (Nat.le_refl _) _
  have HR2 : Hid (V7.heap[V6.heap.size]? = some (.cells #[.int .i64 0, .int .i64 0] 42 (0, 0))) := Lib.hid (by rw [← hW]; exact heap_new rfl)
  rw [hW]
  clear hW
  replace HCL := Lib.hid (Kd.C_below HCL.out hb)
  replace HGH := Lib.hid (blkBel HGH.out hb)
  replace HXB := Lib.hid (blkBel HXB.out hb)
  replace HCt := Lib.hid (Kd.C_below HCt.out hb)
  replace HR0 := Lib.hid (blkBel HR0.out hb)
  replace HB := Lib.hid (below_then HB.out HB.out.size hb)
  clear hb
  clear e0 e1 e2 e3 e4 kx
  obtain ⟨e0, e1, e2, e3, e4⟩ := agg5 HXB.out
  have kx := (Array.getElem?_eq_some_iff.1 HXB.out).1
  go_wp2_with fail
  refine (prove.W _ HCL.out hcg HCt.out hct n_prove).mono ?_
  rintro e V8 ⟨rfl, hb⟩
  replace HCL := Lib.hid (Kd.C_below HCL.out hb)
  replace HGH := Lib.hid (blkBel HGH.out hb)
  replace HXB := Lib.hid (blkBel HXB.out hb)
  replace HCt := Lib.hid (Kd.C_below HCt.out hb)
  replace HR0 := Lib.hid (blkBel HR0.out hb)
  replace HR2 := Lib.hid (blkBel HR2.out hb)
  replace HB := Lib.hid (below_then HB.out HB.out.size hb)
  clear hb
  clear HCt
  clear e0 e1 e2 e3 e4 kx
  obtain ⟨e0, e1, e2, e3, e4⟩ := agg5 HXB.out
  have kx := (Array.getElem?_eq_some_iff.1 HXB.out).1
  obtain ⟨r0, r1⟩ := agg2 HR0.out
  obtain ⟨s0, s1⟩ := agg2 HR2.out
  go_wp2_with fail
  obtain ⟨V9, hW⟩ : ∃ W, (V8.alloc (.cells #[.int .i64 0, .int .i64 0, .int .i64 0, .int .i64 2, .int .i64 0, .int .i64 0, .int .i64 1, .int .i64 1, .int .i64 1, .int .i64 1] 65)).alloc (.cells #[.int .i64 1, .int .i64 1, .int .i64 1, .int .i64 2, .int .i64 1, .int .i64 0, .int .i64 1, .int .i64 1, .int .i64 1, .int .i64 1] 65) = W := ⟨_, rfl⟩
  have hb : Below V8.heap.size V8 V9 := by rw [← hW]; exact ((Below.refl _ V8).alloc (Nat.le_refl _) _).alloc (by simp) _
  have hgd : V9.heap[V8.heap.size]? = some (.cells #[.int .i64 0, .int .i64 0, .int .i64 0, .int .i64 2, .int .i64 0, .int .i64 0, .int .i64 1, .int .i64 1, .int .i64 1, .int .i64 1] 65 (0, 0)) := by rw [← hW]; exact heap_old (heap_new rfl)
  have hbd : V9.heap[V8.heap.size + 1]? = some (.cells #[.int .i64 1, .int .i64 1, .int .i64 1, .int .i64 2, .int .i64 1, .int .i64 0, .int .i64 1, .int .i64 1, .int .i64 1, .int .i64 1] 65 (0, 0)) := by rw [← hW]; exact heap_new (by simp)
  rw [hW]
  clear hW
  have HCG : Hid (Kd.C k65 V9 (some ⟨V8.heap.size, 0, none⟩) nGood.length nGood) := Lib.hid (pairsP_C hgd rfl (by decide))
  have HCB : Hid (Kd.C k65 V9 (some ⟨V8.heap.size + 1, 0, none⟩) nBad.length nBad) := Lib.hid (pairsP_C hbd rfl (by decide))
  clear hgd hbd r0 r1 s0 s1
  replace HCL := Lib.hid (Kd.C_below HCL.out hb)
  replace HGH := Lib.hid (blkBel HGH.out hb)
  replace HXB := Lib.hid (blkBel HXB.out hb)
  replace HR0 := Lib.hid (blkBel HR0.out hb)
  replace HR2 := Lib.hid (blkBel HR2.out hb)
  replace HB := Lib.hid (below_then HB.out HB.out.size hb)
  clear hb
  clear e0 e1 e2 e3 e4 kx
  obtain ⟨e0, e1, e2, e3, e4⟩ := agg5 HXB.out
  have kx := (Array.getElem?_eq_some_iff.1 HXB.out).1
  clear HR0 HR2
  refine (breaks.W _ HCL.out hcg n_breaks).mono ?_
  rintro e V10 ⟨rfl, hb⟩
  replace HCL := Lib.hid (Kd.C_below HCL.out hb)
  replace HGH := Lib.hid (blkBel HGH.out hb)
  replace HXB := Lib.hid (blkBel HXB.out hb)
  replace HCG := Lib.hid (Kd.C_below HCG.out hb)
  replace HCB := Lib.hid (Kd.C_below HCB.out hb)
  replace HB := Lib.hid (below_then HB.out HB.out.size hb)
  clear hb
  clear e0 e1 e2 e3 e4 kx
  obtain ⟨e0, e1, e2, e3, e4⟩ := agg5 HXB.out
  have kx := (Array.getElem?_eq_some_iff.1 HXB.out).1
  go_wp2_with fail
  refine (held.W _ HCL.out hcg n_held3).mono ?_
  rintro e V11 ⟨rfl, hb⟩
  replace HCL := Lib.hid (Kd.C_below HCL.out hb)
  replace HGH := Lib.hid (blkBel HGH.out hb)
  replace HXB := Lib.hid (blkBel HXB.out hb)
  replace HCG := Lib.hid (Kd.C_below HCG.out hb)
  replace HCB := Lib.hid (Kd.C_below HCB.out hb)
  replace HB := Lib.hid (below_then HB.out HB.out.size hb)
  clear hb
  clear e0 e1 e2 e3 e4 kx
  obtain ⟨e0, e1, e2, e3, e4⟩ := agg5 HXB.out
  have kx := (Array.getElem?_eq_some_iff.1 HXB.out).1
  go_wp2_with fail
  obtain ⟨V12, hW⟩ : ∃ W, V11.alloc (.cells #[.int .i64 0, .int .i64 0] 42) = W := ⟨_, rfl⟩
  have hb : Below V11.heap.size V11 V12 := by rw [← hW]; exact (Below.refl _ V11).alloc (Nat.le_refl _) _
  have HR3 : Hid (V12.heap[V11.heap.size]? = some (.cells #[.int .i64 0, .int .i64 0] 42 (0, 0))) := Lib.hid (by rw [← hW]; exact heap_new rfl)
  rw [hW]
  clear hW
  replace HCL := Lib.hid (Kd.C_below HCL.out hb)
  replace HGH := Lib.hid (blkBel HGH.out hb)
  replace HXB := Lib.hid (blkBel HXB.out hb)
  replace HCG := Lib.hid (Kd.C_below HCG.out hb)
  replace HCB := Lib.hid (Kd.C_below HCB.out hb)
  replace HB := Lib.hid (below_then HB.out HB.out.size hb)
  clear hb
  clear e0 e1 e2 e3 e4 kx
  obtain ⟨e0, e1, e2, e3, e4⟩ := agg5 HXB.out
  have kx := (Array.getElem?_eq_some_iff.1 HXB.out).1
  go_wp2_with fail
  have BR : Hid (Below V12.heap.size V12 V12) := Lib.hid (Below.refl _ _)
  first
  | (go_region_held3 (fun w' => w'.cell? ⟨V1.heap.size, 0, none⟩ = some (.int .i64 3) ∧ w'.cell? ⟨V1.heap.size, 1, none⟩ = some (.int .i64 2) ∧ w'.cell? ⟨V1.heap.size, 2, none⟩ = some (.int .i64 3) ∧ w'.cell? ⟨V1.heap.size, 3, none⟩ = some (.int .i64 1) ∧ w'.cell? ⟨V1.heap.size, 4, none⟩ = some (.slice (some ⟨g, 0, none⟩) 5 cg)) ((exact agg5 (blkBel HXB.out (by first | exact BR.out | exact BR.out.drew | exact BR.out.drew.drew | exact pw_below_drewN BR.out _)))) ((first
      | (go_at_call 41; (with_reducible refine (prove.L (l := houseL) (t := nGood) (m := 5) (m1 := 5) rfl rfl _ (Kd.C_below HCL.out (by first | exact BR.out | exact BR.out.drew | exact BR.out.drew.drew)) hcg (Kd.C_below HCG.out (by first | exact BR.out | exact BR.out.drew | exact BR.out.drew.drew)) (by decide) n_good).mono ?_); rintro e wz ⟨rfl, hbz⟩; replace BR := Lib.hid (below_then (h := (by first | exact BR.out | exact BR.out.drew | exact BR.out.drew.drew)) (hB := (by first | exact BR.out.size | simpa using BR.out.size)) (k := hbz)); clear hbz)
      | (go_at_call 41; (with_reducible refine (prove.L (l := houseL) (t := nBad) (m := 5) (m1 := 5) rfl rfl _ (Kd.C_below HCL.out (by first | exact BR.out | exact BR.out.drew | exact BR.out.drew.drew)) hcg (Kd.C_below HCB.out (by first | exact BR.out | exact BR.out.drew | exact BR.out.drew.drew)) (by decide) n_bad).mono ?_); rintro e wz ⟨rfl, hbz⟩; replace BR := Lib.hid (below_then (h := (by first | exact BR.out | exact BR.out.drew | exact BR.out.drew.drew)) (hB := (by first | exact BR.out.size | simpa using BR.out.size)) (k := hbz)); clear hbz)
      | (go_at_call 41; (with_reducible refine (prove.L (l := houseL) (t := (nGood.take 4)) (m := 5) (m1 := 4) rfl rfl _ (Kd.C_below HCL.out (by first | exact BR.out | exact BR.out.drew | exact BR.out.drew.drew)) hcg (Kd.C_below (CP_take HCG.out (by decide)) (by first | exact BR.out | exact BR.out.drew | exact BR.out.drew.drew)) (by decide) n_good4).mono ?_); rintro e wz ⟨rfl, hbz⟩; replace BR := Lib.hid (below_then (h := (by first | exact BR.out | exact BR.out.drew | exact BR.out.drew.drew)) (hB := (by first | exact BR.out.size | simpa using BR.out.size)) (k := hbz)); clear hbz))))
  | fail
  all_goals
    have hb := BR.out
    clear BR e0 e1 e2 e3 e4 kx
    clear HCG HCB HR3
    replace HCL := Lib.hid (Kd.C_below HCL.out hb)
    replace HGH := Lib.hid (blkBel HGH.out hb)
    replace HXB := Lib.hid (blkBel HXB.out hb)
    replace HB := Lib.hid (below_then HB.out HB.out.size hb)
    clear hb
    obtain ⟨e0, e1, e2, e3, e4⟩ := agg5 HXB.out
    have kx := (Array.getElem?_eq_some_iff.1 HXB.out).1
    have m8 : wz.cell? ⟨g, 8, none⟩ = some (.int .u16 2) := cell8 HCL.out (by decide) rfl
    have hfz := not_frozen (i := 8) HGH.out
    have hne : ¬ V1.heap.size = g := by omega
    have hne2 : ¬ g = V1.heap.size := by omega
    go_wp2_with fail
    obtain ⟨V13, hW⟩ : ∃ W, wz.setCell ⟨g, 8, none⟩ (.int .u16 1) = W := ⟨_, rfl⟩
    have hC2 : Kd.C k52 V13 (some ⟨g, 0, none⟩) 5 nL1 := by rw [← hW]; exact CM_set0 (k := 4) HCL.out HGH.out (by decide) rfl rfl rfl
    have hxb : V13.heap[V1.heap.size]? = some (.cells #[.int .i64 3, .int .i64 2, .int .i64 3, .int .i64 1, .slice (some ⟨g, 0, none⟩) 5 cg] 33 (0, 0)) := by rw [← hW]; exact (Below.heap_setCell wz ⟨g, 8, none⟩ _ V1.heap.size (by show V1.heap.size ≠ g; omega)).trans HXB.out
    have hgh2 := heap_set HGH.out 8 (.int .u16 1)
    rw [hW] at hgh2
    have hsz_V13 : V13.heap.size = wz.heap.size := by rw [← hW]; simp [World.setCell]
    have hb2 : Below w.heap.size w V13 := by rw [← hW]; exact HB.out.setCell (by simpa using hgs) _
    rw [hW]
    clear hW hfz hne hne2 m8 e0 e1 e2 e3 e4 kx
    replace HCL := Lib.hid hC2
    replace HXB := Lib.hid hxb
    replace HGH := Lib.hid hgh2
    replace HB := Lib.hid hb2
    clear hC2 hxb hgh2 hb2
    obtain ⟨e0, e1, e2, e3, e4⟩ := agg5 HXB.out
    have kx := (Array.getElem?_eq_some_iff.1 HXB.out).1
    refine (breaks.W _ HCL.out hcg n_breaks1).mono ?_
    rintro e V14 ⟨rfl, hb⟩
    replace HCL := Lib.hid (Kd.C_below HCL.out hb)
    replace HGH := Lib.hid (blkBel HGH.out hb)
    replace HXB := Lib.hid (blkBel HXB.out hb)
    replace HB := Lib.hid (below_then HB.out HB.out.size hb)
    clear hb
    clear e0 e1 e2 e3 e4 kx
    obtain ⟨e0, e1, e2, e3, e4⟩ := agg5 HXB.out
    have kx := (Array.getElem?_eq_some_iff.1 HXB.out).1
    go_wp2_with fail
    refine (Tell.W _ HCL.out hcg n_tell1).mono ?_
    rintro e V15 ⟨At1, ct1, rfl, hct1, hC, hb⟩
    replace HCL := Lib.hid (Kd.C_below HCL.out hb)
    replace HGH := Lib.hid (blkBel HGH.out hb)
    replace HXB := Lib.hid (blkBel HXB.out hb)
    replace HB := Lib.hid (below_then HB.out HB.out.size hb)
    have HCt1 := Lib.hid hC
    clear hC
    clear hb
    clear e0 e1 e2 e3 e4 kx
    obtain ⟨e0, e1, e2, e3, e4⟩ := agg5 HXB.out
    have kx := (Array.getElem?_eq_some_iff.1 HXB.out).1
    go_wp2_with fail
    refine (Who.W _ HCL.out hcg n_who1).mono ?_
    rintro e V16 ⟨Aw1, cw1, rfl, hcw1, hC, hb⟩
    replace HCL := Lib.hid (Kd.C_below HCL.out hb)
    replace HGH := Lib.hid (blkBel HGH.out hb)
    replace HXB := Lib.hid (blkBel HXB.out hb)
    replace HCt1 := Lib.hid (Kd.C_below HCt1.out hb)
    replace HB := Lib.hid (below_then HB.out HB.out.size hb)
    have HCw1 := Lib.hid hC
    clear hC
    clear hb
    clear e0 e1 e2 e3 e4 kx
    obtain ⟨e0, e1, e2, e3, e4⟩ := agg5 HXB.out
    have kx := (Array.getElem?_eq_some_iff.1 HXB.out).1
    clear HCt1 HCw1
    go_wp2_with fail
    refine (held.W _ HCL.out hcg n_held1).mono ?_
    rintro e V17 ⟨rfl, hb⟩
    replace HCL := Lib.hid (Kd.C_below HCL.out hb)
    replace HGH := Lib.hid (blkBel HGH.out hb)
    replace HXB := Lib.hid (blkBel HXB.out hb)
    replace HB := Lib.hid (below_then HB.out HB.out.size hb)
    clear hb
    clear e0 e1 e2 e3 e4 kx
    obtain ⟨e0, e1, e2, e3, e4⟩ := agg5 HXB.out
    have kx := (Array.getElem?_eq_some_iff.1 HXB.out).1
    have m8 : V17.cell? ⟨g, 8, none⟩ = some (.int .u16 1) := cell8 HCL.out (by decide) rfl
    have hfz := not_frozen (i := 8) HGH.out
    have hne : ¬ V1.heap.size = g := by omega
    have hne2 : ¬ g = V1.heap.size := by omega
    have kg2 := (Array.getElem?_eq_some_iff.1 HGH.out).1
    go_wp2_with fail
    obtain ⟨V18, hW⟩ : ∃ W, V17.setCell ⟨g, 8, none⟩ (.int .u16 8) = W := ⟨_, rfl⟩
    have hC2 : Kd.C k52 V18 (some ⟨g, 0, none⟩) 5 nL8 := by rw [← hW]; exact CM_set0 (k := 4) HCL.out HGH.out (by decide) rfl rfl rfl
    have hxb : V18.heap[V1.heap.size]? = some (.cells #[.int .i64 3, .int .i64 2, .int .i64 3, .int .i64 1, .slice (some ⟨g, 0, none⟩) 5 cg] 33 (0, 0)) := by rw [← hW]; exact (Below.heap_setCell V17 ⟨g, 8, none⟩ _ V1.heap.size (by show V1.heap.size ≠ g; omega)).trans HXB.out
    have hgh2 := heap_set HGH.out 8 (.int .u16 8)
    rw [hW] at hgh2
    have hsz_V18 : V18.heap.size = V17.heap.size := by rw [← hW]; simp [World.setCell]
    have hb2 : Below w.heap.size w V18 := by rw [← hW]; exact HB.out.setCell (by simpa using hgs) _
    rw [hW]
    clear hW hfz hne hne2 m8 e0 e1 e2 e3 e4 kx
    replace HCL := Lib.hid hC2
    replace HXB := Lib.hid hxb
    replace HGH := Lib.hid hgh2
    replace HB := Lib.hid hb2
    clear hC2 hxb hgh2 hb2
    obtain ⟨e0, e1, e2, e3, e4⟩ := agg5 HXB.out
    have kx := (Array.getElem?_eq_some_iff.1 HXB.out).1
    obtain ⟨V19, hW⟩ : ∃ W, V18.alloc (.cells #[.int .i64 0, .int .i64 0] 42) = W := ⟨_, rfl⟩
    have hb : Below V18.heap.size V18 V19 := by rw [← hW]; exact (Below.refl _ V18).alloc (Nat.le_refl _) _
    have HSZ : V19.heap.size = V18.heap.size + 1 := by rw [← hW]; simp
    have HR1 : Hid (V19.heap[V18.heap.size]? = some (.cells #[.int .i64 0, .int .i64 0] 42 (0, 0))) := Lib.hid (by rw [← hW]; exact heap_new rfl)
    rw [hW]
    clear hW
    replace HCL := Lib.hid (Kd.C_below HCL.out hb)
    replace HGH := Lib.hid (blkBel HGH.out hb)
    replace HXB := Lib.hid (blkBel HXB.out hb)
    replace HB := Lib.hid (below_then HB.out HB.out.size hb)
    clear hb
    have en : V19.heap.size = V17.heap.size + 1 := by have h1 := (Array.getElem?_eq_some_iff.1 HR1.out).1; have h2 := hsz_V18; have h3 := HSZ; omega
    obtain ⟨V20, hW⟩ : ∃ W, V19.alloc (.cells #[.int .i64 1, .int .i64 1, .int .i64 1, .int .i64 0, .slice none 0 0] 33) = W := ⟨_, rfl⟩
    have hb : Below V19.heap.size V19 V20 := by rw [← hW]; exact (Below.refl _ V19).alloc (Nat.le_refl _) _
    have HNB : Hid (V20.heap[V19.heap.size]? = some (.cells #[.int .i64 1, .int .i64 1, .int .i64 1, .int .i64 0, .slice none 0 0] 33 (0, 0))) := Lib.hid (by rw [← hW]; exact heap_new rfl)
    rw [hW]
    clear hW
    replace HCL := Lib.hid (Kd.C_below HCL.out hb)
    replace HGH := Lib.hid (blkBel HGH.out hb)
    replace HXB := Lib.hid (blkBel HXB.out hb)
    replace HR1 := Lib.hid (blkBel HR1.out hb)
    replace HB := Lib.hid (below_then HB.out HB.out.size hb)
    clear hb
    rw [en] at HNB
    clear HR1
    refine (Who.W (A := none) (c := 0) (l := []) _ ⟨rfl, by simp, fun h => by simp at h⟩ (by simp) n_who0).mono ?_
    rintro e V21 ⟨Aw2, cw2, rfl, hcw2, hC, hb⟩
    replace HCL := Lib.hid (Kd.C_below HCL.out hb)
    replace HGH := Lib.hid (blkBel HGH.out hb)
    replace HXB := Lib.hid (blkBel HXB.out hb)
    replace HNB := Lib.hid (blkBel HNB.out hb)
    replace HB := Lib.hid (below_then HB.out HB.out.size hb)
    have HCw2 := Lib.hid hC
    clear hC
    clear hb
    clear e0 e1 e2 e3 e4 kx
    obtain ⟨e0, e1, e2, e3, e4⟩ := agg5 HXB.out
    have kx := (Array.getElem?_eq_some_iff.1 HXB.out).1
    obtain ⟨f0, f1, f2, f3, f4⟩ := agg5 HNB.out
    clear HCw2
    go_wp2_with fail
    refine (breaks.W (A := none) (c := 0) (l := []) _ ⟨rfl, by simp, fun h => by simp at h⟩ (by simp) n_breaks0).mono ?_
    rintro e V22 ⟨rfl, hb⟩
    replace HCL := Lib.hid (Kd.C_below HCL.out hb)
    replace HGH := Lib.hid (blkBel HGH.out hb)
    replace HXB := Lib.hid (blkBel HXB.out hb)
    replace HNB := Lib.hid (blkBel HNB.out hb)
    replace HB := Lib.hid (below_then HB.out HB.out.size hb)
    clear hb
    clear e0 e1 e2 e3 e4 kx f0 f1 f2 f3 f4
    obtain ⟨e0, e1, e2, e3, e4⟩ := agg5 HXB.out
    have kx := (Array.getElem?_eq_some_iff.1 HXB.out).1
    obtain ⟨f0, f1, f2, f3, f4⟩ := agg5 HNB.out
    go_wp2_with fail
    refine (CheckScene.W _ HCL.out hcg n_check8).mono ?_
    rintro e V23 ⟨rfl, hb⟩
    replace HCL := Lib.hid (Kd.C_below HCL.out hb)
    replace HGH := Lib.hid (blkBel HGH.out hb)
    replace HXB := Lib.hid (blkBel HXB.out hb)
    replace HNB := Lib.hid (blkBel HNB.out hb)
    replace HB := Lib.hid (below_then HB.out HB.out.size hb)
    clear hb
    clear e0 e1 e2 e3 e4 kx f0 f1 f2 f3 f4
    obtain ⟨e0, e1, e2, e3, e4⟩ := agg5 HXB.out
    have kx := (Array.getElem?_eq_some_iff.1 HXB.out).1
    have hmk := made_mom V23
    go_wp2_with fail
    clear hmk
    obtain ⟨V24, hW⟩ : ∃ W, V23.alloc (.cells cells41 52) = W := ⟨_, rfl⟩
    have hb : Below V23.heap.size V23 V24 := by rw [← hW]; exact (Below.refl _ V23).alloc (Nat.le_refl _) _
    have hmb : V24.heap[V23.heap.size]? = some (.cells cells41 52 (0, 0)) := by rw [← hW]; exact heap_new rfl
    rw [hW]
    clear hW
    have hCM : Kd.C k52 V24 (some ⟨V23.heap.size, 0, none⟩) nMany.length nMany := CM_zero hmb (fun k hk => made_zero 82 k hk) (by decide)
    replace HB := Lib.hid (below_then HB.out HB.out.size hb)
    clear hb hmb
    refine (CheckScene.W _ hCM (by decide) n_checkm).mono ?_
    rintro e V25 ⟨rfl, hb⟩
    replace HB := Lib.hid (below_then HB.out HB.out.size hb)
    clear hb
    go_wp2_with fail
    refine (awake.W _).mono ?_
    rintro e V26 ⟨rfl, hb⟩
    replace HB := Lib.hid (below_then HB.out HB.out.size hb)
    clear hb
    go_wp2_with fail
    go_ret
    exact ⟨rfl, HB.out⟩
end Go.Proofs.Ytdnjmhhjjbdieaa.Q
end
section
namespace Go.Proofs.Ytdnjmhhjjbdieaa.floorNames
open Go.ChangeShapes Go.WideShapes Go.ChangeAt Go.RowKit Go.Proofs.Ytdnjmhhjjbdieaa.Q
set_option linter.unusedVariables false
theorem own : ownKnob Try.prog.godebug = none := by kernel_rfl
theorem laidOut : laidOutB Try.prog = true := by kernel_rfl
set_option maxRecDepth 100000 in
theorem lifted (os : Os) (started : os.Started) (H : Type) (enc : TypeId × Value → H) :
    ReturnsInHanded {} Try.checked os 15 .any (Rows.floorNamesSpec.pre6 enc Try.prog Try.f15 Rows.floorNamesRow.domain false) (Rows.floorNamesSpec.post enc Try.prog Try.f15 false true false false) := by
  refine returnsInHanded_of_change_sized (C := Try.checked) own started (by kernel_rfl) Try.func15
    (ChangeSpec.witness6 (enc := enc) (C := Try.checked) false ⟨#[], #[], []⟩ 8 (by kernel_rfl) (by kernel_rfl) (by kernel_rfl) (by kernel_rfl)) ?_
  intro W base args ds gs before hval0 hW hcnd hsz0 _
  have hval : ∀ (j : Nat) t v, Try.f15.params[j]? = some t → args[j]? = some v → Value.okWide Try.prog W .any base t v := hval0
  have hW' := hW
  obtain ⟨p, q, hA0, hV, rfl, hfz, hnd⟩ := hW
  have hA : DataW.TrodAll enc Try.prog W 0 (fun _ => true) true Try.f15.params.toList args.toList ds p := hA0
  rw [Try.params15] at hA hval
  obtain ⟨rfl, rfl, rfl⟩ := trodAll_none hA
  obtain ⟨rfl, rfl⟩ := trodVars_none hV
  clear hA0 hval0 hsz0
  refine Calls.mono (palantypelaw02_FloorNames.walk  (w := W)) (fun e W' ⟨he, bel⟩ => ?_)
  subst he
  exact ⟨_, rfl, _, _, _, [], _, [], hW', trodAll_mk1 (shut_bool Try.underlying4 _), trodAll_mk0, rfl, bel.frame _, fun h => by cases h⟩
theorem over : Rows.floorNamesRow.holds Try.pinned (OpenSpec.ofChange Rows.floorNamesSpec) :=
  OpenClaim.holds_of_wide 15 Try.f15 rfl rfl rfl rfl rfl rfl rfl ⟨rfl, rfl, rfl, rfl, rfl⟩ rfl rfl rfl rfl rfl (by kernel_rfl) Try.func15 (by kernel_rfl)
    (of_decide_eq_true (by kernel_rfl)) (by unfold Func.isWrapper; first | (rw [if_pos (by decide +kernel)]; kernel_rfl) | (rw [if_neg (by decide +kernel)]; exact ⟨rfl, rfl⟩))
    (fun os started H enc _ => lifted os started H enc)
theorem proved : Rows.FloorNamesSaid := over
#print axioms proved
end Go.Proofs.Ytdnjmhhjjbdieaa.floorNames
namespace Go.Proofs.Ytdnjmhhjjbdieaa
theorem floorNames_holds : Rows.FloorNamesSaid := floorNames.proved
end Go.Proofs.Ytdnjmhhjjbdieaa
end
