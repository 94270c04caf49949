/- Texts of a proof, joined: see the last one. -/
import Derived.Test.YtdnjmhhjjbdieaaSHld1
import Derived.Test.YtdnjmhhjjbdieaaSHld2
import Derived.Test.YtdnjmhhjjbdieaaSHld6
import Derived.Test.YtdnjmhhjjbdieaaSHld8
import Derived.Test.YtdnjmhhjjbdieaaSHld10
import Derived.Test.YtdnjmhhjjbdieaaSHld11
import Derived.Laws.StructEq
import Derived.Laws.MakeOwn
namespace Go.Proofs.YtdnjmhhjjbdieaaW.PrintLast
end Go.Proofs.YtdnjmhhjjbdieaaW.PrintLast
namespace Go.Proofs.YtdnjmhhjjbdieaaW.PrintWords
end Go.Proofs.YtdnjmhhjjbdieaaW.PrintWords
section
namespace Go.Proofs.Ytdnjmhhjjbdieaa.Q
open Go.RowKit Go.Proofs.YtdnjmhhjjbdieaaW.PrintWords Go.Proofs.YtdnjmhhjjbdieaaW.PrintLast
set_option linter.unusedVariables false
set_option linter.unusedSimpArgs false
def palantyperef02_Held.l0 : Nat → List (List (S89)) → Int → Int → Int → Int → Option (Int × Int)
  | 0, _, _, _, _, _ => none
  | k + 1, x0, x1, x6, x229000, x229001 => if x6 < (x0.length : Int) then (if 0 ≤ x6 then ((palantyperef02_Floor.f k (rd_L11 x0 x6) x1).bind fun t230 => (palantyperef02_Held.l0 k x0 x1 (wrap64 (x6 + 1)) (mn x229000 t230) (mx x229001 t230))) else (none)) else (some (x229000, x229001))
def palantyperef02_Held.f (k : Nat) (l0 : List (List (S89))) (a1 : Int) : Option (Int × Int) := if 0 < (l0.length : Int) then ((palantyperef02_Floor.f k (rd_L11 l0 0) a1).bind fun t225 => ((palantyperef02_Floor.f k (rd_L11 l0 0) a1).bind fun t227 => (palantyperef02_Held.l0 k l0 a1 1 t225 t227))) else (none)
theorem palantyperef02_Held.mono_l : ∀ k, (∀ y0 y1 y2 y3 y4, LeO (palantyperef02_Held.l0 k y0 y1 y2 y3 y4) (palantyperef02_Held.l0 (k + 1) y0 y1 y2 y3 y4))
  | 0 => fun _ _ _ _ _ r h => by simp [palantyperef02_Held.l0] at h
  | k + 1 => by
    have ih0 := palantyperef02_Held.mono_l k
    · intro y0 y1 y2 y3 y4
      unfold palantyperef02_Held.l0
      repeat' first
      | (with_reducible exact ih0 _ _ _ _ _)
      | (with_reducible exact palantyperef02_Floor.mono _ _ _)
      | (with_reducible exact LeO.refl _)
      | (with_reducible exact LeO.none _)
      | (with_reducible refine LeO.ite ?_ ?_)
      | (with_reducible refine LeO.bind ?_ (fun _ => ?_))
      | exact ih0 _ _ _ _ _
      | exact palantyperef02_Floor.mono _ _ _
      | exact LeO.none _
      | refine LeO.ite ?_ ?_
      | refine LeO.bind ?_ (fun _ => ?_)
theorem palantyperef02_Held.mono : ∀ a0 a1 k, LeO (palantyperef02_Held.f k a0 a1) (palantyperef02_Held.f (k + 1) a0 a1) := by
  intro a0 a1 k
  have ih0 := palantyperef02_Held.mono_l k
  unfold palantyperef02_Held.f
  repeat' first
      | (with_reducible exact ih0 _ _ _ _ _)
      | (with_reducible exact palantyperef02_Floor.mono _ _ _)
      | (with_reducible exact LeO.refl _)
      | (with_reducible exact LeO.none _)
      | (with_reducible refine LeO.ite ?_ ?_)
      | (with_reducible refine LeO.bind ?_ (fun _ => ?_))
      | exact ih0 _ _ _ _ _
      | exact palantyperef02_Floor.mono _ _ _
      | exact LeO.none _
      | refine LeO.ite ?_ ?_
      | refine LeO.bind ?_ (fun _ => ?_)
def palantyperef02_Held.T1 : Bool × List (List Nat × List Nat) := (true, [([], []), ([0], [0]), ([1], [1]), ([], []), ([2, 3], [2, 3]), ([], []), ([5], [5]), ([6], [6]), ([], []), ([7, 8, 4], [7, 8]), ([4, 9], [4, 9]), ([], []), ([11, 10, 9, 0, 1, 2, 3, 4, 5, 6, 7, 8, 9, 10, 11], [10, 11])])
def palantyperef02_Held.B1 : List Nat := [0, 1, 3, 0, 15, 0, 32, 96, 0, 511, 1023, 0, 4095]
theorem palantyperef02_Held.tab1 : rtab .any (opsOf Try.f26 1) = palantyperef02_Held.T1 := by kernel_rfl
theorem palantyperef02_Held.bits1 : waitsOk palantyperef02_Held.T1.2 palantyperef02_Held.B1 = true := by kernel_rfl
set_option maxHeartbeats 8000000 in
set_option maxRecDepth 100000 in
theorem palantyperef02_Held.calls (k : Nat) (A0 : Option Addr) (c0 : Nat) (l0 : List (List (S89))) (a1 : Int) (r1 : Int) (r2 : Int) (w : World) (hr0 : Kd.C (Kd.slice 89 k89) w A0 l0.length l0) (hc0 : l0.length ≤ c0) (h : palantyperef02_Held.f k l0 a1 = some (r1, r2)) :
    Calls Try.prog 26 #[.slice A0 l0.length c0, .int .i64 a1] w fun e w' => e = .returned (.agg #[.int .i64 r1, .int .i64 r2]) ∧ Below w.heap.size w w' := by
  have hu46 := Try.underlying46
  have HR0 := Aside0.mk hr0
  have HC0 := Aside0.mk hc0
  clear hr0 hc0
  have HB := Aside0.mk (Below.refl w.heap.size w)
  have H : (if 0 < (l0.length : Int) then ((palantyperef02_Floor.f k (rd_L11 l0 0) a1).bind fun t225 => ((palantyperef02_Floor.f k (rd_L11 l0 0) a1).bind fun t227 => (palantyperef02_Held.l0 k l0 a1 1 t225 t227))) else (none)) = some (r1, r2) := h
  clear h
  by_cases c3 : 0 < (l0.length : Int)
  · rw [if_pos c3] at H
    have c3b0 : decide (0 < (l0.length : Int)) = true := decide_eq_true c3
    have c3b1 : decide (0 < l0.length) = true := decide_eq_true (by omega)
    clear c3
    replace H := Option.bind_eq_some_iff.mp H
    obtain ⟨t225, A40, H⟩ := H
    replace H : ((palantyperef02_Floor.f k (rd_L11 l0 0) a1).bind fun t227 => (palantyperef02_Held.l0 k l0 a1 1 t225 t227)) = some (r1, r2) := H
    have A4 := Aside0.mk A40
    clear A40
    replace H := Option.bind_eq_some_iff.mp H
    obtain ⟨t227, A50, H⟩ := H
    replace H : (palantyperef02_Held.l0 k l0 a1 1 t225 t227) = some (r1, r2) := H
    have A5 := Aside0.mk A50
    clear A50
    have H' := Aside0.mk H
    clear H
    go_enter Try.func26, Try.ntmps26
    try go_wp2_with (first | ((with_reducible refine gate_dst (N := 4) rfl ?_); refine box_event ?hg (N := 4) ?hd (cs := #[.int .i64 0, .int .i64 0]) (t := 46) ?hr ?_; (case hd => rfl); (case hg => rfl); (case hr => first | (go_simp; done) | (go_simp; rfl)); intro gb223 hg w6 hbox hb; have n0_ := Aside0.mk (below_step (by repeat (first | (with_reducible first | exact HB.out | apply below_alloc | apply pw_below_drewN | apply below_drew1) | exact HB.out)) hb); have n1_ := Aside0.mk (hbox); have n2_ := Aside0.mk ((by rw [hg]; exact (below_size (by repeat (first | (with_reducible first | exact HB.out | apply below_alloc | apply pw_below_drewN | apply below_drew1) | exact HB.out))) : w.heap.size ≤ gb223)); have n3_ := Aside0.mk ((by rw [hg]; exact (below_size (by repeat (first | (with_reducible first | exact HB.out | apply below_alloc | apply pw_below_drewN | apply below_drew1) | exact HB.out))) : w.heap.size ≤ gb223)); clear HB; have HB := n0_; have BK223 := n1_; have GW223 := n2_; have GE223 := n3_; clear n0_ n1_ n2_ n3_; clear hb hbox hg))
    have n0_ := Aside0.mk (blk_drew BK223.out)
    have n1_ := Aside0.mk (below_drew1 HB.out)
    clear BK223
    clear HB
    have BK223 := n0_
    have HB := n1_
    clear n0_ n1_
    have p224 : 0 ≤ (0 : Int) := (by omega)
    have q224 : 0 < (l0.length : Int) := of_decide_eq_true (by first | (with_reducible assumption) | assumption)
    obtain ⟨ad224, A224_0, c224_0, e224, hx224_0, hl224_0, hi224_0⟩ := at_L11 HR0.out 0 p224 q224
    have hw224_0 := hx224_0
    (try rw [show ((0 : Int)).toNat = 0 from rfl] at hw224_0)
    (try rw [show 0 * 1 = 0 from rfl] at hw224_0)
    (try rw [Addr.add_zero'] at hw224_0)
    cases e224
    have qi224 : (0 < l0.length) = True := eq_true (by omega)
    (try rw [show ((0 : Int)).toNat = 0 from rfl] at hx224_0)
    (try rw [Addr.add_zero'] at hx224_0)
    replace hx224_0 := (HB.out.cell (World.block_lt_of_cell? w _ hx224_0)).trans hx224_0
    have HR224_0 := Aside0.mk hi224_0
    have HC224_0 := Aside0.mk hl224_0
    clear hi224_0 hl224_0
    replace p224 := eq_true p224
    replace q224 := eq_true q224
    have p226 : 0 ≤ (0 : Int) := (by omega)
    have q226 : 0 < (l0.length : Int) := of_decide_eq_true (by first | (with_reducible assumption) | assumption)
    obtain ⟨ad226, A226_0, c226_0, e226, hx226_0, hl226_0, hi226_0⟩ := at_L11 HR0.out 0 p226 q226
    have hw226_0 := hx226_0
    (try rw [show ((0 : Int)).toNat = 0 from rfl] at hw226_0)
    (try rw [show 0 * 1 = 0 from rfl] at hw226_0)
    (try rw [Addr.add_zero'] at hw226_0)
    obtain rfl : ad224 = ad226 := (by injection e226)
    have qi226 : (0 < l0.length) = True := eq_true (by omega)
    (try rw [show ((0 : Int)).toNat = 0 from rfl] at hx226_0)
    (try rw [Addr.add_zero'] at hx226_0)
    replace hx226_0 := (HB.out.cell (World.block_lt_of_cell? w _ hx226_0)).trans hx226_0
    have HR226_0 := Aside0.mk hi226_0
    have HC226_0 := Aside0.mk hl226_0
    clear hi226_0 hl226_0
    replace p226 := eq_true p226
    replace q226 := eq_true q226
    have ea_ := Option.some.inj (hx224_0.symm.trans hx226_0)
    injection ea_ with ea_ en_ ec_
    subst ea_
    subst ec_
    clear en_
    refine start_ (n := 13) (S := fun w' => w'.cell? ad224 = some (.slice A224_0 (rd_L11 l0 0).length c224_0) ∧ w'.cell? ad224 = some (.slice A224_0 (rd_L11 l0 0).length c224_0)) (ds := []) #[false, false, false, false, false, false, false, false, false, false, false, false, false] (by kernel_rfl) rfl rfl ⟨((HB.out.cell (World.block_lt_of_cell? w _ hw224_0)).trans hw224_0), ((HB.out.cell (World.block_lt_of_cell? w _ hw226_0)).trans hw226_0)⟩ (fun hHeld => ?_); refine with_tabW palantyperef02_Held.tab1 palantyperef02_Held.bits1 (fun HT_ HW_ => ?_)
    generalize w6.drew = w7 at BK223 HB HR224_0 HR226_0 hx224_0 hx226_0 hHeld ⊢
    refine pure_ (i := 0) (N := some 8) (v := ?_) (a' := ?_) #[true, false, false, false, false, false, false, false, false, false, false, false, false] rfl rfl (any_of HT_.out (by kernel_rfl)) (fun _ _ _ h => h) (Or.inl ⟨by rfl, ?_⟩) ?_ ?_
    rotate_left
    · intro w'
      go_simp
      with_reducible rfl
    rotate_left
    · simp only [Act.put, List.setIfInBounds_toArray, List.set_cons_zero, List.set_cons_succ, i64_w, i32_w]
      rfl
    refine pure_ (i := 1) (N := some 9) (v := ?_) (a' := ?_) #[true, true, false, false, false, false, false, false, false, false, false, false, false] rfl rfl (any_of HT_.out (by kernel_rfl)) (fun _ _ _ h => h) (Or.inl ⟨by rfl, ?_⟩) ?_ ?_
    rotate_left
    · intro w'
      go_simp
      with_reducible rfl
    rotate_left
    · simp only [Act.put, List.setIfInBounds_toArray, List.set_cons_zero, List.set_cons_succ, i64_w, i32_w]
      rfl
    refine pure_ (i := 3) (N := some 11) (v := ?_) (a' := ?_) #[true, true, false, true, false, false, false, false, false, false, false, false, false] rfl rfl (any_of HT_.out (by kernel_rfl)) (fun _ _ _ h => h) (Or.inl ⟨by rfl, ?_⟩) ?_ ?_
    rotate_left
    · intro w'
      go_simp
      with_reducible rfl
    rotate_left
    · simp only [Act.put, List.setIfInBounds_toArray, List.set_cons_zero, List.set_cons_succ, i64_w, i32_w]
      rfl
    refine pure_ (i := 5) (N := some 13) (v := ?_) (a' := ?_) #[true, true, false, true, false, true, false, false, false, false, false, false, false] rfl rfl (any_of HT_.out (by kernel_rfl)) (fun _ _ _ h => h) (Or.inl ⟨by rfl, ?_⟩) ?_ ?_
    rotate_left
    · intro w'
      go_simp
      with_reducible rfl
    rotate_left
    · simp only [Act.put, List.setIfInBounds_toArray, List.set_cons_zero, List.set_cons_succ, i64_w, i32_w]
      rfl
    refine pure_ (i := 6) (N := some 14) (v := ?_) (a' := ?_) #[true, true, false, true, false, true, true, false, false, false, false, false, false] rfl rfl (any_of HT_.out (by kernel_rfl)) (fun _ _ _ h => h) (Or.inl ⟨by rfl, ?_⟩) ?_ ?_
    rotate_left
    · intro w'
      go_simp
      with_reducible rfl
    rotate_left
    · simp only [Act.put, List.setIfInBounds_toArray, List.set_cons_zero, List.set_cons_succ, i64_w, i32_w]
      rfl
    refine pure_ (i := 8) (N := some 16) (v := ?_) (a' := ?_) #[true, true, false, true, false, true, true, false, true, false, false, false, false] rfl rfl (any_of HT_.out (by kernel_rfl)) (fun _ _ _ h => h) (Or.inl ⟨by rfl, ?_⟩) ?_ ?_
    rotate_left
    · intro w'
      go_simp
      with_reducible rfl
    rotate_left
    · simp only [Act.put, List.setIfInBounds_toArray, List.set_cons_zero, List.set_cons_succ, i64_w, i32_w]
      rfl
    refine take_ (i := 2) (N := some 10) (v := ?_) (a' := ?_) #[true, true, true, true, false, true, true, false, true, false, false, false, false] rfl rfl (take_ofW HT_.out HW_.out (by kernel_rfl)) (fun _ _ _ h => h) (Or.inl ⟨by rfl, ?_⟩) hHeld ?_ ?_
    rotate_left
    · rintro w' ⟨s0, s1⟩
      go_simp
      with_reducible rfl
    rotate_left
    · simp only [Act.put, List.setIfInBounds_toArray, List.set_cons_zero, List.set_cons_succ, i64_w, i32_w]
      rfl
    refine take_ (i := 7) (N := some 15) (v := ?_) (a' := ?_) #[true, true, true, true, false, true, true, true, true, false, false, false, false] rfl rfl (take_ofW HT_.out HW_.out (by kernel_rfl)) (fun _ _ _ h => h) (Or.inl ⟨by rfl, ?_⟩) hHeld ?_ ?_
    rotate_left
    · rintro w' ⟨s0, s1⟩
      go_simp
      with_reducible rfl
    rotate_left
    · simp only [Act.put, List.setIfInBounds_toArray, List.set_cons_zero, List.set_cons_succ, i64_w, i32_w]
      rfl
    refine join_ (σ := Nat) 1 #[true, true, true, true, true, true, true, true, true, true, true, true, false] (fun s_ => [(12, .int .i64 t225), (17, .int .i64 t227), (5, .pointer (some ⟨s_, 0, none⟩)), (18, .agg #[.int .i64 t225, .int .i64 t227])]) (fun s_ w' => (w'.cell? ad224 = some (.slice A224_0 (rd_L11 l0 0).length c224_0) ∧ w'.cell? ad224 = some (.slice A224_0 (rd_L11 l0 0).length c224_0)) ∧ (w'.heap[gb223]? = some (.cells #[.int .i64 0, .int .i64 0] 46 (0, 0))) ∧ (w'.heap[s_]? = some (.cells #[.int .i64 0, .int .i64 0] 46 (0, 0))) ∧ (w.heap.size ≤ s_) ∧ (w.heap.size ≤ s_) ∧ (gb223 ≠ s_) ∧ (s_ ≠ gb223) ∧ (Below w.heap.size w w')) ?_ ?_
    rotate_left
    · intro hCont
      refine two_ (i := 4) (j := 11) (Ni := some 12) (Nj := some 5) #[true, true, true, true, true, true, true, true, true, false, false, false, false] #[true, true, true, true, false, true, true, true, true, false, false, true, false] rfl rfl rfl rfl (two_of HT_.out (by kernel_rfl)) (by decide) (by decide) (fun K hK => ?_) (fun K hK => ?_)
      · skip
        refine goes_ Try.func46 (by kernel_rfl) rfl #[.slice A224_0 (rd_L11 l0 0).length c224_0, .int .i64 a1] (by rfl) rfl rfl (by (try simp only [List.map_toArray, List.map_cons, List.map_nil]); first | done | rfl | (simp only [List.length_drop, List.length_take]; rfl)) ?_
        with_reducible refine (palantyperef02_Floor.calls k _ _ (rd_L11 l0 0) a1 t225 _ ?side1 ?side2 A4.out).mono ?_
        (case side1 => repeat (first | exact (Kd.C_below HR224_0.out HB.out) | (with_reducible refine Kd.C_alloc ?_ _) | (with_reducible refine Kd.C_drewN ?_ _) | (with_reducible refine Kd.C_drew ?_)))
        (case side2 => exact HC224_0.out)
        rintro e w' ⟨rfl, ⟨nd, rfl⟩⟩
        refine ⟨_, rfl, ?_⟩
        refine hK.out _ _ ⟨((HB.out.cell (World.block_lt_of_cell? w _ hw224_0)).trans hw224_0), ((HB.out.cell (World.block_lt_of_cell? w _ hw226_0)).trans hw226_0)⟩ (fun hHeld => ?_)
        clear hK K
        refine norm_ (a' := ?_) ?_ ?_
        rotate_left
        · show Act.put _ (some 12) _ = _
          simp only [Act.put, List.setIfInBounds_toArray, List.set_cons_zero, List.set_cons_succ, i64_w, i32_w]
          rfl
        refine two_ (i := 9) (j := 11) (Ni := some 17) (Nj := some 5) #[true, true, true, true, true, true, true, true, true, true, false, false, false] #[true, true, true, true, true, true, true, true, true, false, false, true, false] rfl rfl rfl rfl (two_of HT_.out (by kernel_rfl)) (by decide) (by decide) (fun K hK => ?_) (fun K hK => ?_)
        · skip
          refine goes_ Try.func46 (by kernel_rfl) rfl #[.slice A224_0 (rd_L11 l0 0).length c224_0, .int .i64 a1] (by rfl) rfl rfl (by (try simp only [List.map_toArray, List.map_cons, List.map_nil]); first | done | rfl | (simp only [List.length_drop, List.length_take]; rfl)) ?_
          with_reducible refine (palantyperef02_Floor.calls k _ _ (rd_L11 l0 0) a1 t227 _ ?side1 ?side2 A5.out).mono ?_
          (case side1 => repeat (first | exact (Kd.C_below HR226_0.out (by repeat (first | (with_reducible first | exact HB.out | apply below_alloc | apply pw_below_drewN | apply below_drew1 | refine below_set ?_ GE223.out) | exact HB.out))) | (with_reducible refine Kd.C_alloc ?_ _) | (with_reducible refine Kd.C_drewN ?_ _) | (with_reducible refine Kd.C_drew ?_)))
          (case side2 => exact HC226_0.out)
          rintro e w' ⟨rfl, ⟨nd, rfl⟩⟩
          refine ⟨_, rfl, ?_⟩
          refine hK.out _ _ ⟨((HB.out.cell (World.block_lt_of_cell? w _ hw224_0)).trans hw224_0), ((HB.out.cell (World.block_lt_of_cell? w _ hw226_0)).trans hw226_0)⟩ (fun hHeld => ?_)
          clear hK K
          refine norm_ (a' := ?_) ?_ ?_
          rotate_left
          · show Act.put _ (some 17) _ = _
            simp only [Act.put, List.setIfInBounds_toArray, List.set_cons_zero, List.set_cons_succ, i64_w, i32_w]
            rfl
          refine pure_ (i := 10) (N := some 18) (v := ?_) (a' := ?_) #[true, true, true, true, true, true, true, true, true, true, true, false, false] rfl rfl (any_of HT_.out (by kernel_rfl)) (fun _ _ _ h => h) (Or.inl ⟨by rfl, ?_⟩) ?_ ?_
          rotate_left
          · intro w'
            go_simp
            with_reducible rfl
          rotate_left
          · simp only [Act.put, List.setIfInBounds_toArray, List.set_cons_zero, List.set_cons_succ, i64_w, i32_w]
            rfl
          refine one_ (i := 11) (N := some 5) #[true, true, true, true, true, true, true, true, true, true, true, true, false] rfl rfl (one_of HT_.out (by kernel_rfl)) (by decide) (fun K hK => ?_)
          refine box_step ?hg (N := 5) ?hd (cs := #[.int .i64 0, .int .i64 0]) (t := 46) ?hr ?_; (case hd => rfl); (case hg => rfl); (case hr => first | (go_simp; done) | (go_simp; rfl))
          intro gb228 hg w8 hbox hb
          have n0_ := Aside0.mk (blk_below (g := gb223) (o := .cells #[.int .i64 0, .int .i64 0] 46 (0, 0)) (by (with_reducible repeat (first | refine blk_drewN ?_ _ | refine blk_drew ?_ | refine blk_alloc ?_ _)); exact BK223.out) hb)
          have n1_ := Aside0.mk (below_step (by repeat (first | (with_reducible first | exact HB.out | apply below_alloc | apply pw_below_drewN | apply below_drew1 | refine below_set ?_ GE223.out) | exact HB.out)) hb)
          have n2_ := Aside0.mk (hbox)
          have n3_ := Aside0.mk ((by rw [hg]; exact (below_size (by repeat (first | (with_reducible first | exact HB.out | apply below_alloc | apply pw_below_drewN | apply below_drew1 | refine below_set ?_ GE223.out) | exact HB.out))) : w.heap.size ≤ gb228))
          have n4_ := Aside0.mk ((by rw [hg]; exact (below_size (by repeat (first | (with_reducible first | exact HB.out | apply below_alloc | apply pw_below_drewN | apply below_drew1 | refine below_set ?_ GE223.out) | exact HB.out))) : w.heap.size ≤ gb228))
          have n5_ := Aside0.mk ((by rw [hg]; exact Nat.ne_of_lt (blk_lt (g := gb223) (o := .cells #[.int .i64 0, .int .i64 0] 46 (0, 0)) (by (with_reducible repeat (first | refine blk_drewN ?_ _ | refine blk_drew ?_ | refine blk_alloc ?_ _)); exact BK223.out)) : gb223 ≠ gb228))
          have n6_ := Aside0.mk ((by rw [hg]; exact Nat.ne_of_gt (blk_lt (g := gb223) (o := .cells #[.int .i64 0, .int .i64 0] 46 (0, 0)) (by (with_reducible repeat (first | refine blk_drewN ?_ _ | refine blk_drew ?_ | refine blk_alloc ?_ _)); exact BK223.out)) : gb228 ≠ gb223))
          clear BK223
          clear HB
          have BK223 := n0_
          have HB := n1_
          have BK228 := n2_
          have GW228 := n3_
          have GE228 := n4_
          have NB223_228 := n5_
          have NB228_223 := n6_
          clear n0_ n1_ n2_ n3_ n4_ n5_ n6_
          clear hb hbox hg
          refine hK.out _ _ ⟨((HB.out.cell (World.block_lt_of_cell? w _ hw224_0)).trans hw224_0), ((HB.out.cell (World.block_lt_of_cell? w _ hw226_0)).trans hw226_0)⟩ (fun hHeld => ?_)
          clear hK K
          refine norm_ (a' := ?_) ?_ ?_
          rotate_left
          · show Act.put _ (some 5) _ = _
            simp only [Act.put, List.setIfInBounds_toArray, List.set_cons_zero, List.set_cons_succ, i64_w, i32_w]
            rfl
          exact norm_ (by simp only [putAll, Act.put, List.setIfInBounds_toArray, List.set_cons_zero, List.set_cons_succ]) (hCont (gb228) _ ⟨hHeld, (by (with_reducible repeat (first | refine blk_drewN ?_ _ | refine blk_drew ?_ | refine blk_alloc ?_ _)); exact BK223.out), (by (with_reducible repeat (first | refine blk_drewN ?_ _ | refine blk_drew ?_ | refine blk_alloc ?_ _)); exact BK228.out), GW228.out, GE228.out, NB223_228.out, NB228_223.out, (by repeat (first | (with_reducible first | exact HB.out | apply below_alloc | apply pw_below_drewN | apply below_drew1 | refine below_set ?_ GE223.out | refine below_set ?_ GE228.out) | exact HB.out))⟩)
        · skip
          refine box_step ?hg (N := 5) ?hd (cs := #[.int .i64 0, .int .i64 0]) (t := 46) ?hr ?_; (case hd => rfl); (case hg => rfl); (case hr => first | (go_simp; done) | (go_simp; rfl))
          intro gb228 hg w8 hbox hb
          have n0_ := Aside0.mk (blk_below (g := gb223) (o := .cells #[.int .i64 0, .int .i64 0] 46 (0, 0)) (by (with_reducible repeat (first | refine blk_drewN ?_ _ | refine blk_drew ?_ | refine blk_alloc ?_ _)); exact BK223.out) hb)
          have n1_ := Aside0.mk (below_step (by repeat (first | (with_reducible first | exact HB.out | apply below_alloc | apply pw_below_drewN | apply below_drew1 | refine below_set ?_ GE223.out) | exact HB.out)) hb)
          have n2_ := Aside0.mk (hbox)
          have n3_ := Aside0.mk ((by rw [hg]; exact (below_size (by repeat (first | (with_reducible first | exact HB.out | apply below_alloc | apply pw_below_drewN | apply below_drew1 | refine below_set ?_ GE223.out) | exact HB.out))) : w.heap.size ≤ gb228))
          have n4_ := Aside0.mk ((by rw [hg]; exact (below_size (by repeat (first | (with_reducible first | exact HB.out | apply below_alloc | apply pw_below_drewN | apply below_drew1 | refine below_set ?_ GE223.out) | exact HB.out))) : w.heap.size ≤ gb228))
          have n5_ := Aside0.mk ((by rw [hg]; exact Nat.ne_of_lt (blk_lt (g := gb223) (o := .cells #[.int .i64 0, .int .i64 0] 46 (0, 0)) (by (with_reducible repeat (first | refine blk_drewN ?_ _ | refine blk_drew ?_ | refine blk_alloc ?_ _)); exact BK223.out)) : gb223 ≠ gb228))
          have n6_ := Aside0.mk ((by rw [hg]; exact Nat.ne_of_gt (blk_lt (g := gb223) (o := .cells #[.int .i64 0, .int .i64 0] 46 (0, 0)) (by (with_reducible repeat (first | refine blk_drewN ?_ _ | refine blk_drew ?_ | refine blk_alloc ?_ _)); exact BK223.out)) : gb228 ≠ gb223))
          clear BK223
          clear HB
          have BK223 := n0_
          have HB := n1_
          have BK228 := n2_
          have GW228 := n3_
          have GE228 := n4_
          have NB223_228 := n5_
          have NB228_223 := n6_
          clear n0_ n1_ n2_ n3_ n4_ n5_ n6_
          clear hb hbox hg
          refine hK.out _ _ ⟨((HB.out.cell (World.block_lt_of_cell? w _ hw224_0)).trans hw224_0), ((HB.out.cell (World.block_lt_of_cell? w _ hw226_0)).trans hw226_0)⟩ (fun hHeld => ?_)
          clear hK K
          refine norm_ (a' := ?_) ?_ ?_
          rotate_left
          · show Act.put _ (some 5) _ = _
            simp only [Act.put, List.setIfInBounds_toArray, List.set_cons_zero, List.set_cons_succ, i64_w, i32_w]
            rfl
          refine one_ (i := 9) (N := some 17) #[true, true, true, true, true, true, true, true, true, true, false, true, false] rfl rfl (one_of HT_.out (by kernel_rfl)) (by decide) (fun K hK => ?_)
          refine goes_ Try.func46 (by kernel_rfl) rfl #[.slice A224_0 (rd_L11 l0 0).length c224_0, .int .i64 a1] (by rfl) rfl rfl (by (try simp only [List.map_toArray, List.map_cons, List.map_nil]); first | done | rfl | (simp only [List.length_drop, List.length_take]; rfl)) ?_
          with_reducible refine (palantyperef02_Floor.calls k _ _ (rd_L11 l0 0) a1 t227 _ ?side1 ?side2 A5.out).mono ?_
          (case side1 => repeat (first | exact (Kd.C_below HR226_0.out HB.out) | (with_reducible refine Kd.C_alloc ?_ _) | (with_reducible refine Kd.C_drewN ?_ _) | (with_reducible refine Kd.C_drew ?_)))
          (case side2 => exact HC226_0.out)
          rintro e w' ⟨rfl, ⟨nd, rfl⟩⟩
          refine ⟨_, rfl, ?_⟩
          refine hK.out _ _ ⟨((HB.out.cell (World.block_lt_of_cell? w _ hw224_0)).trans hw224_0), ((HB.out.cell (World.block_lt_of_cell? w _ hw226_0)).trans hw226_0)⟩ (fun hHeld => ?_)
          clear hK K
          refine norm_ (a' := ?_) ?_ ?_
          rotate_left
          · show Act.put _ (some 17) _ = _
            simp only [Act.put, List.setIfInBounds_toArray, List.set_cons_zero, List.set_cons_succ, i64_w, i32_w]
            rfl
          refine pure_ (i := 10) (N := some 18) (v := ?_) (a' := ?_) #[true, true, true, true, true, true, true, true, true, true, true, true, false] rfl rfl (any_of HT_.out (by kernel_rfl)) (fun _ _ _ h => h) (Or.inl ⟨by rfl, ?_⟩) ?_ ?_
          rotate_left
          · intro w'
            go_simp
            with_reducible rfl
          rotate_left
          · simp only [Act.put, List.setIfInBounds_toArray, List.set_cons_zero, List.set_cons_succ, i64_w, i32_w]
            rfl
          exact norm_ (by simp only [putAll, Act.put, List.setIfInBounds_toArray, List.set_cons_zero, List.set_cons_succ]) (hCont (gb228) _ ⟨hHeld, (by (with_reducible repeat (first | refine blk_drewN ?_ _ | refine blk_drew ?_ | refine blk_alloc ?_ _)); exact BK223.out), (by (with_reducible repeat (first | refine blk_drewN ?_ _ | refine blk_drew ?_ | refine blk_alloc ?_ _)); exact BK228.out), GW228.out, GE228.out, NB223_228.out, NB228_223.out, (by repeat (first | (with_reducible first | exact HB.out | apply below_alloc | apply pw_below_drewN | apply below_drew1 | refine below_set ?_ GE223.out | refine below_set ?_ GE228.out) | exact HB.out))⟩)
      · skip
        refine box_step ?hg (N := 5) ?hd (cs := #[.int .i64 0, .int .i64 0]) (t := 46) ?hr ?_; (case hd => rfl); (case hg => rfl); (case hr => first | (go_simp; done) | (go_simp; rfl))
        intro gb228 hg w8 hbox hb
        have n0_ := Aside0.mk (blk_below (g := gb223) (o := .cells #[.int .i64 0, .int .i64 0] 46 (0, 0)) (by (with_reducible repeat (first | refine blk_drewN ?_ _ | refine blk_drew ?_ | refine blk_alloc ?_ _)); exact BK223.out) hb)
        have n1_ := Aside0.mk (below_step (by repeat (first | (with_reducible first | exact HB.out | apply below_alloc | apply pw_below_drewN | apply below_drew1 | refine below_set ?_ GE223.out) | exact HB.out)) hb)
        have n2_ := Aside0.mk (hbox)
        have n3_ := Aside0.mk ((by rw [hg]; exact (below_size (by repeat (first | (with_reducible first | exact HB.out | apply below_alloc | apply pw_below_drewN | apply below_drew1 | refine below_set ?_ GE223.out) | exact HB.out))) : w.heap.size ≤ gb228))
        have n4_ := Aside0.mk ((by rw [hg]; exact (below_size (by repeat (first | (with_reducible first | exact HB.out | apply below_alloc | apply pw_below_drewN | apply below_drew1 | refine below_set ?_ GE223.out) | exact HB.out))) : w.heap.size ≤ gb228))
        have n5_ := Aside0.mk ((by rw [hg]; exact Nat.ne_of_lt (blk_lt (g := gb223) (o := .cells #[.int .i64 0, .int .i64 0] 46 (0, 0)) (by (with_reducible repeat (first | refine blk_drewN ?_ _ | refine blk_drew ?_ | refine blk_alloc ?_ _)); exact BK223.out)) : gb223 ≠ gb228))
        have n6_ := Aside0.mk ((by rw [hg]; exact Nat.ne_of_gt (blk_lt (g := gb223) (o := .cells #[.int .i64 0, .int .i64 0] 46 (0, 0)) (by (with_reducible repeat (first | refine blk_drewN ?_ _ | refine blk_drew ?_ | refine blk_alloc ?_ _)); exact BK223.out)) : gb228 ≠ gb223))
        clear BK223
        clear HB
        have BK223 := n0_
        have HB := n1_
        have BK228 := n2_
        have GW228 := n3_
        have GE228 := n4_
        have NB223_228 := n5_
        have NB228_223 := n6_
        clear n0_ n1_ n2_ n3_ n4_ n5_ n6_
        clear hb hbox hg
        refine hK.out _ _ ⟨((HB.out.cell (World.block_lt_of_cell? w _ hw224_0)).trans hw224_0), ((HB.out.cell (World.block_lt_of_cell? w _ hw226_0)).trans hw226_0)⟩ (fun hHeld => ?_)
        clear hK K
        refine norm_ (a' := ?_) ?_ ?_
        rotate_left
        · show Act.put _ (some 5) _ = _
          simp only [Act.put, List.setIfInBounds_toArray, List.set_cons_zero, List.set_cons_succ, i64_w, i32_w]
          rfl
        refine one_ (i := 4) (N := some 12) #[true, true, true, true, true, true, true, true, true, false, false, true, false] rfl rfl (one_of HT_.out (by kernel_rfl)) (by decide) (fun K hK => ?_)
        refine goes_ Try.func46 (by kernel_rfl) rfl #[.slice A224_0 (rd_L11 l0 0).length c224_0, .int .i64 a1] (by rfl) rfl rfl (by (try simp only [List.map_toArray, List.map_cons, List.map_nil]); first | done | rfl | (simp only [List.length_drop, List.length_take]; rfl)) ?_
        with_reducible refine (palantyperef02_Floor.calls k _ _ (rd_L11 l0 0) a1 t225 _ ?side1 ?side2 A4.out).mono ?_
        (case side1 => repeat (first | exact (Kd.C_below HR224_0.out HB.out) | (with_reducible refine Kd.C_alloc ?_ _) | (with_reducible refine Kd.C_drewN ?_ _) | (with_reducible refine Kd.C_drew ?_)))
        (case side2 => exact HC224_0.out)
        rintro e w' ⟨rfl, ⟨nd, rfl⟩⟩
        refine ⟨_, rfl, ?_⟩
        refine hK.out _ _ ⟨((HB.out.cell (World.block_lt_of_cell? w _ hw224_0)).trans hw224_0), ((HB.out.cell (World.block_lt_of_cell? w _ hw226_0)).trans hw226_0)⟩ (fun hHeld => ?_)
        clear hK K
        refine norm_ (a' := ?_) ?_ ?_
        rotate_left
        · show Act.put _ (some 12) _ = _
          simp only [Act.put, List.setIfInBounds_toArray, List.set_cons_zero, List.set_cons_succ, i64_w, i32_w]
          rfl
        refine one_ (i := 9) (N := some 17) #[true, true, true, true, true, true, true, true, true, true, false, true, false] rfl rfl (one_of HT_.out (by kernel_rfl)) (by decide) (fun K hK => ?_)
        refine goes_ Try.func46 (by kernel_rfl) rfl #[.slice A224_0 (rd_L11 l0 0).length c224_0, .int .i64 a1] (by rfl) rfl rfl (by (try simp only [List.map_toArray, List.map_cons, List.map_nil]); first | done | rfl | (simp only [List.length_drop, List.length_take]; rfl)) ?_
        with_reducible refine (palantyperef02_Floor.calls k _ _ (rd_L11 l0 0) a1 t227 _ ?side1 ?side2 A5.out).mono ?_
        (case side1 => repeat (first | exact (Kd.C_below HR226_0.out (by repeat (first | (with_reducible first | exact HB.out | apply below_alloc | apply pw_below_drewN | apply below_drew1 | refine below_set ?_ GE223.out | refine below_set ?_ GE228.out) | exact HB.out))) | (with_reducible refine Kd.C_alloc ?_ _) | (with_reducible refine Kd.C_drewN ?_ _) | (with_reducible refine Kd.C_drew ?_)))
        (case side2 => exact HC226_0.out)
        rintro e w' ⟨rfl, ⟨nd, rfl⟩⟩
        refine ⟨_, rfl, ?_⟩
        refine hK.out _ _ ⟨((HB.out.cell (World.block_lt_of_cell? w _ hw224_0)).trans hw224_0), ((HB.out.cell (World.block_lt_of_cell? w _ hw226_0)).trans hw226_0)⟩ (fun hHeld => ?_)
        clear hK K
        refine norm_ (a' := ?_) ?_ ?_
        rotate_left
        · show Act.put _ (some 17) _ = _
          simp only [Act.put, List.setIfInBounds_toArray, List.set_cons_zero, List.set_cons_succ, i64_w, i32_w]
          rfl
        refine pure_ (i := 10) (N := some 18) (v := ?_) (a' := ?_) #[true, true, true, true, true, true, true, true, true, true, true, true, false] rfl rfl (any_of HT_.out (by kernel_rfl)) (fun _ _ _ h => h) (Or.inl ⟨by rfl, ?_⟩) ?_ ?_
        rotate_left
        · intro w'
          go_simp
          with_reducible rfl
        rotate_left
        · simp only [Act.put, List.setIfInBounds_toArray, List.set_cons_zero, List.set_cons_succ, i64_w, i32_w]
          rfl
        exact norm_ (by simp only [putAll, Act.put, List.setIfInBounds_toArray, List.set_cons_zero, List.set_cons_succ]) (hCont (gb228) _ ⟨hHeld, (by (with_reducible repeat (first | refine blk_drewN ?_ _ | refine blk_drew ?_ | refine blk_alloc ?_ _)); exact BK223.out), (by (with_reducible repeat (first | refine blk_drewN ?_ _ | refine blk_drew ?_ | refine blk_alloc ?_ _)); exact BK228.out), GW228.out, GE228.out, NB223_228.out, NB228_223.out, (by repeat (first | (with_reducible first | exact HB.out | apply below_alloc | apply pw_below_drewN | apply below_drew1 | refine below_set ?_ GE223.out | refine below_set ?_ GE228.out) | exact HB.out))⟩)
    rintro gb228 w9 ⟨hS_, h0_, h1_, h2_, h3_, h4_, h5_, h6_⟩
    have n0_ : Aside0 (w9.heap[gb223]? = some (.cells #[.int .i64 0, .int .i64 0] 46 (0, 0))) := ⟨h0_⟩
    have n1_ : Aside0 (w9.heap[gb228]? = some (.cells #[.int .i64 0, .int .i64 0] 46 (0, 0))) := ⟨h1_⟩
    have n2_ : Aside0 (w.heap.size ≤ gb228) := ⟨h2_⟩
    have n3_ : Aside0 (w.heap.size ≤ gb228) := ⟨h3_⟩
    have n4_ : Aside0 (gb223 ≠ gb228) := ⟨h4_⟩
    have n5_ : Aside0 (gb228 ≠ gb223) := ⟨h5_⟩
    have n6_ : Aside0 (Below w.heap.size w w9) := ⟨h6_⟩
    clear BK223
    clear HB
    clear h0_ h1_ h2_ h3_ h4_ h5_ h6_
    have BK223 := n0_
    have BK228 := n1_
    have GW228 := n2_
    have GE228 := n3_
    have NB223_228 := n4_
    have NB228_223 := n5_
    have HB := n6_
    clear n0_ n1_ n2_ n3_ n4_ n5_ n6_
    have hHeld : w9.cell? ad224 = some (.slice A224_0 (rd_L11 l0 0).length c224_0) ∧ w9.cell? ad224 = some (.slice A224_0 (rd_L11 l0 0).length c224_0) := hS_
    refine norm_ (a' := ?_) ?_ ?_
    rotate_left
    · simp only [putAll, Act.put, List.setIfInBounds_toArray, List.set_cons_zero, List.set_cons_succ]
      rfl
    refine one_ (i := 12) (N := none) #[true, true, true, true, true, true, true, true, true, true, true, true, true] rfl rfl (one_of HT_.out (by kernel_rfl)) (by decide) (fun K hK => ?_)
    have hs10 : w9.cell? ⟨gb228, 0, none⟩ = some (.int .i64 0) := (blk_cell BK228.out 0).trans rfl
    have hfs10 := blk_frozen BK228.out 0
    have hns10_0 := NB223_228.out
    have hms10_0 := NB228_223.out
    have hs11 : w9.cell? ⟨gb228, 1, none⟩ = some (.int .i64 0) := (blk_cell BK228.out 1).trans rfl
    have hfs11 := blk_frozen BK228.out 1
    have hns11_0 := NB223_228.out
    have hms11_0 := NB228_223.out
    refine skip_ (w1 := ?_) (by rfl) rfl ?_ ?_
    rotate_left
    · go_simp
      rfl
    refine hK.out _ _ ⟨((cell_far (p := ⟨gb228, _, none⟩) (by first | exact Nat.ne_of_lt (Nat.lt_of_lt_of_le (by have := World.block_lt_of_cell? _ _ hw224_0; first | rwa [add_block] at this | exact this) GW228.out) | (rw [add_block]; exact Nat.ne_of_lt (Nat.lt_of_lt_of_le (by have := World.block_lt_of_cell? _ _ hw224_0; first | rwa [add_block] at this | exact this) GW228.out)) | (show (Addr.add _ _).block ≠ _; rw [add_block]; exact Nat.ne_of_lt (Nat.lt_of_lt_of_le (by have := World.block_lt_of_cell? _ _ hw224_0; first | rwa [add_block] at this | exact this) GW228.out)) | (dsimp only; exact Nat.ne_of_lt (Nat.lt_of_lt_of_le (by have := World.block_lt_of_cell? _ _ hw224_0; first | rwa [add_block] at this | exact this) GW228.out))) _).trans (((cell_far (p := ⟨gb228, _, none⟩) (by first | exact Nat.ne_of_lt (Nat.lt_of_lt_of_le (by have := World.block_lt_of_cell? _ _ hw224_0; first | rwa [add_block] at this | exact this) GW228.out) | (rw [add_block]; exact Nat.ne_of_lt (Nat.lt_of_lt_of_le (by have := World.block_lt_of_cell? _ _ hw224_0; first | rwa [add_block] at this | exact this) GW228.out)) | (show (Addr.add _ _).block ≠ _; rw [add_block]; exact Nat.ne_of_lt (Nat.lt_of_lt_of_le (by have := World.block_lt_of_cell? _ _ hw224_0; first | rwa [add_block] at this | exact this) GW228.out)) | (dsimp only; exact Nat.ne_of_lt (Nat.lt_of_lt_of_le (by have := World.block_lt_of_cell? _ _ hw224_0; first | rwa [add_block] at this | exact this) GW228.out))) _).trans (hHeld.1)))), ((cell_far (p := ⟨gb228, _, none⟩) (by first | exact Nat.ne_of_lt (Nat.lt_of_lt_of_le (by have := World.block_lt_of_cell? _ _ hw226_0; first | rwa [add_block] at this | exact this) GW228.out) | (rw [add_block]; exact Nat.ne_of_lt (Nat.lt_of_lt_of_le (by have := World.block_lt_of_cell? _ _ hw226_0; first | rwa [add_block] at this | exact this) GW228.out)) | (show (Addr.add _ _).block ≠ _; rw [add_block]; exact Nat.ne_of_lt (Nat.lt_of_lt_of_le (by have := World.block_lt_of_cell? _ _ hw226_0; first | rwa [add_block] at this | exact this) GW228.out)) | (dsimp only; exact Nat.ne_of_lt (Nat.lt_of_lt_of_le (by have := World.block_lt_of_cell? _ _ hw226_0; first | rwa [add_block] at this | exact this) GW228.out))) _).trans (((cell_far (p := ⟨gb228, _, none⟩) (by first | exact Nat.ne_of_lt (Nat.lt_of_lt_of_le (by have := World.block_lt_of_cell? _ _ hw226_0; first | rwa [add_block] at this | exact this) GW228.out) | (rw [add_block]; exact Nat.ne_of_lt (Nat.lt_of_lt_of_le (by have := World.block_lt_of_cell? _ _ hw226_0; first | rwa [add_block] at this | exact this) GW228.out)) | (show (Addr.add _ _).block ≠ _; rw [add_block]; exact Nat.ne_of_lt (Nat.lt_of_lt_of_le (by have := World.block_lt_of_cell? _ _ hw226_0; first | rwa [add_block] at this | exact this) GW228.out)) | (dsimp only; exact Nat.ne_of_lt (Nat.lt_of_lt_of_le (by have := World.block_lt_of_cell? _ _ hw226_0; first | rwa [add_block] at this | exact this) GW228.out))) _).trans (hHeld.2))))⟩ (fun hHeld => ?_)
    clear hK K
    refine done_ (done_of HT_.out (by kernel_rfl)) ?_
    try go_wp2
    go_loopg [6] k (fun kq v6 w' => ∃ (x6_1 : Int) (x229000_1 : Int) (x229001_1 : Int), v6 = .int .i64 x6_1 ∧ Aside0 (palantyperef02_Held.l0 kq l0 a1 x6_1 x229000_1 x229001_1 = some (r1, r2)) ∧ Aside0 (kq ≤ k) ∧ Aside0 (w'.heap[gb223]? = some (.cells #[.int .i64 0, .int .i64 0] 46 (0, 0))) ∧ Aside0 (w'.heap[gb228]? = some (.cells #[.int .i64 x229000_1, .int .i64 x229001_1] 46 (0, 0))) ∧ Aside0 (Below w.heap.size w w'))
    case atStart => exact ⟨(1), (t225), (t227), (by first | rfl | (simp; done) | (simp [*]; done)), H', ⟨Nat.le_refl _⟩, ⟨by (with_reducible repeat (first | refine blk_drewN ?_ _ | refine blk_drew ?_ | refine blk_alloc ?_ _)); refine blk_far ?_ NB223_228.out _; (with_reducible repeat (first | refine blk_drewN ?_ _ | refine blk_drew ?_ | refine blk_alloc ?_ _)); refine blk_far ?_ NB223_228.out _; (with_reducible repeat (first | refine blk_drewN ?_ _ | refine blk_drew ?_ | refine blk_alloc ?_ _)); exact BK223.out⟩, ⟨by (with_reducible repeat (first | refine blk_drewN ?_ _ | refine blk_drew ?_ | refine blk_alloc ?_ _)); refine blk_put (cs := #[.int .i64 t225, .int .i64 0]) ?_ 1 _ rfl; (with_reducible repeat (first | refine blk_drewN ?_ _ | refine blk_drew ?_ | refine blk_alloc ?_ _)); refine blk_put (cs := #[.int .i64 0, .int .i64 0]) ?_ 0 _ rfl; (with_reducible repeat (first | refine blk_drewN ?_ _ | refine blk_drew ?_ | refine blk_alloc ?_ _)); exact BK228.out⟩, ⟨by repeat (first | (with_reducible first | exact HB.out | apply below_alloc | apply pw_below_drewN | apply below_drew1 | refine below_set ?_ GE223.out | refine below_set ?_ GE228.out) | exact HB.out)⟩⟩
    case round =>
      clear H'
      try clear c2
      try clear p2
      try clear q2
      try clear hx2
      try clear qi2
      try clear c3
      try clear c3b0
      try clear c3b1
      try clear c4
      try clear hx224_0
      try clear hx226_0
      try clear p224
      try clear p226
      try clear q224
      try clear q226
      obtain ⟨x6_1, x229000_1, x229001_1, rfl, HA, HK1, BK223, BK228, HB⟩ := hrel
      cases gk with
      | zero => exact absurd HA.out (by simp [palantyperef02_Held.l0])
      | succ k1 =>
        have H := HA.out
        clear HA
        simp only [palantyperef02_Held.l0] at H
        by_cases c12 : x6_1 < (l0.length : Int)
        · rw [if_pos c12] at H
          have c12b0 : decide (x6_1 < (l0.length : Int)) = true := decide_eq_true c12
          clear c12
          by_cases c13 : 0 ≤ x6_1
          · rw [if_pos c13] at H
            have c13b0 : decide (0 ≤ x6_1) = true := decide_eq_true c13
            clear c13
            replace H := Option.bind_eq_some_iff.mp H
            obtain ⟨t230, A140, H⟩ := H
            replace H : (palantyperef02_Held.l0 k1 l0 a1 (wrap64 (x6_1 + 1)) (mn x229000_1 t230) (mx x229001_1 t230)) = some (r1, r2) := H
            have A14 := Aside0.mk A140
            clear A140
            obtain ⟨ji15, hji15⟩ : ∃ j_ : Int, (mn x229000_1 t230) = j_ := ⟨_, rfl⟩
            replace H : (palantyperef02_Held.l0 k1 l0 a1 (wrap64 (x6_1 + 1)) ji15 (mx x229001_1 t230)) = some (r1, r2) := by first | (rw [hji15] at H; exact H) | (simp only [hji15] at H ⊢; exact H)
            (try rw [hji15] at A14)
            have hji15_ : (if t230 < x229000_1 then t230 else x229000_1) = ji15 := hji15
            obtain ⟨ji16, hji16⟩ : ∃ j_ : Int, (mx x229001_1 t230) = j_ := ⟨_, rfl⟩
            replace H : (palantyperef02_Held.l0 k1 l0 a1 (wrap64 (x6_1 + 1)) ji15 ji16) = some (r1, r2) := by first | (rw [hji16] at H; exact H) | (simp only [hji16] at H ⊢; exact H)
            (try rw [hji16] at A14)
            have hji16_ : (if x229001_1 < t230 then t230 else x229001_1) = ji16 := hji16
            have H' := Aside0.mk H
            clear H
            have p229 : 0 ≤ (x6_1 : Int) := of_decide_eq_true (by first | (with_reducible assumption) | assumption)
            have q229 : x6_1 < (l0.length : Int) := of_decide_eq_true (by first | (with_reducible assumption) | assumption)
            obtain ⟨ad229, A229_0, c229_0, e229, hx229_0, hl229_0, hi229_0⟩ := at_L11 HR0.out x6_1 p229 q229
            obtain rfl : ad224 = ad229 := (by injection e229)
            replace hx229_0 := (HB.out.cell (World.block_lt_of_cell? w _ hx229_0)).trans hx229_0
            have HR229_0 := Aside0.mk hi229_0
            have HC229_0 := Aside0.mk hl229_0
            clear hi229_0 hl229_0
            replace p229 := eq_true p229
            replace q229 := eq_true q229
            go_wp2_with (first | ((with_reducible refine gate_callee (f := 46) rfl ?_); refine goesL_ (some 30) rfl rfl Try.func46 (by kernel_rfl) rfl #[.slice A229_0 (rd_L11 l0 x6_1).length c229_0, .int .i64 a1] rfl (by (try simp only [List.map_toArray, List.map_cons, List.map_nil]); first | done | rfl | (simp only [List.length_drop, List.length_take]; rfl)) ?_; (with_reducible refine (palantyperef02_Floor.calls k1 _ _ (rd_L11 l0 x6_1) a1 t230 _ ?side1 ?side2 A14.out).mono ?_); (case side1 => repeat (first | exact (Kd.C_below HR229_0.out HB.out) | (with_reducible refine Kd.C_alloc ?_ _) | (with_reducible refine Kd.C_drewN ?_ _) | (with_reducible refine Kd.C_drew ?_))); (case side2 => exact HC229_0.out); rintro e w' ⟨rfl, ⟨nd, rfl⟩⟩; refine ⟨_, rfl, ?_⟩; (try (rw [drewN_self wr]; generalize hq_ : World.drewN wr _ = wr; have n0_ : Aside0 (wr.heap[gb223]? = some (.cells #[.int .i64 0, .int .i64 0] 46 (0, 0))) := ⟨by rw [← hq_]; exact (by (with_reducible repeat (first | refine blk_drewN ?_ _ | refine blk_drew ?_ | refine blk_alloc ?_ _)); exact BK223.out)⟩; have n1_ : Aside0 (wr.heap[gb228]? = some (.cells #[.int .i64 x229000_1, .int .i64 x229001_1] 46 (0, 0))) := ⟨by rw [← hq_]; exact (by (with_reducible repeat (first | refine blk_drewN ?_ _ | refine blk_drew ?_ | refine blk_alloc ?_ _)); exact BK228.out)⟩; have n2_ : Aside0 (Below w.heap.size w wr) := ⟨by rw [← hq_]; exact (by repeat (first | (with_reducible first | exact HB.out | apply below_alloc | apply pw_below_drewN | apply below_drew1 | refine below_set ?_ GE223.out | refine below_set ?_ GE228.out) | exact HB.out))⟩; clear BK223 BK228 HB hq_; have BK223 := n0_; have BK228 := n1_; have HB := n2_; clear n0_ n1_ n2_)); have hnb17 := NB228_223.out; have hnc17 := NB223_228.out; have hcz18_0 : wr.cell? ⟨gb228, 0, none⟩ = some (.int .i64 x229000_1) := (blk_cell BK228.out 0).trans rfl; have hcz18_1 : wr.cell? ⟨gb228, 1, none⟩ = some (.int .i64 x229001_1) := (blk_cell BK228.out 1).trans rfl; have hfz18_0 := blk_frozen BK228.out 0; have hfz18_1 := blk_frozen BK228.out 1))
            go_roundg k1
            case measure => have := HK1.out; omega
            case rel => exact ⟨(wrap64 (x6_1 + 1)), (ji15), (ji16), (by first | rfl | (simp; done) | (simp [*]; done)), H', ⟨by have := HK1.out; omega⟩, ⟨by (with_reducible repeat (first | refine blk_drewN ?_ _ | refine blk_drew ?_ | refine blk_alloc ?_ _)); refine blk_far ?_ NB223_228.out _; (with_reducible repeat (first | refine blk_drewN ?_ _ | refine blk_drew ?_ | refine blk_alloc ?_ _)); refine blk_far ?_ NB223_228.out _; (with_reducible repeat (first | refine blk_drewN ?_ _ | refine blk_drew ?_ | refine blk_alloc ?_ _)); exact BK223.out⟩, ⟨by (with_reducible repeat (first | refine blk_drewN ?_ _ | refine blk_drew ?_ | refine blk_alloc ?_ _)); refine blk_put (cs := #[.int .i64 ji15, .int .i64 x229001_1]) ?_ 1 _ rfl; (with_reducible repeat (first | refine blk_drewN ?_ _ | refine blk_drew ?_ | refine blk_alloc ?_ _)); refine blk_put (cs := #[.int .i64 x229000_1, .int .i64 x229001_1]) ?_ 0 _ rfl; (with_reducible repeat (first | refine blk_drewN ?_ _ | refine blk_drew ?_ | refine blk_alloc ?_ _)); exact BK228.out⟩, ⟨by repeat (first | (with_reducible first | exact HB.out | apply below_alloc | apply pw_below_drewN | apply below_drew1 | refine below_set ?_ GE223.out | refine below_set ?_ GE228.out) | exact HB.out)⟩⟩
          · rw [if_neg c13] at H
            exact absurd H (by simp)
        · rw [if_neg c12] at H
          have c12b0 : decide (x6_1 < (l0.length : Int)) = false := decide_eq_false c12
          clear c12
          simp only [Option.some.injEq, Prod.mk.injEq] at H
          obtain ⟨rfl, rfl⟩ := H
          have hnb19 := NB228_223.out
          have hnc19 := NB223_228.out
          have hcz20_0 : wr.cell? ⟨gb228, 0, none⟩ = some (.int .i64 x229000_1) := (blk_cell BK228.out 0).trans rfl
          have hcz20_1 : wr.cell? ⟨gb228, 1, none⟩ = some (.int .i64 x229001_1) := (blk_cell BK228.out 1).trans rfl
          have hfz20_0 := blk_frozen BK228.out 0
          have hfz20_1 := blk_frozen BK228.out 1
          have hcz21_0 : wr.cell? ⟨gb223, 0, none⟩ = some (.int .i64 0) := (blk_cell BK223.out 0).trans rfl
          have hcz21_1 : wr.cell? ⟨gb223, 1, none⟩ = some (.int .i64 0) := (blk_cell BK223.out 1).trans rfl
          have hfz21_0 := blk_frozen BK223.out 0
          have hfz21_1 := blk_frozen BK223.out 1
          go_wp2
          refine bodyPost_ret (results_cell_row rfl _ _ gb223 46 #[.int .i64 x229000_1, .int .i64 x229001_1] (0, 0) _ rfl (by (with_reducible repeat (first | refine blk_drewN ?_ _ | refine blk_drew ?_ | refine blk_alloc ?_ _)); refine blk_put (cs := #[.int .i64 x229000_1, .int .i64 0]) ?_ 1 _ rfl; (with_reducible repeat (first | refine blk_drewN ?_ _ | refine blk_drew ?_ | refine blk_alloc ?_ _)); refine blk_put (cs := #[.int .i64 0, .int .i64 0]) ?_ 0 _ rfl; (with_reducible repeat (first | refine blk_drewN ?_ _ | refine blk_drew ?_ | refine blk_alloc ?_ _)); exact BK223.out) Try.underlying46 rfl (by kernel_rfl)) rfl ?_
          exact ⟨by first | rfl | (simp [errW_none, errW_some] <;> rfl) | (simp [*, errW_none, errW_some] <;> rfl), by repeat (first | (with_reducible first | exact HB.out | apply below_alloc | apply pw_below_drewN | apply below_drew1 | refine below_set ?_ GE223.out | refine below_set ?_ GE228.out) | exact HB.out)⟩
  · rw [if_neg c3] at H
    exact absurd H (by simp)
end Go.Proofs.Ytdnjmhhjjbdieaa.Q
end
section
namespace Go.Proofs.YtdnjmhhjjbdieaaW.PrintWords
open Go.RowKit
section
variable {P : Program} {d : Nat} {xs ys : Array Value} {f : Field} {fs : List Field} {a b : Value} {r s : Bool} {w : World}
theorem eqf_last (hn : (f.name == "_") = false) (ha : (part f.type xs f.offset).run P w = .ok a w) (hb : (part f.type ys f.offset).run P w = .ok b w) (he : (Op.equalIn d f.type a b).run P w = .ok r w) : (Op.eqFields d xs ys [f]).run P w = .ok r w := by
  have hn' : f.name ≠ "_" := by simpa using hn
  simp only [Op.eqFields, if_pos hn', Sem.run_bind, ha, hb, he, Result.andThen_ok]
  cases r <;> simp
theorem eqf_cons (hn : (f.name == "_") = false) (ha : (part f.type xs f.offset).run P w = .ok a w) (hb : (part f.type ys f.offset).run P w = .ok b w) (he : (Op.equalIn d f.type a b).run P w = .ok r w) (hr : (Op.eqFields d xs ys fs).run P w = .ok s w) : (Op.eqFields d xs ys (f :: fs)).run P w = .ok (r && s) w := by
  have hn' : f.name ≠ "_" := by simpa using hn
  rw [Op.eqFields]
  simp only [if_pos hn', Sem.run_bind, ha, hb, he, Result.andThen_ok]
  cases r
  · simp
  · simpa using hr
theorem eqA_of {t : TypeId} {fs : Array Field} (hu : P.underlying t = some (.struct fs)) (hp : P.stoodInHeld t = false) (h : (Op.eqFields d xs ys fs.toList).run P w = .ok r w) : (Op.equalIn (d + 1) t (.agg xs) (.agg ys)).run P w = .ok r w := by
  have hf : P.fieldsOf t = fs := by simp [Program.fieldsOf, hu]
  rw [run_equalIn_struct (P := P) w d t xs ys (by rw [hf]; exact hu) hp, hf]
  exact h
end
end Go.Proofs.YtdnjmhhjjbdieaaW.PrintWords
end
section
namespace Go.Proofs.Ytdnjmhhjjbdieaa.Q
open Go.RowKit Go.Proofs.YtdnjmhhjjbdieaaW.PrintWords Go.Proofs.YtdnjmhhjjbdieaaW.PrintLast
set_option linter.unusedVariables false
set_option linter.unusedSimpArgs false
theorem eqA42 (d : Nat) (w : World) (x0 y0 : Int) (x1 y1 : Int) :
    (Op.equalIn (d + 2) 42 (.agg #[.int .i64 x0, .int .i64 x1]) (.agg #[.int .i64 y0, .int .i64 y1])).run Try.prog w = .ok (x0 == y0 && (x1 == y1)) w := by
  refine eqA_of Try.underlying42 (by kernel_rfl) ?_
  refine eqf_cons (by rfl) (by go_simp; rfl) (by go_simp; rfl) (by go_simp) ?_
  exact eqf_last (by rfl) (by go_simp; rfl) (by go_simp; rfl) (by go_simp)
end Go.Proofs.Ytdnjmhhjjbdieaa.Q
end
section
namespace Go.Proofs.Ytdnjmhhjjbdieaa.Q
open Go.RowKit Go.Proofs.YtdnjmhhjjbdieaaW.PrintWords Go.Proofs.YtdnjmhhjjbdieaaW.PrintLast
set_option linter.unusedVariables false
set_option linter.unusedSimpArgs false
def palantypelaw02_house.f  : Option (Int × Int × Int × Int × (List (S52))) := some (3, 2, 3, 1, (([(⟨3, 3⟩ : S52), (⟨3, 4⟩ : S52), (⟨3, 1⟩ : S52), (⟨Go.bits .or .u16 2 32768, Go.bits .or .u16 2 32768⟩ : S52), (⟨2, 6⟩ : S52)] : List (S52))))
set_option maxHeartbeats 8000000 in
set_option maxRecDepth 100000 in
theorem palantypelaw02_house.calls  (r1 : Int) (r2 : Int) (r3 : Int) (r4 : Int) (r5 : List (S52)) (w : World) (h : palantypelaw02_house.f  = some (r1, r2, r3, r4, r5)) :
    Calls Try.prog 49 #[] w fun e w' => ∃ v4_ : Value, e = .returned (.agg #[.int .i64 r1, .int .i64 r2, .int .i64 r3, .int .i64 r4, v4_]) ∧ Kd.R k52 52 w' w.heap.size (fun _ => True) v4_ r5 ∧ Below w.heap.size w w' := by
  have hu33 := Try.underlying33
  have hu52 := Try.underlying52
  have HB := Aside0.mk (Below.refl w.heap.size w)
  have H : (some (3, 2, 3, 1, (([(⟨3, 3⟩ : S52), (⟨3, 4⟩ : S52), (⟨3, 1⟩ : S52), (⟨Go.bits .or .u16 2 32768, Go.bits .or .u16 2 32768⟩ : S52), (⟨2, 6⟩ : S52)] : List (S52))))) = some (r1, r2, r3, r4, r5) := h
  clear h
  obtain ⟨y122, hy122⟩ : ∃ y_ : List (S52), y_ = (([(⟨3, 3⟩ : S52), (⟨3, 4⟩ : S52), (⟨3, 1⟩ : S52), (⟨Go.bits .or .u16 2 32768, Go.bits .or .u16 2 32768⟩ : S52), (⟨2, 6⟩ : S52)] : List (S52))) := ⟨_, rfl⟩
  replace H : (some (3, 2, 3, 1, y122)) = some (r1, r2, r3, r4, r5) := by first | (rw [hy122]; with_reducible exact H) | (have H2_ := (Option.bind_some _ _).symm.trans H; rw [hy122]; with_reducible exact H2_) | (have H2_ := (Option.bind_some _ _).symm.trans H; with_reducible exact H2_) | with_reducible exact H | (rw [hy122]; exact H) | exact H
  have Ny122 := Aside0.mk hy122
  clear hy122
  simp only [Option.some.injEq, Prod.mk.injEq] at H
  obtain ⟨rfl, rfl, rfl, rfl, rfl⟩ := H
  go_enter Try.func49, Try.ntmps49
  go_wp2_with (first | ((with_reducible refine gate_dst (N := 0) rfl ?_); refine box_event ?hg (N := 0) ?hd (cs := #[.int .i64 0, .int .i64 0, .int .i64 0, .int .i64 0, .slice none 0 0]) (t := 33) ?hr ?_; (case hd => rfl); (case hg => rfl); (case hr => first | (go_simp; done) | (go_simp; rfl)); intro gb121 hg w1 hbox hb; have n0_ := Aside0.mk (below_step (by repeat (first | (with_reducible first | exact HB.out | apply below_alloc | apply pw_below_drewN | apply below_drew1) | exact HB.out)) hb); have n1_ := Aside0.mk (hbox); have n2_ := Aside0.mk ((by rw [hg]; exact (below_size (by repeat (first | (with_reducible first | exact HB.out | apply below_alloc | apply pw_below_drewN | apply below_drew1) | exact HB.out))) : w.heap.size ≤ gb121)); have n3_ := Aside0.mk ((by rw [hg]; exact (below_size (by repeat (first | (with_reducible first | exact HB.out | apply below_alloc | apply pw_below_drewN | apply below_drew1) | exact HB.out))) : w.heap.size ≤ gb121)); clear HB; have HB := n0_; have BK121 := n1_; have GW121 := n2_; have GE121 := n3_; clear n0_ n1_ n2_ n3_; clear hb hbox hg) | ((with_reducible refine gate_dst (N := 11) rfl ?_); refine Kd.R_lit k52 _ 52 ?hg (N := 11) ?hd (xs := ([(⟨3, 3⟩ : S52), (⟨3, 4⟩ : S52), (⟨3, 1⟩ : S52), (⟨Go.bits .or .u16 2 32768, Go.bits .or .u16 2 32768⟩ : S52), (⟨2, 6⟩ : S52)] : List (S52))) (inner := [.int .u16 3, .int .u16 3, .int .u16 3, .int .u16 4, .int .u16 3, .int .u16 1, .int .u16 (Go.bits .or .u16 2 32768), .int .u16 (Go.bits .or .u16 2 32768), .int .u16 2, .int .u16 6]) (ok := fun _ => True) (okp := fun _ => True) ?hr ?hp (fun _ hk => hk) trivial (Below.refl _ _) (Nat.le_refl _) (by simp) ?_; (case hd => rfl); (case hg => rfl); (case hr => first | (go_simp; done) | (go_simp; rfl)); (case hp => exact (Reps.c2 (show Kd.M k52 _ _ _ (⟨3, 3⟩ : S52) [.int .u16 3, .int .u16 3] from (k52_mkM _ _ _ (⟨3, 3⟩ : S52) )) (Reps.c2 (show Kd.M k52 _ _ _ (⟨3, 4⟩ : S52) [.int .u16 3, .int .u16 4] from (k52_mkM _ _ _ (⟨3, 4⟩ : S52) )) (Reps.c2 (show Kd.M k52 _ _ _ (⟨3, 1⟩ : S52) [.int .u16 3, .int .u16 1] from (k52_mkM _ _ _ (⟨3, 1⟩ : S52) )) (Reps.c2 (show Kd.M k52 _ _ _ (⟨Go.bits .or .u16 2 32768, Go.bits .or .u16 2 32768⟩ : S52) [.int .u16 (Go.bits .or .u16 2 32768), .int .u16 (Go.bits .or .u16 2 32768)] from (k52_mkM _ _ _ (⟨Go.bits .or .u16 2 32768, Go.bits .or .u16 2 32768⟩ : S52) )) (Reps.c2 (show Kd.M k52 _ _ _ (⟨2, 6⟩ : S52) [.int .u16 2, .int .u16 6] from (k52_mkM _ _ _ (⟨2, 6⟩ : S52) )) (Reps.none _ _))))))); intro v123 w2 ho3 hb hg_ hnew_; clear hg_ hnew_; (first | rw [← Ny122.out] at ho3 | (simp only [Int.reduceToNat] at ho3; rw [← Ny122.out] at ho3)); have n0_ := Aside0.mk (Kd.R_lower ho3 (below_size (by repeat (first | (with_reducible first | exact HB.out | apply below_alloc | apply pw_below_drewN | apply below_drew1 | refine below_set ?_ GE121.out) | exact HB.out)))); have n1_ := Aside0.mk (blk_below (g := gb121) (o := .cells #[.int .i64 0, .int .i64 0, .int .i64 0, .int .i64 0, .slice none 0 0] 33 (0, 0)) (by (with_reducible repeat (first | refine blk_drewN ?_ _ | refine blk_drew ?_ | refine blk_alloc ?_ _)); exact BK121.out) hb); have n2_ := Aside0.mk (below_step (by repeat (first | (with_reducible first | exact HB.out | apply below_alloc | apply pw_below_drewN | apply below_drew1 | refine below_set ?_ GE121.out) | exact HB.out)) hb); clear BK121; clear HB; have HO124 := n0_; have BK121 := n1_; have HB := n2_; clear n0_ n1_ n2_; clear hb ho3; obtain ⟨Ao4, co4, eo4⟩ := Kd.R_slice HO124.out; subst eo4; have hcz5_0 : w2.cell? ⟨gb121, 0, none⟩ = some (.int .i64 0) := (blk_cell BK121.out 0).trans rfl; have hcz5_1 : w2.cell? ⟨gb121, 1, none⟩ = some (.int .i64 0) := (blk_cell BK121.out 1).trans rfl; have hcz5_2 : w2.cell? ⟨gb121, 2, none⟩ = some (.int .i64 0) := (blk_cell BK121.out 2).trans rfl; have hcz5_3 : w2.cell? ⟨gb121, 3, none⟩ = some (.int .i64 0) := (blk_cell BK121.out 3).trans rfl; have hcz5_4 : w2.cell? ⟨gb121, 4, none⟩ = some (.slice none 0 0) := (blk_cell BK121.out 4).trans rfl; have hfz5_0 := blk_frozen BK121.out 0; have hfz5_1 := blk_frozen BK121.out 1; have hfz5_2 := blk_frozen BK121.out 2; have hfz5_3 := blk_frozen BK121.out 3; have hfz5_4 := blk_frozen BK121.out 4))
  refine bodyPost_ret (results_cell_row rfl _ _ gb121 33 #[.int .i64 3, .int .i64 2, .int .i64 3, .int .i64 1, .slice Ao4 y122.length co4] (0, 0) _ rfl (by (with_reducible repeat (first | refine blk_drewN ?_ _ | refine blk_drew ?_ | refine blk_alloc ?_ _)); refine blk_put (cs := #[.int .i64 3, .int .i64 2, .int .i64 3, .int .i64 1, .slice none 0 0]) ?_ 4 _ rfl; (with_reducible repeat (first | refine blk_drewN ?_ _ | refine blk_drew ?_ | refine blk_alloc ?_ _)); refine blk_put (cs := #[.int .i64 3, .int .i64 2, .int .i64 3, .int .i64 0, .slice none 0 0]) ?_ 3 _ rfl; (with_reducible repeat (first | refine blk_drewN ?_ _ | refine blk_drew ?_ | refine blk_alloc ?_ _)); refine blk_put (cs := #[.int .i64 3, .int .i64 2, .int .i64 0, .int .i64 0, .slice none 0 0]) ?_ 2 _ rfl; (with_reducible repeat (first | refine blk_drewN ?_ _ | refine blk_drew ?_ | refine blk_alloc ?_ _)); refine blk_put (cs := #[.int .i64 3, .int .i64 0, .int .i64 0, .int .i64 0, .slice none 0 0]) ?_ 1 _ rfl; (with_reducible repeat (first | refine blk_drewN ?_ _ | refine blk_drew ?_ | refine blk_alloc ?_ _)); refine blk_put (cs := #[.int .i64 0, .int .i64 0, .int .i64 0, .int .i64 0, .slice none 0 0]) ?_ 0 _ rfl; (with_reducible repeat (first | refine blk_drewN ?_ _ | refine blk_drew ?_ | refine blk_alloc ?_ _)); exact BK121.out) Try.underlying33 rfl (by kernel_rfl)) rfl ?_
  exact ⟨_, by first | rfl | (simp [errW_none, errW_some] <;> rfl) | (simp [*, errW_none, errW_some] <;> rfl), by (with_reducible repeat (first | apply Kd.R_alloc | apply Kd.R_drewN | apply Kd.R_drew)); exact Kd.R_mono (Kd.R_far (p := ⟨gb121, 4, none⟩) (Kd.R_far (p := ⟨gb121, 3, none⟩) (Kd.R_far (p := ⟨gb121, 2, none⟩) (Kd.R_far (p := ⟨gb121, 1, none⟩) (Kd.R_far (p := ⟨gb121, 0, none⟩) (Kd.R_types HO124.out BK121.out (by decide)) (fun _ hk => hk.2) (.int .i64 3)) (fun _ hk => hk.2) (.int .i64 2)) (fun _ hk => hk.2) (.int .i64 3)) (fun _ hk => hk.2) (.int .i64 1)) (fun _ hk => hk.2) (.slice Ao4 y122.length co4)) (fun _ hk => trivial), by repeat (first | (with_reducible first | exact HB.out | apply below_alloc | apply pw_below_drewN | apply below_drew1 | refine below_set ?_ GE121.out) | exact HB.out)⟩
end Go.Proofs.Ytdnjmhhjjbdieaa.Q
end
section
namespace Go.Proofs.Ytdnjmhhjjbdieaa.Q
open Go.RowKit Go.Shelf Go.Proofs.YtdnjmhhjjbdieaaW.PrintWords Go.Proofs.YtdnjmhhjjbdieaaW.PrintLast
set_option linter.unusedVariables false
set_option linter.unusedSimpArgs false
attribute [local go_sem] Oper.semAt_some
theorem infoTold : (Try.prog.info? 54).map (fun i => (i.zero, i.size, i.bytes)) = some (some (.agg #[(.int .u16 0), (.int .u16 0)]), 2, 4) := by kernel_rfl
theorem made_zero (m k : Nat) (h : k < m) : (madeCells #[Value.int .u16 0, .int .u16 0] m)[k]? = some (.int .u16 0) := by
  unfold madeCells
  rw [Array.getElem?_map, Array.getElem?_range, if_pos h]
  simp only [Option.map_some]
  have : k % 2 = 0 ∨ k % 2 = 1 := by omega
  rcases this with e | e <;> simp [e]
theorem made_told (m : Nat) (hm : m ≤ 40) (W : World) : (Instr.makeSlice 27 (.int .i64 m) (.int .i64 m)).run Try.prog W = .ok (.slice (some ⟨W.heap.size, 0, none⟩) m m) (W.alloc (.cells (madeCells #[Value.int .u16 0, .int .u16 0] (m * 2)) 54)) := by
  obtain ⟨inf, hinf, hif⟩ : ∃ i, Try.prog.info? 54 = some i ∧ (i.zero, i.size, i.bytes) = (some (.agg #[(.int .u16 0), (.int .u16 0)]), 2, 4) := by
    have h := infoTold
    cases h2 : Try.prog.info? 54 with
    | none => rw [h2] at h; cases h
    | some i => rw [h2] at h; exact ⟨i, rfl, Option.some.inj h⟩
  simp only [Prod.mk.injEq] at hif
  have := run_makeSlice (P := Try.prog) W 27 54 inf (.agg #[(.int .u16 0), (.int .u16 0)]) Try.underlying27 hinf hif.1 .i64 .i64 m m (by omega) (Int.le_refl _) (by rw [hif.2.1]; omega) (by rw [hif.2.2]; omega) (by omega)
  rw [hif.2.1] at this
  exact this
set_option maxRecDepth 100000 in
set_option maxHeartbeats 4000000 in
theorem floor_Who.calls (a0_0 a0_1 a0_2 a0_3 : Int) (A0_4 : Option Addr) (c0_4 : Nat) (l0_4 : List S52) (r1 : List S54) (r2 : Int) (w : World) (hr0_4 : Kd.C k52 w A0_4 l0_4.length l0_4) (hc0_4 : l0_4.length ≤ c0_4)
    (h : floor_Who.f a0_0 a0_1 a0_2 a0_3 l0_4 = some (r1, r2)) :
    Calls Try.prog 18 #[.agg #[.int .i64 a0_0, .int .i64 a0_1, .int .i64 a0_2, .int .i64 a0_3, .slice A0_4 l0_4.length c0_4]] w fun e w' => ∃ v0_ : Value, e = .returned (.tuple #[v0_, .int .i64 r2]) ∧ Kd.R k54 54 w' w.heap.size (fun _ => True) v0_ r1 ∧ Below w.heap.size w w' := by
  have hu := Try.underlying33
  refine (callsIn_wide (n := 0)).1 ?_
  refine callsIn_of_wp_marks Try.func18 rfl trivial ?_ rfl
  simp only [Try.ntmps18, List.size_toArray, List.length_cons, List.length_nil, Nat.reduceAdd, Nat.reduceSub, Array.replicate_succ, Array.replicate_zero, List.push_toArray, List.append_toArray, List.nil_append, List.cons_append]
  unfold floor_Who.f at h
  obtain ⟨W0, hW0⟩ : ∃ W0, w.alloc (.cells #[.int .i64 a0_0, .int .i64 a0_1, .int .i64 a0_2, .int .i64 a0_3, .slice A0_4 l0_4.length c0_4] 33) = W0 := ⟨_, rfl⟩
  have hs0 : W0.heap.size = w.heap.size + 1 := by rw [← hW0]; simp
  have hsc0 : W0.heap[w.heap.size]? = some (.cells #[.int .i64 a0_0, .int .i64 a0_1, .int .i64 a0_2, .int .i64 a0_3, .slice A0_4 l0_4.length c0_4] 33 (0, 0)) := by rw [← hW0]; exact heap_new rfl
  have hb0 : Below w.heap.size w W0 := by rw [← hW0]; exact (Below.refl _ w).alloc (Nat.le_refl _) _
  have e0 := cell_of hsc0 (i := 0) rfl
  have e1 := cell_of hsc0 (i := 1) rfl
  have e2 := cell_of hsc0 (i := 2) rfl
  have e3 := cell_of hsc0 (i := 3) rfl
  have e4 := cell_of hsc0 (i := 4) rfl
  simp only [List.getElem_toArray, List.getElem_cons_zero, List.getElem_cons_succ] at e0 e1 e2 e3 e4
  have HS0 := Lib.hid hs0
  have HSC0 := Lib.hid hsc0
  have HB0 := Lib.hid hb0
  have HR := Lib.hid (Kd.C_below hr0_4 hb0)
  have HR' := Lib.hid hr0_4
  clear hs0 hsc0 hb0 hr0_4
  gi_wp2
  clear hW0
  cases hck : floor_Scene_check.f a0_0 a0_1 a0_2 a0_3 l0_4 with
  | none => rw [hck] at h; cases h
  | some r =>
    rw [hck] at h
    simp only [] at h
    have HCK := Lib.hid hck
    have HH := Lib.hid h
    clear hck h
    by_cases hr : r = 0
    · subst hr
      obtain ⟨hl, ⟨n, rfl, hn1, hn⟩, _⟩ := check_ok HCK.out
      have hnn : (n : Int).toNat = n := Int.toNat_natCast n
      refine ⟨trivial, rfl, (callsIn_wide.2 (checked.good n a0_1 a0_2 a0_3 A0_4 c0_4 l0_4 W0 HR.out hc0_4 HCK.out)).mono ?_⟩
      rintro e W1 ⟨g, i, rfl, hb1, hL⟩
      obtain ⟨sb, cS, bs, hne, hcase⟩ := hL
      have h' := HH.out
      rw [if_pos rfl, hnn] at h'
      have HB1 := Lib.hid hb1
      have HNE := Lib.hid hne
      clear hb1 hne HH
      by_cases hi : i = l0_4.length
      · rcases hcase with ⟨_, hSe⟩ | ⟨hi', _⟩
        · subst hi
          have hem : ¬ (fwdL a0_1 a0_2 a0_3 n l0_4 l0_4.length).isEmpty = true := fun hc => by
            obtain ⟨x, hx⟩ := HNE.out _ (Nat.le_refl _)
            exact fwdL_empty.1 hc x hx
          rw [if_neg hem] at h'
          obtain ⟨rfl, rfl⟩ := Prod.mk.inj (Option.some.inj h')
          rw [if_pos rfl]
          have hz1 := HB1.out.size
          have hz0 := HS0.out
          obtain ⟨Wx, hWx⟩ : ∃ Wx, W1.alloc (.cells #[.pointer (some ⟨g, 0, none⟩)] 101) = Wx := ⟨_, rfl⟩
          have hzx : Wx.heap.size = W1.heap.size + 1 := by rw [← hWx]; simp
          have hmk := made_told l0_4.length hl (W1.alloc (.cells #[.pointer (some ⟨g, 0, none⟩)] 101))
          rw [World.size_alloc] at hmk
          have f4 : W1.cell? ⟨w.heap.size, 4, none⟩ = _ := (HB1.out.cell (p := ⟨w.heap.size, 4, none⟩) (by show w.heap.size < W0.heap.size; omega)).trans e4
          have q0 : w.heap.size < W1.heap.size := by omega
          have q1 : w.heap.size < W1.heap.size + 1 := by omega
          have q2 : w.heap.size < W1.heap.size + 1 + 1 := by omega
          have q3 : w.heap.size < W1.heap.size + 1 + 1 + 1 := by omega
          have HSE := Lib.hid hSe
          have HZ1 := Lib.hid hz1
          have HZ0 := Lib.hid hz0
          clear h' hem e0 e1 e2 e3 e4 hSe hz1 hz0 hzx hWx Wx
          gi_wp2
          obtain ⟨Wz, hWz⟩ : ∃ Wz, ((W1.alloc (.cells #[.pointer (some ⟨g, 0, none⟩)] 101)).alloc (.cells (madeCells #[Value.int .u16 0, .int .u16 0] (l0_4.length * 2)) 54)).alloc (.cells #[.slice (some ⟨W1.heap.size + 1, 0, none⟩) l0_4.length l0_4.length] 27) = Wz := ⟨_, rfl⟩
          rw [hWz]
          have hz1 := HZ1.out
          have hz0 := HZ0.out
          have hbz : Below W1.heap.size W1 Wz := by rw [← hWz]; exact (((Below.refl _ W1).alloc (Nat.le_refl _) _).alloc (by simp) _).alloc (by simp; omega) _
          have hzz : Wz.heap.size = W1.heap.size + 3 := by rw [← hWz]; simp
          have hxc : Wz.heap[W1.heap.size]? = some (.cells #[.pointer (some ⟨g, 0, none⟩)] 101 (0, 0)) := by rw [← hWz]; exact heap_old (heap_old (heap_new rfl))
          have hob : Wz.heap[W1.heap.size + 1]? = some (.cells (madeCells #[Value.int .u16 0, .int .u16 0] (l0_4.length * 2)) 54 (0, 0)) := by rw [← hWz]; exact heap_old (heap_new (by simp))
          have hoc : Wz.heap[W1.heap.size + 1 + 1]? = some (.cells #[.slice (some ⟨W1.heap.size + 1, 0, none⟩) l0_4.length l0_4.length] 27 (0, 0)) := by rw [← hWz]; exact heap_new (by simp)
          have hb0z : Below W0.heap.size W0 Wz := HB1.out.trans (hbz.mono hz1)
          have hout : Out (W1.heap.size + 1) l0_4.length (fun _ => (0, 0)) Wz := ⟨_, hob, by simp [size_madeCells], fun j hj => ⟨made_zero _ _ (by omega), made_zero _ _ (by omega)⟩⟩
          refine who.rounds n hn a0_1 a0_2 a0_3 A0_4 c0_4 l0_4 hl w.heap.size W1.heap.size (W1.heap.size + 1 + 1) g sb cS (W1.heap.size + 1) W0.heap.size bs _ _ _ _ _ _ _ _ _ _ _ _ _ _ _ _ _ _ _ _ _ _ _ _ _ _ _ _ _ _ _ _ _ _ _ _ _ _ _ _ _ _ _ _ _ _ _ _ _ _ _ _ _ _ _ _ _ _ _ _ _ _ _ _ _ _ _ _ _ _ _ _ _ _ _ _ _ _ _ Wz
            (Kd.C_below HR.out hb0z) (fun ad had hlen => by
              subst had
              obtain ⟨ad', e, m0, _⟩ := at_T52 HR'.out 0 (by omega) (by omega)
              cases e
              have := World.block_lt_of_cell? w _ m0
              have hbl : (ad.add 0).block = ad.block := by unfold Addr.add; split <;> rfl
              simp at this
              omega)
            ((hb0z.block _ (by omega)).trans HSC0.out) hxc hoc (HSE.out.below hbz) hout (by omega) ?_
          rintro ds3 a7 a8 a9 a10 a11 a27 a28 a29 a30 a31 a32 a33 a34 a35 a36 a37 a38 a39 a40 a41 a42 a43 a44 a45 a46 a47 a50 a51 a52 a53 a54 a55 a56 a57 a58 a59 a60 a61 a62 a63 a64 a65 a66 a67 a68 a69 a70 a71 a72 a73 a74 a75 a76 a77 a78 a79 a80 a81 a82 F W2 hF hO2 hfd hC
          have hoc2 := (hF.same _ (by omega) (by omega)).trans hoc
          have eo := cell_of hoc2 (i := 0) rfl
          simp only [List.getElem_toArray, List.getElem_cons_zero] at eo
          have HF := Lib.hid hF
          have HO2 := Lib.hid hO2
          have HFD := Lib.hid hfd
          have HC := Lib.hid hC
          have HBZ := Lib.hid hb0z
          have HZZ := Lib.hid hzz
          clear hF hO2 hfd hC hoc2 hbz hb0z hzz hxc hob hoc hout hWz
          gi_wp2
          have hzz := HZZ.out
          refine leave_marks _ _ HC.out (fun W4 hF4 => ⟨_, results_tmp2 rfl _ _ _, _, rfl, ?_, ?_⟩)
          · have hts : ((List.range l0_4.length).map (toldOf a0_1 a0_2 a0_3 n l0_4)).length = l0_4.length := by simp
            have hO4 : Out (W1.heap.size + 1) l0_4.length F W4 := HO2.out.same (hF4.same _ HO2.out.lt (fun h => by
              obtain ⟨cs, q, _⟩ := HO2.out
              rw [q] at h; cases h.2.2))
            have := Out.told (ob := W1.heap.size + 1) (F := F) (ts := (List.range l0_4.length).map (toldOf a0_1 a0_2 a0_3 n l0_4)) (w := W4) (base := w.heap.size) (by rw [hts]; exact hO4) (by omega) (fun j t hj => by
              obtain ⟨hj1, hj2⟩ := List.getElem?_eq_some_iff.1 hj
              have hjl : j < l0_4.length := by simpa using hj1
              simp at hj2
              rw [← hj2]
              exact found_told hn hjl (HFD.out j hjl)) (by rw [hts]; exact hl)
            rw [hts] at this
            exact this
          · have h02 : Below w.heap.size w Wz := HB0.out.trans (HBZ.out.mono HB0.out.size)
            exact (h02.trans ((HF.out.below (n := w.heap.size) (by omega) (fun k hk => by omega)))).trans (hF4.below (n := w.heap.size) (by have := HF.out.size; omega) (fun k hk h => by omega))
        · omega
      · rcases hcase with ⟨hi', _⟩ | ⟨hi', hno, _⟩
        · exact absurd hi' hi
        · have hem : (fwdL a0_1 a0_2 a0_3 n l0_4 l0_4.length).isEmpty = true := fwdL_empty.2 (fun x => by
            have := fwd_later hno (l0_4.length - (i + 1)) x
            rwa [show i + 1 + (l0_4.length - (i + 1)) = l0_4.length by omega] at this)
          rw [if_pos hem] at h'
          obtain ⟨rfl, rfl⟩ := Prod.mk.inj (Option.some.inj h')
          rw [if_neg hi]
          clear h' hem hno
          gi_wp2
          refine ⟨_, results_tmp2 rfl _ _ _, _, rfl, Kd.R_nil _ _ _ _ _, ?_⟩
          exact (HB0.out.trans (HB1.out.mono HB0.out.size)).alloc (Nat.le_trans HB0.out.size HB1.out.size) _
    · have h' := HH.out
      rw [if_neg hr] at h'
      obtain ⟨rfl, rfl⟩ := Prod.mk.inj (Option.some.inj h')
      have hr2 : (r == 0) = false := by simpa using hr
      clear h' HH
      refine ⟨trivial, rfl, (callsIn_wide.2 (checked.bad a0_0 a0_1 a0_2 a0_3 A0_4 c0_4 l0_4 r W0 HR.out hc0_4 HCK.out hr)).mono ?_⟩
      rintro e W1 ⟨rfl, hb1⟩
      have HB1 := Lib.hid hb1
      clear hb1
      gi_wp2
      refine ⟨_, results_tmp2 rfl _ _ _, _, rfl, Kd.R_nil _ _ _ _ _, ?_⟩
      exact (HB0.out.trans (HB1.out.mono HB0.out.size)).alloc (Nat.le_trans HB0.out.size HB1.out.size) _
end Go.Proofs.Ytdnjmhhjjbdieaa.Q
end
section
namespace Go.Proofs.Ytdnjmhhjjbdieaa.Q
open Go.RowKit Go.Shelf Go.Proofs.YtdnjmhhjjbdieaaW.PrintWords Go.Proofs.YtdnjmhhjjbdieaaW.PrintLast
set_option linter.unusedVariables false
set_option linter.unusedSimpArgs false
def houseL : List S52 := [⟨3, 3⟩, ⟨3, 4⟩, ⟨3, 1⟩, ⟨Go.bits .or .u16 2 32768, Go.bits .or .u16 2 32768⟩, ⟨2, 6⟩]
def houseW : List S54 := [⟨1, 1⟩, ⟨1, 4⟩, ⟨1, 1⟩, ⟨32770, 32770⟩, ⟨2, 6⟩]
def houseR : List S100 := [⟨1, 1⟩, ⟨1, 4⟩, ⟨1, 1⟩, ⟨Go.bits .or .u16 2 32768, Go.bits .or .u16 2 32768⟩, ⟨2, 6⟩]
theorem house_who : floor_Who.f 3 2 3 1 houseL = some (houseW, 0) := by kernel_rfl
theorem house_held : floor_Held.f 3 2 3 1 houseL 1 = some (1, 2, 0) := by kernel_rfl
theorem house_told : palantypelaw02_told.f 10 houseW houseR = some true := by kernel_rfl
def palantypelaw02_awake.f : Option Bool := some true
theorem pairs_at (ps : List S100) : ∀ (j i : Nat) (p : S100) (u : Value), ps[j]? = some p → ([Value.int .u16 p.f0, .int .u16 p.f1] : List Value)[i]? = some u → (ps.flatMap fun p => [Value.int .u16 p.f0, .int .u16 p.f1])[j * 2 + i]? = some u := by
  induction ps with
  | nil => intro j i p u h; simp at h
  | cons q ps ih =>
    intro j i p u h hu
    rw [List.flatMap_cons]
    cases j with
    | zero =>
      obtain rfl : q = p := by simpa using h
      have hi : i < 2 := (List.getElem?_eq_some_iff.1 hu).1
      rw [List.getElem?_append_left (by simp; omega), Nat.zero_mul, Nat.zero_add]
      exact hu
    | succ j =>
      rw [List.getElem?_append_right (by simp; omega)]
      have := ih j i p u (by simpa using h) hu
      rw [show (j + 1) * 2 + i - ([Value.int .u16 q.f0, .int .u16 q.f1] : List Value).length = j * 2 + i by simp; omega]
      exact this
theorem pairs_C {W : World} {b : Nat} {t : TypeId} {ps : List S100} {cs : Array Value} (h : W.heap[b]? = some (.cells cs t (0, 0))) (hcs : cs = (ps.flatMap fun p => [Value.int .u16 p.f0, .int .u16 p.f1]).toArray) (hl : ps.length ≤ 1000) : Kd.C k100 W (some ⟨b, 0, none⟩) ps.length ps := by
  subst hcs
  refine ⟨rfl, by omega, fun _ => ⟨⟨b, 0, none⟩, rfl, fun j p hj => ⟨[.int .u16 p.f0, .int .u16 p.f1], rfl, k100_mk W p, fun i u hu => ?_⟩⟩⟩
  have h2 := pairs_at ps j i p u hj hu
  have h3 : W.cell? ⟨b, j * 2 + i, none⟩ = some u := cell_of h (by simpa using h2)
  show W.cell? (Addr.add ⟨b, 0, none⟩ (j * 2 + i)) = some u
  generalize j * 2 + i = m at h3
  rcases m with _ | m <;> simpa [Addr.add] using h3
set_option maxRecDepth 100000 in
set_option maxHeartbeats 4000000 in
theorem palantypelaw02_awake.calls (r : Bool) (w : World) (h : palantypelaw02_awake.f = some r) :
    Calls Try.prog 17 #[] w fun e w' => e = .returned (.bool r) ∧ Below w.heap.size w w' := by
  obtain rfl : true = r := Option.some.inj h
  clear h
  have hu := Try.underlying100
  have hu1 := Try.underlying42
  go_enter Try.func17, Try.ntmps17
  go_wp2_with fail
  refine (palantypelaw02_house.calls 3 2 3 1 houseL _ rfl).mono ?_
  rintro e w1 ⟨v, rfl, hR1, hb1⟩
  obtain ⟨A1, c1, rfl, hc1, hC1⟩ := Kd.R_reads hR1
  have HB1 := Lib.hid hb1
  clear hR1 hb1
  go_wp2_with fail
  refine (floor_Who.calls 3 2 3 1 A1 c1 houseL houseW 0 w1 hC1 hc1 house_who).mono ?_
  rintro e w2 ⟨v, rfl, hR2, hb2⟩
  obtain ⟨A2, c2, rfl, hc2, hC2⟩ := Kd.R_reads hR2
  have HB2 := Lib.hid (below_then HB1.out (HB1.out.size) hb2)
  have HC2 := Lib.hid hC2
  clear hR2 hb2 hC1 hC2
  go_wp2_with fail
  refine (palantypelaw02_house.calls 3 2 3 1 houseL _ rfl).mono ?_
  rintro e w3 ⟨v, rfl, hR3, hb3⟩
  obtain ⟨A3, c3, rfl, hc3, hC3⟩ := Kd.R_reads hR3
  have HB3 := Lib.hid (below_then HB2.out (HB2.out.size) hb3)
  have HC3 := Lib.hid (Kd.C_below HC2.out hb3)
  clear hR3 hb3 HC2
  go_wp2_with fail
  refine (floor_Held.calls 3 2 3 1 A3 c3 houseL 1 1 2 0 w3 hC3 hc3 house_held).mono ?_
  rintro e w4 ⟨rfl, hb4⟩
  have HB4 := Lib.hid (below_then HB3.out (HB3.out.size) hb4)
  have HC4 := Lib.hid (Kd.C_below HC3.out hb4)
  clear hb4 HC3 hC3
  go_wp2_with fail
  obtain ⟨W5, hW5⟩ : ∃ W5, (w4.alloc (.cells #[.int .i64 1, .int .i64 2] 42)).alloc (.cells #[.int .u16 1, .int .u16 1, .int .u16 1, .int .u16 4, .int .u16 1, .int .u16 1, .int .u16 (Go.bits .or .u16 2 32768), .int .u16 (Go.bits .or .u16 2 32768), .int .u16 2, .int .u16 6] 100) = W5 := ⟨_, rfl⟩
  have hb5 : Below w4.heap.size w4 W5 := by rw [← hW5]; exact ((Below.refl _ w4).alloc (Nat.le_refl _) _).alloc (by simp) _
  have hr5 : W5.heap[w4.heap.size]? = some (.cells #[.int .i64 1, .int .i64 2] 42 (0, 0)) := by rw [← hW5]; exact heap_old (heap_new rfl)
  have ht5 : W5.heap[w4.heap.size + 1]? = some (.cells #[.int .u16 1, .int .u16 1, .int .u16 1, .int .u16 4, .int .u16 1, .int .u16 1, .int .u16 (Go.bits .or .u16 2 32768), .int .u16 (Go.bits .or .u16 2 32768), .int .u16 2, .int .u16 6] 100 (0, 0)) := by rw [← hW5]; exact heap_new (by simp)
  rw [hW5]
  have hC5 : Kd.C k100 W5 (some ⟨w4.heap.size + 1, 0, none⟩) houseR.length houseR := pairs_C ht5 rfl (by decide)
  have f0 := cell_of hr5 (i := 0) rfl
  have f1 := cell_of hr5 (i := 1) rfl
  simp only [List.getElem_toArray, List.getElem_cons_zero, List.getElem_cons_succ] at f0 f1
  have HB5 := Lib.hid (below_then HB4.out (HB4.out.size) hb5)
  refine (palantypelaw02_told.calls 10 A2 c2 houseW (some ⟨w4.heap.size + 1, 0, none⟩) 5 houseR true W5 (Kd.C_below HC4.out hb5) hc2 hC5 (by decide) house_told).mono ?_
  rintro e w6 ⟨rfl, ⟨nd, rfl⟩⟩
  clear hb5 hr5 ht5 hC5 hW5
  go_wp2_with fail
  go_ret
  exact ⟨rfl, pw_below_drewN HB5.out nd⟩
end Go.Proofs.Ytdnjmhhjjbdieaa.Q
end
