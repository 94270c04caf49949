/- Texts of a proof, joined: see the last one. -/
import Derived.Test.YtdnjmhhjjbdieaaSBrk2
import Derived.Test.YtdnjmhhjjbdieaaSBrk5
import Derived.Test.YtdnjmhhjjbdieaaSBrk6
import Derived.Test.YtdnjmhhjjbdieaaSBrk8
import Derived.Test.YtdnjmhhjjbdieaaSBrk9
import Derived.Test.YtdnjmhhjjbdieaaSBrk10
import Derived.Laws.MakeOwn
import Derived.LoopTactic
import Derived.Lib.Hide
namespace Go.Proofs.YtdnjmhhjjbdieaaW.PrintLast
end Go.Proofs.YtdnjmhhjjbdieaaW.PrintLast
namespace Go.Proofs.YtdnjmhhjjbdieaaW.PrintWords
end Go.Proofs.YtdnjmhhjjbdieaaW.PrintWords
section
namespace Go.Proofs.Ytdnjmhhjjbdieaa.Q
open Go.RowKit Go.Proofs.YtdnjmhhjjbdieaaW.PrintWords Go.Proofs.YtdnjmhhjjbdieaaW.PrintLast
set_option linter.unusedVariables false
set_option linter.unusedSimpArgs false
def palantyperef02_Breaks.l0 : Nat → Int → Int → Int → Int → Int → List (S59) → Option (Int)
  | 0, _, _, _, _, _, _ => none
  | k + 1, x3, x285000, x285001, x285002, x285003, x285004 => if x3 ≤ (x285004.length : Int) then ((palantyperef02_First.f x285000 x285001 x285002 x285003 x285004 x3).bind fun bt285 => ((palantyperef02_Tellings.f k bt285.1 bt285.2.1 bt285.2.2.1 bt285.2.2.2.1 bt285.2.2.2.2 ([] : List (S89))).bind fun t292 => (if (t292.length : Int) = 0 then (some (wrap64 (x3 - 1))) else (palantyperef02_Breaks.l0 k (wrap64 (x3 + 1)) x285000 x285001 x285002 x285003 x285004)))) else (some (-1))
def palantyperef02_Breaks.f (k : Nat) (a0_0 : Int) (a0_1 : Int) (a0_2 : Int) (a0_3 : Int) (l0_4 : List (S59)) : Option (Int) := palantyperef02_Breaks.l0 k 1 a0_0 a0_1 a0_2 a0_3 l0_4
theorem palantyperef02_Breaks.mono_l : ∀ k, (∀ y0 y1 y2 y3 y4 y5, LeO (palantyperef02_Breaks.l0 k y0 y1 y2 y3 y4 y5) (palantyperef02_Breaks.l0 (k + 1) y0 y1 y2 y3 y4 y5))
  | 0 => fun _ _ _ _ _ _ r h => by simp [palantyperef02_Breaks.l0] at h
  | k + 1 => by
    have ih0 := palantyperef02_Breaks.mono_l k
    · intro y0 y1 y2 y3 y4 y5
      unfold palantyperef02_Breaks.l0
      repeat' first
      | (with_reducible exact ih0 _ _ _ _ _ _)
      | (with_reducible exact palantyperef02_Tellings.mono _ _ _ _ _ _ _)
      | (with_reducible exact LeO.refl _)
      | (with_reducible exact LeO.none _)
      | (with_reducible refine LeO.ite ?_ ?_)
      | (with_reducible refine LeO.bind ?_ (fun _ => ?_))
      | exact ih0 _ _ _ _ _ _
      | exact palantyperef02_Tellings.mono _ _ _ _ _ _ _
      | exact LeO.none _
      | refine LeO.ite ?_ ?_
      | refine LeO.bind ?_ (fun _ => ?_)
theorem palantyperef02_Breaks.mono : ∀ a0 a1 a2 a3 a4 k, LeO (palantyperef02_Breaks.f k a0 a1 a2 a3 a4) (palantyperef02_Breaks.f (k + 1) a0 a1 a2 a3 a4) := by
  intro a0 a1 a2 a3 a4 k
  have ih0 := palantyperef02_Breaks.mono_l k
  unfold palantyperef02_Breaks.f
  repeat' first
      | (with_reducible exact ih0 _ _ _ _ _ _)
      | (with_reducible exact palantyperef02_Tellings.mono _ _ _ _ _ _ _)
      | (with_reducible exact LeO.refl _)
      | (with_reducible exact LeO.none _)
      | (with_reducible refine LeO.ite ?_ ?_)
      | (with_reducible refine LeO.bind ?_ (fun _ => ?_))
      | exact ih0 _ _ _ _ _ _
      | exact palantyperef02_Tellings.mono _ _ _ _ _ _ _
      | exact LeO.none _
      | refine LeO.ite ?_ ?_
      | refine LeO.bind ?_ (fun _ => ?_)
set_option maxHeartbeats 8000000 in
set_option maxRecDepth 100000 in
theorem palantyperef02_Breaks.calls (k : Nat) (a0_0 : Int) (a0_1 : Int) (a0_2 : Int) (a0_3 : Int) (A0_4 : Option Addr) (c0_4 : Nat) (l0_4 : List (S59)) (r : Int) (w : World) (hr0_4 : Kd.C k59 w A0_4 l0_4.length l0_4) (hc0_4 : l0_4.length ≤ c0_4) (h : palantyperef02_Breaks.f k a0_0 a0_1 a0_2 a0_3 l0_4 = some r) :
    Calls Try.prog 29 #[.agg #[.int .i64 a0_0, .int .i64 a0_1, .int .i64 a0_2, .int .i64 a0_3, .slice A0_4 l0_4.length c0_4]] w fun e w' => e = .returned (.int .i64 r) ∧ Below w.heap.size w w' := by
  have hu24 := Try.underlying24
  have HR0_4 := Aside0.mk hr0_4
  have HC0_4 := Aside0.mk hc0_4
  clear hr0_4 hc0_4
  have HB := Aside0.mk (Below.refl w.heap.size w)
  have H : (palantyperef02_Breaks.l0 k 1 a0_0 a0_1 a0_2 a0_3 l0_4) = some r := h
  clear h
  have H' := Aside0.mk H
  clear H
  go_enter Try.func29, Try.ntmps29
  go_wp2_with (first | ((with_reducible refine gate_dst (N := 1) rfl ?_); refine box_event ?hg (N := 1) ?hd (cs := #[.int .i64 a0_0, .int .i64 a0_1, .int .i64 a0_2, .int .i64 a0_3, .slice A0_4 l0_4.length c0_4]) (t := 24) ?hr ?_; (case hd => rfl); (case hg => rfl); (case hr => first | (go_simp; done) | (go_simp; rfl)); intro gb284 hg w2 hbox hb; have n0_ := Aside0.mk (below_step (by repeat (first | (with_reducible first | exact HB.out | apply below_alloc | apply pw_below_drewN | apply below_drew1) | exact HB.out)) hb); have n1_ := Aside0.mk (hbox); have n2_ := Aside0.mk ((by rw [hg]; exact (below_size (by repeat (first | (with_reducible first | exact HB.out | apply below_alloc | apply pw_below_drewN | apply below_drew1) | exact HB.out))) : w.heap.size ≤ gb284)); have n3_ := Aside0.mk ((by rw [hg]; exact (below_size (by repeat (first | (with_reducible first | exact HB.out | apply below_alloc | apply pw_below_drewN | apply below_drew1) | exact HB.out))) : w.heap.size ≤ gb284)); clear HB; have HB := n0_; have BK284 := n1_; have GW284 := n2_; have GE284 := n3_; clear n0_ n1_ n2_ n3_; clear hb hbox hg))
  go_loopg [3] k (fun kq v3 w' => ∃ (x3_1 : Int), v3 = .int .i64 x3_1 ∧ Aside0 (palantyperef02_Breaks.l0 kq x3_1 a0_0 a0_1 a0_2 a0_3 l0_4 = some r) ∧ Aside0 (kq ≤ k) ∧ Aside0 (w'.heap[gb284]? = some (.cells #[.int .i64 a0_0, .int .i64 a0_1, .int .i64 a0_2, .int .i64 a0_3, (.slice A0_4 l0_4.length c0_4)] 24 (0, 0))) ∧ Aside0 (Below w.heap.size w w'))
  case atStart => exact ⟨(1), (by first | rfl | (simp; done) | (simp [*]; done)), H', ⟨Nat.le_refl _⟩, ⟨by (with_reducible repeat (first | refine blk_drewN ?_ _ | refine blk_drew ?_ | refine blk_alloc ?_ _)); exact BK284.out⟩, ⟨by repeat (first | (with_reducible first | exact HB.out | apply below_alloc | apply pw_below_drewN | apply below_drew1 | refine below_set ?_ GE284.out) | exact HB.out)⟩⟩
  case round =>
    clear H'
    try clear c2
    try clear p2
    obtain ⟨x3_1, rfl, HA, HK1, BK284, HB⟩ := hrel
    cases gk with
    | zero => exact absurd HA.out (by simp [palantyperef02_Breaks.l0])
    | succ k1 =>
      have H := HA.out
      clear HA
      simp only [palantyperef02_Breaks.l0] at H
      by_cases c3 : x3_1 ≤ (l0_4.length : Int)
      · rw [if_pos c3] at H
        have c3b0 : decide (x3_1 ≤ (l0_4.length : Int)) = true := decide_eq_true c3
        clear c3
        replace H := Option.bind_eq_some_iff.mp H
        obtain ⟨⟨t285, t286, t287, t288, t289⟩, A40, H⟩ := H
        replace H : ((palantyperef02_Tellings.f k1 t285 t286 t287 t288 t289 ([] : List (S89))).bind fun t292 => (if (t292.length : Int) = 0 then (some (wrap64 (x3_1 - 1))) else (palantyperef02_Breaks.l0 k1 (wrap64 (x3_1 + 1)) a0_0 a0_1 a0_2 a0_3 l0_4))) = some r := H
        have A4 := Aside0.mk A40
        clear A40
        replace H := Option.bind_eq_some_iff.mp H
        obtain ⟨t292, A50, H⟩ := H
        replace H : (if (t292.length : Int) = 0 then (some (wrap64 (x3_1 - 1))) else (palantyperef02_Breaks.l0 k1 (wrap64 (x3_1 + 1)) a0_0 a0_1 a0_2 a0_3 l0_4)) = some r := H
        have A5 := Aside0.mk A50
        clear A50
        by_cases c6 : (t292.length : Int) = 0
        · rw [if_pos c6] at H
          have c6b0 : ((t292.length : Int) == 0) = true := beq_iff_eq.mpr c6
          have c6b1 : ((t292.length : Int) != 0) = false := bne_eq_false_iff_eq.mpr c6
          clear c6
          obtain rfl := Option.some.inj H
          have hcz7_0 : wr.cell? ⟨gb284, 0, none⟩ = some (.int .i64 a0_0) := (blk_cell BK284.out 0).trans rfl
          have hcz7_1 : wr.cell? ⟨gb284, 1, none⟩ = some (.int .i64 a0_1) := (blk_cell BK284.out 1).trans rfl
          have hcz7_2 : wr.cell? ⟨gb284, 2, none⟩ = some (.int .i64 a0_2) := (blk_cell BK284.out 2).trans rfl
          have hcz7_3 : wr.cell? ⟨gb284, 3, none⟩ = some (.int .i64 a0_3) := (blk_cell BK284.out 3).trans rfl
          have hcz7_4 : wr.cell? ⟨gb284, 4, none⟩ = some (.slice A0_4 l0_4.length c0_4) := (blk_cell BK284.out 4).trans rfl
          have hfz7_0 := blk_frozen BK284.out 0
          have hfz7_1 := blk_frozen BK284.out 1
          have hfz7_2 := blk_frozen BK284.out 2
          have hfz7_3 := blk_frozen BK284.out 3
          have hfz7_4 := blk_frozen BK284.out 4
          go_wp2_with (first | ((with_reducible refine gate_callee (f := 40) rfl ?_); refine goesL_ (some 13) rfl rfl Try.func40 (by kernel_rfl) rfl #[.agg #[.int .i64 a0_0, .int .i64 a0_1, .int .i64 a0_2, .int .i64 a0_3, .slice A0_4 l0_4.length c0_4], .int .i64 x3_1] rfl (by (try simp only [List.map_toArray, List.map_cons, List.map_nil]); first | done | rfl | (simp only [List.length_drop, List.length_take]; rfl)) ?_; (with_reducible refine (palantyperef02_First.calls a0_0 a0_1 a0_2 a0_3 _ _ l0_4 x3_1 t285 t286 t287 t288 t289 _ ?side1 ?side2 A4.out).mono ?_); (case side1 => repeat (first | exact (Kd.C_below HR0_4.out HB.out) | (with_reducible refine Kd.C_alloc ?_ _) | (with_reducible refine Kd.C_drewN ?_ _) | (with_reducible refine Kd.C_drew ?_))); (case side2 => exact HC0_4.out); rintro e w8 ⟨v290, rfl, ho0, hb⟩; refine ⟨_, rfl, ?_⟩; have n0_ := Aside0.mk (Kd.R_lower ho0 (below_size (by repeat (first | (with_reducible first | exact HB.out | apply below_alloc | apply pw_below_drewN | apply below_drew1 | refine below_set ?_ GE284.out) | exact HB.out)))); have n1_ := Aside0.mk (blk_below (g := gb284) (o := .cells #[.int .i64 a0_0, .int .i64 a0_1, .int .i64 a0_2, .int .i64 a0_3, .slice A0_4 l0_4.length c0_4] 24 (0, 0)) (by (with_reducible repeat (first | refine blk_drewN ?_ _ | refine blk_drew ?_ | refine blk_alloc ?_ _)); exact BK284.out) hb); have n2_ := Aside0.mk (below_step (by repeat (first | (with_reducible first | exact HB.out | apply below_alloc | apply pw_below_drewN | apply below_drew1 | refine below_set ?_ GE284.out) | exact HB.out)) hb); clear BK284; clear HB; have HO291 := n0_; have BK284 := n1_; have HB := n2_; clear n0_ n1_ n2_; (try clear hb); (try clear hb2); (try clear hk); (try clear hi); (try clear ho0); obtain ⟨Ao9, co9, eo9⟩ := Kd.R_slice HO291.out; subst eo9) | ((with_reducible refine gate_callee (f := 21) rfl ?_); refine goesL_ (some 14) rfl rfl Try.func21 (by kernel_rfl) rfl #[.agg #[.int .i64 t285, .int .i64 t286, .int .i64 t287, .int .i64 t288, .slice Ao9 t289.length co9], .slice none 0 0] rfl (by (try simp only [List.map_toArray, List.map_cons, List.map_nil]); first | done | rfl | (simp only [List.length_drop, List.length_take]; rfl)) ?_; (refine (palantyperef02_Tellings.calls k1 t285 t286 t287 t288 _ _ t289 _ _ ([] : List (S89)) t292 _ ?side1 ?side2 ?side3 ?side4 A5.out).mono ?_); (case side1 => repeat (first | exact (Kd.R_reads' HO291.out).2.2 | (with_reducible refine Kd.C_alloc ?_ _) | (with_reducible refine Kd.C_drewN ?_ _) | (with_reducible refine Kd.C_drew ?_))); (case side2 => exact (Kd.R_reads' HO291.out).2.1); (case side3 => exact Kd.C_nil _ _); (case side4 => exact Nat.le_refl _); rintro e w10 ⟨v293, rfl, ho0, hb⟩; refine ⟨_, rfl, ?_⟩; have n0_ := Aside0.mk (Kd.R_below (by (with_reducible repeat (first | apply Kd.R_alloc | apply Kd.R_drewN | apply Kd.R_drew)); exact HO291.out) hb); have n1_ := Aside0.mk (Kd.N_lower (Kd.N_mono (ok' := fun k_ => some k_ ≠ (.slice Ao9 t289.length co9 : Value).ownBlock ∧ k_ ≠ gb284) ho0 (fun k_ hk_ => ⟨(Kd.fresh' (Kd.R_lt (by (with_reducible repeat (first | apply Kd.R_alloc | apply Kd.R_drewN | apply Kd.R_drew)); exact HO291.out)) k_ hk_), (Kd.freshB (g := gb284) (o := .cells #[.int .i64 a0_0, .int .i64 a0_1, .int .i64 a0_2, .int .i64 a0_3, .slice A0_4 l0_4.length c0_4] 24 (0, 0)) (by (with_reducible repeat (first | refine blk_drewN ?_ _ | refine blk_drew ?_ | refine blk_alloc ?_ _)); exact BK284.out) k_ hk_)⟩)) (below_size (by repeat (first | (with_reducible first | exact HB.out | apply below_alloc | apply pw_below_drewN | apply below_drew1 | refine below_set ?_ GE284.out) | exact HB.out)))); have n2_ := Aside0.mk (blk_below (g := gb284) (o := .cells #[.int .i64 a0_0, .int .i64 a0_1, .int .i64 a0_2, .int .i64 a0_3, .slice A0_4 l0_4.length c0_4] 24 (0, 0)) (by (with_reducible repeat (first | refine blk_drewN ?_ _ | refine blk_drew ?_ | refine blk_alloc ?_ _)); exact BK284.out) hb); have n3_ := Aside0.mk (below_step (by repeat (first | (with_reducible first | exact HB.out | apply below_alloc | apply pw_below_drewN | apply below_drew1 | refine below_set ?_ GE284.out) | exact HB.out)) hb); clear HO291; clear BK284; clear HB; have HO291 := n0_; have HO294 := n1_; have BK284 := n2_; have HB := n3_; clear n0_ n1_ n2_ n3_; (try clear hb); (try clear hb2); (try clear hk); (try clear hi); (try clear ho0); obtain ⟨Ao11, co11, eo11⟩ := Kd.N_slice HO294.out; subst eo11))
          go_ret
          exact ⟨by first | rfl | (simp [errW_none, errW_some] <;> rfl) | (simp [*, errW_none, errW_some] <;> rfl), by repeat (first | (with_reducible first | exact HB.out | apply below_alloc | apply pw_below_drewN | apply below_drew1 | refine below_set ?_ GE284.out) | exact HB.out)⟩
        · rw [if_neg c6] at H
          have c6b0 : ((t292.length : Int) == 0) = false := beq_eq_false_iff_ne.mpr c6
          have c6b1 : ((t292.length : Int) != 0) = true := bne_iff_ne.mpr c6
          have c6b2 : ¬ (t292 = []) := fun h_ => c6 (by rw [h_]; rfl)
          have H' := Aside0.mk H
          clear H
          have hcz12_0 : wr.cell? ⟨gb284, 0, none⟩ = some (.int .i64 a0_0) := (blk_cell BK284.out 0).trans rfl
          have hcz12_1 : wr.cell? ⟨gb284, 1, none⟩ = some (.int .i64 a0_1) := (blk_cell BK284.out 1).trans rfl
          have hcz12_2 : wr.cell? ⟨gb284, 2, none⟩ = some (.int .i64 a0_2) := (blk_cell BK284.out 2).trans rfl
          have hcz12_3 : wr.cell? ⟨gb284, 3, none⟩ = some (.int .i64 a0_3) := (blk_cell BK284.out 3).trans rfl
          have hcz12_4 : wr.cell? ⟨gb284, 4, none⟩ = some (.slice A0_4 l0_4.length c0_4) := (blk_cell BK284.out 4).trans rfl
          have hfz12_0 := blk_frozen BK284.out 0
          have hfz12_1 := blk_frozen BK284.out 1
          have hfz12_2 := blk_frozen BK284.out 2
          have hfz12_3 := blk_frozen BK284.out 3
          have hfz12_4 := blk_frozen BK284.out 4
          go_wp2_with (first | ((with_reducible refine gate_callee (f := 40) rfl ?_); refine goesL_ (some 13) rfl rfl Try.func40 (by kernel_rfl) rfl #[.agg #[.int .i64 a0_0, .int .i64 a0_1, .int .i64 a0_2, .int .i64 a0_3, .slice A0_4 l0_4.length c0_4], .int .i64 x3_1] rfl (by (try simp only [List.map_toArray, List.map_cons, List.map_nil]); first | done | rfl | (simp only [List.length_drop, List.length_take]; rfl)) ?_; (with_reducible refine (palantyperef02_First.calls a0_0 a0_1 a0_2 a0_3 _ _ l0_4 x3_1 t285 t286 t287 t288 t289 _ ?side1 ?side2 A4.out).mono ?_); (case side1 => repeat (first | exact (Kd.C_below HR0_4.out HB.out) | (with_reducible refine Kd.C_alloc ?_ _) | (with_reducible refine Kd.C_drewN ?_ _) | (with_reducible refine Kd.C_drew ?_))); (case side2 => exact HC0_4.out); rintro e w13 ⟨v290, rfl, ho0, hb⟩; refine ⟨_, rfl, ?_⟩; have n0_ := Aside0.mk (Kd.R_lower ho0 (below_size (by repeat (first | (with_reducible first | exact HB.out | apply below_alloc | apply pw_below_drewN | apply below_drew1 | refine below_set ?_ GE284.out) | exact HB.out)))); have n1_ := Aside0.mk (blk_below (g := gb284) (o := .cells #[.int .i64 a0_0, .int .i64 a0_1, .int .i64 a0_2, .int .i64 a0_3, .slice A0_4 l0_4.length c0_4] 24 (0, 0)) (by (with_reducible repeat (first | refine blk_drewN ?_ _ | refine blk_drew ?_ | refine blk_alloc ?_ _)); exact BK284.out) hb); have n2_ := Aside0.mk (below_step (by repeat (first | (with_reducible first | exact HB.out | apply below_alloc | apply pw_below_drewN | apply below_drew1 | refine below_set ?_ GE284.out) | exact HB.out)) hb); clear BK284; clear HB; have HO291 := n0_; have BK284 := n1_; have HB := n2_; clear n0_ n1_ n2_; (try clear hb); (try clear hb2); (try clear hk); (try clear hi); (try clear ho0); obtain ⟨Ao14, co14, eo14⟩ := Kd.R_slice HO291.out; subst eo14) | ((with_reducible refine gate_callee (f := 21) rfl ?_); refine goesL_ (some 14) rfl rfl Try.func21 (by kernel_rfl) rfl #[.agg #[.int .i64 t285, .int .i64 t286, .int .i64 t287, .int .i64 t288, .slice Ao14 t289.length co14], .slice none 0 0] rfl (by (try simp only [List.map_toArray, List.map_cons, List.map_nil]); first | done | rfl | (simp only [List.length_drop, List.length_take]; rfl)) ?_; (refine (palantyperef02_Tellings.calls k1 t285 t286 t287 t288 _ _ t289 _ _ ([] : List (S89)) t292 _ ?side1 ?side2 ?side3 ?side4 A5.out).mono ?_); (case side1 => repeat (first | exact (Kd.R_reads' HO291.out).2.2 | (with_reducible refine Kd.C_alloc ?_ _) | (with_reducible refine Kd.C_drewN ?_ _) | (with_reducible refine Kd.C_drew ?_))); (case side2 => exact (Kd.R_reads' HO291.out).2.1); (case side3 => exact Kd.C_nil _ _); (case side4 => exact Nat.le_refl _); rintro e w15 ⟨v293, rfl, ho0, hb⟩; refine ⟨_, rfl, ?_⟩; have n0_ := Aside0.mk (Kd.R_below (by (with_reducible repeat (first | apply Kd.R_alloc | apply Kd.R_drewN | apply Kd.R_drew)); exact HO291.out) hb); have n1_ := Aside0.mk (Kd.N_lower (Kd.N_mono (ok' := fun k_ => some k_ ≠ (.slice Ao14 t289.length co14 : Value).ownBlock ∧ k_ ≠ gb284) ho0 (fun k_ hk_ => ⟨(Kd.fresh' (Kd.R_lt (by (with_reducible repeat (first | apply Kd.R_alloc | apply Kd.R_drewN | apply Kd.R_drew)); exact HO291.out)) k_ hk_), (Kd.freshB (g := gb284) (o := .cells #[.int .i64 a0_0, .int .i64 a0_1, .int .i64 a0_2, .int .i64 a0_3, .slice A0_4 l0_4.length c0_4] 24 (0, 0)) (by (with_reducible repeat (first | refine blk_drewN ?_ _ | refine blk_drew ?_ | refine blk_alloc ?_ _)); exact BK284.out) k_ hk_)⟩)) (below_size (by repeat (first | (with_reducible first | exact HB.out | apply below_alloc | apply pw_below_drewN | apply below_drew1 | refine below_set ?_ GE284.out) | exact HB.out)))); have n2_ := Aside0.mk (blk_below (g := gb284) (o := .cells #[.int .i64 a0_0, .int .i64 a0_1, .int .i64 a0_2, .int .i64 a0_3, .slice A0_4 l0_4.length c0_4] 24 (0, 0)) (by (with_reducible repeat (first | refine blk_drewN ?_ _ | refine blk_drew ?_ | refine blk_alloc ?_ _)); exact BK284.out) hb); have n3_ := Aside0.mk (below_step (by repeat (first | (with_reducible first | exact HB.out | apply below_alloc | apply pw_below_drewN | apply below_drew1 | refine below_set ?_ GE284.out) | exact HB.out)) hb); clear HO291; clear BK284; clear HB; have HO291 := n0_; have HO294 := n1_; have BK284 := n2_; have HB := n3_; clear n0_ n1_ n2_ n3_; (try clear hb); (try clear hb2); (try clear hk); (try clear hi); (try clear ho0); obtain ⟨Ao16, co16, eo16⟩ := Kd.N_slice HO294.out; subst eo16))
          go_roundg k1
          case measure => have := HK1.out; omega
          case rel => exact ⟨(wrap64 (x3_1 + 1)), (by first | rfl | (simp; done) | (simp [*]; done)), H', ⟨by have := HK1.out; omega⟩, ⟨by (with_reducible repeat (first | refine blk_drewN ?_ _ | refine blk_drew ?_ | refine blk_alloc ?_ _)); exact BK284.out⟩, ⟨by repeat (first | (with_reducible first | exact HB.out | apply below_alloc | apply pw_below_drewN | apply below_drew1 | refine below_set ?_ GE284.out) | exact HB.out)⟩⟩
      · rw [if_neg c3] at H
        have c3b0 : decide (x3_1 ≤ (l0_4.length : Int)) = false := decide_eq_false c3
        clear c3
        obtain rfl := Option.some.inj H
        have hcz17_0 : wr.cell? ⟨gb284, 0, none⟩ = some (.int .i64 a0_0) := (blk_cell BK284.out 0).trans rfl
        have hcz17_1 : wr.cell? ⟨gb284, 1, none⟩ = some (.int .i64 a0_1) := (blk_cell BK284.out 1).trans rfl
        have hcz17_2 : wr.cell? ⟨gb284, 2, none⟩ = some (.int .i64 a0_2) := (blk_cell BK284.out 2).trans rfl
        have hcz17_3 : wr.cell? ⟨gb284, 3, none⟩ = some (.int .i64 a0_3) := (blk_cell BK284.out 3).trans rfl
        have hcz17_4 : wr.cell? ⟨gb284, 4, none⟩ = some (.slice A0_4 l0_4.length c0_4) := (blk_cell BK284.out 4).trans rfl
        have hfz17_0 := blk_frozen BK284.out 0
        have hfz17_1 := blk_frozen BK284.out 1
        have hfz17_2 := blk_frozen BK284.out 2
        have hfz17_3 := blk_frozen BK284.out 3
        have hfz17_4 := blk_frozen BK284.out 4
        go_wp2
        go_ret
        exact ⟨by first | rfl | (simp [errW_none, errW_some] <;> rfl) | (simp [*, errW_none, errW_some] <;> rfl), by repeat (first | (with_reducible first | exact HB.out | apply below_alloc | apply pw_below_drewN | apply below_drew1 | refine below_set ?_ GE284.out) | exact HB.out)⟩
end Go.Proofs.Ytdnjmhhjjbdieaa.Q
end
section
namespace Go.Proofs.Ytdnjmhhjjbdieaa.Q
open Go.RowKit Go.Proofs.YtdnjmhhjjbdieaaW.PrintWords Go.Proofs.YtdnjmhhjjbdieaaW.PrintLast
set_option linter.unusedVariables false
set_option linter.unusedSimpArgs false
def palantypelaw02_house.f  : Option (Int × Int × Int × Int × (List (S52))) := some (3, 2, 3, 1, (([(⟨3, 3⟩ : S52), (⟨3, 4⟩ : S52), (⟨3, 1⟩ : S52), (⟨Go.bits .or .u16 2 32768, Go.bits .or .u16 2 32768⟩ : S52), (⟨2, 6⟩ : S52)] : List (S52))))
set_option maxHeartbeats 8000000 in
set_option maxRecDepth 100000 in
theorem palantypelaw02_house.calls  (r1 : Int) (r2 : Int) (r3 : Int) (r4 : Int) (r5 : List (S52)) (w : World) (h : palantypelaw02_house.f  = some (r1, r2, r3, r4, r5)) :
    Calls Try.prog 49 #[] w fun e w' => ∃ v4_ : Value, e = .returned (.agg #[.int .i64 r1, .int .i64 r2, .int .i64 r3, .int .i64 r4, v4_]) ∧ Kd.R k52 52 w' w.heap.size (fun _ => True) v4_ r5 ∧ Below w.heap.size w w' := by
  have hu33 := Try.underlying33
  have hu52 := Try.underlying52
  have HB := Aside0.mk (Below.refl w.heap.size w)
  have H : (some (3, 2, 3, 1, (([(⟨3, 3⟩ : S52), (⟨3, 4⟩ : S52), (⟨3, 1⟩ : S52), (⟨Go.bits .or .u16 2 32768, Go.bits .or .u16 2 32768⟩ : S52), (⟨2, 6⟩ : S52)] : List (S52))))) = some (r1, r2, r3, r4, r5) := h
  clear h
  obtain ⟨y122, hy122⟩ : ∃ y_ : List (S52), y_ = (([(⟨3, 3⟩ : S52), (⟨3, 4⟩ : S52), (⟨3, 1⟩ : S52), (⟨Go.bits .or .u16 2 32768, Go.bits .or .u16 2 32768⟩ : S52), (⟨2, 6⟩ : S52)] : List (S52))) := ⟨_, rfl⟩
  replace H : (some (3, 2, 3, 1, y122)) = some (r1, r2, r3, r4, r5) := by first | (rw [hy122]; with_reducible exact H) | (have H2_ := (Option.bind_some _ _).symm.trans H; rw [hy122]; with_reducible exact H2_) | (have H2_ := (Option.bind_some _ _).symm.trans H; with_reducible exact H2_) | with_reducible exact H | (rw [hy122]; exact H) | exact H
  have Ny122 := Aside0.mk hy122
  clear hy122
  simp only [Option.some.injEq, Prod.mk.injEq] at H
  obtain ⟨rfl, rfl, rfl, rfl, rfl⟩ := H
  go_enter Try.func49, Try.ntmps49
  go_wp2_with (first | ((with_reducible refine gate_dst (N := 0) rfl ?_); refine box_event ?hg (N := 0) ?hd (cs := #[.int .i64 0, .int .i64 0, .int .i64 0, .int .i64 0, .slice none 0 0]) (t := 33) ?hr ?_; (case hd => rfl); (case hg => rfl); (case hr => first | (go_simp; done) | (go_simp; rfl)); intro gb121 hg w1 hbox hb; have n0_ := Aside0.mk (below_step (by repeat (first | (with_reducible first | exact HB.out | apply below_alloc | apply pw_below_drewN | apply below_drew1) | exact HB.out)) hb); have n1_ := Aside0.mk (hbox); have n2_ := Aside0.mk ((by rw [hg]; exact (below_size (by repeat (first | (with_reducible first | exact HB.out | apply below_alloc | apply pw_below_drewN | apply below_drew1) | exact HB.out))) : w.heap.size ≤ gb121)); have n3_ := Aside0.mk ((by rw [hg]; exact (below_size (by repeat (first | (with_reducible first | exact HB.out | apply below_alloc | apply pw_below_drewN | apply below_drew1) | exact HB.out))) : w.heap.size ≤ gb121)); clear HB; have HB := n0_; have BK121 := n1_; have GW121 := n2_; have GE121 := n3_; clear n0_ n1_ n2_ n3_; clear hb hbox hg) | ((with_reducible refine gate_dst (N := 11) rfl ?_); refine Kd.R_lit k52 _ 52 ?hg (N := 11) ?hd (xs := ([(⟨3, 3⟩ : S52), (⟨3, 4⟩ : S52), (⟨3, 1⟩ : S52), (⟨Go.bits .or .u16 2 32768, Go.bits .or .u16 2 32768⟩ : S52), (⟨2, 6⟩ : S52)] : List (S52))) (inner := [.int .u16 3, .int .u16 3, .int .u16 3, .int .u16 4, .int .u16 3, .int .u16 1, .int .u16 (Go.bits .or .u16 2 32768), .int .u16 (Go.bits .or .u16 2 32768), .int .u16 2, .int .u16 6]) (ok := fun _ => True) (okp := fun _ => True) ?hr ?hp (fun _ hk => hk) trivial (Below.refl _ _) (Nat.le_refl _) (by simp) ?_; (case hd => rfl); (case hg => rfl); (case hr => first | (go_simp; done) | (go_simp; rfl)); (case hp => exact (Reps.c2 (show Kd.M k52 _ _ _ (⟨3, 3⟩ : S52) [.int .u16 3, .int .u16 3] from (k52_mkM _ _ _ (⟨3, 3⟩ : S52) )) (Reps.c2 (show Kd.M k52 _ _ _ (⟨3, 4⟩ : S52) [.int .u16 3, .int .u16 4] from (k52_mkM _ _ _ (⟨3, 4⟩ : S52) )) (Reps.c2 (show Kd.M k52 _ _ _ (⟨3, 1⟩ : S52) [.int .u16 3, .int .u16 1] from (k52_mkM _ _ _ (⟨3, 1⟩ : S52) )) (Reps.c2 (show Kd.M k52 _ _ _ (⟨Go.bits .or .u16 2 32768, Go.bits .or .u16 2 32768⟩ : S52) [.int .u16 (Go.bits .or .u16 2 32768), .int .u16 (Go.bits .or .u16 2 32768)] from (k52_mkM _ _ _ (⟨Go.bits .or .u16 2 32768, Go.bits .or .u16 2 32768⟩ : S52) )) (Reps.c2 (show Kd.M k52 _ _ _ (⟨2, 6⟩ : S52) [.int .u16 2, .int .u16 6] from (k52_mkM _ _ _ (⟨2, 6⟩ : S52) )) (Reps.none _ _))))))); intro v123 w2 ho3 hb hg_ hnew_; clear hg_ hnew_; (first | rw [← Ny122.out] at ho3 | (simp only [Int.reduceToNat] at ho3; rw [← Ny122.out] at ho3)); have n0_ := Aside0.mk (Kd.R_lower ho3 (below_size (by repeat (first | (with_reducible first | exact HB.out | apply below_alloc | apply pw_below_drewN | apply below_drew1 | refine below_set ?_ GE121.out) | exact HB.out)))); have n1_ := Aside0.mk (blk_below (g := gb121) (o := .cells #[.int .i64 0, .int .i64 0, .int .i64 0, .int .i64 0, .slice none 0 0] 33 (0, 0)) (by (with_reducible repeat (first | refine blk_drewN ?_ _ | refine blk_drew ?_ | refine blk_alloc ?_ _)); exact BK121.out) hb); have n2_ := Aside0.mk (below_step (by repeat (first | (with_reducible first | exact HB.out | apply below_alloc | apply pw_below_drewN | apply below_drew1 | refine below_set ?_ GE121.out) | exact HB.out)) hb); clear BK121; clear HB; have HO124 := n0_; have BK121 := n1_; have HB := n2_; clear n0_ n1_ n2_; clear hb ho3; obtain ⟨Ao4, co4, eo4⟩ := Kd.R_slice HO124.out; subst eo4; have hcz5_0 : w2.cell? ⟨gb121, 0, none⟩ = some (.int .i64 0) := (blk_cell BK121.out 0).trans rfl; have hcz5_1 : w2.cell? ⟨gb121, 1, none⟩ = some (.int .i64 0) := (blk_cell BK121.out 1).trans rfl; have hcz5_2 : w2.cell? ⟨gb121, 2, none⟩ = some (.int .i64 0) := (blk_cell BK121.out 2).trans rfl; have hcz5_3 : w2.cell? ⟨gb121, 3, none⟩ = some (.int .i64 0) := (blk_cell BK121.out 3).trans rfl; have hcz5_4 : w2.cell? ⟨gb121, 4, none⟩ = some (.slice none 0 0) := (blk_cell BK121.out 4).trans rfl; have hfz5_0 := blk_frozen BK121.out 0; have hfz5_1 := blk_frozen BK121.out 1; have hfz5_2 := blk_frozen BK121.out 2; have hfz5_3 := blk_frozen BK121.out 3; have hfz5_4 := blk_frozen BK121.out 4))
  refine bodyPost_ret (results_cell_row rfl _ _ gb121 33 #[.int .i64 3, .int .i64 2, .int .i64 3, .int .i64 1, .slice Ao4 y122.length co4] (0, 0) _ rfl (by (with_reducible repeat (first | refine blk_drewN ?_ _ | refine blk_drew ?_ | refine blk_alloc ?_ _)); refine blk_put (cs := #[.int .i64 3, .int .i64 2, .int .i64 3, .int .i64 1, .slice none 0 0]) ?_ 4 _ rfl; (with_reducible repeat (first | refine blk_drewN ?_ _ | refine blk_drew ?_ | refine blk_alloc ?_ _)); refine blk_put (cs := #[.int .i64 3, .int .i64 2, .int .i64 3, .int .i64 0, .slice none 0 0]) ?_ 3 _ rfl; (with_reducible repeat (first | refine blk_drewN ?_ _ | refine blk_drew ?_ | refine blk_alloc ?_ _)); refine blk_put (cs := #[.int .i64 3, .int .i64 2, .int .i64 0, .int .i64 0, .slice none 0 0]) ?_ 2 _ rfl; (with_reducible repeat (first | refine blk_drewN ?_ _ | refine blk_drew ?_ | refine blk_alloc ?_ _)); refine blk_put (cs := #[.int .i64 3, .int .i64 0, .int .i64 0, .int .i64 0, .slice none 0 0]) ?_ 1 _ rfl; (with_reducible repeat (first | refine blk_drewN ?_ _ | refine blk_drew ?_ | refine blk_alloc ?_ _)); refine blk_put (cs := #[.int .i64 0, .int .i64 0, .int .i64 0, .int .i64 0, .slice none 0 0]) ?_ 0 _ rfl; (with_reducible repeat (first | refine blk_drewN ?_ _ | refine blk_drew ?_ | refine blk_alloc ?_ _)); exact BK121.out) Try.underlying33 rfl (by kernel_rfl)) rfl ?_
  exact ⟨_, by first | rfl | (simp [errW_none, errW_some] <;> rfl) | (simp [*, errW_none, errW_some] <;> rfl), by (with_reducible repeat (first | apply Kd.R_alloc | apply Kd.R_drewN | apply Kd.R_drew)); exact Kd.R_mono (Kd.R_far (p := ⟨gb121, 4, none⟩) (Kd.R_far (p := ⟨gb121, 3, none⟩) (Kd.R_far (p := ⟨gb121, 2, none⟩) (Kd.R_far (p := ⟨gb121, 1, none⟩) (Kd.R_far (p := ⟨gb121, 0, none⟩) (Kd.R_types HO124.out BK121.out (by decide)) (fun _ hk => hk.2) (.int .i64 3)) (fun _ hk => hk.2) (.int .i64 2)) (fun _ hk => hk.2) (.int .i64 3)) (fun _ hk => hk.2) (.int .i64 1)) (fun _ hk => hk.2) (.slice Ao4 y122.length co4)) (fun _ hk => trivial), by repeat (first | (with_reducible first | exact HB.out | apply below_alloc | apply pw_below_drewN | apply below_drew1 | refine below_set ?_ GE121.out) | exact HB.out)⟩
end Go.Proofs.Ytdnjmhhjjbdieaa.Q
end
section
namespace Go.Proofs.Ytdnjmhhjjbdieaa.Q
open Go.RowKit Go.Proofs.YtdnjmhhjjbdieaaW.PrintWords Go.Proofs.YtdnjmhhjjbdieaaW.PrintLast
set_option linter.unusedVariables false
set_option linter.unusedSimpArgs false
def palantypelaw02_told.l0 : Nat → List (S54) → List (S100) → Int → Option (Bool)
  | 0, _, _, _ => none
  | k + 1, x0, x1, x5 => if x5 < (x0.length : Int) then (if 0 ≤ x5 then (if x5 < (x1.length : Int) then (if ((rd_T54 x0 x5).f0) = ((rd_T100 x1 x5).f0) then (if ((rd_T54 x0 x5).f1) = ((rd_T100 x1 x5).f1) then (palantypelaw02_told.l0 k x0 x1 (wrap64 (x5 + 1))) else (some false)) else (some false)) else (none)) else (none)) else (some true)
def palantypelaw02_told.f (k : Nat) (l0 : List (S54)) (l1 : List (S100)) : Option (Bool) := if (l0.length : Int) = (l1.length : Int) then (palantypelaw02_told.l0 k l0 l1 0) else (some false)
theorem palantypelaw02_told.mono_l : ∀ k, (∀ y0 y1 y2, LeO (palantypelaw02_told.l0 k y0 y1 y2) (palantypelaw02_told.l0 (k + 1) y0 y1 y2))
  | 0 => fun _ _ _ r h => by simp [palantypelaw02_told.l0] at h
  | k + 1 => by
    have ih0 := palantypelaw02_told.mono_l k
    · intro y0 y1 y2
      unfold palantypelaw02_told.l0
      repeat' first
      | (with_reducible exact ih0 _ _ _)
      | (with_reducible exact LeO.refl _)
      | (with_reducible exact LeO.none _)
      | (with_reducible refine LeO.ite ?_ ?_)
      | (with_reducible refine LeO.bind ?_ (fun _ => ?_))
      | exact ih0 _ _ _
      | exact LeO.none _
      | refine LeO.ite ?_ ?_
      | refine LeO.bind ?_ (fun _ => ?_)
theorem palantypelaw02_told.mono : ∀ a0 a1 k, LeO (palantypelaw02_told.f k a0 a1) (palantypelaw02_told.f (k + 1) a0 a1) := by
  intro a0 a1 k
  have ih0 := palantypelaw02_told.mono_l k
  unfold palantypelaw02_told.f
  repeat' first
      | (with_reducible exact ih0 _ _ _)
      | (with_reducible exact LeO.refl _)
      | (with_reducible exact LeO.none _)
      | (with_reducible refine LeO.ite ?_ ?_)
      | (with_reducible refine LeO.bind ?_ (fun _ => ?_))
      | exact ih0 _ _ _
      | exact LeO.none _
      | refine LeO.ite ?_ ?_
      | refine LeO.bind ?_ (fun _ => ?_)
set_option maxHeartbeats 8000000 in
set_option maxRecDepth 100000 in
theorem palantypelaw02_told.calls (k : Nat) (A0 : Option Addr) (c0 : Nat) (l0 : List (S54)) (A1 : Option Addr) (c1 : Nat) (l1 : List (S100)) (r : Bool) (w : World) (hr0 : Kd.C k54 w A0 l0.length l0) (hc0 : l0.length ≤ c0) (hr1 : Kd.C k100 w A1 l1.length l1) (hc1 : l1.length ≤ c1) (h : palantypelaw02_told.f k l0 l1 = some r) :
    Calls Try.prog 22 #[.slice A0 l0.length c0, .slice A1 l1.length c1] w fun e w' => e = .returned (.bool r) ∧ Drawn0 w w' := by
  have HR0 := Aside0.mk hr0
  have HC0 := Aside0.mk hc0
  clear hr0 hc0
  have HR1 := Aside0.mk hr1
  have HC1 := Aside0.mk hc1
  clear hr1 hc1
  have H : (if (l0.length : Int) = (l1.length : Int) then (palantypelaw02_told.l0 k l0 l1 0) else (some false)) = some r := h
  clear h
  by_cases c3 : (l0.length : Int) = (l1.length : Int)
  · rw [if_pos c3] at H
    have c3b0 : ((l0.length : Int) == (l1.length : Int)) = true := beq_iff_eq.mpr c3
    have c3b1 : ((l0.length : Int) != (l1.length : Int)) = false := bne_eq_false_iff_eq.mpr c3
    have c3b2 : (l0.length == l1.length) = true := by first | simpa using c3 | (simp at c3 ⊢; omega)
    clear c3
    have H' := Aside0.mk H
    clear H
    go_enter Try.func22, Try.ntmps22
    go_wp2
    repeat (go_quiet (fail); try go_wp2)
    go_loopg [5] k (fun kq v5 w' => ∃ (x5_1 : Int), v5 = .int .i64 x5_1 ∧ Aside0 (palantypelaw02_told.l0 kq l0 l1 x5_1 = some r) ∧ Aside0 (kq ≤ k) ∧ Drawn0 w w')
    case atStart => exact ⟨(0), (by first | rfl | (simp; done) | (simp [*]; done)), H', ⟨Nat.le_refl _⟩, by repeat (first | exact Drawn0.refl _ | apply Drawn0.step)⟩
    case round =>
      clear H'
      try clear c1
      try clear c2
      try clear p2
      try clear c3
      try clear c3b0
      try clear c3b1
      try clear c3b2
      obtain ⟨x5_1, rfl, HA, HK1, ⟨m1, rfl⟩⟩ := hrel
      cases gk with
      | zero => exact absurd HA.out (by simp [palantypelaw02_told.l0])
      | succ k1 =>
        have H := HA.out
        clear HA
        simp only [palantypelaw02_told.l0] at H
        by_cases c4 : x5_1 < (l0.length : Int)
        · rw [if_pos c4] at H
          have c4b0 : decide (x5_1 < (l0.length : Int)) = true := decide_eq_true c4
          clear c4
          by_cases c5 : 0 ≤ x5_1
          · rw [if_pos c5] at H
            have c5b0 : decide (0 ≤ x5_1) = true := decide_eq_true c5
            clear c5
            by_cases c6 : x5_1 < (l1.length : Int)
            · rw [if_pos c6] at H
              have c6b0 : decide (x5_1 < (l1.length : Int)) = true := decide_eq_true c6
              clear c6
              by_cases c7 : ((rd_T54 l0 x5_1).f0) = ((rd_T100 l1 x5_1).f0)
              · rw [if_pos c7] at H
                have c7b0 : (((rd_T54 l0 x5_1).f0) == ((rd_T100 l1 x5_1).f0)) = true := beq_iff_eq.mpr c7
                have c7b1 : (((rd_T54 l0 x5_1).f0) != ((rd_T100 l1 x5_1).f0)) = false := bne_eq_false_iff_eq.mpr c7
                clear c7
                by_cases c8 : ((rd_T54 l0 x5_1).f1) = ((rd_T100 l1 x5_1).f1)
                · rw [if_pos c8] at H
                  have c8b0 : (((rd_T54 l0 x5_1).f1) == ((rd_T100 l1 x5_1).f1)) = true := beq_iff_eq.mpr c8
                  have c8b1 : (((rd_T54 l0 x5_1).f1) != ((rd_T100 l1 x5_1).f1)) = false := bne_eq_false_iff_eq.mpr c8
                  clear c8
                  have H' := Aside0.mk H
                  clear H
                  have p117 : 0 ≤ (x5_1 : Int) := of_decide_eq_true (by first | (with_reducible assumption) | assumption)
                  have q117 : x5_1 < (l0.length : Int) := of_decide_eq_true (by first | (with_reducible assumption) | assumption)
                  obtain ⟨ad117, e117, hx117_0, hx117_1⟩ := at_T54 HR0.out x5_1 p117 q117
                  cases e117
                  replace p117 := eq_true p117
                  replace q117 := eq_true q117
                  have p118 : 0 ≤ (x5_1 : Int) := of_decide_eq_true (by first | (with_reducible assumption) | assumption)
                  have q118 : x5_1 < (l1.length : Int) := of_decide_eq_true (by first | (with_reducible assumption) | assumption)
                  obtain ⟨ad118, e118, hx118_0, hx118_1⟩ := at_T100 HR1.out x5_1 p118 q118
                  cases e118
                  replace p118 := eq_true p118
                  replace q118 := eq_true q118
                  have p119 : 0 ≤ (x5_1 : Int) := of_decide_eq_true (by first | (with_reducible assumption) | assumption)
                  have q119 : x5_1 < (l0.length : Int) := of_decide_eq_true (by first | (with_reducible assumption) | assumption)
                  obtain ⟨ad119, e119, hx119_0, hx119_1⟩ := at_T54 HR0.out x5_1 p119 q119
                  obtain rfl : ad117 = ad119 := (by injection e119)
                  replace p119 := eq_true p119
                  replace q119 := eq_true q119
                  have p120 : 0 ≤ (x5_1 : Int) := of_decide_eq_true (by first | (with_reducible assumption) | assumption)
                  have q120 : x5_1 < (l1.length : Int) := of_decide_eq_true (by first | (with_reducible assumption) | assumption)
                  obtain ⟨ad120, e120, hx120_0, hx120_1⟩ := at_T100 HR1.out x5_1 p120 q120
                  obtain rfl : ad118 = ad120 := (by injection e120)
                  replace p120 := eq_true p120
                  replace q120 := eq_true q120
                  go_wp2
                  repeat (go_quiet (fail); try go_wp2)
                  go_roundg k1
                  case measure => have := HK1.out; omega
                  case rel => exact ⟨(wrap64 (x5_1 + 1)), (by first | rfl | (simp; done) | (simp [*]; done)), H', ⟨by have := HK1.out; omega⟩, by repeat (first | exact Drawn0.refl _ | apply Drawn0.step)⟩
                · rw [if_neg c8] at H
                  have c8b0 : (((rd_T54 l0 x5_1).f1) == ((rd_T100 l1 x5_1).f1)) = false := beq_eq_false_iff_ne.mpr c8
                  have c8b1 : (((rd_T54 l0 x5_1).f1) != ((rd_T100 l1 x5_1).f1)) = true := bne_iff_ne.mpr c8
                  obtain rfl := Option.some.inj H
                  have p117 : 0 ≤ (x5_1 : Int) := of_decide_eq_true (by first | (with_reducible assumption) | assumption)
                  have q117 : x5_1 < (l0.length : Int) := of_decide_eq_true (by first | (with_reducible assumption) | assumption)
                  obtain ⟨ad117, e117, hx117_0, hx117_1⟩ := at_T54 HR0.out x5_1 p117 q117
                  cases e117
                  replace p117 := eq_true p117
                  replace q117 := eq_true q117
                  have p118 : 0 ≤ (x5_1 : Int) := of_decide_eq_true (by first | (with_reducible assumption) | assumption)
                  have q118 : x5_1 < (l1.length : Int) := of_decide_eq_true (by first | (with_reducible assumption) | assumption)
                  obtain ⟨ad118, e118, hx118_0, hx118_1⟩ := at_T100 HR1.out x5_1 p118 q118
                  cases e118
                  replace p118 := eq_true p118
                  replace q118 := eq_true q118
                  have p119 : 0 ≤ (x5_1 : Int) := of_decide_eq_true (by first | (with_reducible assumption) | assumption)
                  have q119 : x5_1 < (l0.length : Int) := of_decide_eq_true (by first | (with_reducible assumption) | assumption)
                  obtain ⟨ad119, e119, hx119_0, hx119_1⟩ := at_T54 HR0.out x5_1 p119 q119
                  obtain rfl : ad117 = ad119 := (by injection e119)
                  replace p119 := eq_true p119
                  replace q119 := eq_true q119
                  have p120 : 0 ≤ (x5_1 : Int) := of_decide_eq_true (by first | (with_reducible assumption) | assumption)
                  have q120 : x5_1 < (l1.length : Int) := of_decide_eq_true (by first | (with_reducible assumption) | assumption)
                  obtain ⟨ad120, e120, hx120_0, hx120_1⟩ := at_T100 HR1.out x5_1 p120 q120
                  obtain rfl : ad118 = ad120 := (by injection e120)
                  replace p120 := eq_true p120
                  replace q120 := eq_true q120
                  go_wp2
                  repeat (go_quiet (fail); try go_wp2)
                  go_ret
                  exact ⟨by first | rfl | (simp; done) | (simp [*]; done), by repeat (first | exact Drawn0.refl _ | apply Drawn0.step)⟩
              · rw [if_neg c7] at H
                have c7b0 : (((rd_T54 l0 x5_1).f0) == ((rd_T100 l1 x5_1).f0)) = false := beq_eq_false_iff_ne.mpr c7
                have c7b1 : (((rd_T54 l0 x5_1).f0) != ((rd_T100 l1 x5_1).f0)) = true := bne_iff_ne.mpr c7
                obtain rfl := Option.some.inj H
                have p117 : 0 ≤ (x5_1 : Int) := of_decide_eq_true (by first | (with_reducible assumption) | assumption)
                have q117 : x5_1 < (l0.length : Int) := of_decide_eq_true (by first | (with_reducible assumption) | assumption)
                obtain ⟨ad117, e117, hx117_0, hx117_1⟩ := at_T54 HR0.out x5_1 p117 q117
                cases e117
                replace p117 := eq_true p117
                replace q117 := eq_true q117
                have p118 : 0 ≤ (x5_1 : Int) := of_decide_eq_true (by first | (with_reducible assumption) | assumption)
                have q118 : x5_1 < (l1.length : Int) := of_decide_eq_true (by first | (with_reducible assumption) | assumption)
                obtain ⟨ad118, e118, hx118_0, hx118_1⟩ := at_T100 HR1.out x5_1 p118 q118
                cases e118
                replace p118 := eq_true p118
                replace q118 := eq_true q118
                go_wp2
                repeat (go_quiet (fail); try go_wp2)
                go_ret
                exact ⟨by first | rfl | (simp; done) | (simp [*]; done), by repeat (first | exact Drawn0.refl _ | apply Drawn0.step)⟩
            · rw [if_neg c6] at H
              exact absurd H (by simp)
          · rw [if_neg c5] at H
            exact absurd H (by simp)
        · rw [if_neg c4] at H
          have c4b0 : decide (x5_1 < (l0.length : Int)) = false := decide_eq_false c4
          clear c4
          obtain rfl := Option.some.inj H
          go_wp2
          repeat (go_quiet (fail); try go_wp2)
          go_ret
          exact ⟨by first | rfl | (simp; done) | (simp [*]; done), by repeat (first | exact Drawn0.refl _ | apply Drawn0.step)⟩
  · rw [if_neg c3] at H
    have c3b0 : ((l0.length : Int) == (l1.length : Int)) = false := beq_eq_false_iff_ne.mpr c3
    have c3b1 : ((l0.length : Int) != (l1.length : Int)) = true := bne_iff_ne.mpr c3
    have c3b2 : (l0.length == l1.length) = false := by first | simpa using c3 | (simp at c3 ⊢; omega)
    obtain rfl := Option.some.inj H
    go_enter Try.func22, Try.ntmps22
    go_wp2
    repeat (go_quiet (fail); try go_wp2)
    go_ret
    exact ⟨by first | rfl | (simp; done) | (simp [*]; done), by repeat (first | exact Drawn0.refl _ | apply Drawn0.step)⟩
end Go.Proofs.Ytdnjmhhjjbdieaa.Q
end
section
namespace Go.Proofs.Ytdnjmhhjjbdieaa.Q
open Go.RowKit Go.Shelf Go.Proofs.YtdnjmhhjjbdieaaW.PrintWords Go.Proofs.YtdnjmhhjjbdieaaW.PrintLast
set_option linter.unusedVariables false
set_option linter.unusedSimpArgs false
attribute [local go_sem] Oper.semAt_some
theorem infoTold : (Try.prog.info? 54).map (fun i => (i.zero, i.size, i.bytes)) = some (some (.agg #[(.int .u16 0), (.int .u16 0)]), 2, 4) := by kernel_rfl
theorem made_zero (m k : Nat) (h : k < m) : (madeCells #[Value.int .u16 0, .int .u16 0] m)[k]? = some (.int .u16 0) := by
  unfold madeCells
  rw [Array.getElem?_map, Array.getElem?_range, if_pos h]
  simp only [Option.map_some]
  have : k % 2 = 0 ∨ k % 2 = 1 := by omega
  rcases this with e | e <;> simp [e]
theorem made_told (m : Nat) (hm : m ≤ 40) (W : World) : (Instr.makeSlice 27 (.int .i64 m) (.int .i64 m)).run Try.prog W = .ok (.slice (some ⟨W.heap.size, 0, none⟩) m m) (W.alloc (.cells (madeCells #[Value.int .u16 0, .int .u16 0] (m * 2)) 54)) := by
  obtain ⟨inf, hinf, hif⟩ : ∃ i, Try.prog.info? 54 = some i ∧ (i.zero, i.size, i.bytes) = (some (.agg #[(.int .u16 0), (.int .u16 0)]), 2, 4) := by
    have h := infoTold
    cases h2 : Try.prog.info? 54 with
    | none => rw [h2] at h; cases h
    | some i => rw [h2] at h; exact ⟨i, rfl, Option.some.inj h⟩
  simp only [Prod.mk.injEq] at hif
  have := run_makeSlice (P := Try.prog) W 27 54 inf (.agg #[(.int .u16 0), (.int .u16 0)]) Try.underlying27 hinf hif.1 .i64 .i64 m m (by omega) (Int.le_refl _) (by rw [hif.2.1]; omega) (by rw [hif.2.2]; omega) (by omega)
  rw [hif.2.1] at this
  exact this
set_option maxRecDepth 100000 in
set_option maxHeartbeats 4000000 in
theorem floor_Who.calls (a0_0 a0_1 a0_2 a0_3 : Int) (A0_4 : Option Addr) (c0_4 : Nat) (l0_4 : List S52) (r1 : List S54) (r2 : Int) (w : World) (hr0_4 : Kd.C k52 w A0_4 l0_4.length l0_4) (hc0_4 : l0_4.length ≤ c0_4)
    (h : floor_Who.f a0_0 a0_1 a0_2 a0_3 l0_4 = some (r1, r2)) :
    Calls Try.prog 18 #[.agg #[.int .i64 a0_0, .int .i64 a0_1, .int .i64 a0_2, .int .i64 a0_3, .slice A0_4 l0_4.length c0_4]] w fun e w' => ∃ v0_ : Value, e = .returned (.tuple #[v0_, .int .i64 r2]) ∧ Kd.R k54 54 w' w.heap.size (fun _ => True) v0_ r1 ∧ Below w.heap.size w w' := by
  have hu := Try.underlying33
  refine (callsIn_wide (n := 0)).1 ?_
  refine callsIn_of_wp_marks Try.func18 rfl trivial ?_ rfl
  simp only [Try.ntmps18, List.size_toArray, List.length_cons, List.length_nil, Nat.reduceAdd, Nat.reduceSub, Array.replicate_succ, Array.replicate_zero, List.push_toArray, List.append_toArray, List.nil_append, List.cons_append]
  unfold floor_Who.f at h
  obtain ⟨W0, hW0⟩ : ∃ W0, w.alloc (.cells #[.int .i64 a0_0, .int .i64 a0_1, .int .i64 a0_2, .int .i64 a0_3, .slice A0_4 l0_4.length c0_4] 33) = W0 := ⟨_, rfl⟩
  have hs0 : W0.heap.size = w.heap.size + 1 := by rw [← hW0]; simp
  have hsc0 : W0.heap[w.heap.size]? = some (.cells #[.int .i64 a0_0, .int .i64 a0_1, .int .i64 a0_2, .int .i64 a0_3, .slice A0_4 l0_4.length c0_4] 33 (0, 0)) := by rw [← hW0]; exact heap_new rfl
  have hb0 : Below w.heap.size w W0 := by rw [← hW0]; exact (Below.refl _ w).alloc (Nat.le_refl _) _
  have e0 := cell_of hsc0 (i := 0) rfl
  have e1 := cell_of hsc0 (i := 1) rfl
  have e2 := cell_of hsc0 (i := 2) rfl
  have e3 := cell_of hsc0 (i := 3) rfl
  have e4 := cell_of hsc0 (i := 4) rfl
  simp only [List.getElem_toArray, List.getElem_cons_zero, List.getElem_cons_succ] at e0 e1 e2 e3 e4
  have HS0 := Lib.hid hs0
  have HSC0 := Lib.hid hsc0
  have HB0 := Lib.hid hb0
  have HR := Lib.hid (Kd.C_below hr0_4 hb0)
  have HR' := Lib.hid hr0_4
  clear hs0 hsc0 hb0 hr0_4
  gi_wp2
  clear hW0
  cases hck : floor_Scene_check.f a0_0 a0_1 a0_2 a0_3 l0_4 with
  | none => rw [hck] at h; cases h
  | some r =>
    rw [hck] at h
    simp only [] at h
    have HCK := Lib.hid hck
    have HH := Lib.hid h
    clear hck h
    by_cases hr : r = 0
    · subst hr
      obtain ⟨hl, ⟨n, rfl, hn1, hn⟩, _⟩ := check_ok HCK.out
      have hnn : (n : Int).toNat = n := Int.toNat_natCast n
      refine ⟨trivial, rfl, (callsIn_wide.2 (checked.good n a0_1 a0_2 a0_3 A0_4 c0_4 l0_4 W0 HR.out hc0_4 HCK.out)).mono ?_⟩
      rintro e W1 ⟨g, i, rfl, hb1, hL⟩
      obtain ⟨sb, cS, bs, hne, hcase⟩ := hL
      have h' := HH.out
      rw [if_pos rfl, hnn] at h'
      have HB1 := Lib.hid hb1
      have HNE := Lib.hid hne
      clear hb1 hne HH
      by_cases hi : i = l0_4.length
      · rcases hcase with ⟨_, hSe⟩ | ⟨hi', _⟩
        · subst hi
          have hem : ¬ (fwdL a0_1 a0_2 a0_3 n l0_4 l0_4.length).isEmpty = true := fun hc => by
            obtain ⟨x, hx⟩ := HNE.out _ (Nat.le_refl _)
            exact fwdL_empty.1 hc x hx
          rw [if_neg hem] at h'
          obtain ⟨rfl, rfl⟩ := Prod.mk.inj (Option.some.inj h')
          rw [if_pos rfl]
          have hz1 := HB1.out.size
          have hz0 := HS0.out
          obtain ⟨Wx, hWx⟩ : ∃ Wx, W1.alloc (.cells #[.pointer (some ⟨g, 0, none⟩)] 101) = Wx := ⟨_, rfl⟩
          have hzx : Wx.heap.size = W1.heap.size + 1 := by rw [← hWx]; simp
          have hmk := made_told l0_4.length hl (W1.alloc (.cells #[.pointer (some ⟨g, 0, none⟩)] 101))
          rw [World.size_alloc] at hmk
          have f4 : W1.cell? ⟨w.heap.size, 4, none⟩ = _ := (HB1.out.cell (p := ⟨w.heap.size, 4, none⟩) (by show w.heap.size < W0.heap.size; omega)).trans e4
          have q0 : w.heap.size < W1.heap.size := by omega
          have q1 : w.heap.size < W1.heap.size + 1 := by omega
          have q2 : w.heap.size < W1.heap.size + 1 + 1 := by omega
          have q3 : w.heap.size < W1.heap.size + 1 + 1 + 1 := by omega
          have HSE := Lib.hid hSe
          have HZ1 := Lib.hid hz1
          have HZ0 := Lib.hid hz0
          clear h' hem e0 e1 e2 e3 e4 hSe hz1 hz0 hzx hWx Wx
          gi_wp2
          obtain ⟨Wz, hWz⟩ : ∃ Wz, ((W1.alloc (.cells #[.pointer (some ⟨g, 0, none⟩)] 101)).alloc (.cells (madeCells #[Value.int .u16 0, .int .u16 0] (l0_4.length * 2)) 54)).alloc (.cells #[.slice (some ⟨W1.heap.size + 1, 0, none⟩) l0_4.length l0_4.length] 27) = Wz := ⟨_, rfl⟩
          rw [hWz]
          have hz1 := HZ1.out
          have hz0 := HZ0.out
          have hbz : Below W1.heap.size W1 Wz := by rw [← hWz]; exact (((Below.refl _ W1).alloc (Nat.le_refl _) _).alloc (by simp) _).alloc (by simp; omega) _
          have hzz : Wz.heap.size = W1.heap.size + 3 := by rw [← hWz]; simp
          have hxc : Wz.heap[W1.heap.size]? = some (.cells #[.pointer (some ⟨g, 0, none⟩)] 101 (0, 0)) := by rw [← hWz]; exact heap_old (heap_old (heap_new rfl))
          have hob : Wz.heap[W1.heap.size + 1]? = some (.cells (madeCells #[Value.int .u16 0, .int .u16 0] (l0_4.length * 2)) 54 (0, 0)) := by rw [← hWz]; exact heap_old (heap_new (by simp))
          have hoc : Wz.heap[W1.heap.size + 1 + 1]? = some (.cells #[.slice (some ⟨W1.heap.size + 1, 0, none⟩) l0_4.length l0_4.length] 27 (0, 0)) := by rw [← hWz]; exact heap_new (by simp)
          have hb0z : Below W0.heap.size W0 Wz := HB1.out.trans (hbz.mono hz1)
          have hout : Out (W1.heap.size + 1) l0_4.length (fun _ => (0, 0)) Wz := ⟨_, hob, by simp [size_madeCells], fun j hj => ⟨made_zero _ _ (by omega), made_zero _ _ (by omega)⟩⟩
          refine who.rounds n hn a0_1 a0_2 a0_3 A0_4 c0_4 l0_4 hl w.heap.size W1.heap.size (W1.heap.size + 1 + 1) g sb cS (W1.heap.size + 1) W0.heap.size bs _ _ _ _ _ _ _ _ _ _ _ _ _ _ _ _ _ _ _ _ _ _ _ _ _ _ _ _ _ _ _ _ _ _ _ _ _ _ _ _ _ _ _ _ _ _ _ _ _ _ _ _ _ _ _ _ _ _ _ _ _ _ _ _ _ _ _ _ _ _ _ _ _ _ _ _ _ _ _ Wz
            (Kd.C_below HR.out hb0z) (fun ad had hlen => by
              subst had
              obtain ⟨ad', e, m0, _⟩ := at_T52 HR'.out 0 (by omega) (by omega)
              cases e
              have := World.block_lt_of_cell? w _ m0
              have hbl : (ad.add 0).block = ad.block := by unfold Addr.add; split <;> rfl
              simp at this
              omega)
            ((hb0z.block _ (by omega)).trans HSC0.out) hxc hoc (HSE.out.below hbz) hout (by omega) ?_
          rintro ds3 a7 a8 a9 a10 a11 a27 a28 a29 a30 a31 a32 a33 a34 a35 a36 a37 a38 a39 a40 a41 a42 a43 a44 a45 a46 a47 a50 a51 a52 a53 a54 a55 a56 a57 a58 a59 a60 a61 a62 a63 a64 a65 a66 a67 a68 a69 a70 a71 a72 a73 a74 a75 a76 a77 a78 a79 a80 a81 a82 F W2 hF hO2 hfd hC
          have hoc2 := (hF.same _ (by omega) (by omega)).trans hoc
          have eo := cell_of hoc2 (i := 0) rfl
          simp only [List.getElem_toArray, List.getElem_cons_zero] at eo
          have HF := Lib.hid hF
          have HO2 := Lib.hid hO2
          have HFD := Lib.hid hfd
          have HC := Lib.hid hC
          have HBZ := Lib.hid hb0z
          have HZZ := Lib.hid hzz
          clear hF hO2 hfd hC hoc2 hbz hb0z hzz hxc hob hoc hout hWz
          gi_wp2
          have hzz := HZZ.out
          refine leave_marks _ _ HC.out (fun W4 hF4 => ⟨_, results_tmp2 rfl _ _ _, _, rfl, ?_, ?_⟩)
          · have hts : ((List.range l0_4.length).map (toldOf a0_1 a0_2 a0_3 n l0_4)).length = l0_4.length := by simp
            have hO4 : Out (W1.heap.size + 1) l0_4.length F W4 := HO2.out.same (hF4.same _ HO2.out.lt (fun h => by
              obtain ⟨cs, q, _⟩ := HO2.out
              rw [q] at h; cases h.2.2))
            have := Out.told (ob := W1.heap.size + 1) (F := F) (ts := (List.range l0_4.length).map (toldOf a0_1 a0_2 a0_3 n l0_4)) (w := W4) (base := w.heap.size) (by rw [hts]; exact hO4) (by omega) (fun j t hj => by
              obtain ⟨hj1, hj2⟩ := List.getElem?_eq_some_iff.1 hj
              have hjl : j < l0_4.length := by simpa using hj1
              simp at hj2
              rw [← hj2]
              exact found_told hn hjl (HFD.out j hjl)) (by rw [hts]; exact hl)
            rw [hts] at this
            exact this
          · have h02 : Below w.heap.size w Wz := HB0.out.trans (HBZ.out.mono HB0.out.size)
            exact (h02.trans ((HF.out.below (n := w.heap.size) (by omega) (fun k hk => by omega)))).trans (hF4.below (n := w.heap.size) (by have := HF.out.size; omega) (fun k hk h => by omega))
        · omega
      · rcases hcase with ⟨hi', _⟩ | ⟨hi', hno, _⟩
        · exact absurd hi' hi
        · have hem : (fwdL a0_1 a0_2 a0_3 n l0_4 l0_4.length).isEmpty = true := fwdL_empty.2 (fun x => by
            have := fwd_later hno (l0_4.length - (i + 1)) x
            rwa [show i + 1 + (l0_4.length - (i + 1)) = l0_4.length by omega] at this)
          rw [if_pos hem] at h'
          obtain ⟨rfl, rfl⟩ := Prod.mk.inj (Option.some.inj h')
          rw [if_neg hi]
          clear h' hem hno
          gi_wp2
          refine ⟨_, results_tmp2 rfl _ _ _, _, rfl, Kd.R_nil _ _ _ _ _, ?_⟩
          exact (HB0.out.trans (HB1.out.mono HB0.out.size)).alloc (Nat.le_trans HB0.out.size HB1.out.size) _
    · have h' := HH.out
      rw [if_neg hr] at h'
      obtain ⟨rfl, rfl⟩ := Prod.mk.inj (Option.some.inj h')
      have hr2 : (r == 0) = false := by simpa using hr
      clear h' HH
      refine ⟨trivial, rfl, (callsIn_wide.2 (checked.bad a0_0 a0_1 a0_2 a0_3 A0_4 c0_4 l0_4 r W0 HR.out hc0_4 HCK.out hr)).mono ?_⟩
      rintro e W1 ⟨rfl, hb1⟩
      have HB1 := Lib.hid hb1
      clear hb1
      gi_wp2
      refine ⟨_, results_tmp2 rfl _ _ _, _, rfl, Kd.R_nil _ _ _ _ _, ?_⟩
      exact (HB0.out.trans (HB1.out.mono HB0.out.size)).alloc (Nat.le_trans HB0.out.size HB1.out.size) _
end Go.Proofs.Ytdnjmhhjjbdieaa.Q
end
section
namespace Go.Proofs.Ytdnjmhhjjbdieaa.Q
open Go.RowKit Go.Proofs.YtdnjmhhjjbdieaaW.PrintWords Go.Proofs.YtdnjmhhjjbdieaaW.PrintLast
theorem max_of_ints (k k' : IntKind) (x y : Int) : Builtin.max2 (.int k x) (.int k' y) = pure (.int k (if x < y then y else x)) := by simp only [Builtin.max2, gt_iff_lt]
theorem min_of_ints (k k' : IntKind) (x y : Int) : Builtin.min2 (.int k x) (.int k' y) = pure (.int k (if y < x then y else x)) := by simp only [Builtin.min2]
attribute [local go_sem] max_of_ints min_of_ints
attribute [local go_sem] Oper.semAt_some
set_option linter.unusedVariables false
set_option linter.unusedSimpArgs false
def accMin (xs : List Int) : Nat → Int
  | 0 => xs.getD 0 0
  | k + 1 => if xs.getD k 0 < accMin xs k then xs.getD k 0 else accMin xs k
set_option maxRecDepth 100000 in
set_option maxHeartbeats 1000000 in
theorem slmin.calls (b c : Nat) (xs : List Int) (h0 : 0 < xs.length) (hb : xs.length ≤ 1000000000) (w : World) (hc : ∀ j, j < xs.length → w.cell? ⟨b, j, none⟩ = some (.int .i64 (xs.getD j 0))) :
    Calls Try.prog 77 #[.slice (some ⟨b, 0, none⟩) xs.length c] w fun e w' => e = .returned (.int .i64 (accMin xs xs.length)) ∧ w' = w := by
  have c0 := hc 0 h0
  have h1 : ¬ ((xs.length : Int) < 1) := by omega
  have h2 : (0 : Int) < xs.length := by omega
  go_enter Try.func77, Try.ntmps77
  go_wp2
  go_loop [3, 4] (fun m i => ∃ k : Nat, 1 ≤ k ∧ k ≤ xs.length ∧ i = .int .i64 k ∧ m = .int .i64 (accMin xs k)) (fun m i => xs.length - (intOf i).toNat)
  case atStart =>
    exact ⟨1, Nat.le_refl _, h0, rfl, by simp [accMin, List.getD, h0]⟩
  case round =>
    obtain ⟨k, hk1, hk2, rfl, rfl⟩ := hrel
    by_cases hlt : k < xs.length
    · have ck := hc k hlt
      have hk3 : (k : Int) < xs.length := by omega
      have hwr : IntKind.i64.wrap ((k : Int) + 1) = (k : Int) + 1 := by simp [IntKind.wrap, IntKind.bits, IntKind.signed]; omega
      clear hc c0
      go_wp2
      go_round
      case rel => exact ⟨k + 1, by omega, by omega, by simp, by simp [accMin, List.getD, hlt]⟩
      case measure => simp [intOf]; omega
    · obtain rfl : k = xs.length := by omega
      clear hc c0
      go_wp2
      go_ret
      exact ⟨rfl, rfl⟩
def accMax (xs : List Int) : Nat → Int
  | 0 => xs.getD 0 0
  | k + 1 => if accMax xs k < xs.getD k 0 then xs.getD k 0 else accMax xs k
set_option maxRecDepth 100000 in
set_option maxHeartbeats 1000000 in
theorem slmax.calls (b c : Nat) (xs : List Int) (h0 : 0 < xs.length) (hb : xs.length ≤ 1000000000) (w : World) (hc : ∀ j, j < xs.length → w.cell? ⟨b, j, none⟩ = some (.int .i64 (xs.getD j 0))) :
    Calls Try.prog 78 #[.slice (some ⟨b, 0, none⟩) xs.length c] w fun e w' => e = .returned (.int .i64 (accMax xs xs.length)) ∧ w' = w := by
  have c0 := hc 0 h0
  have h1 : ¬ ((xs.length : Int) < 1) := by omega
  have h2 : (0 : Int) < xs.length := by omega
  go_enter Try.func78, Try.ntmps78
  go_wp2
  go_loop [3, 4] (fun m i => ∃ k : Nat, 1 ≤ k ∧ k ≤ xs.length ∧ i = .int .i64 k ∧ m = .int .i64 (accMax xs k)) (fun m i => xs.length - (intOf i).toNat)
  case atStart =>
    exact ⟨1, Nat.le_refl _, h0, rfl, by simp [accMax, List.getD, h0]⟩
  case round =>
    obtain ⟨k, hk1, hk2, rfl, rfl⟩ := hrel
    by_cases hlt : k < xs.length
    · have ck := hc k hlt
      have hk3 : (k : Int) < xs.length := by omega
      have hwr : IntKind.i64.wrap ((k : Int) + 1) = (k : Int) + 1 := by simp [IntKind.wrap, IntKind.bits, IntKind.signed]; omega
      clear hc c0
      go_wp2
      go_round
      case rel => exact ⟨k + 1, by omega, by omega, by simp, by simp [accMax, List.getD, hlt]⟩
      case measure => simp [intOf]; omega
    · obtain rfl : k = xs.length := by omega
      clear hc c0
      go_wp2
      go_ret
      exact ⟨rfl, rfl⟩
end Go.Proofs.Ytdnjmhhjjbdieaa.Q
end
section
namespace Go.Proofs.Ytdnjmhhjjbdieaa.Q
open Go.RowKit Go.Shelf Go.Proofs.YtdnjmhhjjbdieaaW.PrintWords Go.Proofs.YtdnjmhhjjbdieaaW.PrintLast
set_option linter.unusedVariables false
set_option linter.unusedSimpArgs false
attribute [local go_sem] Oper.semAt_some
def endsOf (xs : List Int) : Int × Int := (accMin xs xs.length, accMax xs xs.length)
set_option maxRecDepth 100000 in
set_option maxHeartbeats 1000000 in
theorem ends.calls (b c : Nat) (xs : List Int) (h0 : 0 < xs.length) (hb : xs.length ≤ 1000000000) (w : World) (hc : ∀ j, j < xs.length → w.cell? ⟨b, j, none⟩ = some (.int .i64 (xs.getD j 0))) :
    Calls Try.prog 58 #[.slice (some ⟨b, 0, none⟩) xs.length c] w fun e w' => e = .returned (.agg #[.int .i64 (endsOf xs).1, .int .i64 (endsOf xs).2]) ∧ Below w.heap.size w w' := by
  have hu := Try.underlying115
  have kb : b < w.heap.size := World.block_lt_of_cell? w _ (hc 0 h0)
  have hc2 : ∀ (v : Obj) j, j < xs.length → (w.alloc v).cell? ⟨b, j, none⟩ = some (.int .i64 (xs.getD j 0)) := fun v j hj => (World.cell?_alloc_lt _ _ _ kb).trans (hc j hj)
  go_enter Try.func58, Try.ntmps58
  have HC := Lib.hid hc2
  clear hc hc2
  go_wp2_with fail
  refine (slmin.calls b c xs h0 hb _ (HC.out _)).mono ?_
  rintro e w' ⟨rfl, rfl⟩
  go_wp2_with fail
  refine (slmax.calls b c xs h0 hb _ (HC.out _)).mono ?_
  rintro e w' ⟨rfl, rfl⟩
  go_wp2_with fail
  refine bodyPost_ret (v := .agg #[.int .i64 (endsOf xs).1, .int .i64 (endsOf xs).2]) (by simp [results, Try.results58, go_sem, hu, endsOf]) rfl ⟨rfl, (Below.refl _ _).alloc (Nat.le_refl _) _⟩
def merge (was : Option (Int × Int)) (n : Int × Int) : Int × Int := match was with | none => n | some v => endsOf [n.1, n.2, v.1, v.2]
set_option maxRecDepth 100000 in
set_option maxHeartbeats 2000000 in
theorem join.calls (x : St) (hx : InBox x) (n : Int × Int) (cn bn : Nat) (M : St → Option (Int × Int)) (w : World) (hcn : w.heap[cn]? = some (.cells #[.map (some bn)] 116 (0, 0))) (hM : MapIs EP w bn M) :
    Calls Try.prog 57 #[.agg #[.int .i64 x.holder, .int .i64 x.turn, .int .i64 x.short, .bool x.own], .agg #[.int .i64 n.1, .int .i64 n.2], .pointer (some ⟨cn, 0, none⟩)] w fun e w' =>
      e = .returned (.tuple #[]) ∧ MapIs EP w' bn (fun y => if y = x then some (merge (M x) n) else M y) ∧ (w.heap.size ≤ w'.heap.size ∧ w'.os = w.os ∧ w'.tape = w.tape ∧ w'.output = w.output ∧ ∀ k, k < w.heap.size → k ≠ bn → w'.heap[k]? = w.heap[k]?) := by
  have hu := Try.underlying115
  have hu1 := Try.underlying109
  have hmn : cn ≠ bn := fun e => by
    subst e; obtain ⟨es, c, h⟩ := hM.isMap; rw [hcn] at h; cases h
  have kcn : cn < w.heap.size := (Array.getElem?_eq_some_iff.1 hcn).1
  have kcn1 : cn < w.heap.size + 1 := by omega
  have ecn := cell_of hcn (i := 0) rfl
  simp only [List.getElem_toArray, List.getElem_cons_zero] at ecn
  go_enter Try.func57, Try.ntmps57
  obtain ⟨W1, hW1⟩ : ∃ W1, (w.alloc (.cells #[.int .i64 x.holder, .int .i64 x.turn, .int .i64 x.short, .bool x.own] 109)).alloc (.cells #[.int .i64 n.1, .int .i64 n.2] 115) = W1 := ⟨_, rfl⟩
  have hb1 : Below w.heap.size w W1 := by rw [← hW1]; exact ((Below.refl _ w).alloc (Nat.le_refl _) _).alloc (by simp) _
  have hs1 : W1.heap.size = w.heap.size + 2 := by rw [← hW1]; simp
  have hx1 : W1.heap[w.heap.size]? = some (.cells #[.int .i64 x.holder, .int .i64 x.turn, .int .i64 x.short, .bool x.own] 109 (0, 0)) := by rw [← hW1]; exact heap_old (heap_new rfl)
  have hn1 : W1.heap[w.heap.size + 1]? = some (.cells #[.int .i64 n.1, .int .i64 n.2] 115 (0, 0)) := by rw [← hW1]; exact heap_new (by simp)
  have hM1 := hM.same (hb1.block _ hM.lt)
  have hlk0 := hM1.lookOk x hx
  have HM := Lib.hid hM
  have HM1 := Lib.hid hM1
  have HB1 := Lib.hid hb1
  have HX1 := Lib.hid hx1
  have HN1 := Lib.hid hn1
  have x0 := cell_of hx1 (i := 0) rfl
  have x1 := cell_of hx1 (i := 1) rfl
  have x2 := cell_of hx1 (i := 2) rfl
  have x3 := cell_of hx1 (i := 3) rfl
  have n0 := cell_of hn1 (i := 0) rfl
  have n1 := cell_of hn1 (i := 1) rfl
  have f0 := not_frozen (i := 0) hn1
  have f1 := not_frozen (i := 1) hn1
  have ecn1 := (hb1.cell (p := ⟨cn, 0, none⟩) kcn).trans ecn
  simp only [List.getElem_toArray, List.getElem_cons_zero, List.getElem_cons_succ] at x0 x1 x2 x3 n0 n1
  have q0 : cn < W1.heap.size := by omega
  have q1 : w.heap.size < W1.heap.size := by omega
  have q2 : w.heap.size + 1 < W1.heap.size := by omega
  have HS1 := Lib.hid hs1
  clear hM hM1 hb1 hx1 hn1 hcn ecn hs1
  cases hMx : M x with
  | none =>
    rw [hMx] at hlk0
    have hlk : (Instr.lookup 116 (.map (some bn)) (.agg #[.int .i64 x.holder, .int .i64 x.turn, .int .i64 x.short, .bool x.own]) true).run Try.prog W1 = .ok (.tuple #[.agg #[.int .i64 0, .int .i64 0], .bool false]) W1 := hlk0
    obtain ⟨W2, hup0, hM2, hg2, ht2, hs2⟩ := (HM1.out.same (w' := W1.alloc (.cells #[.int .i64 0, .int .i64 0] 115)) (Below.heap_alloc _ _ _ HM1.out.lt)).update x hx n
    have hup : (Instr.mapUpdate 116 (.map (some bn)) (.agg #[.int .i64 x.holder, .int .i64 x.turn, .int .i64 x.short, .bool x.own]) (.agg #[.int .i64 n.1, .int .i64 n.2])).run Try.prog (W1.alloc (.cells #[.int .i64 0, .int .i64 0] 115)) = .ok () W2 := hup0
    have HM2 := Lib.hid hM2
    have HG2 := Lib.hid hg2
    have HS2 := Lib.hid hs2
    clear hlk0 hup0 hM2 hg2 ht2 hs2
    go_wp2_with fail
    go_end0
    have hs1 := HS1.out
    have hg2 := HG2.out
    refine ⟨rfl, HM2.out, by have := HS2.out; simp at this; omega, hg2.os.trans HB1.out.os, hg2.tape.trans HB1.out.tape, hg2.output.trans HB1.out.output, fun k hk hne => ?_⟩
    exact (hg2.block k (by simp; omega) (fun e => hne (Option.some.inj e))).trans ((Below.heap_alloc _ _ _ (by omega)).trans (HB1.out.block k hk))
  | some v =>
    rw [hMx] at hlk0
    have hlk : (Instr.lookup 116 (.map (some bn)) (.agg #[.int .i64 x.holder, .int .i64 x.turn, .int .i64 x.short, .bool x.own]) true).run Try.prog W1 = .ok (.tuple #[.agg #[.int .i64 v.1, .int .i64 v.2], .bool true]) W1 := hlk0
    clear hlk0
    go_wp2_with fail
    obtain ⟨W3, hW3⟩ : ∃ W3, (W1.alloc (.cells #[.int .i64 v.1, .int .i64 v.2] 115)).alloc (.cells #[.int .i64 n.1, .int .i64 n.2, .int .i64 v.1, .int .i64 v.2] 3) = W3 := ⟨_, rfl⟩
    have hb3 : Below W1.heap.size W1 W3 := by rw [← hW3]; exact ((Below.refl _ W1).alloc (Nat.le_refl _) _).alloc (by simp) _
    have hs3 : W3.heap.size = W1.heap.size + 2 := by rw [← hW3]; simp
    have hl3 : W3.heap[W1.heap.size + 1]? = some (.cells #[.int .i64 n.1, .int .i64 n.2, .int .i64 v.1, .int .i64 v.2] 3 (0, 0)) := by rw [← hW3]; exact heap_new (by simp)
    rw [hW3]
    refine (ends.calls (W1.heap.size + 1) 4 [n.1, n.2, v.1, v.2] (by simp) (by simp) W3 (fun j hj => ?_)).mono ?_
    · have : j = 0 ∨ j = 1 ∨ j = 2 ∨ j = 3 := by simp at hj; omega
      rcases this with rfl | rfl | rfl | rfl <;> exact cell_of hl3 rfl
    rintro e W4 ⟨rfl, hb4⟩
    obtain ⟨d, hd⟩ : ∃ d, endsOf [n.1, n.2, v.1, v.2] = d := ⟨_, rfl⟩
    rw [hd]
    have hb14 : Below W1.heap.size W1 W4 := hb3.trans (hb4.mono (by omega))
    have hs4 : W1.heap.size + 2 ≤ W4.heap.size := by have := hb4.size; omega
    have hn4 := (hb14.block _ q2).trans HN1.out
    have n0' := cell_of hn4 (i := 0) rfl
    have n1' := cell_of hn4 (i := 1) rfl
    have f0' := not_frozen (i := 0) hn4
    have f1' := not_frozen (i := 1) hn4
    have x0' := (hb14.cell (p := ⟨w.heap.size, 0, none⟩) q1).trans x0
    have x1' := (hb14.cell (p := ⟨w.heap.size, 1, none⟩) q1).trans x1
    have x2' := (hb14.cell (p := ⟨w.heap.size, 2, none⟩) q1).trans x2
    have x3' := (hb14.cell (p := ⟨w.heap.size, 3, none⟩) q1).trans x3
    have ecn4 := (hb14.cell (p := ⟨cn, 0, none⟩) q0).trans ecn1
    simp only [List.getElem_toArray, List.getElem_cons_zero, List.getElem_cons_succ] at n0' n1'
    have hbn : bn < w.heap.size := HM.out.lt
    have hsame : ((W4.setCell ⟨w.heap.size + 1, 0, none⟩ (.int .i64 d.1)).setCell ⟨w.heap.size + 1, 1, none⟩ (.int .i64 d.2)).heap[bn]? = W1.heap[bn]? :=
      (Below.heap_setCell _ _ _ _ (by show bn ≠ w.heap.size + 1; omega)).trans ((Below.heap_setCell _ _ _ _ (by show bn ≠ w.heap.size + 1; omega)).trans (hb14.block bn (by omega)))
    obtain ⟨W5, hup0, hM5, hg5, ht5, hs5⟩ := (HM1.out.same hsame).update x hx d
    have hup : (Instr.mapUpdate 116 (.map (some bn)) (.agg #[.int .i64 x.holder, .int .i64 x.turn, .int .i64 x.short, .bool x.own]) (.agg #[.int .i64 d.1, .int .i64 d.2])).run Try.prog ((W4.setCell ⟨w.heap.size + 1, 0, none⟩ (.int .i64 d.1)).setCell ⟨w.heap.size + 1, 1, none⟩ (.int .i64 d.2)) = .ok () W5 := hup0
    have HB14 := Lib.hid hb14
    have HS4 := Lib.hid hs4
    have HN4 := Lib.hid hn4
    have HD := Lib.hid hd
    have HM5 := Lib.hid hM5
    have HG5 := Lib.hid hg5
    have HS5 := Lib.hid hs5
    clear hb14 hs4 hn4 hd hb3 hb4 hs3 hl3 hW3 hup0 hM5 hg5 ht5 hs5 hsame
    go_wp2_with fail
    go_end0
    have hs1 := HS1.out
    have hs4 := HS4.out
    have hs5 := HS5.out
    have hg5 := HG5.out
    have hb14 := HB14.out
    refine ⟨rfl, ?_, by simp [World.setCell] at hs5; omega, hg5.os.trans (hb14.os.trans HB1.out.os), hg5.tape.trans (hb14.tape.trans HB1.out.tape), hg5.output.trans (hb14.output.trans HB1.out.output), fun k hk hne => ?_⟩
    · have : merge (some v) n = d := HD.out
      rw [this]; exact HM5.out
    · refine (hg5.block k (by simp [World.setCell]; omega) (fun e => hne (Option.some.inj e))).trans ?_
      exact (Below.heap_setCell _ _ _ _ (by show k ≠ w.heap.size + 1; omega)).trans ((Below.heap_setCell _ _ _ _ (by show k ≠ w.heap.size + 1; omega)).trans ((hb14.block k (by omega)).trans (HB1.out.block k hk)))
end Go.Proofs.Ytdnjmhhjjbdieaa.Q
end
section
namespace Go.Proofs.Ytdnjmhhjjbdieaa.Q
open Go.RowKit Go.Shelf Go.Proofs.YtdnjmhhjjbdieaaW.PrintWords Go.Proofs.YtdnjmhhjjbdieaaW.PrintLast
set_option linter.unusedVariables false
set_option linter.unusedSimpArgs false
attribute [local go_sem] Oper.semAt_some
def IsEnds (S : Int → Prop) (o : Option (Int × Int)) : Prop := match o with | none => ∀ c, ¬ S c | some v => S v.1 ∧ S v.2 ∧ ∀ c, S c → v.1 ≤ c ∧ c ≤ v.2
theorem IsEnds.congr {S T : Int → Prop} {o : Option (Int × Int)} (h : IsEnds S o) (hs : ∀ c, S c ↔ T c) : IsEnds T o := by
  cases o with
  | none => exact fun c hc => h c ((hs c).2 hc)
  | some v => exact ⟨(hs _).1 h.1, (hs _).1 h.2.1, fun c hc => h.2.2 c ((hs c).2 hc)⟩
theorem ends_four (a b c d : Int) : (endsOf [a, b, c, d]).1 = min (min a b) (min c d) ∧ (endsOf [a, b, c, d]).2 = max (max a b) (max c d) := by
  simp only [endsOf, accMin, accMax, List.length_cons, List.length_nil, List.getD]
  simp
  constructor <;> (repeat' split) <;> omega
theorem IsEnds.merge {S T : Int → Prop} {o : Option (Int × Int)} {v : Int × Int} (h : IsEnds S o) (h' : IsEnds T (some v)) : IsEnds (fun c => S c ∨ T c) (some (merge o v)) := by
  obtain ⟨t1, t2, t3⟩ := h'
  have tt := t3 _ t2
  cases o with
  | none => exact ⟨.inr t1, .inr t2, fun c hc => hc.elim (fun q => (h c q).elim) (t3 c)⟩
  | some w =>
    obtain ⟨s1, s2, s3⟩ := h
    have ss := s3 _ s2
    obtain ⟨e1, e2⟩ := ends_four v.1 v.2 w.1 w.2
    show (S _ ∨ T _) ∧ (S _ ∨ T _) ∧ ∀ c, (S c ∨ T c) → (endsOf [v.1, v.2, w.1, w.2]).1 ≤ c ∧ c ≤ (endsOf [v.1, v.2, w.1, w.2]).2
    have k1 : (endsOf [v.1, v.2, w.1, w.2]).1 = v.1 ∨ (endsOf [v.1, v.2, w.1, w.2]).1 = w.1 := by omega
    have k2 : (endsOf [v.1, v.2, w.1, w.2]).2 = v.2 ∨ (endsOf [v.1, v.2, w.1, w.2]).2 = w.2 := by omega
    refine ⟨?_, ?_, fun c hc => ?_⟩
    · show S (endsOf [v.1, v.2, w.1, w.2]).1 ∨ T (endsOf [v.1, v.2, w.1, w.2]).1
      rcases k1 with k | k <;> rw [k]
      · exact .inr t1
      · exact .inl s1
    · show S (endsOf [v.1, v.2, w.1, w.2]).2 ∨ T (endsOf [v.1, v.2, w.1, w.2]).2
      rcases k2 with k | k <;> rw [k]
      · exact .inr t2
      · exact .inl s2
    · rcases hc with hc | hc
      · have := s3 c hc; omega
      · have := t3 c hc; omega
theorem IsEnds.shift {S : Int → Prop} {v : Int × Int} (h : IsEnds S (some v)) (d : Int) : IsEnds (fun c => ∃ c', S c' ∧ c = c' + d) (some (v.1 + d, v.2 + d)) :=
  ⟨⟨v.1, h.1, rfl⟩, ⟨v.2, h.2.1, rfl⟩, fun c ⟨c', h1, h2⟩ => by have := h.2.2 c' h1; show v.1 + d ≤ c ∧ c ≤ v.2 + d; omega⟩
def heldOne (person : Int) (p : (Int × Int) × St) : Int := if p.1.1 = person then 1 else 0
def cnts (least most short : Int) (n : Nat) (mf mh person : Int) (S : St → Int → Prop) (y : St) (c : Int) : Prop := ∃ x, ∃ p ∈ partsOf least most short x mf mh n, p.2 = y ∧ ∃ c', S x c' ∧ c = c' + heldOne person p
set_option maxRecDepth 100000 in
set_option maxHeartbeats 4000000 in
theorem held.fill (n : Nat) (hn : n ≤ 12) (least most short mf mh person : Int) (vv : Value) (S : St → Int → Prop) (M : St → Option (Int × Int)) (i : Nat) (hi : i ≤ 45) (hS : ∀ x c, S x c → Small x i ∧ 0 ≤ c ∧ c ≤ i) (hSM : ∀ x, IsEnds (S x) (M x))
    (sc pc cm cn jc bi bn rb lo cnt : Nat) (ds : List Deferred) (Q : Exit → Act → World → Prop) (v0 v1 v4 v5 v6 v7 v8 v12 v13 v14 v15 v16 v17 v18 v19 v20 v21 v22 v23 v24 v25 v26 v27 v28 v29 v30 v31 v32 v33 v34 v35 v36 v37 v38 v39 v40 v41 v42 v43 v44 v45 v46 v47 v49 v50 v51 v52 v53 v54 v55 v56 v57 v58 v59 v60 v61 v62 v63 v64 v65 v66 v67 v68 v69 v70 v71 v72 v73 v74 v75 v76 v77 v78 v79 v80 v81 v82 v83 v84 v85 v86 v87 v88 v89 v90 v91 v92 v93 v94 v95 v96 v97 v98 v99 v100 v101 : Value) (W : World)
    (hr : RangeIs EP W bi rb M (fun x => M x ≠ none) cnt) (hb : MapIs EP W bn (fun _ => none)) (hbn : bi ≠ bn)
    (h1 : W.heap[sc]? = some (.cells #[.int .i64 n, .int .i64 least, .int .i64 most, .int .i64 short, vv] 33 (0, 0)))
    (h2 : W.heap[cm]? = some (.cells #[.int .u16 mf, .int .u16 mh] 52 (0, 0)))
    (h3 : W.heap[cn]? = some (.cells #[.map (some bn)] 116 (0, 0)))
    (h4 : W.heap[pc]? = some (.cells #[.int .i64 person] 3 (0, 0)))
    (h5 : W.heap[jc]? = some (.cells #[.func (.func 57) #[] #[.pointer (some ⟨cn, 0, none⟩)]] 119 (0, 0)))
    (hlo : lo ≤ W.heap.size) (hds : Coll lo W.heap.size ds W)
    (hdone : ∀ (ds' : List Deferred) (u12 u13 u14 u15 u16 u49 u50 u51 u52 u53 u54 u55 u56 u57 u60 u61 u62 u63 u64 u65 u66 u67 u68 u69 u70 u71 u72 u73 u74 u75 : Value) (M' : St → Option (Int × Int)) (W' : World), Fr (fun k => k = bn ∨ k = rb) W W' → MapIs EP W' bn M' → (∀ y, IsEnds (cnts least most short n mf mh person S y) (M' y)) → Coll lo W'.heap.size ds' W' →
      Q .normal { tmps := (List.toArray (v0 :: v1 :: (.pointer (some ⟨sc, 0, none⟩)) :: (.pointer (some ⟨pc, 0, none⟩)) :: v4 :: v5 :: v6 :: v7 :: v8 :: (.pointer (some ⟨cm, 0, none⟩)) :: (.pointer (some ⟨cn, 0, none⟩)) :: (.pointer (some ⟨jc, 0, none⟩)) :: u12 :: u13 :: u14 :: u15 :: u16 :: v17 :: v18 :: v19 :: v20 :: v21 :: v22 :: v23 :: v24 :: v25 :: v26 :: v27 :: v28 :: v29 :: v30 :: v31 :: v32 :: v33 :: v34 :: v35 :: v36 :: v37 :: v38 :: v39 :: v40 :: v41 :: v42 :: v43 :: v44 :: v45 :: v46 :: v47 :: (.pointer (some ⟨rb, 0, none⟩)) :: u49 :: u50 :: u51 :: u52 :: u53 :: u54 :: u55 :: u56 :: u57 :: v58 :: v59 :: u60 :: u61 :: u62 :: u63 :: u64 :: u65 :: u66 :: u67 :: u68 :: u69 :: u70 :: u71 :: u72 :: u73 :: u74 :: u75 :: v76 :: v77 :: v78 :: v79 :: v80 :: v81 :: v82 :: v83 :: v84 :: v85 :: v86 :: v87 :: v88 :: v89 :: v90 :: v91 :: v92 :: v93 :: v94 :: v95 :: v96 :: v97 :: v98 :: v99 :: v100 :: v101 :: [])), defers := ds' } W') :
    (blockOf 2 Try.f24).wpIn Fence.wide 0 Try.prog (Exit.inBlock 2 Q) { tmps := (List.toArray (v0 :: v1 :: (.pointer (some ⟨sc, 0, none⟩)) :: (.pointer (some ⟨pc, 0, none⟩)) :: v4 :: v5 :: v6 :: v7 :: v8 :: (.pointer (some ⟨cm, 0, none⟩)) :: (.pointer (some ⟨cn, 0, none⟩)) :: (.pointer (some ⟨jc, 0, none⟩)) :: v12 :: v13 :: v14 :: v15 :: v16 :: v17 :: v18 :: v19 :: v20 :: v21 :: v22 :: v23 :: v24 :: v25 :: v26 :: v27 :: v28 :: v29 :: v30 :: v31 :: v32 :: v33 :: v34 :: v35 :: v36 :: v37 :: v38 :: v39 :: v40 :: v41 :: v42 :: v43 :: v44 :: v45 :: v46 :: v47 :: (.pointer (some ⟨rb, 0, none⟩)) :: v49 :: v50 :: v51 :: v52 :: v53 :: v54 :: v55 :: v56 :: v57 :: v58 :: v59 :: v60 :: v61 :: v62 :: v63 :: v64 :: v65 :: v66 :: v67 :: v68 :: v69 :: v70 :: v71 :: v72 :: v73 :: v74 :: v75 :: v76 :: v77 :: v78 :: v79 :: v80 :: v81 :: v82 :: v83 :: v84 :: v85 :: v86 :: v87 :: v88 :: v89 :: v90 :: v91 :: v92 :: v93 :: v94 :: v95 :: v96 :: v97 :: v98 :: v99 :: v100 :: v101 :: [])), defers := ds } W := by
  conv => arg 4; whnf
  have hmx : Try.prog.follows .mixedOrders = true := by kernel_rfl
  have hu := Try.underlying33
  have hu1 := Try.underlying109
  have hu2 := Try.underlying52
  have hu3 := Try.underlying115
  have hu5 := Try.underlying65
  have ksc : sc < W.heap.size := (Array.getElem?_eq_some_iff.1 h1).1
  have kcm : cm < W.heap.size := (Array.getElem?_eq_some_iff.1 h2).1
  have no : ∀ {k : Nat} {cs : Array Value} {t : TypeId}, W.heap[k]? = some (.cells cs t (0, 0)) → ¬ (k = bn ∨ k = rb) := fun hk h => by
    rcases h with rfl | rfl
    · obtain ⟨es, c, e⟩ := hb.isMap; rw [hk] at e; cases e
    · obtain ⟨o, e, ec⟩ := hr.iter; rw [hk] at e; cases e; cases ec
  have nosc := no h1
  have nocm := no h2
  have nocn := no h3
  have nopc := no h4
  have nojc := no h5
  have norb : rb ≠ bn := fun h => by
    subst h
    obtain ⟨es, c, e⟩ := hb.isMap
    obtain ⟨D, left, ⟨es, clock, since, seen, c0, q1, q2, q3, q4, q5, q6⟩, ht, hl⟩ := hr
    rw [q5] at e; cases e
  have H1 := Lib.hid h1
  have H2 := Lib.hid h2
  have H3 := Lib.hid h3
  have H4 := Lib.hid h4
  have H5 := Lib.hid h5
  clear h1 h2 h3 h4 h5 no
  refine wpIn_loop_lay (fun (tT : List Value) (a' : Act) (wv : World) => ∃ (dfs : List Deferred) (u12 u13 u14 u15 u16 u49 u50 u51 u52 u53 u54 u55 u56 u57 u60 u61 u62 u63 u64 u65 u66 u67 u68 u69 u70 u71 u72 u73 u74 u75 : Value), ((fun dfs w' => ∃ L cnt M', RangeIs EP w' bi rb M L cnt ∧ MapIs EP w' bn M' ∧ (∀ y, IsEnds (cnts least most short n mf mh person (fun x c => S x c ∧ ¬ L x) y) (M' y)) ∧ Fr (fun k => k = bn ∨ k = rb) W w' ∧ Coll lo w'.heap.size dfs w')  dfs wv) ∧ a' = { tmps := (lay [none, none, none, none, none, none, none, none, none, none, none, none, some u12, some u13, some u14, some u15, some u16, none, none, none, none, none, none, none, none, none, none, none, none, none, none, none, none, none, none, none, none, none, none, none, none, none, none, none, none, none, none, none, none, some u49, some u50, some u51, some u52, some u53, some u54, some u55, some u56, some u57, none, none, some u60, some u61, some u62, some u63, some u64, some u65, some u66, some u67, some u68, some u69, some u70, some u71, some u72, some u73, some u74, some u75] tT).toArray, defers := dfs }) (fun (a' : Act) (wv : World) => (fun w' => w'.rangeLeft bi rb)  wv) ?atStart ?round
  case' atStart =>
    dsimp only [lay]
    (repeat apply Exists.intro)
    refine ⟨?_, rfl⟩
  case' round =>
    dsimp only [lay]
    intro _ wr hinv
    obtain ⟨dfs, hinv⟩ := hinv
    obtain ⟨u12, hinv⟩ := hinv
    obtain ⟨u13, hinv⟩ := hinv
    obtain ⟨u14, hinv⟩ := hinv
    obtain ⟨u15, hinv⟩ := hinv
    obtain ⟨u16, hinv⟩ := hinv
    obtain ⟨u49, hinv⟩ := hinv
    obtain ⟨u50, hinv⟩ := hinv
    obtain ⟨u51, hinv⟩ := hinv
    obtain ⟨u52, hinv⟩ := hinv
    obtain ⟨u53, hinv⟩ := hinv
    obtain ⟨u54, hinv⟩ := hinv
    obtain ⟨u55, hinv⟩ := hinv
    obtain ⟨u56, hinv⟩ := hinv
    obtain ⟨u57, hinv⟩ := hinv
    obtain ⟨u60, hinv⟩ := hinv
    obtain ⟨u61, hinv⟩ := hinv
    obtain ⟨u62, hinv⟩ := hinv
    obtain ⟨u63, hinv⟩ := hinv
    obtain ⟨u64, hinv⟩ := hinv
    obtain ⟨u65, hinv⟩ := hinv
    obtain ⟨u66, hinv⟩ := hinv
    obtain ⟨u67, hinv⟩ := hinv
    obtain ⟨u68, hinv⟩ := hinv
    obtain ⟨u69, hinv⟩ := hinv
    obtain ⟨u70, hinv⟩ := hinv
    obtain ⟨u71, hinv⟩ := hinv
    obtain ⟨u72, hinv⟩ := hinv
    obtain ⟨u73, hinv⟩ := hinv
    obtain ⟨u74, hinv⟩ := hinv
    obtain ⟨u75, hinv⟩ := hinv
    obtain ⟨hrel, ha⟩ := hinv
    subst ha
    try dsimp only
  case atStart =>
    refine ⟨_, cnt, _, hr, hb, fun y c ⟨x, p, hp, hy, c', ⟨q1, q2⟩, q3⟩ => q2 (fun e => ?_), Fr.refl _ _, hds⟩
    have := hSM x
    rw [e] at this
    exact this c' q1
  case round =>
    obtain ⟨L, cn2, M', hR, hB, hE, hF, hC⟩ := hrel
    clear hr hb hds
    rcases hR.next 0 with ⟨hall, hrun⟩ | ⟨x, v, W1, cnt1, hLx, hMx, hbx, hrun, hR1, hlt, hg1, hs1, hen⟩
    · gi_wp2
      refine hdone dfs _ _ _ _ _ _ _ _ _ _ _ _ _ _ _ _ _ _ _ _ _ _ _ _ _ _ _ _ _ _ M' wr hF hB (fun y => (hE y).congr (fun c => exists_congr (fun x => exists_congr (fun p => and_congr Iff.rfl (and_congr Iff.rfl (exists_congr (fun c' => and_congr ⟨fun h => h.1, fun h => ⟨h, fun hL => ?_⟩⟩ Iff.rfl))))))) hC
      have := hSM x
      rw [hall x hL] at this
      exact this c' h
    · simp only [encSt] at hrun hen
      replace hrun : (Instr.next (.pointer (some ⟨rb, 0, none⟩)) false 0).run Try.prog wr = .ok (.tuple #[.bool true, .agg #[.int .i64 x.holder, .int .i64 x.turn, .int .i64 x.short, .bool x.own], .agg #[.int .i64 v.1, .int .i64 v.2]]) W1 := hrun
      replace hen : (Instr.entry (.pointer (some ⟨rb, 0, none⟩))).run Try.prog W1 = .ok (.tuple #[.agg #[.int .i64 x.holder, .int .i64 x.turn, .int .i64 x.short, .bool x.own], .agg #[.int .i64 v.1, .int .i64 v.2]]) W1 := hen
      have F1 := hF.trans (Fr.grown hg1 (fun r e => by cases e; exact .inr rfl))
      have e10 := F1.cell (cell_of H1.out (i := 0) rfl) nosc
      have e11 := F1.cell (cell_of H1.out (i := 1) rfl) nosc
      have e12 := F1.cell (cell_of H1.out (i := 2) rfl) nosc
      have e13 := F1.cell (cell_of H1.out (i := 3) rfl) nosc
      have e14 := F1.cell (cell_of H1.out (i := 4) rfl) nosc
      have e20 := F1.cell (cell_of H2.out (i := 0) rfl) nocm
      have e21 := F1.cell (cell_of H2.out (i := 1) rfl) nocm
      simp only [List.getElem_toArray, List.getElem_cons_zero, List.getElem_cons_succ] at e10 e11 e12 e13 e14 e20 e21
      have hsW := F1.size
      have k1 : sc < W1.heap.size := by omega
      have k2 : cm < W1.heap.size := by omega
      have k3 : sc < W1.heap.size + 1 := by omega
      have k4 : cm < W1.heap.size + 1 := by omega
      have hB1 : MapIs EP W1 bn M' := hB.kept hg1 (fun e => norb (Option.some.inj e).symm)
      have hC1 : Coll lo W1.heap.size dfs W1 := (hC.same (SameMarks.grown hg1 (fun r e => by cases e; exact hR.noMark))).up (by omega)
      have HF1 := Lib.hid F1
      have HB1 := Lib.hid hB1
      have HC1 := Lib.hid hC1
      have HR1 := Lib.hid hR1
      have HE := Lib.hid hE
      have HLE := Lib.hid hR.left_eq
      have HMX := Lib.hid hMx
      clear F1 hB1 hC1 hR1 hs1 hF hB hC hR hg1 hMx hE
      gi_wp2
      obtain ⟨W2, hW2⟩ : ∃ W2, (W1.alloc (.cells #[.int .i64 x.holder, .int .i64 x.turn, .int .i64 x.short, .bool x.own] 109)).alloc (.cells #[.int .i64 v.1, .int .i64 v.2] 115) = W2 := ⟨_, rfl⟩
      have hb12 : Below W1.heap.size W1 W2 := by rw [← hW2]; exact ((Below.refl _ W1).alloc (Nat.le_refl _) _).alloc (by simp) _
      have hW2s : W2.heap.size = W1.heap.size + 2 := by rw [← hW2]; simp
      have hnv : W2.heap[W1.heap.size + 1]? = some (.cells #[.int .i64 v.1, .int .i64 v.2] 115 (0, 0)) := by rw [← hW2]; exact heap_new (by simp)
      rw [hW2]
      have HB12 := Lib.hid hb12
      have HW2s := Lib.hid hW2s
      have HNV := Lib.hid hnv
      clear hW2 hb12 hW2s hnv e10 e11 e12 e13 e14 e20 e21
      refine ⟨trivial, rfl, (callsIn_wide.2 (parts.calls' n least most short mf mh vv x W2)).mono ?_⟩
      rintro e W3 ⟨rfl, hPA⟩
      have hb13 : Below W1.heap.size W1 W3 := HB12.out.trans (hPA.below.mono (by have := HW2s.out; omega))
      have hs3 := hPA.size
      have hs2 := HW2s.out
      have hs1 : W1.heap.size < W3.heap.size := by omega
      have hf3 : Fr (fun k => k = bn ∨ k = rb) W W3 := HF1.out.trans (Fr.of_below hb13 (fun k q1 q2 => by omega))
      have hR3 : RangeIs EP W3 bi rb M (fun y => L y ∧ y ≠ x) cnt1 := HR1.out.same (hb13.block _ HR1.out.mapIs.lt) (hb13.block _ HR1.out.lt)
      have hB3 : MapIs EP W3 bn M' := HB1.out.same (hb13.block _ HB1.out.lt)
      have hC3 : Coll lo W1.heap.size dfs W3 := HC1.out.same (SameMarks.below hb13 (Nat.le_refl _))
      have hn3 := (hPA.below.block (W1.heap.size + 1) (by omega)).trans HNV.out
      have HF3 := Lib.hid hf3
      have HR3 := Lib.hid hR3
      have HB3 := Lib.hid hB3
      have HC3 := Lib.hid hC3
      have HS3 := Lib.hid hs3
      have HS2 := Lib.hid hs2
      have HS1 := Lib.hid hs1
      have HN3 := Lib.hid hn3
      clear hf3 hR3 hB3 hC3 hb13 hs3 hs2 hs1 hn3
      gi_wp2
      have hEx : IsEnds (S x) (some v) := by have := hSM x; rwa [HMX.out] at this
      have hx0 := (hS x v.1 hEx.1)
      have hx1 := (hS x v.2 hEx.2.1)
      have hs3 := HS3.out
      have hs2 := HS2.out
      have hs1 := HS1.out
      have hlO := HB3.out.lt
      have hlR := HR3.out.lt
      have hli := HR3.out.mapIs.lt
      refine wpIn_iter (gf := 73) (lb := #[.pointer (some ⟨W2.heap.size, 0, none⟩), .pointer (some ⟨W2.heap.size + 2, 0, none⟩), .pointer (some ⟨W2.heap.size + 3, 0, none⟩), .pointer (some ⟨W2.heap.size + 1, 0, none⟩)]) rfl (enters_of Try.func73 (by kernel_rfl) rfl)
        (hPA.iter hn hx0.1 (by omega)) (Nat.le_refl _) (fun _ _ => rfl) (fun k hk => by have := hk.2; omega) (fun _ => rfl)
        (fun pre W' => (Fr (fun k => k = bn ∨ k = rb) W W' ∧ RangeIs EP W' bi rb M (fun y => L y ∧ y ≠ x) cnt1 ∧ Coll lo W1.heap.size dfs W' ∧ W3.heap.size ≤ W'.heap.size ∧ W'.heap[W1.heap.size + 1]? = some (.cells #[.int .i64 v.1, .int .i64 v.2] 115 (0, 0))) ∧
          ∃ M2, MapIs EP W' bn M2 ∧ ∀ y, IsEnds (fun c => cnts least most short n mf mh person (fun x c => S x c ∧ ¬ L x) y c ∨ ∃ p ∈ pre, p.2 = y ∧ ∃ c', S x c' ∧ c = c' + heldOne person p) (M2 y))
        (fun c pre W' => False)
        (OwnFrom.and (OwnFrom.and (ownFrom_fr (by have := HF3.out.size; omega)) (OwnFrom.and (ownFrom_range (by omega) (by omega)) (OwnFrom.and (ownFrom_coll (by omega)) (OwnFrom.and ownFrom_size (ownFrom_block (fun _ => _) (by omega)))))) (fun s A A' row hs hg hr => by obtain ⟨M2, q1, q2⟩ := hs; exact ⟨M2, ownFrom_map (M := fun (_ : Unit) => M2) (B := W3.heap.size) (by omega) () A A' row q1 hg hr, q2⟩))
        (fun c => ownFrom_pure _ _)
        ⟨⟨HF3.out, HR3.out, HC3.out, Nat.le_refl _, HN3.out⟩, M', HB3.out, fun y => by simpa using HE.out y⟩
        (fun pre p a' W' => ∃ B, W3.heap.size ≤ B ∧ W'.heap[B]? = some (.cells #[.int .i64 p.1.1, .int .i64 p.1.2] 65 (0, 0)) ∧ W'.heap[B + 1]? = some (.cells #[.int .i64 p.2.holder, .int .i64 p.2.turn, .int .i64 p.2.short, .bool p.2.own] 109 (0, 0)) ∧ a' = { tmps := (List.toArray (v0 :: v1 :: (.pointer (some ⟨sc, 0, none⟩)) :: (.pointer (some ⟨pc, 0, none⟩)) :: v4 :: v5 :: v6 :: v7 :: v8 :: (.pointer (some ⟨cm, 0, none⟩)) :: (.pointer (some ⟨cn, 0, none⟩)) :: (.pointer (some ⟨jc, 0, none⟩)) :: (.pointer (some ⟨W1.heap.size, 0, none⟩)) :: (.pointer (some ⟨W1.heap.size + 1, 0, none⟩)) :: (.pointer (some ⟨B, 0, none⟩)) :: (.pointer (some ⟨B + 1, 0, none⟩)) :: u16 :: v17 :: v18 :: v19 :: v20 :: v21 :: v22 :: v23 :: v24 :: v25 :: v26 :: v27 :: v28 :: v29 :: v30 :: v31 :: v32 :: v33 :: v34 :: v35 :: v36 :: v37 :: v38 :: v39 :: v40 :: v41 :: v42 :: v43 :: v44 :: v45 :: v46 :: v47 :: (.pointer (some ⟨rb, 0, none⟩)) :: (.tuple #[.bool true, .agg #[.int .i64 x.holder, .int .i64 x.turn, .int .i64 x.short, .bool x.own], .agg #[.int .i64 v.1, .int .i64 v.2]]) :: (.bool true) :: (.tuple #[.agg #[.int .i64 x.holder, .int .i64 x.turn, .int .i64 x.short, .bool x.own], .agg #[.int .i64 v.1, .int .i64 v.2]]) :: (.agg #[.int .i64 x.holder, .int .i64 x.turn, .int .i64 x.short, .bool x.own]) :: (.agg #[.int .i64 v.1, .int .i64 v.2]) :: (.agg #[.int .i64 n, .int .i64 least, .int .i64 most, .int .i64 short, vv]) :: (.agg #[.int .i64 x.holder, .int .i64 x.turn, .int .i64 x.short, .bool x.own]) :: (.agg #[.int .u16 mf, .int .u16 mh]) :: (.func (.func 73) #[] #[.pointer (some ⟨W2.heap.size, 0, none⟩), .pointer (some ⟨W2.heap.size + 2, 0, none⟩), .pointer (some ⟨W2.heap.size + 3, 0, none⟩), .pointer (some ⟨W2.heap.size + 1, 0, none⟩)]) :: (.agg #[.int .i64 p.1.1, .int .i64 p.1.2]) :: (.agg #[.int .i64 p.2.holder, .int .i64 p.2.turn, .int .i64 p.2.short, .bool p.2.own]) :: u60 :: u61 :: u62 :: u63 :: u64 :: u65 :: u66 :: u67 :: u68 :: u69 :: u70 :: u71 :: u72 :: u73 :: u74 :: u75 :: v76 :: v77 :: v78 :: v79 :: v80 :: v81 :: v82 :: v83 :: v84 :: v85 :: v86 :: v87 :: v88 :: v89 :: v90 :: v91 :: v92 :: v93 :: v94 :: v95 :: v96 :: v97 :: v98 :: v99 :: v100 :: v101 :: [])), defers := [] })
        (fun pre p a' _ A A' row hs hg hr => by obtain ⟨B, e1, e2, e3, e4⟩ := hs; exact ⟨B, e1, ownFrom_cells (fun (_ : Unit) => #[.int .i64 p.1.1, .int .i64 p.1.2]) 65 () A A' row e2 hg hr, ownFrom_cells (fun (_ : Unit) => #[.int .i64 p.2.holder, .int .i64 p.2.turn, .int .i64 p.2.short, .bool p.2.own]) 109 () A A' row e3 hg hr, e4⟩)
        ?assign ?body ?done ?stop
      case assign =>
        rintro l1 pre p post W4 K hx' ⟨⟨hI1, hI2, hI3, hI4, hI5⟩, hI6⟩ hK
        have HI := Lib.hid (⟨hI1, hI2, hI3, hI4, hI5⟩ : Fr (fun k => k = bn ∨ k = rb) W W4 ∧ _ ∧ _ ∧ _ ∧ _)
        have HI6 := Lib.hid hI6
        clear hI1 hI2 hI3 hI4 hI5 hI6 hs3 hs2 hs1
        simp only [encPart, encSt]
        gi_wp2
        have hI := HI.out
        have hb2 : Below W4.heap.size W4 ((W4.alloc (.cells #[.int .i64 p.1.1, .int .i64 p.1.2] 65)).alloc (.cells #[.int .i64 p.2.holder, .int .i64 p.2.turn, .int .i64 p.2.short, .bool p.2.own] 109)) := ((Below.refl _ W4).alloc (Nat.le_refl _) _).alloc (by simp) _
        obtain ⟨M2, hM2, hE2⟩ := HI6.out
        exact hK _ _ (KeptC.below hb2 (Nat.le_refl _)) ⟨⟨hI.1.trans (Fr.of_below hb2 (fun k q1 q2 => by omega)), hI.2.1.same (hb2.block _ hI.2.1.mapIs.lt) (hb2.block _ hI.2.1.lt), hI.2.2.1.same (SameMarks.below hb2 (Nat.le_refl _)), by have := hI.2.2.2.1; have := hb2.size; omega, (hb2.block _ (Array.getElem?_eq_some_iff.1 hI.2.2.2.2).1).trans hI.2.2.2.2⟩, M2, hM2.same (hb2.block _ hM2.lt), hE2⟩ ⟨_, hI.2.2.2.1, heap_old (heap_new rfl), heap_new (by simp), rfl⟩
      case body =>
        rintro l1 pre p post a' W4 hx' hl1 ⟨r1, hr1⟩ ⟨hI, M2, hM2, hE2⟩ ⟨B, hB, hbB, hbB1, rfl⟩
        have hpm : p ∈ partsOf least most short x mf mh n := by rw [hx']; simp
        have hsp : Small p.2 (i + 1) := small_parts hn hx0.1 hpm
        have n0 := cell_of hI.2.2.2.2 (i := 0) rfl
        have n1 := cell_of hI.2.2.2.2 (i := 1) rfl
        have e4 := hI.1.cell (cell_of H4.out (i := 0) rfl) nopc
        have e5 := hI.1.cell (cell_of H5.out (i := 0) rfl) nojc
        have f0 := cell_of hbB (i := 0) rfl
        have f2 := cell_of hbB1 (i := 0) rfl
        have f3 := cell_of hbB1 (i := 1) rfl
        have f4 := cell_of hbB1 (i := 2) rfl
        have f5 := cell_of hbB1 (i := 3) rfl
        simp only [List.getElem_toArray, List.getElem_cons_zero, List.getElem_cons_succ] at n0 n1 e4 e5 f0 f2 f3 f4 f5
        have g1 : W1.heap.size + 1 < W4.heap.size := by have := hI.2.2.2.1; omega
        have g2 : B < W4.heap.size := (Array.getElem?_eq_some_iff.1 hbB).1
        have g3 : B + 1 < W4.heap.size := (Array.getElem?_eq_some_iff.1 hbB1).1
        have g4 : pc < W4.heap.size := World.block_lt_of_cell? W4 _ e4
        have g5 : jc < W4.heap.size := World.block_lt_of_cell? W4 _ e5
        have hw1 : IntKind.i64.wrap (v.1 + 1) = v.1 + 1 := by have := hx0.2; simp [IntKind.wrap, IntKind.bits, IntKind.signed]; omega
        have hw2 : IntKind.i64.wrap (v.2 + 1) = v.2 + 1 := by have := hx1.2; simp [IntKind.wrap, IntKind.bits, IntKind.signed]; omega
        have hcn4 := (hI.1.same _ (Array.getElem?_eq_some_iff.1 H3.out).1 nocn).trans H3.out
        have hEs := hEx.shift (heldOne person p)
        have HI := Lib.hid hI
        have HM2 := Lib.hid hM2
        have HE2 := Lib.hid hE2
        have HPM := Lib.hid hpm
        have HX' := Lib.hid hx'
        have HCN4 := Lib.hid hcn4
        have HES := Lib.hid hEs
        have HHEX := Lib.hid hEx
        clear hI hM2 hE2 hpm hx' hr1 hbB hbB1 hs1 hs2 hs3 hcn4 hEs hEx
        have key : ∀ (WK : World) (v' : Int × Int), v' = (v.1 + heldOne person p, v.2 + heldOne person p) → Below W4.heap.size W4 WK →
            CallsIn (Fence.wide.inRound l1) 0 Try.prog 57 #[.agg #[.int .i64 p.2.holder, .int .i64 p.2.turn, .int .i64 p.2.short, .bool p.2.own], .agg #[.int .i64 v'.1, .int .i64 v'.2], .pointer (some ⟨cn, 0, none⟩)] WK (fun e W6 => e = .returned (.tuple #[]) ∧
              (KeptC (partsC W2.heap.size) W3.heap.size W4 W6 ∧ (Fr (fun k => k = bn ∨ k = rb) W W6 ∧ RangeIs EP W6 bi rb M (fun y => L y ∧ y ≠ x) cnt1 ∧ Coll lo W1.heap.size dfs W6 ∧ W3.heap.size ≤ W6.heap.size ∧ W6.heap[W1.heap.size + 1]? = some (.cells #[.int .i64 v.1, .int .i64 v.2] 115 (0, 0))) ∧
                ∃ M2, MapIs EP W6 bn M2 ∧ ∀ y, IsEnds (fun c => cnts least most short n mf mh person (fun x c => S x c ∧ ¬ L x) y c ∨ ∃ r ∈ pre ++ [p], r.2 = y ∧ ∃ c', S x c' ∧ c = c' + heldOne person r) (M2 y))) := by
          intro WK v' hv' hbK
          have hI := HI.out
          have hM2 := HM2.out
          refine CallsIn.inRound l1 ((callsIn_wide.2 (join.calls p.2 (hsp.box (by omega)) v' cn bn M2 WK ((hbK.block _ (Array.getElem?_eq_some_iff.1 HCN4.out).1).trans HCN4.out) (hM2.same (hbK.block _ hM2.lt)))).mono ?_)
          rintro e W6 ⟨rfl, hM6, hsz6, ho6, ht6, hp6, hk6⟩
          have hF46 : Fr (fun k => k = bn) W4 W6 := ⟨ho6.trans hbK.os, ht6.trans hbK.tape, hp6.trans hbK.output, Nat.le_trans hbK.size hsz6, fun k hk hne => (hk6 k (by have := hbK.size; omega) hne).trans (hbK.block k hk)⟩
          have hnb : bn < W1.heap.size := HB1.out.lt
          have hs2 := HS2.out
          refine ⟨rfl, ⟨hF46.size, fun k hk hkl => hF46.same k hkl (fun e => hk.elim (fun q => by have h1 : W2.heap.size ≤ k := q.1; omega) (fun q => by omega))⟩, ⟨hI.1.trans (hF46.mono (fun k _ h => .inl h)), hI.2.1.same (hF46.same bi hI.2.1.mapIs.lt hbn) (hF46.same rb hI.2.1.lt norb), hI.2.2.1.same (SameMarks.fr hF46 (fun k h => by subst h; exact hM2.noMark)), by have := hF46.size; have := hI.2.2.2.1; omega, (hF46.same _ g1 (by omega)).trans hI.2.2.2.2⟩, _, hM6, fun y => ?_⟩
          by_cases e : y = p.2
          · subst e
            rw [if_pos rfl, hv']
            refine ((HE2.out p.2).merge HES.out).congr (fun c => ⟨fun h => ?_, fun h => ?_⟩)
            · rcases h with (h | ⟨q, hq, h⟩) | h
              · exact .inl h
              · exact .inr ⟨q, by simp [hq], h⟩
              · exact .inr ⟨p, by simp, rfl, h⟩
            · rcases h with h | ⟨q, hq, h1, h2⟩
              · exact .inl (.inl h)
              · rcases List.mem_append.1 hq with hq | hq
                · exact .inl (.inr ⟨q, hq, h1, h2⟩)
                · have e2 : q = p := List.mem_singleton.1 hq
                  exact .inr (e2 ▸ h2)
          · rw [if_neg e]
            refine (HE2.out y).congr (fun c => or_congr Iff.rfl ⟨fun ⟨q, hq, h⟩ => ⟨q, by simp [hq], h⟩, fun ⟨q, hq, h1, h2⟩ => ?_⟩)
            rcases List.mem_append.1 hq with hq | hq
            · exact ⟨q, hq, h1, h2⟩
            · have e2 : q = p := List.mem_singleton.1 hq
              exact absurd (e2 ▸ h1.symm) e
        have HK := Lib.hid key
        clear key
        by_cases hp : p.1.1 = person
        · have hpb : (p.1.1 == person) = true := by simpa using hp
          have hho : heldOne person p = 1 := by simp [heldOne, hp]
          have HHO := Lib.hid hho
          clear hho
          gi_wp2
          refine ⟨trivial, rfl, (HK.out _ (v.1 + 1, v.2 + 1) (by rw [HHO.out]) ((Below.refl _ W4).alloc (Nat.le_refl _) _)).mono ?_⟩
          rintro e W6 ⟨rfl, hk6, hI6⟩
          have HK6 := Lib.hid hk6
          have HI6 := Lib.hid hI6
          clear hk6 hI6
          gi_wp2
          exact ⟨HK6.out, HI6.out⟩
        · have hpb : (p.1.1 == person) = false := by simpa using hp
          have hho : heldOne person p = 0 := by simp [heldOne, hp]
          have HHO := Lib.hid hho
          clear hho
          gi_wp2
          refine ⟨trivial, rfl, (HK.out _ (v.1, v.2) (by rw [HHO.out]; simp) ((Below.refl _ W4).alloc (Nat.le_refl _) _)).mono ?_⟩
          rintro e W6 ⟨rfl, hk6, hI6⟩
          have HK6 := Lib.hid hk6
          have HI6 := Lib.hid hI6
          clear hk6 hI6
          gi_wp2
          exact ⟨HK6.out, HI6.out⟩
      case done =>
        rintro D W5 hD ⟨hI, M2, hM2, hE2⟩ hK
        gi_wp2
        refine ⟨?_, ?measure⟩
        · (repeat apply Exists.intro)
          refine ⟨?_, rfl⟩
          have hDl : D < W5.heap.size := (Array.getElem?_eq_some_iff.1 hK).1
          refine ⟨_, cnt1, M2, hI.2.1, hM2, fun y => (hE2 y).congr (fun c => ?_), hI.1, hI.2.2.1.push (by have := HF3.out.size; omega) (by omega) hDl hK⟩
          constructor
          · rintro (⟨z, p, hp, hy, c', ⟨q1, q2⟩, q3⟩ | ⟨p, hp, hy, c', q1, q3⟩)
            · exact ⟨z, p, hp, hy, c', ⟨q1, fun h => q2 h.1⟩, q3⟩
            · exact ⟨x, p, hp, hy, c', ⟨q1, fun h => h.2 rfl⟩, q3⟩
          · rintro ⟨z, p, hp, hy, c', ⟨q1, q2⟩, q3⟩
            by_cases e : z = x
            · subst e; exact .inr ⟨p, hp, hy, c', q1, q3⟩
            · exact .inl ⟨z, p, hp, hy, c', ⟨q1, fun h => q2 ⟨h, e⟩⟩, q3⟩
        case measure =>
          rw [hI.2.1.left_eq, HLE.out]; exact hlt
      case stop =>
        rintro D c pre p post W5 hD hx' hf hK
        exact hf.elim
end Go.Proofs.Ytdnjmhhjjbdieaa.Q
end
