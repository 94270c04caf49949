/- Texts of a proof, joined: see the last one. -/
import Derived.Test.YtdnjmhhjjbdieaaG10
import Derived.IntWalk
namespace Go.Proofs.YtdnjmhhjjbdieaaW.PrintLast
end Go.Proofs.YtdnjmhhjjbdieaaW.PrintLast
namespace Go.Proofs.YtdnjmhhjjbdieaaW.PrintWords
end Go.Proofs.YtdnjmhhjjbdieaaW.PrintWords
section
namespace Go.Proofs.Ytdnjmhhjjbdieaa.Q
open Go.RowKit Go.Shelf Go.Proofs.YtdnjmhhjjbdieaaW.PrintWords Go.Proofs.YtdnjmhhjjbdieaaW.PrintLast
set_option linter.unusedVariables false
set_option linter.unusedSimpArgs false
set_option maxRecDepth 100000 in
set_option maxHeartbeats 8000000 in
theorem palantypelaw02_FloorLess.gap2a (n : Nat) (a0_1 a0_2 a0_3 : Int) (A0_4 : Option Addr) (c0_4 : Nat) (l0_4 : List RM) (a1 : Int) (a2 : Int) (a3 : Int) (a4 : Int) (w : World) (hr0_4 : Kd.C k59 w A0_4 l0_4.length l0_4) (hc0_4 : l0_4.length ≤ c0_4) (hm0 : ∀ y ∈ l0_4, (Lit.int .u16 y.f0).wf = true ∧ (Lit.int .u16 y.f1).wf = true) (hl0 : l0_4.length ≤ maxLen) (w1 : (Lit.int .u8 a1).wf = true) (w2 : (Lit.int .u8 a2).wf = true) (w3 : (Lit.int .u8 a3).wf = true) (w4 : (Lit.int .u16 a4).wf = true) (hrd : Ev (fun k => palantypelaw02_ready.f k n a0_1 a0_2 a0_3 l0_4) true) (h0 : 0 < l0_4.length) (L : List FM) (hL : l0_4.map mo = L) (hLl : L.length = l0_4.length) (hck : floor_Scene_check.f n a0_1 a0_2 a0_3 L = some 0) (hL40 : l0_4.length ≤ 40) (hL40b : L.length ≤ 40) (hn1 : 1 ≤ n) (hn2 : n ≤ 12) (k : Nat) (hk : a1 % (L.length : Int) = k) (hkL : k < L.length) (f0 f1 : Int) (hkf : L[k] = ⟨f0, f1⟩) (h20 : 0 ≤ a0_2 ∧ a0_2 ≤ 20) (h21 : 1 ≤ a0_1 ∧ a0_1 ≤ 20) (h22 : 0 ≤ a0_3 ∧ a0_3 ≤ 20) (hc : a2 % 5 = 2) (hv : a0_2 + a3 % 20 < 20) (hWA : floor_Who.f n a0_1 a0_2 a0_3 L = some ([], 10)) (wb : List FT) (eb : Int) (hWB : floor_Who.f n a0_1 (a0_2 + a3 % 20) a0_3 L = some (wb, eb)) :
    Calls Try.prog 5 #[.agg #[.int .i64 n, .int .i64 a0_1, .int .i64 a0_2, .int .i64 a0_3, .slice A0_4 l0_4.length c0_4], .int .u8 a1, .int .u8 a2, .int .u8 a3, .int .u16 a4] w fun e w' => e = .returned (.bool true) ∧ Below w.heap.size w w' := by
  have HWA := Lib.hid hWA
  have HWB := Lib.hid hWB
  clear hWA hWB
  have HRD := Lib.hid hrd
  have HL := Lib.hid hL
  have HLL := Lib.hid hLl
  have HCK := Lib.hid hck
  have HK := Lib.hid hk
  have HKF := Lib.hid hkf
  have h00 : ((l0_4.length : Int) == 0) = false := beq_eq_false_iff_ne.2 (by omega)
  have hLp : 0 < L.length := by omega
  have hLp2 : (0 : Int) < (L.length : Int) := by omega
  have hLp3 : ((L.length : Int) == 0) = false := beq_eq_false_iff_ne.2 (by omega)
  have hkL2 : (k : Int) < (L.length : Int) := by omega
  have hkL0 : (0 : Int) ≤ (k : Int) := by omega
  obtain ⟨h201, h202⟩ := h20
  obtain ⟨h211, h212⟩ := h21
  obtain ⟨h221, h222⟩ := h22
  have hn3 : (1 : Int) ≤ n := by omega
  have hn4 : (n : Int) ≤ 12 := by omega
  have HC := Lib.hid hc
  clear hrd hL hLl hck hk hkf hc
  have hu := Try.underlying24
  have hu2 := Try.underlying33
  have hu3 := Try.underlying52
  have hu4 := Try.underlying54
  obtain ⟨w10, w11⟩ := wf_u8 w1
  obtain ⟨w20, w21⟩ := wf_u8 w2
  obtain ⟨w30, w31⟩ := wf_u8 w3
  unfold maxLen at hl0
  go_enter Try.func5, Try.ntmps5
  have HRw := Lib.hid hr0_4
  clear hr0_4 hm0 w1 w2 w3 w4
  go_wp2_with fail
  obtain ⟨W0, hW0⟩ : ∃ W0, w.alloc (.cells #[.int .i64 n, .int .i64 a0_1, .int .i64 a0_2, .int .i64 a0_3, .slice A0_4 l0_4.length c0_4] 24) = W0 := ⟨_, rfl⟩
  have hb0 : Below w.heap.size w W0 := by rw [← hW0]; exact (Below.refl _ w).alloc (Nat.le_refl _) _
  have HSC : Hid (W0.heap[w.heap.size]? = some (.cells #[.int .i64 n, .int .i64 a0_1, .int .i64 a0_2, .int .i64 a0_3, .slice A0_4 l0_4.length c0_4] 24 (0, 0))) := Lib.hid (by rw [← hW0]; exact heap_new rfl)
  rw [hW0]
  clear hW0
  have HR := Lib.hid (Kd.C_below HRw.out hb0)
  have HB := Lib.hid hb0
  clear hb0 HRw
  refine (ready.W _ HR.out hc0_4 HRD.out).mono ?_
  rintro e V1 ⟨rfl, hb⟩
  replace HSC := Lib.hid (blkBel HSC.out hb)
  replace HR := Lib.hid (Kd.C_below HR.out hb)
  replace HB := Lib.hid (below_then HB.out HB.out.size hb)
  clear hb
  obtain ⟨e0, e1, e2, e3, e4⟩ := agg5 HSC.out
  have kz := (Array.getElem?_eq_some_iff.1 HSC.out).1
  go_wp2_with fail
  have kz0 := kz
  have HR1 := Lib.hid HR.out
  have HSC1 := Lib.hid HSC.out
  have HB1 := Lib.hid HB.out
  have HBB := Lib.hid (Below.refl V1.heap.size V1)
  refine (Scene.R HL.out hLp _ HR.out hc0_4 (by omega)).mono ?_
  rintro e V2 ⟨g, cg, cur, rfl, hcg, hgs, hgh, hC, hb⟩
  replace HSC := Lib.hid (blkBel HSC.out hb)
  replace HR := Lib.hid (Kd.C_below HR.out hb)
  replace HBB := Lib.hid (below_then HBB.out HBB.out.size hb)
  replace HB := Lib.hid (below_then HB.out HB.out.size hb)
  have HCg := Lib.hid hC
  clear hC
  have HGH := Lib.hid hgh
  clear hgh
  clear hb
  clear e0 e1 e2 e3 e4 kz
  obtain ⟨e0, e1, e2, e3, e4⟩ := agg5 HSC.out
  have kz := (Array.getElem?_eq_some_iff.1 HSC.out).1
  have HCg2 := Lib.hid HCg.out
  have HBB2 := Lib.hid (Below.refl V2.heap.size V2)
  have hg2 : g < V2.heap.size := (Array.getElem?_eq_some_iff.1 HGH.out).1
  go_wp2_with fail
  obtain ⟨V3, hW⟩ : ∃ W, V2.alloc (.cells #[.int .i64 n, .int .i64 a0_1, .int .i64 a0_2, .int .i64 a0_3, .slice (some ⟨g, 0, none⟩) L.length cg] 33) = W := ⟨_, rfl⟩
  have hb : Below V2.heap.size V2 V3 := by rw [← hW]; exact (Below.refl _ V2).alloc (Nat.le_refl _) _
  have HXB : Hid (V3.heap[V2.heap.size]? = some (.cells #[.int .i64 n, .int .i64 a0_1, .int .i64 a0_2, .int .i64 a0_3, .slice (some ⟨g, 0, none⟩) L.length cg] 33 (0, 0))) := Lib.hid (by rw [← hW]; exact heap_new rfl)
  rw [hW]
  clear hW
  replace HSC := Lib.hid (blkBel HSC.out hb)
  replace HR := Lib.hid (Kd.C_below HR.out hb)
  replace HBB := Lib.hid (below_then HBB.out HBB.out.size hb)
  replace HCg := Lib.hid (Kd.C_below HCg.out hb)
  replace HGH := Lib.hid (blkBel HGH.out hb)
  replace HBB2 := Lib.hid (below_then HBB2.out HBB2.out.size hb)
  replace HB := Lib.hid (below_then HB.out HB.out.size hb)
  clear hb
  have hxz : V2.heap.size < V3.heap.size := (Array.getElem?_eq_some_iff.1 HXB.out).1
  clear e0 e1 e2 e3 e4 kz
  obtain ⟨e0, e1, e2, e3, e4⟩ := agg5 HSC.out
  have kz := (Array.getElem?_eq_some_iff.1 HSC.out).1
  obtain ⟨x0, x1, x2, x3, x4⟩ := agg5 HXB.out
  have hwr : IntKind.i64.wrap a1 = a1 := IntWalk.i64_in _ (by omega)
  have hwk : IntKind.i64.wrap (k : Int) = (k : Int) := IntWalk.i64_in _ (by omega)
  have htm : a1.tmod (L.length : Int) = (k : Int) := by rw [Int.tmod_eq_emod_of_nonneg (by omega)]; exact HK.out
  have hL0 : (L.length : Int) ≠ 0 := by omega
  have hkt : ((k : Int)).toNat = k := Int.toNat_natCast k
  go_wp2_with fail
  go_quiet (fail)
  obtain ⟨V4, hW⟩ : ∃ W, V3.drewN nq = W := ⟨_, rfl⟩
  have hb : Below V3.heap.size V3 V4 := by rw [← hW]; exact pw_below_drewN (Below.refl _ _) _
  rw [hW]
  clear hW
  replace HSC := Lib.hid (blkBel HSC.out hb)
  replace HR := Lib.hid (Kd.C_below HR.out hb)
  replace HBB := Lib.hid (below_then HBB.out HBB.out.size hb)
  replace HCg := Lib.hid (Kd.C_below HCg.out hb)
  replace HGH := Lib.hid (blkBel HGH.out hb)
  replace HBB2 := Lib.hid (below_then HBB2.out HBB2.out.size hb)
  replace HXB := Lib.hid (blkBel HXB.out hb)
  replace x0 := (hb.cell (World.block_lt_of_cell? _ _ x0)).trans x0
  replace x1 := (hb.cell (World.block_lt_of_cell? _ _ x1)).trans x1
  replace x2 := (hb.cell (World.block_lt_of_cell? _ _ x2)).trans x2
  replace x3 := (hb.cell (World.block_lt_of_cell? _ _ x3)).trans x3
  replace x4 := (hb.cell (World.block_lt_of_cell? _ _ x4)).trans x4
  replace HB := Lib.hid (below_then HB.out HB.out.size hb)
  clear hb
  clear e0 e1 e2 e3 e4 kz
  obtain ⟨e0, e1, e2, e3, e4⟩ := agg5 HSC.out
  have kz := (Array.getElem?_eq_some_iff.1 HSC.out).1
  clear hwr hwk htm
  obtain ⟨ad, hadA, m0, m1⟩ := at_T52 HCg.out k (by omega) (by omega)
  rw [rd52 hkL, Int.toNat_natCast, HKF.out] at m0 m1
  simp only [] at m0 m1
  cases hadA
  have hadd : Addr.add ⟨g, 0, none⟩ (k * 2) = ⟨g, k * 2, none⟩ := by generalize k * 2 = m; rcases m with _ | m <;> simp [Addr.add]
  rw [hadd] at m0 m1
  simp only [] at m0 m1
  have hfz := not_frozen (i := k * 2) HGH.out
  have hfz1 := not_frozen (i := k * 2 + 1) HGH.out
  have hfx1 := not_frozen (i := 1) HXB.out
  have hfx2 := not_frozen (i := 2) HXB.out
  have hfx3 := not_frozen (i := 3) HXB.out
  have hne1 : ¬ w.heap.size = g := by omega
  have hne2 : ¬ g = w.heap.size := by omega
  have hne3 : ¬ w.heap.size = V2.heap.size := by omega
  have hne4 : ¬ V2.heap.size = w.heap.size := by omega
  have hc := HC.out
  go_wp2_with fail
  obtain ⟨Vs, hW⟩ : ∃ W, V4.setCell ⟨V2.heap.size, 2, none⟩ (.int .i64 (a0_2 + a3 % 20)) = W := ⟨_, rfl⟩
  have hb : Below V1.heap.size V1 Vs := by rw [← hW]; exact HBB.out.setCell (by show V1.heap.size ≤ V2.heap.size; omega) _
  have hb2 : Below V2.heap.size V2 Vs := by rw [← hW]; exact HBB2.out.setCell (Nat.le_refl _) _
  have hC2 : Kd.C k52 Vs (some ⟨g, 0, none⟩) L.length L := Kd.C_below HCg2.out hb2
  have hxb0 := heap_set HXB.out 2 (.int .i64 (a0_2 + a3 % 20))
  rw [hW] at hxb0
  have hxb : Vs.heap[V2.heap.size]? = some (.cells #[.int .i64 n, .int .i64 a0_1, .int .i64 (a0_2 + a3 % 20), .int .i64 a0_3, .slice (some ⟨g, 0, none⟩) L.length cg] 33 (0, 0)) := by simpa using hxb0
  rw [hW]
  clear hW hb2 hxb0 hc
  replace HR := Lib.hid (Kd.C_below HR1.out hb)
  replace HSC := Lib.hid (blkBel HSC1.out hb)
  replace HB := Lib.hid (below_then HB1.out HB1.out.size hb)
  have HCL := Lib.hid hC2
  have HXN := Lib.hid hxb
  clear hb hC2 hxb HCg HGH HXB HBB HBB2 HCg2 HR1 HSC1 HB1 m0 m1 hfz hfz1 hfx1 hfx2 hfx3 hne1 hne2 hne3 hne4 hadd x0 x1 x2 x3 x4 hg2 hxz hgs hkt hL0 kz0 e0 e1 e2 e3 e4 kz
  obtain ⟨e0, e1, e2, e3, e4⟩ := agg5 HSC.out
  have kz := (Array.getElem?_eq_some_iff.1 HSC.out).1
  refine (Scene.W HL.out _ HR.out hc0_4 (by omega)).mono ?_
  rintro e V5 ⟨Ax5, cx5, rfl, hcx5, hC, hb⟩
  replace HR := Lib.hid (Kd.C_below HR.out hb)
  replace HSC := Lib.hid (blkBel HSC.out hb)
  replace HCL := Lib.hid (Kd.C_below HCL.out hb)
  replace HXN := Lib.hid (blkBel HXN.out hb)
  replace HB := Lib.hid (below_then HB.out HB.out.size hb)
  have HCx5 := Lib.hid hC
  clear hC
  clear hb
  clear e0 e1 e2 e3 e4 kz
  obtain ⟨e0, e1, e2, e3, e4⟩ := agg5 HSC.out
  have kz := (Array.getElem?_eq_some_iff.1 HSC.out).1
  go_wp2_with fail
  refine (Who.W _ HCx5.out hcx5 HWA.out).mono ?_
  rintro e V6 ⟨Ax6, cx6, rfl, hcx6, hC, hb⟩
  replace HR := Lib.hid (Kd.C_below HR.out hb)
  replace HSC := Lib.hid (blkBel HSC.out hb)
  replace HCL := Lib.hid (Kd.C_below HCL.out hb)
  replace HXN := Lib.hid (blkBel HXN.out hb)
  replace HCx5 := Lib.hid (Kd.C_below HCx5.out hb)
  replace HB := Lib.hid (below_then HB.out HB.out.size hb)
  have HCx6 := Lib.hid hC
  clear hC
  clear hb
  clear e0 e1 e2 e3 e4 kz
  obtain ⟨e0, e1, e2, e3, e4⟩ := agg5 HSC.out
  have kz := (Array.getElem?_eq_some_iff.1 HSC.out).1
  clear HCx5
  obtain ⟨x0, x1, x2, x3, x4⟩ := agg5 HXN.out
  go_wp2_with fail
  refine (Who.W _ HCL.out hcg HWB.out).mono ?_
  rintro e V7 ⟨Ax7, cx7, rfl, hcx7, hC, hb⟩
  replace HR := Lib.hid (Kd.C_below HR.out hb)
  replace HSC := Lib.hid (blkBel HSC.out hb)
  replace HCL := Lib.hid (Kd.C_below HCL.out hb)
  replace HXN := Lib.hid (blkBel HXN.out hb)
  replace HCx6 := Lib.hid (Kd.C_below HCx6.out hb)
  replace HB := Lib.hid (below_then HB.out HB.out.size hb)
  have HCx7 := Lib.hid hC
  clear hC
  clear hb
  clear e0 e1 e2 e3 e4 kz
  obtain ⟨e0, e1, e2, e3, e4⟩ := agg5 HSC.out
  have kz := (Array.getElem?_eq_some_iff.1 HSC.out).1
  clear x0 x1 x2 x3 x4
  go_wp2_with fail
  refine (awake.W _).mono ?_
  rintro e V8 ⟨rfl, hb⟩
  replace HR := Lib.hid (Kd.C_below HR.out hb)
  replace HSC := Lib.hid (blkBel HSC.out hb)
  replace HCL := Lib.hid (Kd.C_below HCL.out hb)
  replace HXN := Lib.hid (blkBel HXN.out hb)
  replace HCx6 := Lib.hid (Kd.C_below HCx6.out hb)
  replace HCx7 := Lib.hid (Kd.C_below HCx7.out hb)
  replace HB := Lib.hid (below_then HB.out HB.out.size hb)
  clear hb
  go_wp2_with fail
  go_ret
  exact ⟨rfl, HB.out⟩
set_option maxRecDepth 100000 in
set_option maxHeartbeats 8000000 in
theorem palantypelaw02_FloorLess.told2a (n : Nat) (a0_1 a0_2 a0_3 : Int) (A0_4 : Option Addr) (c0_4 : Nat) (l0_4 : List RM) (a1 : Int) (a2 : Int) (a3 : Int) (a4 : Int) (w : World) (hr0_4 : Kd.C k59 w A0_4 l0_4.length l0_4) (hc0_4 : l0_4.length ≤ c0_4) (hm0 : ∀ y ∈ l0_4, (Lit.int .u16 y.f0).wf = true ∧ (Lit.int .u16 y.f1).wf = true) (hl0 : l0_4.length ≤ maxLen) (w1 : (Lit.int .u8 a1).wf = true) (w2 : (Lit.int .u8 a2).wf = true) (w3 : (Lit.int .u8 a3).wf = true) (w4 : (Lit.int .u16 a4).wf = true) (hrd : Ev (fun k => palantypelaw02_ready.f k n a0_1 a0_2 a0_3 l0_4) true) (h0 : 0 < l0_4.length) (L : List FM) (hL : l0_4.map mo = L) (hLl : L.length = l0_4.length) (hck : floor_Scene_check.f n a0_1 a0_2 a0_3 L = some 0) (hL40 : l0_4.length ≤ 40) (hL40b : L.length ≤ 40) (hn1 : 1 ≤ n) (hn2 : n ≤ 12) (k : Nat) (hk : a1 % (L.length : Int) = k) (hkL : k < L.length) (f0 f1 : Int) (hkf : L[k] = ⟨f0, f1⟩) (h20 : 0 ≤ a0_2 ∧ a0_2 ≤ 20) (h21 : 1 ≤ a0_1 ∧ a0_1 ≤ 20) (h22 : 0 ≤ a0_3 ∧ a0_3 ≤ 20) (hc : a2 % 5 = 2) (hv : a0_2 + a3 % 20 < 20) (wa wb : List FT) (hWA : floor_Who.f n a0_1 a0_2 a0_3 L = some (wa, 0)) (hWB : floor_Who.f n a0_1 (a0_2 + a3 % 20) a0_3 L = some (wb, 0)) (hwa : wa.length = l0_4.length) (hwb : wb.length = l0_4.length) (hsub : ∀ i (h : i < wa.length), ∃ h2 : i < wb.length, Go.bits .andNot .u16 wa[i].f0 wb[i].f0 = 0 ∧ Go.bits .andNot .u16 wa[i].f1 wb[i].f1 = 0) :
    Calls Try.prog 5 #[.agg #[.int .i64 n, .int .i64 a0_1, .int .i64 a0_2, .int .i64 a0_3, .slice A0_4 l0_4.length c0_4], .int .u8 a1, .int .u8 a2, .int .u8 a3, .int .u16 a4] w fun e w' => e = .returned (.bool true) ∧ Below w.heap.size w w' := by
  have HWA := Lib.hid hWA
  have HWB := Lib.hid hWB
  have HSUB := Lib.hid hsub
  have q1 : ((wa.length : Int) != (l0_4.length : Int)) = false := by simp; omega
  have q2 : ((wb.length : Int) != (wa.length : Int)) = false := by simp; omega
  have hwa40 : wa.length ≤ 40 := by omega
  have hwb40 : wb.length ≤ 40 := by omega
  clear hWA hWB hsub hwa hwb
  have HRD := Lib.hid hrd
  have HL := Lib.hid hL
  have HLL := Lib.hid hLl
  have HCK := Lib.hid hck
  have HK := Lib.hid hk
  have HKF := Lib.hid hkf
  have h00 : ((l0_4.length : Int) == 0) = false := beq_eq_false_iff_ne.2 (by omega)
  have hLp : 0 < L.length := by omega
  have hLp2 : (0 : Int) < (L.length : Int) := by omega
  have hLp3 : ((L.length : Int) == 0) = false := beq_eq_false_iff_ne.2 (by omega)
  have hkL2 : (k : Int) < (L.length : Int) := by omega
  have hkL0 : (0 : Int) ≤ (k : Int) := by omega
  obtain ⟨h201, h202⟩ := h20
  obtain ⟨h211, h212⟩ := h21
  obtain ⟨h221, h222⟩ := h22
  have hn3 : (1 : Int) ≤ n := by omega
  have hn4 : (n : Int) ≤ 12 := by omega
  have HC := Lib.hid hc
  clear hrd hL hLl hck hk hkf hc
  have hu := Try.underlying24
  have hu2 := Try.underlying33
  have hu3 := Try.underlying52
  have hu4 := Try.underlying54
  obtain ⟨w10, w11⟩ := wf_u8 w1
  obtain ⟨w20, w21⟩ := wf_u8 w2
  obtain ⟨w30, w31⟩ := wf_u8 w3
  unfold maxLen at hl0
  go_enter Try.func5, Try.ntmps5
  have HRw := Lib.hid hr0_4
  clear hr0_4 hm0 w1 w2 w3 w4
  go_wp2_with fail
  obtain ⟨W0, hW0⟩ : ∃ W0, w.alloc (.cells #[.int .i64 n, .int .i64 a0_1, .int .i64 a0_2, .int .i64 a0_3, .slice A0_4 l0_4.length c0_4] 24) = W0 := ⟨_, rfl⟩
  have hb0 : Below w.heap.size w W0 := by rw [← hW0]; exact (Below.refl _ w).alloc (Nat.le_refl _) _
  have HSC : Hid (W0.heap[w.heap.size]? = some (.cells #[.int .i64 n, .int .i64 a0_1, .int .i64 a0_2, .int .i64 a0_3, .slice A0_4 l0_4.length c0_4] 24 (0, 0))) := Lib.hid (by rw [← hW0]; exact heap_new rfl)
  rw [hW0]
  clear hW0
  have HR := Lib.hid (Kd.C_below HRw.out hb0)
  have HB := Lib.hid hb0
  clear hb0 HRw
  refine (ready.W _ HR.out hc0_4 HRD.out).mono ?_
  rintro e V1 ⟨rfl, hb⟩
  replace HSC := Lib.hid (blkBel HSC.out hb)
  replace HR := Lib.hid (Kd.C_below HR.out hb)
  replace HB := Lib.hid (below_then HB.out HB.out.size hb)
  clear hb
  obtain ⟨e0, e1, e2, e3, e4⟩ := agg5 HSC.out
  have kz := (Array.getElem?_eq_some_iff.1 HSC.out).1
  go_wp2_with fail
  have kz0 := kz
  have HR1 := Lib.hid HR.out
  have HSC1 := Lib.hid HSC.out
  have HB1 := Lib.hid HB.out
  have HBB := Lib.hid (Below.refl V1.heap.size V1)
  refine (Scene.R HL.out hLp _ HR.out hc0_4 (by omega)).mono ?_
  rintro e V2 ⟨g, cg, cur, rfl, hcg, hgs, hgh, hC, hb⟩
  replace HSC := Lib.hid (blkBel HSC.out hb)
  replace HR := Lib.hid (Kd.C_below HR.out hb)
  replace HBB := Lib.hid (below_then HBB.out HBB.out.size hb)
  replace HB := Lib.hid (below_then HB.out HB.out.size hb)
  have HCg := Lib.hid hC
  clear hC
  have HGH := Lib.hid hgh
  clear hgh
  clear hb
  clear e0 e1 e2 e3 e4 kz
  obtain ⟨e0, e1, e2, e3, e4⟩ := agg5 HSC.out
  have kz := (Array.getElem?_eq_some_iff.1 HSC.out).1
  have HCg2 := Lib.hid HCg.out
  have HBB2 := Lib.hid (Below.refl V2.heap.size V2)
  have hg2 : g < V2.heap.size := (Array.getElem?_eq_some_iff.1 HGH.out).1
  go_wp2_with fail
  obtain ⟨V3, hW⟩ : ∃ W, V2.alloc (.cells #[.int .i64 n, .int .i64 a0_1, .int .i64 a0_2, .int .i64 a0_3, .slice (some ⟨g, 0, none⟩) L.length cg] 33) = W := ⟨_, rfl⟩
  have hb : Below V2.heap.size V2 V3 := by rw [← hW]; exact (Below.refl _ V2).alloc (Nat.le_refl _) _
  have HXB : Hid (V3.heap[V2.heap.size]? = some (.cells #[.int .i64 n, .int .i64 a0_1, .int .i64 a0_2, .int .i64 a0_3, .slice (some ⟨g, 0, none⟩) L.length cg] 33 (0, 0))) := Lib.hid (by rw [← hW]; exact heap_new rfl)
  rw [hW]
  clear hW
  replace HSC := Lib.hid (blkBel HSC.out hb)
  replace HR := Lib.hid (Kd.C_below HR.out hb)
  replace HBB := Lib.hid (below_then HBB.out HBB.out.size hb)
  replace HCg := Lib.hid (Kd.C_below HCg.out hb)
  replace HGH := Lib.hid (blkBel HGH.out hb)
  replace HBB2 := Lib.hid (below_then HBB2.out HBB2.out.size hb)
  replace HB := Lib.hid (below_then HB.out HB.out.size hb)
  clear hb
  have hxz : V2.heap.size < V3.heap.size := (Array.getElem?_eq_some_iff.1 HXB.out).1
  clear e0 e1 e2 e3 e4 kz
  obtain ⟨e0, e1, e2, e3, e4⟩ := agg5 HSC.out
  have kz := (Array.getElem?_eq_some_iff.1 HSC.out).1
  obtain ⟨x0, x1, x2, x3, x4⟩ := agg5 HXB.out
  have hwr : IntKind.i64.wrap a1 = a1 := IntWalk.i64_in _ (by omega)
  have hwk : IntKind.i64.wrap (k : Int) = (k : Int) := IntWalk.i64_in _ (by omega)
  have htm : a1.tmod (L.length : Int) = (k : Int) := by rw [Int.tmod_eq_emod_of_nonneg (by omega)]; exact HK.out
  have hL0 : (L.length : Int) ≠ 0 := by omega
  have hkt : ((k : Int)).toNat = k := Int.toNat_natCast k
  go_wp2_with fail
  go_quiet (fail)
  obtain ⟨V4, hW⟩ : ∃ W, V3.drewN nq = W := ⟨_, rfl⟩
  have hb : Below V3.heap.size V3 V4 := by rw [← hW]; exact pw_below_drewN (Below.refl _ _) _
  rw [hW]
  clear hW
  replace HSC := Lib.hid (blkBel HSC.out hb)
  replace HR := Lib.hid (Kd.C_below HR.out hb)
  replace HBB := Lib.hid (below_then HBB.out HBB.out.size hb)
  replace HCg := Lib.hid (Kd.C_below HCg.out hb)
  replace HGH := Lib.hid (blkBel HGH.out hb)
  replace HBB2 := Lib.hid (below_then HBB2.out HBB2.out.size hb)
  replace HXB := Lib.hid (blkBel HXB.out hb)
  replace x0 := (hb.cell (World.block_lt_of_cell? _ _ x0)).trans x0
  replace x1 := (hb.cell (World.block_lt_of_cell? _ _ x1)).trans x1
  replace x2 := (hb.cell (World.block_lt_of_cell? _ _ x2)).trans x2
  replace x3 := (hb.cell (World.block_lt_of_cell? _ _ x3)).trans x3
  replace x4 := (hb.cell (World.block_lt_of_cell? _ _ x4)).trans x4
  replace HB := Lib.hid (below_then HB.out HB.out.size hb)
  clear hb
  clear e0 e1 e2 e3 e4 kz
  obtain ⟨e0, e1, e2, e3, e4⟩ := agg5 HSC.out
  have kz := (Array.getElem?_eq_some_iff.1 HSC.out).1
  clear hwr hwk htm
  obtain ⟨ad, hadA, m0, m1⟩ := at_T52 HCg.out k (by omega) (by omega)
  rw [rd52 hkL, Int.toNat_natCast, HKF.out] at m0 m1
  simp only [] at m0 m1
  cases hadA
  have hadd : Addr.add ⟨g, 0, none⟩ (k * 2) = ⟨g, k * 2, none⟩ := by generalize k * 2 = m; rcases m with _ | m <;> simp [Addr.add]
  rw [hadd] at m0 m1
  simp only [] at m0 m1
  have hfz := not_frozen (i := k * 2) HGH.out
  have hfz1 := not_frozen (i := k * 2 + 1) HGH.out
  have hfx1 := not_frozen (i := 1) HXB.out
  have hfx2 := not_frozen (i := 2) HXB.out
  have hfx3 := not_frozen (i := 3) HXB.out
  have hne1 : ¬ w.heap.size = g := by omega
  have hne2 : ¬ g = w.heap.size := by omega
  have hne3 : ¬ w.heap.size = V2.heap.size := by omega
  have hne4 : ¬ V2.heap.size = w.heap.size := by omega
  have hc := HC.out
  go_wp2_with fail
  obtain ⟨Vs, hW⟩ : ∃ W, V4.setCell ⟨V2.heap.size, 2, none⟩ (.int .i64 (a0_2 + a3 % 20)) = W := ⟨_, rfl⟩
  have hb : Below V1.heap.size V1 Vs := by rw [← hW]; exact HBB.out.setCell (by show V1.heap.size ≤ V2.heap.size; omega) _
  have hb2 : Below V2.heap.size V2 Vs := by rw [← hW]; exact HBB2.out.setCell (Nat.le_refl _) _
  have hC2 : Kd.C k52 Vs (some ⟨g, 0, none⟩) L.length L := Kd.C_below HCg2.out hb2
  have hxb0 := heap_set HXB.out 2 (.int .i64 (a0_2 + a3 % 20))
  rw [hW] at hxb0
  have hxb : Vs.heap[V2.heap.size]? = some (.cells #[.int .i64 n, .int .i64 a0_1, .int .i64 (a0_2 + a3 % 20), .int .i64 a0_3, .slice (some ⟨g, 0, none⟩) L.length cg] 33 (0, 0)) := by simpa using hxb0
  rw [hW]
  clear hW hb2 hxb0 hc
  replace HR := Lib.hid (Kd.C_below HR1.out hb)
  replace HSC := Lib.hid (blkBel HSC1.out hb)
  replace HB := Lib.hid (below_then HB1.out HB1.out.size hb)
  have HCL := Lib.hid hC2
  have HXN := Lib.hid hxb
  clear hb hC2 hxb HCg HGH HXB HBB HBB2 HCg2 HR1 HSC1 HB1 m0 m1 hfz hfz1 hfx1 hfx2 hfx3 hne1 hne2 hne3 hne4 hadd x0 x1 x2 x3 x4 hg2 hxz hgs hkt hL0 kz0 e0 e1 e2 e3 e4 kz
  obtain ⟨e0, e1, e2, e3, e4⟩ := agg5 HSC.out
  have kz := (Array.getElem?_eq_some_iff.1 HSC.out).1
  refine (Scene.W HL.out _ HR.out hc0_4 (by omega)).mono ?_
  rintro e V5 ⟨Ax5, cx5, rfl, hcx5, hC, hb⟩
  replace HR := Lib.hid (Kd.C_below HR.out hb)
  replace HSC := Lib.hid (blkBel HSC.out hb)
  replace HCL := Lib.hid (Kd.C_below HCL.out hb)
  replace HXN := Lib.hid (blkBel HXN.out hb)
  replace HB := Lib.hid (below_then HB.out HB.out.size hb)
  have HCx5 := Lib.hid hC
  clear hC
  clear hb
  clear e0 e1 e2 e3 e4 kz
  obtain ⟨e0, e1, e2, e3, e4⟩ := agg5 HSC.out
  have kz := (Array.getElem?_eq_some_iff.1 HSC.out).1
  go_wp2_with fail
  refine (Who.W _ HCx5.out hcx5 HWA.out).mono ?_
  rintro e V6 ⟨Ax6, cx6, rfl, hcx6, hC, hb⟩
  replace HR := Lib.hid (Kd.C_below HR.out hb)
  replace HSC := Lib.hid (blkBel HSC.out hb)
  replace HCL := Lib.hid (Kd.C_below HCL.out hb)
  replace HXN := Lib.hid (blkBel HXN.out hb)
  replace HCx5 := Lib.hid (Kd.C_below HCx5.out hb)
  replace HB := Lib.hid (below_then HB.out HB.out.size hb)
  have HCx6 := Lib.hid hC
  clear hC
  clear hb
  clear e0 e1 e2 e3 e4 kz
  obtain ⟨e0, e1, e2, e3, e4⟩ := agg5 HSC.out
  have kz := (Array.getElem?_eq_some_iff.1 HSC.out).1
  clear HCx5
  obtain ⟨x0, x1, x2, x3, x4⟩ := agg5 HXN.out
  go_wp2_with fail
  refine (Who.W _ HCL.out hcg HWB.out).mono ?_
  rintro e V7 ⟨Ax7, cx7, rfl, hcx7, hC, hb⟩
  replace HR := Lib.hid (Kd.C_below HR.out hb)
  replace HSC := Lib.hid (blkBel HSC.out hb)
  replace HCL := Lib.hid (Kd.C_below HCL.out hb)
  replace HXN := Lib.hid (blkBel HXN.out hb)
  replace HCx6 := Lib.hid (Kd.C_below HCx6.out hb)
  replace HB := Lib.hid (below_then HB.out HB.out.size hb)
  have HCx7 := Lib.hid hC
  clear hC
  clear hb
  clear e0 e1 e2 e3 e4 kz
  obtain ⟨e0, e1, e2, e3, e4⟩ := agg5 HSC.out
  have kz := (Array.getElem?_eq_some_iff.1 HSC.out).1
  clear x0 x1 x2 x3 x4
  go_wp2_with fail
  clear q1 q2 e0 e1 e2 e3 e4 kz
  clear HR HSC HCL HXN
  go_loopg [18] wa.length (fun kq v18 w' => ∃ (i : Nat), v18 = .int .i64 i ∧ Hid (kq + i = wa.length) ∧ Hid (Below V7.heap.size V7 w'))
  case atStart => exact ⟨0, rfl, Lib.hid (by omega), Lib.hid (Below.refl _ _)⟩
  case round =>
    obtain ⟨i, rfl, HI, HBW⟩ := hrel
    have hiq := HI.out
    clear HI
    have hb := HBW.out
    replace HCx6 := Lib.hid (Kd.C_below HCx6.out hb)
    replace HCx7 := Lib.hid (Kd.C_below HCx7.out hb)
    replace HB := Lib.hid (below_then HB.out HB.out.size hb)
    clear hb
    cases gk with
    | zero =>
      obtain rfl : i = wa.length := by omega
      clear hiq
      go_wp2_with fail
      refine (awake.W _).mono ?_
      rintro e V8 ⟨rfl, hb⟩
      replace HCx6 := Lib.hid (Kd.C_below HCx6.out hb)
      replace HCx7 := Lib.hid (Kd.C_below HCx7.out hb)
      replace HBW := Lib.hid (below_then HBW.out HBW.out.size hb)
      replace HB := Lib.hid (below_then HB.out HB.out.size hb)
      clear hb
      go_wp2_with fail
      go_ret
      exact ⟨rfl, HB.out⟩
    | succ k1 =>
      have hlt : i < wa.length := by omega
      have hlt2 : (i : Int) < wa.length := by omega
      have hi0 : (0 : Int) ≤ (i : Int) := by omega
      obtain ⟨hlb, z0, z1⟩ := HSUB.out i hlt
      have hlb2 : (i : Int) < wb.length := by omega
      obtain ⟨ad, hadA, m0, m1⟩ := at_T54 HCx6.out i (by omega) (by omega)
      rw [rd54 hlt, Int.toNat_natCast] at m0 m1
      obtain ⟨ad2, hadA2, n0, n1⟩ := at_T54 HCx7.out i (by omega) (by omega)
      rw [rd54 hlb, Int.toNat_natCast] at n0 n1
      obtain ⟨⟨pf, ph⟩, hpa⟩ : ∃ m, wa[i] = m := ⟨_, rfl⟩
      obtain ⟨⟨qf, qh⟩, hpb⟩ : ∃ m, wb[i] = m := ⟨_, rfl⟩
      rw [hpa] at m0 m1 z0 z1
      rw [hpb] at n0 n1 z0 z1
      simp only [] at m0 m1 n0 n1 z0 z1
      subst hadA hadA2
      have HIQ := Lib.hid hiq
      clear hpa hpb hiq
      go_wp2_with fail
      go_quiet (fail)
      obtain ⟨V8, hW⟩ : ∃ W, wr.drewN nq = W := ⟨_, rfl⟩
      have hb : Below wr.heap.size wr V8 := by rw [← hW]; exact pw_below_drewN (Below.refl _ _) _
      rw [hW]
      clear hW
      replace HCx6 := Lib.hid (Kd.C_below HCx6.out hb)
      replace HCx7 := Lib.hid (Kd.C_below HCx7.out hb)
      replace HBW := Lib.hid (below_then HBW.out HBW.out.size hb)
      replace m0 := (hb.cell (World.block_lt_of_cell? _ _ m0)).trans m0
      replace m1 := (hb.cell (World.block_lt_of_cell? _ _ m1)).trans m1
      replace n0 := (hb.cell (World.block_lt_of_cell? _ _ n0)).trans n0
      replace n1 := (hb.cell (World.block_lt_of_cell? _ _ n1)).trans n1
      replace HB := Lib.hid (below_then HB.out HB.out.size hb)
      clear hb
      go_wp2_with fail
      go_roundg k1
      case measure => omega
      case rel => exact ⟨i + 1, by simp, Lib.hid (by have := HIQ.out; omega), HBW⟩
set_option maxRecDepth 100000 in
set_option maxHeartbeats 8000000 in
theorem palantypelaw02_FloorLess.gap2b (n : Nat) (a0_1 a0_2 a0_3 : Int) (A0_4 : Option Addr) (c0_4 : Nat) (l0_4 : List RM) (a1 : Int) (a2 : Int) (a3 : Int) (a4 : Int) (w : World) (hr0_4 : Kd.C k59 w A0_4 l0_4.length l0_4) (hc0_4 : l0_4.length ≤ c0_4) (hm0 : ∀ y ∈ l0_4, (Lit.int .u16 y.f0).wf = true ∧ (Lit.int .u16 y.f1).wf = true) (hl0 : l0_4.length ≤ maxLen) (w1 : (Lit.int .u8 a1).wf = true) (w2 : (Lit.int .u8 a2).wf = true) (w3 : (Lit.int .u8 a3).wf = true) (w4 : (Lit.int .u16 a4).wf = true) (hrd : Ev (fun k => palantypelaw02_ready.f k n a0_1 a0_2 a0_3 l0_4) true) (h0 : 0 < l0_4.length) (L : List FM) (hL : l0_4.map mo = L) (hLl : L.length = l0_4.length) (hck : floor_Scene_check.f n a0_1 a0_2 a0_3 L = some 0) (hL40 : l0_4.length ≤ 40) (hL40b : L.length ≤ 40) (hn1 : 1 ≤ n) (hn2 : n ≤ 12) (k : Nat) (hk : a1 % (L.length : Int) = k) (hkL : k < L.length) (f0 f1 : Int) (hkf : L[k] = ⟨f0, f1⟩) (h20 : 0 ≤ a0_2 ∧ a0_2 ≤ 20) (h21 : 1 ≤ a0_1 ∧ a0_1 ≤ 20) (h22 : 0 ≤ a0_3 ∧ a0_3 ≤ 20) (hc : a2 % 5 = 2) (hv : 20 ≤ a0_2 + a3 % 20) (hWA : floor_Who.f n a0_1 a0_2 a0_3 L = some ([], 10)) (wb : List FT) (eb : Int) (hWB : floor_Who.f n a0_1 (20) a0_3 L = some (wb, eb)) :
    Calls Try.prog 5 #[.agg #[.int .i64 n, .int .i64 a0_1, .int .i64 a0_2, .int .i64 a0_3, .slice A0_4 l0_4.length c0_4], .int .u8 a1, .int .u8 a2, .int .u8 a3, .int .u16 a4] w fun e w' => e = .returned (.bool true) ∧ Below w.heap.size w w' := by
  have HWA := Lib.hid hWA
  have HWB := Lib.hid hWB
  clear hWA hWB
  have HRD := Lib.hid hrd
  have HL := Lib.hid hL
  have HLL := Lib.hid hLl
  have HCK := Lib.hid hck
  have HK := Lib.hid hk
  have HKF := Lib.hid hkf
  have h00 : ((l0_4.length : Int) == 0) = false := beq_eq_false_iff_ne.2 (by omega)
  have hLp : 0 < L.length := by omega
  have hLp2 : (0 : Int) < (L.length : Int) := by omega
  have hLp3 : ((L.length : Int) == 0) = false := beq_eq_false_iff_ne.2 (by omega)
  have hkL2 : (k : Int) < (L.length : Int) := by omega
  have hkL0 : (0 : Int) ≤ (k : Int) := by omega
  obtain ⟨h201, h202⟩ := h20
  obtain ⟨h211, h212⟩ := h21
  obtain ⟨h221, h222⟩ := h22
  have hn3 : (1 : Int) ≤ n := by omega
  have hn4 : (n : Int) ≤ 12 := by omega
  have HC := Lib.hid hc
  clear hrd hL hLl hck hk hkf hc
  have hu := Try.underlying24
  have hu2 := Try.underlying33
  have hu3 := Try.underlying52
  have hu4 := Try.underlying54
  obtain ⟨w10, w11⟩ := wf_u8 w1
  obtain ⟨w20, w21⟩ := wf_u8 w2
  obtain ⟨w30, w31⟩ := wf_u8 w3
  unfold maxLen at hl0
  go_enter Try.func5, Try.ntmps5
  have HRw := Lib.hid hr0_4
  clear hr0_4 hm0 w1 w2 w3 w4
  go_wp2_with fail
  obtain ⟨W0, hW0⟩ : ∃ W0, w.alloc (.cells #[.int .i64 n, .int .i64 a0_1, .int .i64 a0_2, .int .i64 a0_3, .slice A0_4 l0_4.length c0_4] 24) = W0 := ⟨_, rfl⟩
  have hb0 : Below w.heap.size w W0 := by rw [← hW0]; exact (Below.refl _ w).alloc (Nat.le_refl _) _
  have HSC : Hid (W0.heap[w.heap.size]? = some (.cells #[.int .i64 n, .int .i64 a0_1, .int .i64 a0_2, .int .i64 a0_3, .slice A0_4 l0_4.length c0_4] 24 (0, 0))) := Lib.hid (by rw [← hW0]; exact heap_new rfl)
  rw [hW0]
  clear hW0
  have HR := Lib.hid (Kd.C_below HRw.out hb0)
  have HB := Lib.hid hb0
  clear hb0 HRw
  refine (ready.W _ HR.out hc0_4 HRD.out).mono ?_
  rintro e V1 ⟨rfl, hb⟩
  replace HSC := Lib.hid (blkBel HSC.out hb)
  replace HR := Lib.hid (Kd.C_below HR.out hb)
  replace HB := Lib.hid (below_then HB.out HB.out.size hb)
  clear hb
  obtain ⟨e0, e1, e2, e3, e4⟩ := agg5 HSC.out
  have kz := (Array.getElem?_eq_some_iff.1 HSC.out).1
  go_wp2_with fail
  have kz0 := kz
  have HR1 := Lib.hid HR.out
  have HSC1 := Lib.hid HSC.out
  have HB1 := Lib.hid HB.out
  have HBB := Lib.hid (Below.refl V1.heap.size V1)
  refine (Scene.R HL.out hLp _ HR.out hc0_4 (by omega)).mono ?_
  rintro e V2 ⟨g, cg, cur, rfl, hcg, hgs, hgh, hC, hb⟩
  replace HSC := Lib.hid (blkBel HSC.out hb)
  replace HR := Lib.hid (Kd.C_below HR.out hb)
  replace HBB := Lib.hid (below_then HBB.out HBB.out.size hb)
  replace HB := Lib.hid (below_then HB.out HB.out.size hb)
  have HCg := Lib.hid hC
  clear hC
  have HGH := Lib.hid hgh
  clear hgh
  clear hb
  clear e0 e1 e2 e3 e4 kz
  obtain ⟨e0, e1, e2, e3, e4⟩ := agg5 HSC.out
  have kz := (Array.getElem?_eq_some_iff.1 HSC.out).1
  have HCg2 := Lib.hid HCg.out
  have HBB2 := Lib.hid (Below.refl V2.heap.size V2)
  have hg2 : g < V2.heap.size := (Array.getElem?_eq_some_iff.1 HGH.out).1
  go_wp2_with fail
  obtain ⟨V3, hW⟩ : ∃ W, V2.alloc (.cells #[.int .i64 n, .int .i64 a0_1, .int .i64 a0_2, .int .i64 a0_3, .slice (some ⟨g, 0, none⟩) L.length cg] 33) = W := ⟨_, rfl⟩
  have hb : Below V2.heap.size V2 V3 := by rw [← hW]; exact (Below.refl _ V2).alloc (Nat.le_refl _) _
  have HXB : Hid (V3.heap[V2.heap.size]? = some (.cells #[.int .i64 n, .int .i64 a0_1, .int .i64 a0_2, .int .i64 a0_3, .slice (some ⟨g, 0, none⟩) L.length cg] 33 (0, 0))) := Lib.hid (by rw [← hW]; exact heap_new rfl)
  rw [hW]
  clear hW
  replace HSC := Lib.hid (blkBel HSC.out hb)
  replace HR := Lib.hid (Kd.C_below HR.out hb)
  replace HBB := Lib.hid (below_then HBB.out HBB.out.size hb)
  replace HCg := Lib.hid (Kd.C_below HCg.out hb)
  replace HGH := Lib.hid (blkBel HGH.out hb)
  replace HBB2 := Lib.hid (below_then HBB2.out HBB2.out.size hb)
  replace HB := Lib.hid (below_then HB.out HB.out.size hb)
  clear hb
  have hxz : V2.heap.size < V3.heap.size := (Array.getElem?_eq_some_iff.1 HXB.out).1
  clear e0 e1 e2 e3 e4 kz
  obtain ⟨e0, e1, e2, e3, e4⟩ := agg5 HSC.out
  have kz := (Array.getElem?_eq_some_iff.1 HSC.out).1
  obtain ⟨x0, x1, x2, x3, x4⟩ := agg5 HXB.out
  have hwr : IntKind.i64.wrap a1 = a1 := IntWalk.i64_in _ (by omega)
  have hwk : IntKind.i64.wrap (k : Int) = (k : Int) := IntWalk.i64_in _ (by omega)
  have htm : a1.tmod (L.length : Int) = (k : Int) := by rw [Int.tmod_eq_emod_of_nonneg (by omega)]; exact HK.out
  have hL0 : (L.length : Int) ≠ 0 := by omega
  have hkt : ((k : Int)).toNat = k := Int.toNat_natCast k
  go_wp2_with fail
  go_quiet (fail)
  obtain ⟨V4, hW⟩ : ∃ W, V3.drewN nq = W := ⟨_, rfl⟩
  have hb : Below V3.heap.size V3 V4 := by rw [← hW]; exact pw_below_drewN (Below.refl _ _) _
  rw [hW]
  clear hW
  replace HSC := Lib.hid (blkBel HSC.out hb)
  replace HR := Lib.hid (Kd.C_below HR.out hb)
  replace HBB := Lib.hid (below_then HBB.out HBB.out.size hb)
  replace HCg := Lib.hid (Kd.C_below HCg.out hb)
  replace HGH := Lib.hid (blkBel HGH.out hb)
  replace HBB2 := Lib.hid (below_then HBB2.out HBB2.out.size hb)
  replace HXB := Lib.hid (blkBel HXB.out hb)
  replace x0 := (hb.cell (World.block_lt_of_cell? _ _ x0)).trans x0
  replace x1 := (hb.cell (World.block_lt_of_cell? _ _ x1)).trans x1
  replace x2 := (hb.cell (World.block_lt_of_cell? _ _ x2)).trans x2
  replace x3 := (hb.cell (World.block_lt_of_cell? _ _ x3)).trans x3
  replace x4 := (hb.cell (World.block_lt_of_cell? _ _ x4)).trans x4
  replace HB := Lib.hid (below_then HB.out HB.out.size hb)
  clear hb
  clear e0 e1 e2 e3 e4 kz
  obtain ⟨e0, e1, e2, e3, e4⟩ := agg5 HSC.out
  have kz := (Array.getElem?_eq_some_iff.1 HSC.out).1
  clear hwr hwk htm
  obtain ⟨ad, hadA, m0, m1⟩ := at_T52 HCg.out k (by omega) (by omega)
  rw [rd52 hkL, Int.toNat_natCast, HKF.out] at m0 m1
  simp only [] at m0 m1
  cases hadA
  have hadd : Addr.add ⟨g, 0, none⟩ (k * 2) = ⟨g, k * 2, none⟩ := by generalize k * 2 = m; rcases m with _ | m <;> simp [Addr.add]
  rw [hadd] at m0 m1
  simp only [] at m0 m1
  have hfz := not_frozen (i := k * 2) HGH.out
  have hfz1 := not_frozen (i := k * 2 + 1) HGH.out
  have hfx1 := not_frozen (i := 1) HXB.out
  have hfx2 := not_frozen (i := 2) HXB.out
  have hfx3 := not_frozen (i := 3) HXB.out
  have hne1 : ¬ w.heap.size = g := by omega
  have hne2 : ¬ g = w.heap.size := by omega
  have hne3 : ¬ w.heap.size = V2.heap.size := by omega
  have hne4 : ¬ V2.heap.size = w.heap.size := by omega
  have hc := HC.out
  go_wp2_with fail
  obtain ⟨Vs, hW⟩ : ∃ W, V4.setCell ⟨V2.heap.size, 2, none⟩ (.int .i64 (20)) = W := ⟨_, rfl⟩
  have hb : Below V1.heap.size V1 Vs := by rw [← hW]; exact HBB.out.setCell (by show V1.heap.size ≤ V2.heap.size; omega) _
  have hb2 : Below V2.heap.size V2 Vs := by rw [← hW]; exact HBB2.out.setCell (Nat.le_refl _) _
  have hC2 : Kd.C k52 Vs (some ⟨g, 0, none⟩) L.length L := Kd.C_below HCg2.out hb2
  have hxb0 := heap_set HXB.out 2 (.int .i64 (20))
  rw [hW] at hxb0
  have hxb : Vs.heap[V2.heap.size]? = some (.cells #[.int .i64 n, .int .i64 a0_1, .int .i64 (20), .int .i64 a0_3, .slice (some ⟨g, 0, none⟩) L.length cg] 33 (0, 0)) := by simpa using hxb0
  rw [hW]
  clear hW hb2 hxb0 hc
  replace HR := Lib.hid (Kd.C_below HR1.out hb)
  replace HSC := Lib.hid (blkBel HSC1.out hb)
  replace HB := Lib.hid (below_then HB1.out HB1.out.size hb)
  have HCL := Lib.hid hC2
  have HXN := Lib.hid hxb
  clear hb hC2 hxb HCg HGH HXB HBB HBB2 HCg2 HR1 HSC1 HB1 m0 m1 hfz hfz1 hfx1 hfx2 hfx3 hne1 hne2 hne3 hne4 hadd x0 x1 x2 x3 x4 hg2 hxz hgs hkt hL0 kz0 e0 e1 e2 e3 e4 kz
  obtain ⟨e0, e1, e2, e3, e4⟩ := agg5 HSC.out
  have kz := (Array.getElem?_eq_some_iff.1 HSC.out).1
  refine (Scene.W HL.out _ HR.out hc0_4 (by omega)).mono ?_
  rintro e V5 ⟨Ax5, cx5, rfl, hcx5, hC, hb⟩
  replace HR := Lib.hid (Kd.C_below HR.out hb)
  replace HSC := Lib.hid (blkBel HSC.out hb)
  replace HCL := Lib.hid (Kd.C_below HCL.out hb)
  replace HXN := Lib.hid (blkBel HXN.out hb)
  replace HB := Lib.hid (below_then HB.out HB.out.size hb)
  have HCx5 := Lib.hid hC
  clear hC
  clear hb
  clear e0 e1 e2 e3 e4 kz
  obtain ⟨e0, e1, e2, e3, e4⟩ := agg5 HSC.out
  have kz := (Array.getElem?_eq_some_iff.1 HSC.out).1
  go_wp2_with fail
  refine (Who.W _ HCx5.out hcx5 HWA.out).mono ?_
  rintro e V6 ⟨Ax6, cx6, rfl, hcx6, hC, hb⟩
  replace HR := Lib.hid (Kd.C_below HR.out hb)
  replace HSC := Lib.hid (blkBel HSC.out hb)
  replace HCL := Lib.hid (Kd.C_below HCL.out hb)
  replace HXN := Lib.hid (blkBel HXN.out hb)
  replace HCx5 := Lib.hid (Kd.C_below HCx5.out hb)
  replace HB := Lib.hid (below_then HB.out HB.out.size hb)
  have HCx6 := Lib.hid hC
  clear hC
  clear hb
  clear e0 e1 e2 e3 e4 kz
  obtain ⟨e0, e1, e2, e3, e4⟩ := agg5 HSC.out
  have kz := (Array.getElem?_eq_some_iff.1 HSC.out).1
  clear HCx5
  obtain ⟨x0, x1, x2, x3, x4⟩ := agg5 HXN.out
  go_wp2_with fail
  refine (Who.W _ HCL.out hcg HWB.out).mono ?_
  rintro e V7 ⟨Ax7, cx7, rfl, hcx7, hC, hb⟩
  replace HR := Lib.hid (Kd.C_below HR.out hb)
  replace HSC := Lib.hid (blkBel HSC.out hb)
  replace HCL := Lib.hid (Kd.C_below HCL.out hb)
  replace HXN := Lib.hid (blkBel HXN.out hb)
  replace HCx6 := Lib.hid (Kd.C_below HCx6.out hb)
  replace HB := Lib.hid (below_then HB.out HB.out.size hb)
  have HCx7 := Lib.hid hC
  clear hC
  clear hb
  clear e0 e1 e2 e3 e4 kz
  obtain ⟨e0, e1, e2, e3, e4⟩ := agg5 HSC.out
  have kz := (Array.getElem?_eq_some_iff.1 HSC.out).1
  clear x0 x1 x2 x3 x4
  go_wp2_with fail
  refine (awake.W _).mono ?_
  rintro e V8 ⟨rfl, hb⟩
  replace HR := Lib.hid (Kd.C_below HR.out hb)
  replace HSC := Lib.hid (blkBel HSC.out hb)
  replace HCL := Lib.hid (Kd.C_below HCL.out hb)
  replace HXN := Lib.hid (blkBel HXN.out hb)
  replace HCx6 := Lib.hid (Kd.C_below HCx6.out hb)
  replace HCx7 := Lib.hid (Kd.C_below HCx7.out hb)
  replace HB := Lib.hid (below_then HB.out HB.out.size hb)
  clear hb
  go_wp2_with fail
  go_ret
  exact ⟨rfl, HB.out⟩
set_option maxRecDepth 100000 in
set_option maxHeartbeats 8000000 in
theorem palantypelaw02_FloorLess.told2b (n : Nat) (a0_1 a0_2 a0_3 : Int) (A0_4 : Option Addr) (c0_4 : Nat) (l0_4 : List RM) (a1 : Int) (a2 : Int) (a3 : Int) (a4 : Int) (w : World) (hr0_4 : Kd.C k59 w A0_4 l0_4.length l0_4) (hc0_4 : l0_4.length ≤ c0_4) (hm0 : ∀ y ∈ l0_4, (Lit.int .u16 y.f0).wf = true ∧ (Lit.int .u16 y.f1).wf = true) (hl0 : l0_4.length ≤ maxLen) (w1 : (Lit.int .u8 a1).wf = true) (w2 : (Lit.int .u8 a2).wf = true) (w3 : (Lit.int .u8 a3).wf = true) (w4 : (Lit.int .u16 a4).wf = true) (hrd : Ev (fun k => palantypelaw02_ready.f k n a0_1 a0_2 a0_3 l0_4) true) (h0 : 0 < l0_4.length) (L : List FM) (hL : l0_4.map mo = L) (hLl : L.length = l0_4.length) (hck : floor_Scene_check.f n a0_1 a0_2 a0_3 L = some 0) (hL40 : l0_4.length ≤ 40) (hL40b : L.length ≤ 40) (hn1 : 1 ≤ n) (hn2 : n ≤ 12) (k : Nat) (hk : a1 % (L.length : Int) = k) (hkL : k < L.length) (f0 f1 : Int) (hkf : L[k] = ⟨f0, f1⟩) (h20 : 0 ≤ a0_2 ∧ a0_2 ≤ 20) (h21 : 1 ≤ a0_1 ∧ a0_1 ≤ 20) (h22 : 0 ≤ a0_3 ∧ a0_3 ≤ 20) (hc : a2 % 5 = 2) (hv : 20 ≤ a0_2 + a3 % 20) (wa wb : List FT) (hWA : floor_Who.f n a0_1 a0_2 a0_3 L = some (wa, 0)) (hWB : floor_Who.f n a0_1 (20) a0_3 L = some (wb, 0)) (hwa : wa.length = l0_4.length) (hwb : wb.length = l0_4.length) (hsub : ∀ i (h : i < wa.length), ∃ h2 : i < wb.length, Go.bits .andNot .u16 wa[i].f0 wb[i].f0 = 0 ∧ Go.bits .andNot .u16 wa[i].f1 wb[i].f1 = 0) :
    Calls Try.prog 5 #[.agg #[.int .i64 n, .int .i64 a0_1, .int .i64 a0_2, .int .i64 a0_3, .slice A0_4 l0_4.length c0_4], .int .u8 a1, .int .u8 a2, .int .u8 a3, .int .u16 a4] w fun e w' => e = .returned (.bool true) ∧ Below w.heap.size w w' := by
  have HWA := Lib.hid hWA
  have HWB := Lib.hid hWB
  have HSUB := Lib.hid hsub
  have q1 : ((wa.length : Int) != (l0_4.length : Int)) = false := by simp; omega
  have q2 : ((wb.length : Int) != (wa.length : Int)) = false := by simp; omega
  have hwa40 : wa.length ≤ 40 := by omega
  have hwb40 : wb.length ≤ 40 := by omega
  clear hWA hWB hsub hwa hwb
  have HRD := Lib.hid hrd
  have HL := Lib.hid hL
  have HLL := Lib.hid hLl
  have HCK := Lib.hid hck
  have HK := Lib.hid hk
  have HKF := Lib.hid hkf
  have h00 : ((l0_4.length : Int) == 0) = false := beq_eq_false_iff_ne.2 (by omega)
  have hLp : 0 < L.length := by omega
  have hLp2 : (0 : Int) < (L.length : Int) := by omega
  have hLp3 : ((L.length : Int) == 0) = false := beq_eq_false_iff_ne.2 (by omega)
  have hkL2 : (k : Int) < (L.length : Int) := by omega
  have hkL0 : (0 : Int) ≤ (k : Int) := by omega
  obtain ⟨h201, h202⟩ := h20
  obtain ⟨h211, h212⟩ := h21
  obtain ⟨h221, h222⟩ := h22
  have hn3 : (1 : Int) ≤ n := by omega
  have hn4 : (n : Int) ≤ 12 := by omega
  have HC := Lib.hid hc
  clear hrd hL hLl hck hk hkf hc
  have hu := Try.underlying24
  have hu2 := Try.underlying33
  have hu3 := Try.underlying52
  have hu4 := Try.underlying54
  obtain ⟨w10, w11⟩ := wf_u8 w1
  obtain ⟨w20, w21⟩ := wf_u8 w2
  obtain ⟨w30, w31⟩ := wf_u8 w3
  unfold maxLen at hl0
  go_enter Try.func5, Try.ntmps5
  have HRw := Lib.hid hr0_4
  clear hr0_4 hm0 w1 w2 w3 w4
  go_wp2_with fail
  obtain ⟨W0, hW0⟩ : ∃ W0, w.alloc (.cells #[.int .i64 n, .int .i64 a0_1, .int .i64 a0_2, .int .i64 a0_3, .slice A0_4 l0_4.length c0_4] 24) = W0 := ⟨_, rfl⟩
  have hb0 : Below w.heap.size w W0 := by rw [← hW0]; exact (Below.refl _ w).alloc (Nat.le_refl _) _
  have HSC : Hid (W0.heap[w.heap.size]? = some (.cells #[.int .i64 n, .int .i64 a0_1, .int .i64 a0_2, .int .i64 a0_3, .slice A0_4 l0_4.length c0_4] 24 (0, 0))) := Lib.hid (by rw [← hW0]; exact heap_new rfl)
  rw [hW0]
  clear hW0
  have HR := Lib.hid (Kd.C_below HRw.out hb0)
  have HB := Lib.hid hb0
  clear hb0 HRw
  refine (ready.W _ HR.out hc0_4 HRD.out).mono ?_
  rintro e V1 ⟨rfl, hb⟩
  replace HSC := Lib.hid (blkBel HSC.out hb)
  replace HR := Lib.hid (Kd.C_below HR.out hb)
  replace HB := Lib.hid (below_then HB.out HB.out.size hb)
  clear hb
  obtain ⟨e0, e1, e2, e3, e4⟩ := agg5 HSC.out
  have kz := (Array.getElem?_eq_some_iff.1 HSC.out).1
  go_wp2_with fail
  have kz0 := kz
  have HR1 := Lib.hid HR.out
  have HSC1 := Lib.hid HSC.out
  have HB1 := Lib.hid HB.out
  have HBB := Lib.hid (Below.refl V1.heap.size V1)
  refine (Scene.R HL.out hLp _ HR.out hc0_4 (by omega)).mono ?_
  rintro e V2 ⟨g, cg, cur, rfl, hcg, hgs, hgh, hC, hb⟩
  replace HSC := Lib.hid (blkBel HSC.out hb)
  replace HR := Lib.hid (Kd.C_below HR.out hb)
  replace HBB := Lib.hid (below_then HBB.out HBB.out.size hb)
  replace HB := Lib.hid (below_then HB.out HB.out.size hb)
  have HCg := Lib.hid hC
  clear hC
  have HGH := Lib.hid hgh
  clear hgh
  clear hb
  clear e0 e1 e2 e3 e4 kz
  obtain ⟨e0, e1, e2, e3, e4⟩ := agg5 HSC.out
  have kz := (Array.getElem?_eq_some_iff.1 HSC.out).1
  have HCg2 := Lib.hid HCg.out
  have HBB2 := Lib.hid (Below.refl V2.heap.size V2)
  have hg2 : g < V2.heap.size := (Array.getElem?_eq_some_iff.1 HGH.out).1
  go_wp2_with fail
  obtain ⟨V3, hW⟩ : ∃ W, V2.alloc (.cells #[.int .i64 n, .int .i64 a0_1, .int .i64 a0_2, .int .i64 a0_3, .slice (some ⟨g, 0, none⟩) L.length cg] 33) = W := ⟨_, rfl⟩
  have hb : Below V2.heap.size V2 V3 := by rw [← hW]; exact (Below.refl _ V2).alloc (Nat.le_refl _) _
  have HXB : Hid (V3.heap[V2.heap.size]? = some (.cells #[.int .i64 n, .int .i64 a0_1, .int .i64 a0_2, .int .i64 a0_3, .slice (some ⟨g, 0, none⟩) L.length cg] 33 (0, 0))) := Lib.hid (by rw [← hW]; exact heap_new rfl)
  rw [hW]
  clear hW
  replace HSC := Lib.hid (blkBel HSC.out hb)
  replace HR := Lib.hid (Kd.C_below HR.out hb)
  replace HBB := Lib.hid (below_then HBB.out HBB.out.size hb)
  replace HCg := Lib.hid (Kd.C_below HCg.out hb)
  replace HGH := Lib.hid (blkBel HGH.out hb)
  replace HBB2 := Lib.hid (below_then HBB2.out HBB2.out.size hb)
  replace HB := Lib.hid (below_then HB.out HB.out.size hb)
  clear hb
  have hxz : V2.heap.size < V3.heap.size := (Array.getElem?_eq_some_iff.1 HXB.out).1
  clear e0 e1 e2 e3 e4 kz
  obtain ⟨e0, e1, e2, e3, e4⟩ := agg5 HSC.out
  have kz := (Array.getElem?_eq_some_iff.1 HSC.out).1
  obtain ⟨x0, x1, x2, x3, x4⟩ := agg5 HXB.out
  have hwr : IntKind.i64.wrap a1 = a1 := IntWalk.i64_in _ (by omega)
  have hwk : IntKind.i64.wrap (k : Int) = (k : Int) := IntWalk.i64_in _ (by omega)
  have htm : a1.tmod (L.length : Int) = (k : Int) := by rw [Int.tmod_eq_emod_of_nonneg (by omega)]; exact HK.out
  have hL0 : (L.length : Int) ≠ 0 := by omega
  have hkt : ((k : Int)).toNat = k := Int.toNat_natCast k
  go_wp2_with fail
  go_quiet (fail)
  obtain ⟨V4, hW⟩ : ∃ W, V3.drewN nq = W := ⟨_, rfl⟩
  have hb : Below V3.heap.size V3 V4 := by rw [← hW]; exact pw_below_drewN (Below.refl _ _) _
  rw [hW]
  clear hW
  replace HSC := Lib.hid (blkBel HSC.out hb)
  replace HR := Lib.hid (Kd.C_below HR.out hb)
  replace HBB := Lib.hid (below_then HBB.out HBB.out.size hb)
  replace HCg := Lib.hid (Kd.C_below HCg.out hb)
  replace HGH := Lib.hid (blkBel HGH.out hb)
  replace HBB2 := Lib.hid (below_then HBB2.out HBB2.out.size hb)
  replace HXB := Lib.hid (blkBel HXB.out hb)
  replace x0 := (hb.cell (World.block_lt_of_cell? _ _ x0)).trans x0
  replace x1 := (hb.cell (World.block_lt_of_cell? _ _ x1)).trans x1
  replace x2 := (hb.cell (World.block_lt_of_cell? _ _ x2)).trans x2
  replace x3 := (hb.cell (World.block_lt_of_cell? _ _ x3)).trans x3
  replace x4 := (hb.cell (World.block_lt_of_cell? _ _ x4)).trans x4
  replace HB := Lib.hid (below_then HB.out HB.out.size hb)
  clear hb
  clear e0 e1 e2 e3 e4 kz
  obtain ⟨e0, e1, e2, e3, e4⟩ := agg5 HSC.out
  have kz := (Array.getElem?_eq_some_iff.1 HSC.out).1
  clear hwr hwk htm
  obtain ⟨ad, hadA, m0, m1⟩ := at_T52 HCg.out k (by omega) (by omega)
  rw [rd52 hkL, Int.toNat_natCast, HKF.out] at m0 m1
  simp only [] at m0 m1
  cases hadA
  have hadd : Addr.add ⟨g, 0, none⟩ (k * 2) = ⟨g, k * 2, none⟩ := by generalize k * 2 = m; rcases m with _ | m <;> simp [Addr.add]
  rw [hadd] at m0 m1
  simp only [] at m0 m1
  have hfz := not_frozen (i := k * 2) HGH.out
  have hfz1 := not_frozen (i := k * 2 + 1) HGH.out
  have hfx1 := not_frozen (i := 1) HXB.out
  have hfx2 := not_frozen (i := 2) HXB.out
  have hfx3 := not_frozen (i := 3) HXB.out
  have hne1 : ¬ w.heap.size = g := by omega
  have hne2 : ¬ g = w.heap.size := by omega
  have hne3 : ¬ w.heap.size = V2.heap.size := by omega
  have hne4 : ¬ V2.heap.size = w.heap.size := by omega
  have hc := HC.out
  go_wp2_with fail
  obtain ⟨Vs, hW⟩ : ∃ W, V4.setCell ⟨V2.heap.size, 2, none⟩ (.int .i64 (20)) = W := ⟨_, rfl⟩
  have hb : Below V1.heap.size V1 Vs := by rw [← hW]; exact HBB.out.setCell (by show V1.heap.size ≤ V2.heap.size; omega) _
  have hb2 : Below V2.heap.size V2 Vs := by rw [← hW]; exact HBB2.out.setCell (Nat.le_refl _) _
  have hC2 : Kd.C k52 Vs (some ⟨g, 0, none⟩) L.length L := Kd.C_below HCg2.out hb2
  have hxb0 := heap_set HXB.out 2 (.int .i64 (20))
  rw [hW] at hxb0
  have hxb : Vs.heap[V2.heap.size]? = some (.cells #[.int .i64 n, .int .i64 a0_1, .int .i64 (20), .int .i64 a0_3, .slice (some ⟨g, 0, none⟩) L.length cg] 33 (0, 0)) := by simpa using hxb0
  rw [hW]
  clear hW hb2 hxb0 hc
  replace HR := Lib.hid (Kd.C_below HR1.out hb)
  replace HSC := Lib.hid (blkBel HSC1.out hb)
  replace HB := Lib.hid (below_then HB1.out HB1.out.size hb)
  have HCL := Lib.hid hC2
  have HXN := Lib.hid hxb
  clear hb hC2 hxb HCg HGH HXB HBB HBB2 HCg2 HR1 HSC1 HB1 m0 m1 hfz hfz1 hfx1 hfx2 hfx3 hne1 hne2 hne3 hne4 hadd x0 x1 x2 x3 x4 hg2 hxz hgs hkt hL0 kz0 e0 e1 e2 e3 e4 kz
  obtain ⟨e0, e1, e2, e3, e4⟩ := agg5 HSC.out
  have kz := (Array.getElem?_eq_some_iff.1 HSC.out).1
  refine (Scene.W HL.out _ HR.out hc0_4 (by omega)).mono ?_
  rintro e V5 ⟨Ax5, cx5, rfl, hcx5, hC, hb⟩
  replace HR := Lib.hid (Kd.C_below HR.out hb)
  replace HSC := Lib.hid (blkBel HSC.out hb)
  replace HCL := Lib.hid (Kd.C_below HCL.out hb)
  replace HXN := Lib.hid (blkBel HXN.out hb)
  replace HB := Lib.hid (below_then HB.out HB.out.size hb)
  have HCx5 := Lib.hid hC
  clear hC
  clear hb
  clear e0 e1 e2 e3 e4 kz
  obtain ⟨e0, e1, e2, e3, e4⟩ := agg5 HSC.out
  have kz := (Array.getElem?_eq_some_iff.1 HSC.out).1
  go_wp2_with fail
  refine (Who.W _ HCx5.out hcx5 HWA.out).mono ?_
  rintro e V6 ⟨Ax6, cx6, rfl, hcx6, hC, hb⟩
  replace HR := Lib.hid (Kd.C_below HR.out hb)
  replace HSC := Lib.hid (blkBel HSC.out hb)
  replace HCL := Lib.hid (Kd.C_below HCL.out hb)
  replace HXN := Lib.hid (blkBel HXN.out hb)
  replace HCx5 := Lib.hid (Kd.C_below HCx5.out hb)
  replace HB := Lib.hid (below_then HB.out HB.out.size hb)
  have HCx6 := Lib.hid hC
  clear hC
  clear hb
  clear e0 e1 e2 e3 e4 kz
  obtain ⟨e0, e1, e2, e3, e4⟩ := agg5 HSC.out
  have kz := (Array.getElem?_eq_some_iff.1 HSC.out).1
  clear HCx5
  obtain ⟨x0, x1, x2, x3, x4⟩ := agg5 HXN.out
  go_wp2_with fail
  refine (Who.W _ HCL.out hcg HWB.out).mono ?_
  rintro e V7 ⟨Ax7, cx7, rfl, hcx7, hC, hb⟩
  replace HR := Lib.hid (Kd.C_below HR.out hb)
  replace HSC := Lib.hid (blkBel HSC.out hb)
  replace HCL := Lib.hid (Kd.C_below HCL.out hb)
  replace HXN := Lib.hid (blkBel HXN.out hb)
  replace HCx6 := Lib.hid (Kd.C_below HCx6.out hb)
  replace HB := Lib.hid (below_then HB.out HB.out.size hb)
  have HCx7 := Lib.hid hC
  clear hC
  clear hb
  clear e0 e1 e2 e3 e4 kz
  obtain ⟨e0, e1, e2, e3, e4⟩ := agg5 HSC.out
  have kz := (Array.getElem?_eq_some_iff.1 HSC.out).1
  clear x0 x1 x2 x3 x4
  go_wp2_with fail
  clear q1 q2 e0 e1 e2 e3 e4 kz
  clear HR HSC HCL HXN
  go_loopg [18] wa.length (fun kq v18 w' => ∃ (i : Nat), v18 = .int .i64 i ∧ Hid (kq + i = wa.length) ∧ Hid (Below V7.heap.size V7 w'))
  case atStart => exact ⟨0, rfl, Lib.hid (by omega), Lib.hid (Below.refl _ _)⟩
  case round =>
    obtain ⟨i, rfl, HI, HBW⟩ := hrel
    have hiq := HI.out
    clear HI
    have hb := HBW.out
    replace HCx6 := Lib.hid (Kd.C_below HCx6.out hb)
    replace HCx7 := Lib.hid (Kd.C_below HCx7.out hb)
    replace HB := Lib.hid (below_then HB.out HB.out.size hb)
    clear hb
    cases gk with
    | zero =>
      obtain rfl : i = wa.length := by omega
      clear hiq
      go_wp2_with fail
      refine (awake.W _).mono ?_
      rintro e V8 ⟨rfl, hb⟩
      replace HCx6 := Lib.hid (Kd.C_below HCx6.out hb)
      replace HCx7 := Lib.hid (Kd.C_below HCx7.out hb)
      replace HBW := Lib.hid (below_then HBW.out HBW.out.size hb)
      replace HB := Lib.hid (below_then HB.out HB.out.size hb)
      clear hb
      go_wp2_with fail
      go_ret
      exact ⟨rfl, HB.out⟩
    | succ k1 =>
      have hlt : i < wa.length := by omega
      have hlt2 : (i : Int) < wa.length := by omega
      have hi0 : (0 : Int) ≤ (i : Int) := by omega
      obtain ⟨hlb, z0, z1⟩ := HSUB.out i hlt
      have hlb2 : (i : Int) < wb.length := by omega
      obtain ⟨ad, hadA, m0, m1⟩ := at_T54 HCx6.out i (by omega) (by omega)
      rw [rd54 hlt, Int.toNat_natCast] at m0 m1
      obtain ⟨ad2, hadA2, n0, n1⟩ := at_T54 HCx7.out i (by omega) (by omega)
      rw [rd54 hlb, Int.toNat_natCast] at n0 n1
      obtain ⟨⟨pf, ph⟩, hpa⟩ : ∃ m, wa[i] = m := ⟨_, rfl⟩
      obtain ⟨⟨qf, qh⟩, hpb⟩ : ∃ m, wb[i] = m := ⟨_, rfl⟩
      rw [hpa] at m0 m1 z0 z1
      rw [hpb] at n0 n1 z0 z1
      simp only [] at m0 m1 n0 n1 z0 z1
      subst hadA hadA2
      have HIQ := Lib.hid hiq
      clear hpa hpb hiq
      go_wp2_with fail
      go_quiet (fail)
      obtain ⟨V8, hW⟩ : ∃ W, wr.drewN nq = W := ⟨_, rfl⟩
      have hb : Below wr.heap.size wr V8 := by rw [← hW]; exact pw_below_drewN (Below.refl _ _) _
      rw [hW]
      clear hW
      replace HCx6 := Lib.hid (Kd.C_below HCx6.out hb)
      replace HCx7 := Lib.hid (Kd.C_below HCx7.out hb)
      replace HBW := Lib.hid (below_then HBW.out HBW.out.size hb)
      replace m0 := (hb.cell (World.block_lt_of_cell? _ _ m0)).trans m0
      replace m1 := (hb.cell (World.block_lt_of_cell? _ _ m1)).trans m1
      replace n0 := (hb.cell (World.block_lt_of_cell? _ _ n0)).trans n0
      replace n1 := (hb.cell (World.block_lt_of_cell? _ _ n1)).trans n1
      replace HB := Lib.hid (below_then HB.out HB.out.size hb)
      clear hb
      go_wp2_with fail
      go_roundg k1
      case measure => omega
      case rel => exact ⟨i + 1, by simp, Lib.hid (by have := HIQ.out; omega), HBW⟩
set_option maxRecDepth 100000 in
set_option maxHeartbeats 8000000 in
theorem palantypelaw02_FloorLess.gap3a (n : Nat) (a0_1 a0_2 a0_3 : Int) (A0_4 : Option Addr) (c0_4 : Nat) (l0_4 : List RM) (a1 : Int) (a2 : Int) (a3 : Int) (a4 : Int) (w : World) (hr0_4 : Kd.C k59 w A0_4 l0_4.length l0_4) (hc0_4 : l0_4.length ≤ c0_4) (hm0 : ∀ y ∈ l0_4, (Lit.int .u16 y.f0).wf = true ∧ (Lit.int .u16 y.f1).wf = true) (hl0 : l0_4.length ≤ maxLen) (w1 : (Lit.int .u8 a1).wf = true) (w2 : (Lit.int .u8 a2).wf = true) (w3 : (Lit.int .u8 a3).wf = true) (w4 : (Lit.int .u16 a4).wf = true) (hrd : Ev (fun k => palantypelaw02_ready.f k n a0_1 a0_2 a0_3 l0_4) true) (h0 : 0 < l0_4.length) (L : List FM) (hL : l0_4.map mo = L) (hLl : L.length = l0_4.length) (hck : floor_Scene_check.f n a0_1 a0_2 a0_3 L = some 0) (hL40 : l0_4.length ≤ 40) (hL40b : L.length ≤ 40) (hn1 : 1 ≤ n) (hn2 : n ≤ 12) (k : Nat) (hk : a1 % (L.length : Int) = k) (hkL : k < L.length) (f0 f1 : Int) (hkf : L[k] = ⟨f0, f1⟩) (h20 : 0 ≤ a0_2 ∧ a0_2 ≤ 20) (h21 : 1 ≤ a0_1 ∧ a0_1 ≤ 20) (h22 : 0 ≤ a0_3 ∧ a0_3 ≤ 20) (hc : a2 % 5 = 3) (hv : a0_3 + a3 % 20 < 20) (hWA : floor_Who.f n a0_1 a0_2 a0_3 L = some ([], 10)) (wb : List FT) (eb : Int) (hWB : floor_Who.f n a0_1 a0_2 (a0_3 + a3 % 20) L = some (wb, eb)) :
    Calls Try.prog 5 #[.agg #[.int .i64 n, .int .i64 a0_1, .int .i64 a0_2, .int .i64 a0_3, .slice A0_4 l0_4.length c0_4], .int .u8 a1, .int .u8 a2, .int .u8 a3, .int .u16 a4] w fun e w' => e = .returned (.bool true) ∧ Below w.heap.size w w' := by
  have HWA := Lib.hid hWA
  have HWB := Lib.hid hWB
  clear hWA hWB
  have HRD := Lib.hid hrd
  have HL := Lib.hid hL
  have HLL := Lib.hid hLl
  have HCK := Lib.hid hck
  have HK := Lib.hid hk
  have HKF := Lib.hid hkf
  have h00 : ((l0_4.length : Int) == 0) = false := beq_eq_false_iff_ne.2 (by omega)
  have hLp : 0 < L.length := by omega
  have hLp2 : (0 : Int) < (L.length : Int) := by omega
  have hLp3 : ((L.length : Int) == 0) = false := beq_eq_false_iff_ne.2 (by omega)
  have hkL2 : (k : Int) < (L.length : Int) := by omega
  have hkL0 : (0 : Int) ≤ (k : Int) := by omega
  obtain ⟨h201, h202⟩ := h20
  obtain ⟨h211, h212⟩ := h21
  obtain ⟨h221, h222⟩ := h22
  have hn3 : (1 : Int) ≤ n := by omega
  have hn4 : (n : Int) ≤ 12 := by omega
  have HC := Lib.hid hc
  clear hrd hL hLl hck hk hkf hc
  have hu := Try.underlying24
  have hu2 := Try.underlying33
  have hu3 := Try.underlying52
  have hu4 := Try.underlying54
  obtain ⟨w10, w11⟩ := wf_u8 w1
  obtain ⟨w20, w21⟩ := wf_u8 w2
  obtain ⟨w30, w31⟩ := wf_u8 w3
  unfold maxLen at hl0
  go_enter Try.func5, Try.ntmps5
  have HRw := Lib.hid hr0_4
  clear hr0_4 hm0 w1 w2 w3 w4
  go_wp2_with fail
  obtain ⟨W0, hW0⟩ : ∃ W0, w.alloc (.cells #[.int .i64 n, .int .i64 a0_1, .int .i64 a0_2, .int .i64 a0_3, .slice A0_4 l0_4.length c0_4] 24) = W0 := ⟨_, rfl⟩
  have hb0 : Below w.heap.size w W0 := by rw [← hW0]; exact (Below.refl _ w).alloc (Nat.le_refl _) _
  have HSC : Hid (W0.heap[w.heap.size]? = some (.cells #[.int .i64 n, .int .i64 a0_1, .int .i64 a0_2, .int .i64 a0_3, .slice A0_4 l0_4.length c0_4] 24 (0, 0))) := Lib.hid (by rw [← hW0]; exact heap_new rfl)
  rw [hW0]
  clear hW0
  have HR := Lib.hid (Kd.C_below HRw.out hb0)
  have HB := Lib.hid hb0
  clear hb0 HRw
  refine (ready.W _ HR.out hc0_4 HRD.out).mono ?_
  rintro e V1 ⟨rfl, hb⟩
  replace HSC := Lib.hid (blkBel HSC.out hb)
  replace HR := Lib.hid (Kd.C_below HR.out hb)
  replace HB := Lib.hid (below_then HB.out HB.out.size hb)
  clear hb
  obtain ⟨e0, e1, e2, e3, e4⟩ := agg5 HSC.out
  have kz := (Array.getElem?_eq_some_iff.1 HSC.out).1
  go_wp2_with fail
  have kz0 := kz
  have HR1 := Lib.hid HR.out
  have HSC1 := Lib.hid HSC.out
  have HB1 := Lib.hid HB.out
  have HBB := Lib.hid (Below.refl V1.heap.size V1)
  refine (Scene.R HL.out hLp _ HR.out hc0_4 (by omega)).mono ?_
  rintro e V2 ⟨g, cg, cur, rfl, hcg, hgs, hgh, hC, hb⟩
  replace HSC := Lib.hid (blkBel HSC.out hb)
  replace HR := Lib.hid (Kd.C_below HR.out hb)
  replace HBB := Lib.hid (below_then HBB.out HBB.out.size hb)
  replace HB := Lib.hid (below_then HB.out HB.out.size hb)
  have HCg := Lib.hid hC
  clear hC
  have HGH := Lib.hid hgh
  clear hgh
  clear hb
  clear e0 e1 e2 e3 e4 kz
  obtain ⟨e0, e1, e2, e3, e4⟩ := agg5 HSC.out
  have kz := (Array.getElem?_eq_some_iff.1 HSC.out).1
  have HCg2 := Lib.hid HCg.out
  have HBB2 := Lib.hid (Below.refl V2.heap.size V2)
  have hg2 : g < V2.heap.size := (Array.getElem?_eq_some_iff.1 HGH.out).1
  go_wp2_with fail
  obtain ⟨V3, hW⟩ : ∃ W, V2.alloc (.cells #[.int .i64 n, .int .i64 a0_1, .int .i64 a0_2, .int .i64 a0_3, .slice (some ⟨g, 0, none⟩) L.length cg] 33) = W := ⟨_, rfl⟩
  have hb : Below V2.heap.size V2 V3 := by rw [← hW]; exact (Below.refl _ V2).alloc (Nat.le_refl _) _
  have HXB : Hid (V3.heap[V2.heap.size]? = some (.cells #[.int .i64 n, .int .i64 a0_1, .int .i64 a0_2, .int .i64 a0_3, .slice (some ⟨g, 0, none⟩) L.length cg] 33 (0, 0))) := Lib.hid (by rw [← hW]; exact heap_new rfl)
  rw [hW]
  clear hW
  replace HSC := Lib.hid (blkBel HSC.out hb)
  replace HR := Lib.hid (Kd.C_below HR.out hb)
  replace HBB := Lib.hid (below_then HBB.out HBB.out.size hb)
  replace HCg := Lib.hid (Kd.C_below HCg.out hb)
  replace HGH := Lib.hid (blkBel HGH.out hb)
  replace HBB2 := Lib.hid (below_then HBB2.out HBB2.out.size hb)
  replace HB := Lib.hid (below_then HB.out HB.out.size hb)
  clear hb
  have hxz : V2.heap.size < V3.heap.size := (Array.getElem?_eq_some_iff.1 HXB.out).1
  clear e0 e1 e2 e3 e4 kz
  obtain ⟨e0, e1, e2, e3, e4⟩ := agg5 HSC.out
  have kz := (Array.getElem?_eq_some_iff.1 HSC.out).1
  obtain ⟨x0, x1, x2, x3, x4⟩ := agg5 HXB.out
  have hwr : IntKind.i64.wrap a1 = a1 := IntWalk.i64_in _ (by omega)
  have hwk : IntKind.i64.wrap (k : Int) = (k : Int) := IntWalk.i64_in _ (by omega)
  have htm : a1.tmod (L.length : Int) = (k : Int) := by rw [Int.tmod_eq_emod_of_nonneg (by omega)]; exact HK.out
  have hL0 : (L.length : Int) ≠ 0 := by omega
  have hkt : ((k : Int)).toNat = k := Int.toNat_natCast k
  go_wp2_with fail
  go_quiet (fail)
  obtain ⟨V4, hW⟩ : ∃ W, V3.drewN nq = W := ⟨_, rfl⟩
  have hb : Below V3.heap.size V3 V4 := by rw [← hW]; exact pw_below_drewN (Below.refl _ _) _
  rw [hW]
  clear hW
  replace HSC := Lib.hid (blkBel HSC.out hb)
  replace HR := Lib.hid (Kd.C_below HR.out hb)
  replace HBB := Lib.hid (below_then HBB.out HBB.out.size hb)
  replace HCg := Lib.hid (Kd.C_below HCg.out hb)
  replace HGH := Lib.hid (blkBel HGH.out hb)
  replace HBB2 := Lib.hid (below_then HBB2.out HBB2.out.size hb)
  replace HXB := Lib.hid (blkBel HXB.out hb)
  replace x0 := (hb.cell (World.block_lt_of_cell? _ _ x0)).trans x0
  replace x1 := (hb.cell (World.block_lt_of_cell? _ _ x1)).trans x1
  replace x2 := (hb.cell (World.block_lt_of_cell? _ _ x2)).trans x2
  replace x3 := (hb.cell (World.block_lt_of_cell? _ _ x3)).trans x3
  replace x4 := (hb.cell (World.block_lt_of_cell? _ _ x4)).trans x4
  replace HB := Lib.hid (below_then HB.out HB.out.size hb)
  clear hb
  clear e0 e1 e2 e3 e4 kz
  obtain ⟨e0, e1, e2, e3, e4⟩ := agg5 HSC.out
  have kz := (Array.getElem?_eq_some_iff.1 HSC.out).1
  clear hwr hwk htm
  obtain ⟨ad, hadA, m0, m1⟩ := at_T52 HCg.out k (by omega) (by omega)
  rw [rd52 hkL, Int.toNat_natCast, HKF.out] at m0 m1
  simp only [] at m0 m1
  cases hadA
  have hadd : Addr.add ⟨g, 0, none⟩ (k * 2) = ⟨g, k * 2, none⟩ := by generalize k * 2 = m; rcases m with _ | m <;> simp [Addr.add]
  rw [hadd] at m0 m1
  simp only [] at m0 m1
  have hfz := not_frozen (i := k * 2) HGH.out
  have hfz1 := not_frozen (i := k * 2 + 1) HGH.out
  have hfx1 := not_frozen (i := 1) HXB.out
  have hfx2 := not_frozen (i := 2) HXB.out
  have hfx3 := not_frozen (i := 3) HXB.out
  have hne1 : ¬ w.heap.size = g := by omega
  have hne2 : ¬ g = w.heap.size := by omega
  have hne3 : ¬ w.heap.size = V2.heap.size := by omega
  have hne4 : ¬ V2.heap.size = w.heap.size := by omega
  have hc := HC.out
  go_wp2_with fail
  obtain ⟨Vs, hW⟩ : ∃ W, V4.setCell ⟨V2.heap.size, 3, none⟩ (.int .i64 (a0_3 + a3 % 20)) = W := ⟨_, rfl⟩
  have hb : Below V1.heap.size V1 Vs := by rw [← hW]; exact HBB.out.setCell (by show V1.heap.size ≤ V2.heap.size; omega) _
  have hb2 : Below V2.heap.size V2 Vs := by rw [← hW]; exact HBB2.out.setCell (Nat.le_refl _) _
  have hC2 : Kd.C k52 Vs (some ⟨g, 0, none⟩) L.length L := Kd.C_below HCg2.out hb2
  have hxb0 := heap_set HXB.out 3 (.int .i64 (a0_3 + a3 % 20))
  rw [hW] at hxb0
  have hxb : Vs.heap[V2.heap.size]? = some (.cells #[.int .i64 n, .int .i64 a0_1, .int .i64 a0_2, .int .i64 (a0_3 + a3 % 20), .slice (some ⟨g, 0, none⟩) L.length cg] 33 (0, 0)) := by simpa using hxb0
  rw [hW]
  clear hW hb2 hxb0 hc
  replace HR := Lib.hid (Kd.C_below HR1.out hb)
  replace HSC := Lib.hid (blkBel HSC1.out hb)
  replace HB := Lib.hid (below_then HB1.out HB1.out.size hb)
  have HCL := Lib.hid hC2
  have HXN := Lib.hid hxb
  clear hb hC2 hxb HCg HGH HXB HBB HBB2 HCg2 HR1 HSC1 HB1 m0 m1 hfz hfz1 hfx1 hfx2 hfx3 hne1 hne2 hne3 hne4 hadd x0 x1 x2 x3 x4 hg2 hxz hgs hkt hL0 kz0 e0 e1 e2 e3 e4 kz
  obtain ⟨e0, e1, e2, e3, e4⟩ := agg5 HSC.out
  have kz := (Array.getElem?_eq_some_iff.1 HSC.out).1
  refine (Scene.W HL.out _ HR.out hc0_4 (by omega)).mono ?_
  rintro e V5 ⟨Ax5, cx5, rfl, hcx5, hC, hb⟩
  replace HR := Lib.hid (Kd.C_below HR.out hb)
  replace HSC := Lib.hid (blkBel HSC.out hb)
  replace HCL := Lib.hid (Kd.C_below HCL.out hb)
  replace HXN := Lib.hid (blkBel HXN.out hb)
  replace HB := Lib.hid (below_then HB.out HB.out.size hb)
  have HCx5 := Lib.hid hC
  clear hC
  clear hb
  clear e0 e1 e2 e3 e4 kz
  obtain ⟨e0, e1, e2, e3, e4⟩ := agg5 HSC.out
  have kz := (Array.getElem?_eq_some_iff.1 HSC.out).1
  go_wp2_with fail
  refine (Who.W _ HCx5.out hcx5 HWA.out).mono ?_
  rintro e V6 ⟨Ax6, cx6, rfl, hcx6, hC, hb⟩
  replace HR := Lib.hid (Kd.C_below HR.out hb)
  replace HSC := Lib.hid (blkBel HSC.out hb)
  replace HCL := Lib.hid (Kd.C_below HCL.out hb)
  replace HXN := Lib.hid (blkBel HXN.out hb)
  replace HCx5 := Lib.hid (Kd.C_below HCx5.out hb)
  replace HB := Lib.hid (below_then HB.out HB.out.size hb)
  have HCx6 := Lib.hid hC
  clear hC
  clear hb
  clear e0 e1 e2 e3 e4 kz
  obtain ⟨e0, e1, e2, e3, e4⟩ := agg5 HSC.out
  have kz := (Array.getElem?_eq_some_iff.1 HSC.out).1
  clear HCx5
  obtain ⟨x0, x1, x2, x3, x4⟩ := agg5 HXN.out
  go_wp2_with fail
  refine (Who.W _ HCL.out hcg HWB.out).mono ?_
  rintro e V7 ⟨Ax7, cx7, rfl, hcx7, hC, hb⟩
  replace HR := Lib.hid (Kd.C_below HR.out hb)
  replace HSC := Lib.hid (blkBel HSC.out hb)
  replace HCL := Lib.hid (Kd.C_below HCL.out hb)
  replace HXN := Lib.hid (blkBel HXN.out hb)
  replace HCx6 := Lib.hid (Kd.C_below HCx6.out hb)
  replace HB := Lib.hid (below_then HB.out HB.out.size hb)
  have HCx7 := Lib.hid hC
  clear hC
  clear hb
  clear e0 e1 e2 e3 e4 kz
  obtain ⟨e0, e1, e2, e3, e4⟩ := agg5 HSC.out
  have kz := (Array.getElem?_eq_some_iff.1 HSC.out).1
  clear x0 x1 x2 x3 x4
  go_wp2_with fail
  refine (awake.W _).mono ?_
  rintro e V8 ⟨rfl, hb⟩
  replace HR := Lib.hid (Kd.C_below HR.out hb)
  replace HSC := Lib.hid (blkBel HSC.out hb)
  replace HCL := Lib.hid (Kd.C_below HCL.out hb)
  replace HXN := Lib.hid (blkBel HXN.out hb)
  replace HCx6 := Lib.hid (Kd.C_below HCx6.out hb)
  replace HCx7 := Lib.hid (Kd.C_below HCx7.out hb)
  replace HB := Lib.hid (below_then HB.out HB.out.size hb)
  clear hb
  go_wp2_with fail
  go_ret
  exact ⟨rfl, HB.out⟩
set_option maxRecDepth 100000 in
set_option maxHeartbeats 8000000 in
theorem palantypelaw02_FloorLess.told3a (n : Nat) (a0_1 a0_2 a0_3 : Int) (A0_4 : Option Addr) (c0_4 : Nat) (l0_4 : List RM) (a1 : Int) (a2 : Int) (a3 : Int) (a4 : Int) (w : World) (hr0_4 : Kd.C k59 w A0_4 l0_4.length l0_4) (hc0_4 : l0_4.length ≤ c0_4) (hm0 : ∀ y ∈ l0_4, (Lit.int .u16 y.f0).wf = true ∧ (Lit.int .u16 y.f1).wf = true) (hl0 : l0_4.length ≤ maxLen) (w1 : (Lit.int .u8 a1).wf = true) (w2 : (Lit.int .u8 a2).wf = true) (w3 : (Lit.int .u8 a3).wf = true) (w4 : (Lit.int .u16 a4).wf = true) (hrd : Ev (fun k => palantypelaw02_ready.f k n a0_1 a0_2 a0_3 l0_4) true) (h0 : 0 < l0_4.length) (L : List FM) (hL : l0_4.map mo = L) (hLl : L.length = l0_4.length) (hck : floor_Scene_check.f n a0_1 a0_2 a0_3 L = some 0) (hL40 : l0_4.length ≤ 40) (hL40b : L.length ≤ 40) (hn1 : 1 ≤ n) (hn2 : n ≤ 12) (k : Nat) (hk : a1 % (L.length : Int) = k) (hkL : k < L.length) (f0 f1 : Int) (hkf : L[k] = ⟨f0, f1⟩) (h20 : 0 ≤ a0_2 ∧ a0_2 ≤ 20) (h21 : 1 ≤ a0_1 ∧ a0_1 ≤ 20) (h22 : 0 ≤ a0_3 ∧ a0_3 ≤ 20) (hc : a2 % 5 = 3) (hv : a0_3 + a3 % 20 < 20) (wa wb : List FT) (hWA : floor_Who.f n a0_1 a0_2 a0_3 L = some (wa, 0)) (hWB : floor_Who.f n a0_1 a0_2 (a0_3 + a3 % 20) L = some (wb, 0)) (hwa : wa.length = l0_4.length) (hwb : wb.length = l0_4.length) (hsub : ∀ i (h : i < wa.length), ∃ h2 : i < wb.length, Go.bits .andNot .u16 wa[i].f0 wb[i].f0 = 0 ∧ Go.bits .andNot .u16 wa[i].f1 wb[i].f1 = 0) :
    Calls Try.prog 5 #[.agg #[.int .i64 n, .int .i64 a0_1, .int .i64 a0_2, .int .i64 a0_3, .slice A0_4 l0_4.length c0_4], .int .u8 a1, .int .u8 a2, .int .u8 a3, .int .u16 a4] w fun e w' => e = .returned (.bool true) ∧ Below w.heap.size w w' := by
  have HWA := Lib.hid hWA
  have HWB := Lib.hid hWB
  have HSUB := Lib.hid hsub
  have q1 : ((wa.length : Int) != (l0_4.length : Int)) = false := by simp; omega
  have q2 : ((wb.length : Int) != (wa.length : Int)) = false := by simp; omega
  have hwa40 : wa.length ≤ 40 := by omega
  have hwb40 : wb.length ≤ 40 := by omega
  clear hWA hWB hsub hwa hwb
  have HRD := Lib.hid hrd
  have HL := Lib.hid hL
  have HLL := Lib.hid hLl
  have HCK := Lib.hid hck
  have HK := Lib.hid hk
  have HKF := Lib.hid hkf
  have h00 : ((l0_4.length : Int) == 0) = false := beq_eq_false_iff_ne.2 (by omega)
  have hLp : 0 < L.length := by omega
  have hLp2 : (0 : Int) < (L.length : Int) := by omega
  have hLp3 : ((L.length : Int) == 0) = false := beq_eq_false_iff_ne.2 (by omega)
  have hkL2 : (k : Int) < (L.length : Int) := by omega
  have hkL0 : (0 : Int) ≤ (k : Int) := by omega
  obtain ⟨h201, h202⟩ := h20
  obtain ⟨h211, h212⟩ := h21
  obtain ⟨h221, h222⟩ := h22
  have hn3 : (1 : Int) ≤ n := by omega
  have hn4 : (n : Int) ≤ 12 := by omega
  have HC := Lib.hid hc
  clear hrd hL hLl hck hk hkf hc
  have hu := Try.underlying24
  have hu2 := Try.underlying33
  have hu3 := Try.underlying52
  have hu4 := Try.underlying54
  obtain ⟨w10, w11⟩ := wf_u8 w1
  obtain ⟨w20, w21⟩ := wf_u8 w2
  obtain ⟨w30, w31⟩ := wf_u8 w3
  unfold maxLen at hl0
  go_enter Try.func5, Try.ntmps5
  have HRw := Lib.hid hr0_4
  clear hr0_4 hm0 w1 w2 w3 w4
  go_wp2_with fail
  obtain ⟨W0, hW0⟩ : ∃ W0, w.alloc (.cells #[.int .i64 n, .int .i64 a0_1, .int .i64 a0_2, .int .i64 a0_3, .slice A0_4 l0_4.length c0_4] 24) = W0 := ⟨_, rfl⟩
  have hb0 : Below w.heap.size w W0 := by rw [← hW0]; exact (Below.refl _ w).alloc (Nat.le_refl _) _
  have HSC : Hid (W0.heap[w.heap.size]? = some (.cells #[.int .i64 n, .int .i64 a0_1, .int .i64 a0_2, .int .i64 a0_3, .slice A0_4 l0_4.length c0_4] 24 (0, 0))) := Lib.hid (by rw [← hW0]; exact heap_new rfl)
  rw [hW0]
  clear hW0
  have HR := Lib.hid (Kd.C_below HRw.out hb0)
  have HB := Lib.hid hb0
  clear hb0 HRw
  refine (ready.W _ HR.out hc0_4 HRD.out).mono ?_
  rintro e V1 ⟨rfl, hb⟩
  replace HSC := Lib.hid (blkBel HSC.out hb)
  replace HR := Lib.hid (Kd.C_below HR.out hb)
  replace HB := Lib.hid (below_then HB.out HB.out.size hb)
  clear hb
  obtain ⟨e0, e1, e2, e3, e4⟩ := agg5 HSC.out
  have kz := (Array.getElem?_eq_some_iff.1 HSC.out).1
  go_wp2_with fail
  have kz0 := kz
  have HR1 := Lib.hid HR.out
  have HSC1 := Lib.hid HSC.out
  have HB1 := Lib.hid HB.out
  have HBB := Lib.hid (Below.refl V1.heap.size V1)
  refine (Scene.R HL.out hLp _ HR.out hc0_4 (by omega)).mono ?_
  rintro e V2 ⟨g, cg, cur, rfl, hcg, hgs, hgh, hC, hb⟩
  replace HSC := Lib.hid (blkBel HSC.out hb)
  replace HR := Lib.hid (Kd.C_below HR.out hb)
  replace HBB := Lib.hid (below_then HBB.out HBB.out.size hb)
  replace HB := Lib.hid (below_then HB.out HB.out.size hb)
  have HCg := Lib.hid hC
  clear hC
  have HGH := Lib.hid hgh
  clear hgh
  clear hb
  clear e0 e1 e2 e3 e4 kz
  obtain ⟨e0, e1, e2, e3, e4⟩ := agg5 HSC.out
  have kz := (Array.getElem?_eq_some_iff.1 HSC.out).1
  have HCg2 := Lib.hid HCg.out
  have HBB2 := Lib.hid (Below.refl V2.heap.size V2)
  have hg2 : g < V2.heap.size := (Array.getElem?_eq_some_iff.1 HGH.out).1
  go_wp2_with fail
  obtain ⟨V3, hW⟩ : ∃ W, V2.alloc (.cells #[.int .i64 n, .int .i64 a0_1, .int .i64 a0_2, .int .i64 a0_3, .slice (some ⟨g, 0, none⟩) L.length cg] 33) = W := ⟨_, rfl⟩
  have hb : Below V2.heap.size V2 V3 := by rw [← hW]; exact (Below.refl _ V2).alloc (Nat.le_refl _) _
  have HXB : Hid (V3.heap[V2.heap.size]? = some (.cells #[.int .i64 n, .int .i64 a0_1, .int .i64 a0_2, .int .i64 a0_3, .slice (some ⟨g, 0, none⟩) L.length cg] 33 (0, 0))) := Lib.hid (by rw [← hW]; exact heap_new rfl)
  rw [hW]
  clear hW
  replace HSC := Lib.hid (blkBel HSC.out hb)
  replace HR := Lib.hid (Kd.C_below HR.out hb)
  replace HBB := Lib.hid (below_then HBB.out HBB.out.size hb)
  replace HCg := Lib.hid (Kd.C_below HCg.out hb)
  replace HGH := Lib.hid (blkBel HGH.out hb)
  replace HBB2 := Lib.hid (below_then HBB2.out HBB2.out.size hb)
  replace HB := Lib.hid (below_then HB.out HB.out.size hb)
  clear hb
  have hxz : V2.heap.size < V3.heap.size := (Array.getElem?_eq_some_iff.1 HXB.out).1
  clear e0 e1 e2 e3 e4 kz
  obtain ⟨e0, e1, e2, e3, e4⟩ := agg5 HSC.out
  have kz := (Array.getElem?_eq_some_iff.1 HSC.out).1
  obtain ⟨x0, x1, x2, x3, x4⟩ := agg5 HXB.out
  have hwr : IntKind.i64.wrap a1 = a1 := IntWalk.i64_in _ (by omega)
  have hwk : IntKind.i64.wrap (k : Int) = (k : Int) := IntWalk.i64_in _ (by omega)
  have htm : a1.tmod (L.length : Int) = (k : Int) := by rw [Int.tmod_eq_emod_of_nonneg (by omega)]; exact HK.out
  have hL0 : (L.length : Int) ≠ 0 := by omega
  have hkt : ((k : Int)).toNat = k := Int.toNat_natCast k
  go_wp2_with fail
  go_quiet (fail)
  obtain ⟨V4, hW⟩ : ∃ W, V3.drewN nq = W := ⟨_, rfl⟩
  have hb : Below V3.heap.size V3 V4 := by rw [← hW]; exact pw_below_drewN (Below.refl _ _) _
  rw [hW]
  clear hW
  replace HSC := Lib.hid (blkBel HSC.out hb)
  replace HR := Lib.hid (Kd.C_below HR.out hb)
  replace HBB := Lib.hid (below_then HBB.out HBB.out.size hb)
  replace HCg := Lib.hid (Kd.C_below HCg.out hb)
  replace HGH := Lib.hid (blkBel HGH.out hb)
  replace HBB2 := Lib.hid (below_then HBB2.out HBB2.out.size hb)
  replace HXB := Lib.hid (blkBel HXB.out hb)
  replace x0 := (hb.cell (World.block_lt_of_cell? _ _ x0)).trans x0
  replace x1 := (hb.cell (World.block_lt_of_cell? _ _ x1)).trans x1
  replace x2 := (hb.cell (World.block_lt_of_cell? _ _ x2)).trans x2
  replace x3 := (hb.cell (World.block_lt_of_cell? _ _ x3)).trans x3
  replace x4 := (hb.cell (World.block_lt_of_cell? _ _ x4)).trans x4
  replace HB := Lib.hid (below_then HB.out HB.out.size hb)
  clear hb
  clear e0 e1 e2 e3 e4 kz
  obtain ⟨e0, e1, e2, e3, e4⟩ := agg5 HSC.out
  have kz := (Array.getElem?_eq_some_iff.1 HSC.out).1
  clear hwr hwk htm
  obtain ⟨ad, hadA, m0, m1⟩ := at_T52 HCg.out k (by omega) (by omega)
  rw [rd52 hkL, Int.toNat_natCast, HKF.out] at m0 m1
  simp only [] at m0 m1
  cases hadA
  have hadd : Addr.add ⟨g, 0, none⟩ (k * 2) = ⟨g, k * 2, none⟩ := by generalize k * 2 = m; rcases m with _ | m <;> simp [Addr.add]
  rw [hadd] at m0 m1
  simp only [] at m0 m1
  have hfz := not_frozen (i := k * 2) HGH.out
  have hfz1 := not_frozen (i := k * 2 + 1) HGH.out
  have hfx1 := not_frozen (i := 1) HXB.out
  have hfx2 := not_frozen (i := 2) HXB.out
  have hfx3 := not_frozen (i := 3) HXB.out
  have hne1 : ¬ w.heap.size = g := by omega
  have hne2 : ¬ g = w.heap.size := by omega
  have hne3 : ¬ w.heap.size = V2.heap.size := by omega
  have hne4 : ¬ V2.heap.size = w.heap.size := by omega
  have hc := HC.out
  go_wp2_with fail
  obtain ⟨Vs, hW⟩ : ∃ W, V4.setCell ⟨V2.heap.size, 3, none⟩ (.int .i64 (a0_3 + a3 % 20)) = W := ⟨_, rfl⟩
  have hb : Below V1.heap.size V1 Vs := by rw [← hW]; exact HBB.out.setCell (by show V1.heap.size ≤ V2.heap.size; omega) _
  have hb2 : Below V2.heap.size V2 Vs := by rw [← hW]; exact HBB2.out.setCell (Nat.le_refl _) _
  have hC2 : Kd.C k52 Vs (some ⟨g, 0, none⟩) L.length L := Kd.C_below HCg2.out hb2
  have hxb0 := heap_set HXB.out 3 (.int .i64 (a0_3 + a3 % 20))
  rw [hW] at hxb0
  have hxb : Vs.heap[V2.heap.size]? = some (.cells #[.int .i64 n, .int .i64 a0_1, .int .i64 a0_2, .int .i64 (a0_3 + a3 % 20), .slice (some ⟨g, 0, none⟩) L.length cg] 33 (0, 0)) := by simpa using hxb0
  rw [hW]
  clear hW hb2 hxb0 hc
  replace HR := Lib.hid (Kd.C_below HR1.out hb)
  replace HSC := Lib.hid (blkBel HSC1.out hb)
  replace HB := Lib.hid (below_then HB1.out HB1.out.size hb)
  have HCL := Lib.hid hC2
  have HXN := Lib.hid hxb
  clear hb hC2 hxb HCg HGH HXB HBB HBB2 HCg2 HR1 HSC1 HB1 m0 m1 hfz hfz1 hfx1 hfx2 hfx3 hne1 hne2 hne3 hne4 hadd x0 x1 x2 x3 x4 hg2 hxz hgs hkt hL0 kz0 e0 e1 e2 e3 e4 kz
  obtain ⟨e0, e1, e2, e3, e4⟩ := agg5 HSC.out
  have kz := (Array.getElem?_eq_some_iff.1 HSC.out).1
  refine (Scene.W HL.out _ HR.out hc0_4 (by omega)).mono ?_
  rintro e V5 ⟨Ax5, cx5, rfl, hcx5, hC, hb⟩
  replace HR := Lib.hid (Kd.C_below HR.out hb)
  replace HSC := Lib.hid (blkBel HSC.out hb)
  replace HCL := Lib.hid (Kd.C_below HCL.out hb)
  replace HXN := Lib.hid (blkBel HXN.out hb)
  replace HB := Lib.hid (below_then HB.out HB.out.size hb)
  have HCx5 := Lib.hid hC
  clear hC
  clear hb
  clear e0 e1 e2 e3 e4 kz
  obtain ⟨e0, e1, e2, e3, e4⟩ := agg5 HSC.out
  have kz := (Array.getElem?_eq_some_iff.1 HSC.out).1
  go_wp2_with fail
  refine (Who.W _ HCx5.out hcx5 HWA.out).mono ?_
  rintro e V6 ⟨Ax6, cx6, rfl, hcx6, hC, hb⟩
  replace HR := Lib.hid (Kd.C_below HR.out hb)
  replace HSC := Lib.hid (blkBel HSC.out hb)
  replace HCL := Lib.hid (Kd.C_below HCL.out hb)
  replace HXN := Lib.hid (blkBel HXN.out hb)
  replace HCx5 := Lib.hid (Kd.C_below HCx5.out hb)
  replace HB := Lib.hid (below_then HB.out HB.out.size hb)
  have HCx6 := Lib.hid hC
  clear hC
  clear hb
  clear e0 e1 e2 e3 e4 kz
  obtain ⟨e0, e1, e2, e3, e4⟩ := agg5 HSC.out
  have kz := (Array.getElem?_eq_some_iff.1 HSC.out).1
  clear HCx5
  obtain ⟨x0, x1, x2, x3, x4⟩ := agg5 HXN.out
  go_wp2_with fail
  refine (Who.W _ HCL.out hcg HWB.out).mono ?_
  rintro e V7 ⟨Ax7, cx7, rfl, hcx7, hC, hb⟩
  replace HR := Lib.hid (Kd.C_below HR.out hb)
  replace HSC := Lib.hid (blkBel HSC.out hb)
  replace HCL := Lib.hid (Kd.C_below HCL.out hb)
  replace HXN := Lib.hid (blkBel HXN.out hb)
  replace HCx6 := Lib.hid (Kd.C_below HCx6.out hb)
  replace HB := Lib.hid (below_then HB.out HB.out.size hb)
  have HCx7 := Lib.hid hC
  clear hC
  clear hb
  clear e0 e1 e2 e3 e4 kz
  obtain ⟨e0, e1, e2, e3, e4⟩ := agg5 HSC.out
  have kz := (Array.getElem?_eq_some_iff.1 HSC.out).1
  clear x0 x1 x2 x3 x4
  go_wp2_with fail
  clear q1 q2 e0 e1 e2 e3 e4 kz
  clear HR HSC HCL HXN
  go_loopg [18] wa.length (fun kq v18 w' => ∃ (i : Nat), v18 = .int .i64 i ∧ Hid (kq + i = wa.length) ∧ Hid (Below V7.heap.size V7 w'))
  case atStart => exact ⟨0, rfl, Lib.hid (by omega), Lib.hid (Below.refl _ _)⟩
  case round =>
    obtain ⟨i, rfl, HI, HBW⟩ := hrel
    have hiq := HI.out
    clear HI
    have hb := HBW.out
    replace HCx6 := Lib.hid (Kd.C_below HCx6.out hb)
    replace HCx7 := Lib.hid (Kd.C_below HCx7.out hb)
    replace HB := Lib.hid (below_then HB.out HB.out.size hb)
    clear hb
    cases gk with
    | zero =>
      obtain rfl : i = wa.length := by omega
      clear hiq
      go_wp2_with fail
      refine (awake.W _).mono ?_
      rintro e V8 ⟨rfl, hb⟩
      replace HCx6 := Lib.hid (Kd.C_below HCx6.out hb)
      replace HCx7 := Lib.hid (Kd.C_below HCx7.out hb)
      replace HBW := Lib.hid (below_then HBW.out HBW.out.size hb)
      replace HB := Lib.hid (below_then HB.out HB.out.size hb)
      clear hb
      go_wp2_with fail
      go_ret
      exact ⟨rfl, HB.out⟩
    | succ k1 =>
      have hlt : i < wa.length := by omega
      have hlt2 : (i : Int) < wa.length := by omega
      have hi0 : (0 : Int) ≤ (i : Int) := by omega
      obtain ⟨hlb, z0, z1⟩ := HSUB.out i hlt
      have hlb2 : (i : Int) < wb.length := by omega
      obtain ⟨ad, hadA, m0, m1⟩ := at_T54 HCx6.out i (by omega) (by omega)
      rw [rd54 hlt, Int.toNat_natCast] at m0 m1
      obtain ⟨ad2, hadA2, n0, n1⟩ := at_T54 HCx7.out i (by omega) (by omega)
      rw [rd54 hlb, Int.toNat_natCast] at n0 n1
      obtain ⟨⟨pf, ph⟩, hpa⟩ : ∃ m, wa[i] = m := ⟨_, rfl⟩
      obtain ⟨⟨qf, qh⟩, hpb⟩ : ∃ m, wb[i] = m := ⟨_, rfl⟩
      rw [hpa] at m0 m1 z0 z1
      rw [hpb] at n0 n1 z0 z1
      simp only [] at m0 m1 n0 n1 z0 z1
      subst hadA hadA2
      have HIQ := Lib.hid hiq
      clear hpa hpb hiq
      go_wp2_with fail
      go_quiet (fail)
      obtain ⟨V8, hW⟩ : ∃ W, wr.drewN nq = W := ⟨_, rfl⟩
      have hb : Below wr.heap.size wr V8 := by rw [← hW]; exact pw_below_drewN (Below.refl _ _) _
      rw [hW]
      clear hW
      replace HCx6 := Lib.hid (Kd.C_below HCx6.out hb)
      replace HCx7 := Lib.hid (Kd.C_below HCx7.out hb)
      replace HBW := Lib.hid (below_then HBW.out HBW.out.size hb)
      replace m0 := (hb.cell (World.block_lt_of_cell? _ _ m0)).trans m0
      replace m1 := (hb.cell (World.block_lt_of_cell? _ _ m1)).trans m1
      replace n0 := (hb.cell (World.block_lt_of_cell? _ _ n0)).trans n0
      replace n1 := (hb.cell (World.block_lt_of_cell? _ _ n1)).trans n1
      replace HB := Lib.hid (below_then HB.out HB.out.size hb)
      clear hb
      go_wp2_with fail
      go_roundg k1
      case measure => omega
      case rel => exact ⟨i + 1, by simp, Lib.hid (by have := HIQ.out; omega), HBW⟩
set_option maxRecDepth 100000 in
set_option maxHeartbeats 8000000 in
theorem palantypelaw02_FloorLess.gap3b (n : Nat) (a0_1 a0_2 a0_3 : Int) (A0_4 : Option Addr) (c0_4 : Nat) (l0_4 : List RM) (a1 : Int) (a2 : Int) (a3 : Int) (a4 : Int) (w : World) (hr0_4 : Kd.C k59 w A0_4 l0_4.length l0_4) (hc0_4 : l0_4.length ≤ c0_4) (hm0 : ∀ y ∈ l0_4, (Lit.int .u16 y.f0).wf = true ∧ (Lit.int .u16 y.f1).wf = true) (hl0 : l0_4.length ≤ maxLen) (w1 : (Lit.int .u8 a1).wf = true) (w2 : (Lit.int .u8 a2).wf = true) (w3 : (Lit.int .u8 a3).wf = true) (w4 : (Lit.int .u16 a4).wf = true) (hrd : Ev (fun k => palantypelaw02_ready.f k n a0_1 a0_2 a0_3 l0_4) true) (h0 : 0 < l0_4.length) (L : List FM) (hL : l0_4.map mo = L) (hLl : L.length = l0_4.length) (hck : floor_Scene_check.f n a0_1 a0_2 a0_3 L = some 0) (hL40 : l0_4.length ≤ 40) (hL40b : L.length ≤ 40) (hn1 : 1 ≤ n) (hn2 : n ≤ 12) (k : Nat) (hk : a1 % (L.length : Int) = k) (hkL : k < L.length) (f0 f1 : Int) (hkf : L[k] = ⟨f0, f1⟩) (h20 : 0 ≤ a0_2 ∧ a0_2 ≤ 20) (h21 : 1 ≤ a0_1 ∧ a0_1 ≤ 20) (h22 : 0 ≤ a0_3 ∧ a0_3 ≤ 20) (hc : a2 % 5 = 3) (hv : 20 ≤ a0_3 + a3 % 20) (hWA : floor_Who.f n a0_1 a0_2 a0_3 L = some ([], 10)) (wb : List FT) (eb : Int) (hWB : floor_Who.f n a0_1 a0_2 (20) L = some (wb, eb)) :
    Calls Try.prog 5 #[.agg #[.int .i64 n, .int .i64 a0_1, .int .i64 a0_2, .int .i64 a0_3, .slice A0_4 l0_4.length c0_4], .int .u8 a1, .int .u8 a2, .int .u8 a3, .int .u16 a4] w fun e w' => e = .returned (.bool true) ∧ Below w.heap.size w w' := by
  have HWA := Lib.hid hWA
  have HWB := Lib.hid hWB
  clear hWA hWB
  have HRD := Lib.hid hrd
  have HL := Lib.hid hL
  have HLL := Lib.hid hLl
  have HCK := Lib.hid hck
  have HK := Lib.hid hk
  have HKF := Lib.hid hkf
  have h00 : ((l0_4.length : Int) == 0) = false := beq_eq_false_iff_ne.2 (by omega)
  have hLp : 0 < L.length := by omega
  have hLp2 : (0 : Int) < (L.length : Int) := by omega
  have hLp3 : ((L.length : Int) == 0) = false := beq_eq_false_iff_ne.2 (by omega)
  have hkL2 : (k : Int) < (L.length : Int) := by omega
  have hkL0 : (0 : Int) ≤ (k : Int) := by omega
  obtain ⟨h201, h202⟩ := h20
  obtain ⟨h211, h212⟩ := h21
  obtain ⟨h221, h222⟩ := h22
  have hn3 : (1 : Int) ≤ n := by omega
  have hn4 : (n : Int) ≤ 12 := by omega
  have HC := Lib.hid hc
  clear hrd hL hLl hck hk hkf hc
  have hu := Try.underlying24
  have hu2 := Try.underlying33
  have hu3 := Try.underlying52
  have hu4 := Try.underlying54
  obtain ⟨w10, w11⟩ := wf_u8 w1
  obtain ⟨w20, w21⟩ := wf_u8 w2
  obtain ⟨w30, w31⟩ := wf_u8 w3
  unfold maxLen at hl0
  go_enter Try.func5, Try.ntmps5
  have HRw := Lib.hid hr0_4
  clear hr0_4 hm0 w1 w2 w3 w4
  go_wp2_with fail
  obtain ⟨W0, hW0⟩ : ∃ W0, w.alloc (.cells #[.int .i64 n, .int .i64 a0_1, .int .i64 a0_2, .int .i64 a0_3, .slice A0_4 l0_4.length c0_4] 24) = W0 := ⟨_, rfl⟩
  have hb0 : Below w.heap.size w W0 := by rw [← hW0]; exact (Below.refl _ w).alloc (Nat.le_refl _) _
  have HSC : Hid (W0.heap[w.heap.size]? = some (.cells #[.int .i64 n, .int .i64 a0_1, .int .i64 a0_2, .int .i64 a0_3, .slice A0_4 l0_4.length c0_4] 24 (0, 0))) := Lib.hid (by rw [← hW0]; exact heap_new rfl)
  rw [hW0]
  clear hW0
  have HR := Lib.hid (Kd.C_below HRw.out hb0)
  have HB := Lib.hid hb0
  clear hb0 HRw
  refine (ready.W _ HR.out hc0_4 HRD.out).mono ?_
  rintro e V1 ⟨rfl, hb⟩
  replace HSC := Lib.hid (blkBel HSC.out hb)
  replace HR := Lib.hid (Kd.C_below HR.out hb)
  replace HB := Lib.hid (below_then HB.out HB.out.size hb)
  clear hb
  obtain ⟨e0, e1, e2, e3, e4⟩ := agg5 HSC.out
  have kz := (Array.getElem?_eq_some_iff.1 HSC.out).1
  go_wp2_with fail
  have kz0 := kz
  have HR1 := Lib.hid HR.out
  have HSC1 := Lib.hid HSC.out
  have HB1 := Lib.hid HB.out
  have HBB := Lib.hid (Below.refl V1.heap.size V1)
  refine (Scene.R HL.out hLp _ HR.out hc0_4 (by omega)).mono ?_
  rintro e V2 ⟨g, cg, cur, rfl, hcg, hgs, hgh, hC, hb⟩
  replace HSC := Lib.hid (blkBel HSC.out hb)
  replace HR := Lib.hid (Kd.C_below HR.out hb)
  replace HBB := Lib.hid (below_then HBB.out HBB.out.size hb)
  replace HB := Lib.hid (below_then HB.out HB.out.size hb)
  have HCg := Lib.hid hC
  clear hC
  have HGH := Lib.hid hgh
  clear hgh
  clear hb
  clear e0 e1 e2 e3 e4 kz
  obtain ⟨e0, e1, e2, e3, e4⟩ := agg5 HSC.out
  have kz := (Array.getElem?_eq_some_iff.1 HSC.out).1
  have HCg2 := Lib.hid HCg.out
  have HBB2 := Lib.hid (Below.refl V2.heap.size V2)
  have hg2 : g < V2.heap.size := (Array.getElem?_eq_some_iff.1 HGH.out).1
  go_wp2_with fail
  obtain ⟨V3, hW⟩ : ∃ W, V2.alloc (.cells #[.int .i64 n, .int .i64 a0_1, .int .i64 a0_2, .int .i64 a0_3, .slice (some ⟨g, 0, none⟩) L.length cg] 33) = W := ⟨_, rfl⟩
  have hb : Below V2.heap.size V2 V3 := by rw [← hW]; exact (Below.refl _ V2).alloc (Nat.le_refl _) _
  have HXB : Hid (V3.heap[V2.heap.size]? = some (.cells #[.int .i64 n, .int .i64 a0_1, .int .i64 a0_2, .int .i64 a0_3, .slice (some ⟨g, 0, none⟩) L.length cg] 33 (0, 0))) := Lib.hid (by rw [← hW]; exact heap_new rfl)
  rw [hW]
  clear hW
  replace HSC := Lib.hid (blkBel HSC.out hb)
  replace HR := Lib.hid (Kd.C_below HR.out hb)
  replace HBB := Lib.hid (below_then HBB.out HBB.out.size hb)
  replace HCg := Lib.hid (Kd.C_below HCg.out hb)
  replace HGH := Lib.hid (blkBel HGH.out hb)
  replace HBB2 := Lib.hid (below_then HBB2.out HBB2.out.size hb)
  replace HB := Lib.hid (below_then HB.out HB.out.size hb)
  clear hb
  have hxz : V2.heap.size < V3.heap.size := (Array.getElem?_eq_some_iff.1 HXB.out).1
  clear e0 e1 e2 e3 e4 kz
  obtain ⟨e0, e1, e2, e3, e4⟩ := agg5 HSC.out
  have kz := (Array.getElem?_eq_some_iff.1 HSC.out).1
  obtain ⟨x0, x1, x2, x3, x4⟩ := agg5 HXB.out
  have hwr : IntKind.i64.wrap a1 = a1 := IntWalk.i64_in _ (by omega)
  have hwk : IntKind.i64.wrap (k : Int) = (k : Int) := IntWalk.i64_in _ (by omega)
  have htm : a1.tmod (L.length : Int) = (k : Int) := by rw [Int.tmod_eq_emod_of_nonneg (by omega)]; exact HK.out
  have hL0 : (L.length : Int) ≠ 0 := by omega
  have hkt : ((k : Int)).toNat = k := Int.toNat_natCast k
  go_wp2_with fail
  go_quiet (fail)
  obtain ⟨V4, hW⟩ : ∃ W, V3.drewN nq = W := ⟨_, rfl⟩
  have hb : Below V3.heap.size V3 V4 := by rw [← hW]; exact pw_below_drewN (Below.refl _ _) _
  rw [hW]
  clear hW
  replace HSC := Lib.hid (blkBel HSC.out hb)
  replace HR := Lib.hid (Kd.C_below HR.out hb)
  replace HBB := Lib.hid (below_then HBB.out HBB.out.size hb)
  replace HCg := Lib.hid (Kd.C_below HCg.out hb)
  replace HGH := Lib.hid (blkBel HGH.out hb)
  replace HBB2 := Lib.hid (below_then HBB2.out HBB2.out.size hb)
  replace HXB := Lib.hid (blkBel HXB.out hb)
  replace x0 := (hb.cell (World.block_lt_of_cell? _ _ x0)).trans x0
  replace x1 := (hb.cell (World.block_lt_of_cell? _ _ x1)).trans x1
  replace x2 := (hb.cell (World.block_lt_of_cell? _ _ x2)).trans x2
  replace x3 := (hb.cell (World.block_lt_of_cell? _ _ x3)).trans x3
  replace x4 := (hb.cell (World.block_lt_of_cell? _ _ x4)).trans x4
  replace HB := Lib.hid (below_then HB.out HB.out.size hb)
  clear hb
  clear e0 e1 e2 e3 e4 kz
  obtain ⟨e0, e1, e2, e3, e4⟩ := agg5 HSC.out
  have kz := (Array.getElem?_eq_some_iff.1 HSC.out).1
  clear hwr hwk htm
  obtain ⟨ad, hadA, m0, m1⟩ := at_T52 HCg.out k (by omega) (by omega)
  rw [rd52 hkL, Int.toNat_natCast, HKF.out] at m0 m1
  simp only [] at m0 m1
  cases hadA
  have hadd : Addr.add ⟨g, 0, none⟩ (k * 2) = ⟨g, k * 2, none⟩ := by generalize k * 2 = m; rcases m with _ | m <;> simp [Addr.add]
  rw [hadd] at m0 m1
  simp only [] at m0 m1
  have hfz := not_frozen (i := k * 2) HGH.out
  have hfz1 := not_frozen (i := k * 2 + 1) HGH.out
  have hfx1 := not_frozen (i := 1) HXB.out
  have hfx2 := not_frozen (i := 2) HXB.out
  have hfx3 := not_frozen (i := 3) HXB.out
  have hne1 : ¬ w.heap.size = g := by omega
  have hne2 : ¬ g = w.heap.size := by omega
  have hne3 : ¬ w.heap.size = V2.heap.size := by omega
  have hne4 : ¬ V2.heap.size = w.heap.size := by omega
  have hc := HC.out
  go_wp2_with fail
  obtain ⟨Vs, hW⟩ : ∃ W, V4.setCell ⟨V2.heap.size, 3, none⟩ (.int .i64 (20)) = W := ⟨_, rfl⟩
  have hb : Below V1.heap.size V1 Vs := by rw [← hW]; exact HBB.out.setCell (by show V1.heap.size ≤ V2.heap.size; omega) _
  have hb2 : Below V2.heap.size V2 Vs := by rw [← hW]; exact HBB2.out.setCell (Nat.le_refl _) _
  have hC2 : Kd.C k52 Vs (some ⟨g, 0, none⟩) L.length L := Kd.C_below HCg2.out hb2
  have hxb0 := heap_set HXB.out 3 (.int .i64 (20))
  rw [hW] at hxb0
  have hxb : Vs.heap[V2.heap.size]? = some (.cells #[.int .i64 n, .int .i64 a0_1, .int .i64 a0_2, .int .i64 (20), .slice (some ⟨g, 0, none⟩) L.length cg] 33 (0, 0)) := by simpa using hxb0
  rw [hW]
  clear hW hb2 hxb0 hc
  replace HR := Lib.hid (Kd.C_below HR1.out hb)
  replace HSC := Lib.hid (blkBel HSC1.out hb)
  replace HB := Lib.hid (below_then HB1.out HB1.out.size hb)
  have HCL := Lib.hid hC2
  have HXN := Lib.hid hxb
  clear hb hC2 hxb HCg HGH HXB HBB HBB2 HCg2 HR1 HSC1 HB1 m0 m1 hfz hfz1 hfx1 hfx2 hfx3 hne1 hne2 hne3 hne4 hadd x0 x1 x2 x3 x4 hg2 hxz hgs hkt hL0 kz0 e0 e1 e2 e3 e4 kz
  obtain ⟨e0, e1, e2, e3, e4⟩ := agg5 HSC.out
  have kz := (Array.getElem?_eq_some_iff.1 HSC.out).1
  refine (Scene.W HL.out _ HR.out hc0_4 (by omega)).mono ?_
  rintro e V5 ⟨Ax5, cx5, rfl, hcx5, hC, hb⟩
  replace HR := Lib.hid (Kd.C_below HR.out hb)
  replace HSC := Lib.hid (blkBel HSC.out hb)
  replace HCL := Lib.hid (Kd.C_below HCL.out hb)
  replace HXN := Lib.hid (blkBel HXN.out hb)
  replace HB := Lib.hid (below_then HB.out HB.out.size hb)
  have HCx5 := Lib.hid hC
  clear hC
  clear hb
  clear e0 e1 e2 e3 e4 kz
  obtain ⟨e0, e1, e2, e3, e4⟩ := agg5 HSC.out
  have kz := (Array.getElem?_eq_some_iff.1 HSC.out).1
  go_wp2_with fail
  refine (Who.W _ HCx5.out hcx5 HWA.out).mono ?_
  rintro e V6 ⟨Ax6, cx6, rfl, hcx6, hC, hb⟩
  replace HR := Lib.hid (Kd.C_below HR.out hb)
  replace HSC := Lib.hid (blkBel HSC.out hb)
  replace HCL := Lib.hid (Kd.C_below HCL.out hb)
  replace HXN := Lib.hid (blkBel HXN.out hb)
  replace HCx5 := Lib.hid (Kd.C_below HCx5.out hb)
  replace HB := Lib.hid (below_then HB.out HB.out.size hb)
  have HCx6 := Lib.hid hC
  clear hC
  clear hb
  clear e0 e1 e2 e3 e4 kz
  obtain ⟨e0, e1, e2, e3, e4⟩ := agg5 HSC.out
  have kz := (Array.getElem?_eq_some_iff.1 HSC.out).1
  clear HCx5
  obtain ⟨x0, x1, x2, x3, x4⟩ := agg5 HXN.out
  go_wp2_with fail
  refine (Who.W _ HCL.out hcg HWB.out).mono ?_
  rintro e V7 ⟨Ax7, cx7, rfl, hcx7, hC, hb⟩
  replace HR := Lib.hid (Kd.C_below HR.out hb)
  replace HSC := Lib.hid (blkBel HSC.out hb)
  replace HCL := Lib.hid (Kd.C_below HCL.out hb)
  replace HXN := Lib.hid (blkBel HXN.out hb)
  replace HCx6 := Lib.hid (Kd.C_below HCx6.out hb)
  replace HB := Lib.hid (below_then HB.out HB.out.size hb)
  have HCx7 := Lib.hid hC
  clear hC
  clear hb
  clear e0 e1 e2 e3 e4 kz
  obtain ⟨e0, e1, e2, e3, e4⟩ := agg5 HSC.out
  have kz := (Array.getElem?_eq_some_iff.1 HSC.out).1
  clear x0 x1 x2 x3 x4
  go_wp2_with fail
  refine (awake.W _).mono ?_
  rintro e V8 ⟨rfl, hb⟩
  replace HR := Lib.hid (Kd.C_below HR.out hb)
  replace HSC := Lib.hid (blkBel HSC.out hb)
  replace HCL := Lib.hid (Kd.C_below HCL.out hb)
  replace HXN := Lib.hid (blkBel HXN.out hb)
  replace HCx6 := Lib.hid (Kd.C_below HCx6.out hb)
  replace HCx7 := Lib.hid (Kd.C_below HCx7.out hb)
  replace HB := Lib.hid (below_then HB.out HB.out.size hb)
  clear hb
  go_wp2_with fail
  go_ret
  exact ⟨rfl, HB.out⟩
set_option maxRecDepth 100000 in
set_option maxHeartbeats 8000000 in
theorem palantypelaw02_FloorLess.told3b (n : Nat) (a0_1 a0_2 a0_3 : Int) (A0_4 : Option Addr) (c0_4 : Nat) (l0_4 : List RM) (a1 : Int) (a2 : Int) (a3 : Int) (a4 : Int) (w : World) (hr0_4 : Kd.C k59 w A0_4 l0_4.length l0_4) (hc0_4 : l0_4.length ≤ c0_4) (hm0 : ∀ y ∈ l0_4, (Lit.int .u16 y.f0).wf = true ∧ (Lit.int .u16 y.f1).wf = true) (hl0 : l0_4.length ≤ maxLen) (w1 : (Lit.int .u8 a1).wf = true) (w2 : (Lit.int .u8 a2).wf = true) (w3 : (Lit.int .u8 a3).wf = true) (w4 : (Lit.int .u16 a4).wf = true) (hrd : Ev (fun k => palantypelaw02_ready.f k n a0_1 a0_2 a0_3 l0_4) true) (h0 : 0 < l0_4.length) (L : List FM) (hL : l0_4.map mo = L) (hLl : L.length = l0_4.length) (hck : floor_Scene_check.f n a0_1 a0_2 a0_3 L = some 0) (hL40 : l0_4.length ≤ 40) (hL40b : L.length ≤ 40) (hn1 : 1 ≤ n) (hn2 : n ≤ 12) (k : Nat) (hk : a1 % (L.length : Int) = k) (hkL : k < L.length) (f0 f1 : Int) (hkf : L[k] = ⟨f0, f1⟩) (h20 : 0 ≤ a0_2 ∧ a0_2 ≤ 20) (h21 : 1 ≤ a0_1 ∧ a0_1 ≤ 20) (h22 : 0 ≤ a0_3 ∧ a0_3 ≤ 20) (hc : a2 % 5 = 3) (hv : 20 ≤ a0_3 + a3 % 20) (wa wb : List FT) (hWA : floor_Who.f n a0_1 a0_2 a0_3 L = some (wa, 0)) (hWB : floor_Who.f n a0_1 a0_2 (20) L = some (wb, 0)) (hwa : wa.length = l0_4.length) (hwb : wb.length = l0_4.length) (hsub : ∀ i (h : i < wa.length), ∃ h2 : i < wb.length, Go.bits .andNot .u16 wa[i].f0 wb[i].f0 = 0 ∧ Go.bits .andNot .u16 wa[i].f1 wb[i].f1 = 0) :
    Calls Try.prog 5 #[.agg #[.int .i64 n, .int .i64 a0_1, .int .i64 a0_2, .int .i64 a0_3, .slice A0_4 l0_4.length c0_4], .int .u8 a1, .int .u8 a2, .int .u8 a3, .int .u16 a4] w fun e w' => e = .returned (.bool true) ∧ Below w.heap.size w w' := by
  have HWA := Lib.hid hWA
  have HWB := Lib.hid hWB
  have HSUB := Lib.hid hsub
  have q1 : ((wa.length : Int) != (l0_4.length : Int)) = false := by simp; omega
  have q2 : ((wb.length : Int) != (wa.length : Int)) = false := by simp; omega
  have hwa40 : wa.length ≤ 40 := by omega
  have hwb40 : wb.length ≤ 40 := by omega
  clear hWA hWB hsub hwa hwb
  have HRD := Lib.hid hrd
  have HL := Lib.hid hL
  have HLL := Lib.hid hLl
  have HCK := Lib.hid hck
  have HK := Lib.hid hk
  have HKF := Lib.hid hkf
  have h00 : ((l0_4.length : Int) == 0) = false := beq_eq_false_iff_ne.2 (by omega)
  have hLp : 0 < L.length := by omega
  have hLp2 : (0 : Int) < (L.length : Int) := by omega
  have hLp3 : ((L.length : Int) == 0) = false := beq_eq_false_iff_ne.2 (by omega)
  have hkL2 : (k : Int) < (L.length : Int) := by omega
  have hkL0 : (0 : Int) ≤ (k : Int) := by omega
  obtain ⟨h201, h202⟩ := h20
  obtain ⟨h211, h212⟩ := h21
  obtain ⟨h221, h222⟩ := h22
  have hn3 : (1 : Int) ≤ n := by omega
  have hn4 : (n : Int) ≤ 12 := by omega
  have HC := Lib.hid hc
  clear hrd hL hLl hck hk hkf hc
  have hu := Try.underlying24
  have hu2 := Try.underlying33
  have hu3 := Try.underlying52
  have hu4 := Try.underlying54
  obtain ⟨w10, w11⟩ := wf_u8 w1
  obtain ⟨w20, w21⟩ := wf_u8 w2
  obtain ⟨w30, w31⟩ := wf_u8 w3
  unfold maxLen at hl0
  go_enter Try.func5, Try.ntmps5
  have HRw := Lib.hid hr0_4
  clear hr0_4 hm0 w1 w2 w3 w4
  go_wp2_with fail
  obtain ⟨W0, hW0⟩ : ∃ W0, w.alloc (.cells #[.int .i64 n, .int .i64 a0_1, .int .i64 a0_2, .int .i64 a0_3, .slice A0_4 l0_4.length c0_4] 24) = W0 := ⟨_, rfl⟩
  have hb0 : Below w.heap.size w W0 := by rw [← hW0]; exact (Below.refl _ w).alloc (Nat.le_refl _) _
  have HSC : Hid (W0.heap[w.heap.size]? = some (.cells #[.int .i64 n, .int .i64 a0_1, .int .i64 a0_2, .int .i64 a0_3, .slice A0_4 l0_4.length c0_4] 24 (0, 0))) := Lib.hid (by rw [← hW0]; exact heap_new rfl)
  rw [hW0]
  clear hW0
  have HR := Lib.hid (Kd.C_below HRw.out hb0)
  have HB := Lib.hid hb0
  clear hb0 HRw
  refine (ready.W _ HR.out hc0_4 HRD.out).mono ?_
  rintro e V1 ⟨rfl, hb⟩
  replace HSC := Lib.hid (blkBel HSC.out hb)
  replace HR := Lib.hid (Kd.C_below HR.out hb)
  replace HB := Lib.hid (below_then HB.out HB.out.size hb)
  clear hb
  obtain ⟨e0, e1, e2, e3, e4⟩ := agg5 HSC.out
  have kz := (Array.getElem?_eq_some_iff.1 HSC.out).1
  go_wp2_with fail
  have kz0 := kz
  have HR1 := Lib.hid HR.out
  have HSC1 := Lib.hid HSC.out
  have HB1 := Lib.hid HB.out
  have HBB := Lib.hid (Below.refl V1.heap.size V1)
  refine (Scene.R HL.out hLp _ HR.out hc0_4 (by omega)).mono ?_
  rintro e V2 ⟨g, cg, cur, rfl, hcg, hgs, hgh, hC, hb⟩
  replace HSC := Lib.hid (blkBel HSC.out hb)
  replace HR := Lib.hid (Kd.C_below HR.out hb)
  replace HBB := Lib.hid (below_then HBB.out HBB.out.size hb)
  replace HB := Lib.hid (below_then HB.out HB.out.size hb)
  have HCg := Lib.hid hC
  clear hC
  have HGH := Lib.hid hgh
  clear hgh
  clear hb
  clear e0 e1 e2 e3 e4 kz
  obtain ⟨e0, e1, e2, e3, e4⟩ := agg5 HSC.out
  have kz := (Array.getElem?_eq_some_iff.1 HSC.out).1
  have HCg2 := Lib.hid HCg.out
  have HBB2 := Lib.hid (Below.refl V2.heap.size V2)
  have hg2 : g < V2.heap.size := (Array.getElem?_eq_some_iff.1 HGH.out).1
  go_wp2_with fail
  obtain ⟨V3, hW⟩ : ∃ W, V2.alloc (.cells #[.int .i64 n, .int .i64 a0_1, .int .i64 a0_2, .int .i64 a0_3, .slice (some ⟨g, 0, none⟩) L.length cg] 33) = W := ⟨_, rfl⟩
  have hb : Below V2.heap.size V2 V3 := by rw [← hW]; exact (Below.refl _ V2).alloc (Nat.le_refl _) _
  have HXB : Hid (V3.heap[V2.heap.size]? = some (.cells #[.int .i64 n, .int .i64 a0_1, .int .i64 a0_2, .int .i64 a0_3, .slice (some ⟨g, 0, none⟩) L.length cg] 33 (0, 0))) := Lib.hid (by rw [← hW]; exact heap_new rfl)
  rw [hW]
  clear hW
  replace HSC := Lib.hid (blkBel HSC.out hb)
  replace HR := Lib.hid (Kd.C_below HR.out hb)
  replace HBB := Lib.hid (below_then HBB.out HBB.out.size hb)
  replace HCg := Lib.hid (Kd.C_below HCg.out hb)
  replace HGH := Lib.hid (blkBel HGH.out hb)
  replace HBB2 := Lib.hid (below_then HBB2.out HBB2.out.size hb)
  replace HB := Lib.hid (below_then HB.out HB.out.size hb)
  clear hb
  have hxz : V2.heap.size < V3.heap.size := (Array.getElem?_eq_some_iff.1 HXB.out).1
  clear e0 e1 e2 e3 e4 kz
  obtain ⟨e0, e1, e2, e3, e4⟩ := agg5 HSC.out
  have kz := (Array.getElem?_eq_some_iff.1 HSC.out).1
  obtain ⟨x0, x1, x2, x3, x4⟩ := agg5 HXB.out
  have hwr : IntKind.i64.wrap a1 = a1 := IntWalk.i64_in _ (by omega)
  have hwk : IntKind.i64.wrap (k : Int) = (k : Int) := IntWalk.i64_in _ (by omega)
  have htm : a1.tmod (L.length : Int) = (k : Int) := by rw [Int.tmod_eq_emod_of_nonneg (by omega)]; exact HK.out
  have hL0 : (L.length : Int) ≠ 0 := by omega
  have hkt : ((k : Int)).toNat = k := Int.toNat_natCast k
  go_wp2_with fail
  go_quiet (fail)
  obtain ⟨V4, hW⟩ : ∃ W, V3.drewN nq = W := ⟨_, rfl⟩
  have hb : Below V3.heap.size V3 V4 := by rw [← hW]; exact pw_below_drewN (Below.refl _ _) _
  rw [hW]
  clear hW
  replace HSC := Lib.hid (blkBel HSC.out hb)
  replace HR := Lib.hid (Kd.C_below HR.out hb)
  replace HBB := Lib.hid (below_then HBB.out HBB.out.size hb)
  replace HCg := Lib.hid (Kd.C_below HCg.out hb)
  replace HGH := Lib.hid (blkBel HGH.out hb)
  replace HBB2 := Lib.hid (below_then HBB2.out HBB2.out.size hb)
  replace HXB := Lib.hid (blkBel HXB.out hb)
  replace x0 := (hb.cell (World.block_lt_of_cell? _ _ x0)).trans x0
  replace x1 := (hb.cell (World.block_lt_of_cell? _ _ x1)).trans x1
  replace x2 := (hb.cell (World.block_lt_of_cell? _ _ x2)).trans x2
  replace x3 := (hb.cell (World.block_lt_of_cell? _ _ x3)).trans x3
  replace x4 := (hb.cell (World.block_lt_of_cell? _ _ x4)).trans x4
  replace HB := Lib.hid (below_then HB.out HB.out.size hb)
  clear hb
  clear e0 e1 e2 e3 e4 kz
  obtain ⟨e0, e1, e2, e3, e4⟩ := agg5 HSC.out
  have kz := (Array.getElem?_eq_some_iff.1 HSC.out).1
  clear hwr hwk htm
  obtain ⟨ad, hadA, m0, m1⟩ := at_T52 HCg.out k (by omega) (by omega)
  rw [rd52 hkL, Int.toNat_natCast, HKF.out] at m0 m1
  simp only [] at m0 m1
  cases hadA
  have hadd : Addr.add ⟨g, 0, none⟩ (k * 2) = ⟨g, k * 2, none⟩ := by generalize k * 2 = m; rcases m with _ | m <;> simp [Addr.add]
  rw [hadd] at m0 m1
  simp only [] at m0 m1
  have hfz := not_frozen (i := k * 2) HGH.out
  have hfz1 := not_frozen (i := k * 2 + 1) HGH.out
  have hfx1 := not_frozen (i := 1) HXB.out
  have hfx2 := not_frozen (i := 2) HXB.out
  have hfx3 := not_frozen (i := 3) HXB.out
  have hne1 : ¬ w.heap.size = g := by omega
  have hne2 : ¬ g = w.heap.size := by omega
  have hne3 : ¬ w.heap.size = V2.heap.size := by omega
  have hne4 : ¬ V2.heap.size = w.heap.size := by omega
  have hc := HC.out
  go_wp2_with fail
  obtain ⟨Vs, hW⟩ : ∃ W, V4.setCell ⟨V2.heap.size, 3, none⟩ (.int .i64 (20)) = W := ⟨_, rfl⟩
  have hb : Below V1.heap.size V1 Vs := by rw [← hW]; exact HBB.out.setCell (by show V1.heap.size ≤ V2.heap.size; omega) _
  have hb2 : Below V2.heap.size V2 Vs := by rw [← hW]; exact HBB2.out.setCell (Nat.le_refl _) _
  have hC2 : Kd.C k52 Vs (some ⟨g, 0, none⟩) L.length L := Kd.C_below HCg2.out hb2
  have hxb0 := heap_set HXB.out 3 (.int .i64 (20))
  rw [hW] at hxb0
  have hxb : Vs.heap[V2.heap.size]? = some (.cells #[.int .i64 n, .int .i64 a0_1, .int .i64 a0_2, .int .i64 (20), .slice (some ⟨g, 0, none⟩) L.length cg] 33 (0, 0)) := by simpa using hxb0
  rw [hW]
  clear hW hb2 hxb0 hc
  replace HR := Lib.hid (Kd.C_below HR1.out hb)
  replace HSC := Lib.hid (blkBel HSC1.out hb)
  replace HB := Lib.hid (below_then HB1.out HB1.out.size hb)
  have HCL := Lib.hid hC2
  have HXN := Lib.hid hxb
  clear hb hC2 hxb HCg HGH HXB HBB HBB2 HCg2 HR1 HSC1 HB1 m0 m1 hfz hfz1 hfx1 hfx2 hfx3 hne1 hne2 hne3 hne4 hadd x0 x1 x2 x3 x4 hg2 hxz hgs hkt hL0 kz0 e0 e1 e2 e3 e4 kz
  obtain ⟨e0, e1, e2, e3, e4⟩ := agg5 HSC.out
  have kz := (Array.getElem?_eq_some_iff.1 HSC.out).1
  refine (Scene.W HL.out _ HR.out hc0_4 (by omega)).mono ?_
  rintro e V5 ⟨Ax5, cx5, rfl, hcx5, hC, hb⟩
  replace HR := Lib.hid (Kd.C_below HR.out hb)
  replace HSC := Lib.hid (blkBel HSC.out hb)
  replace HCL := Lib.hid (Kd.C_below HCL.out hb)
  replace HXN := Lib.hid (blkBel HXN.out hb)
  replace HB := Lib.hid (below_then HB.out HB.out.size hb)
  have HCx5 := Lib.hid hC
  clear hC
  clear hb
  clear e0 e1 e2 e3 e4 kz
  obtain ⟨e0, e1, e2, e3, e4⟩ := agg5 HSC.out
  have kz := (Array.getElem?_eq_some_iff.1 HSC.out).1
  go_wp2_with fail
  refine (Who.W _ HCx5.out hcx5 HWA.out).mono ?_
  rintro e V6 ⟨Ax6, cx6, rfl, hcx6, hC, hb⟩
  replace HR := Lib.hid (Kd.C_below HR.out hb)
  replace HSC := Lib.hid (blkBel HSC.out hb)
  replace HCL := Lib.hid (Kd.C_below HCL.out hb)
  replace HXN := Lib.hid (blkBel HXN.out hb)
  replace HCx5 := Lib.hid (Kd.C_below HCx5.out hb)
  replace HB := Lib.hid (below_then HB.out HB.out.size hb)
  have HCx6 := Lib.hid hC
  clear hC
  clear hb
  clear e0 e1 e2 e3 e4 kz
  obtain ⟨e0, e1, e2, e3, e4⟩ := agg5 HSC.out
  have kz := (Array.getElem?_eq_some_iff.1 HSC.out).1
  clear HCx5
  obtain ⟨x0, x1, x2, x3, x4⟩ := agg5 HXN.out
  go_wp2_with fail
  refine (Who.W _ HCL.out hcg HWB.out).mono ?_
  rintro e V7 ⟨Ax7, cx7, rfl, hcx7, hC, hb⟩
  replace HR := Lib.hid (Kd.C_below HR.out hb)
  replace HSC := Lib.hid (blkBel HSC.out hb)
  replace HCL := Lib.hid (Kd.C_below HCL.out hb)
  replace HXN := Lib.hid (blkBel HXN.out hb)
  replace HCx6 := Lib.hid (Kd.C_below HCx6.out hb)
  replace HB := Lib.hid (below_then HB.out HB.out.size hb)
  have HCx7 := Lib.hid hC
  clear hC
  clear hb
  clear e0 e1 e2 e3 e4 kz
  obtain ⟨e0, e1, e2, e3, e4⟩ := agg5 HSC.out
  have kz := (Array.getElem?_eq_some_iff.1 HSC.out).1
  clear x0 x1 x2 x3 x4
  go_wp2_with fail
  clear q1 q2 e0 e1 e2 e3 e4 kz
  clear HR HSC HCL HXN
  go_loopg [18] wa.length (fun kq v18 w' => ∃ (i : Nat), v18 = .int .i64 i ∧ Hid (kq + i = wa.length) ∧ Hid (Below V7.heap.size V7 w'))
  case atStart => exact ⟨0, rfl, Lib.hid (by omega), Lib.hid (Below.refl _ _)⟩
  case round =>
    obtain ⟨i, rfl, HI, HBW⟩ := hrel
    have hiq := HI.out
    clear HI
    have hb := HBW.out
    replace HCx6 := Lib.hid (Kd.C_below HCx6.out hb)
    replace HCx7 := Lib.hid (Kd.C_below HCx7.out hb)
    replace HB := Lib.hid (below_then HB.out HB.out.size hb)
    clear hb
    cases gk with
    | zero =>
      obtain rfl : i = wa.length := by omega
      clear hiq
      go_wp2_with fail
      refine (awake.W _).mono ?_
      rintro e V8 ⟨rfl, hb⟩
      replace HCx6 := Lib.hid (Kd.C_below HCx6.out hb)
      replace HCx7 := Lib.hid (Kd.C_below HCx7.out hb)
      replace HBW := Lib.hid (below_then HBW.out HBW.out.size hb)
      replace HB := Lib.hid (below_then HB.out HB.out.size hb)
      clear hb
      go_wp2_with fail
      go_ret
      exact ⟨rfl, HB.out⟩
    | succ k1 =>
      have hlt : i < wa.length := by omega
      have hlt2 : (i : Int) < wa.length := by omega
      have hi0 : (0 : Int) ≤ (i : Int) := by omega
      obtain ⟨hlb, z0, z1⟩ := HSUB.out i hlt
      have hlb2 : (i : Int) < wb.length := by omega
      obtain ⟨ad, hadA, m0, m1⟩ := at_T54 HCx6.out i (by omega) (by omega)
      rw [rd54 hlt, Int.toNat_natCast] at m0 m1
      obtain ⟨ad2, hadA2, n0, n1⟩ := at_T54 HCx7.out i (by omega) (by omega)
      rw [rd54 hlb, Int.toNat_natCast] at n0 n1
      obtain ⟨⟨pf, ph⟩, hpa⟩ : ∃ m, wa[i] = m := ⟨_, rfl⟩
      obtain ⟨⟨qf, qh⟩, hpb⟩ : ∃ m, wb[i] = m := ⟨_, rfl⟩
      rw [hpa] at m0 m1 z0 z1
      rw [hpb] at n0 n1 z0 z1
      simp only [] at m0 m1 n0 n1 z0 z1
      subst hadA hadA2
      have HIQ := Lib.hid hiq
      clear hpa hpb hiq
      go_wp2_with fail
      go_quiet (fail)
      obtain ⟨V8, hW⟩ : ∃ W, wr.drewN nq = W := ⟨_, rfl⟩
      have hb : Below wr.heap.size wr V8 := by rw [← hW]; exact pw_below_drewN (Below.refl _ _) _
      rw [hW]
      clear hW
      replace HCx6 := Lib.hid (Kd.C_below HCx6.out hb)
      replace HCx7 := Lib.hid (Kd.C_below HCx7.out hb)
      replace HBW := Lib.hid (below_then HBW.out HBW.out.size hb)
      replace m0 := (hb.cell (World.block_lt_of_cell? _ _ m0)).trans m0
      replace m1 := (hb.cell (World.block_lt_of_cell? _ _ m1)).trans m1
      replace n0 := (hb.cell (World.block_lt_of_cell? _ _ n0)).trans n0
      replace n1 := (hb.cell (World.block_lt_of_cell? _ _ n1)).trans n1
      replace HB := Lib.hid (below_then HB.out HB.out.size hb)
      clear hb
      go_wp2_with fail
      go_roundg k1
      case measure => omega
      case rel => exact ⟨i + 1, by simp, Lib.hid (by have := HIQ.out; omega), HBW⟩
set_option maxRecDepth 100000 in
set_option maxHeartbeats 8000000 in
theorem palantypelaw02_FloorLess.gap4a (n : Nat) (a0_1 a0_2 a0_3 : Int) (A0_4 : Option Addr) (c0_4 : Nat) (l0_4 : List RM) (a1 : Int) (a2 : Int) (a3 : Int) (a4 : Int) (w : World) (hr0_4 : Kd.C k59 w A0_4 l0_4.length l0_4) (hc0_4 : l0_4.length ≤ c0_4) (hm0 : ∀ y ∈ l0_4, (Lit.int .u16 y.f0).wf = true ∧ (Lit.int .u16 y.f1).wf = true) (hl0 : l0_4.length ≤ maxLen) (w1 : (Lit.int .u8 a1).wf = true) (w2 : (Lit.int .u8 a2).wf = true) (w3 : (Lit.int .u8 a3).wf = true) (w4 : (Lit.int .u16 a4).wf = true) (hrd : Ev (fun k => palantypelaw02_ready.f k n a0_1 a0_2 a0_3 l0_4) true) (h0 : 0 < l0_4.length) (L : List FM) (hL : l0_4.map mo = L) (hLl : L.length = l0_4.length) (hck : floor_Scene_check.f n a0_1 a0_2 a0_3 L = some 0) (hL40 : l0_4.length ≤ 40) (hL40b : L.length ≤ 40) (hn1 : 1 ≤ n) (hn2 : n ≤ 12) (k : Nat) (hk : a1 % (L.length : Int) = k) (hkL : k < L.length) (f0 f1 : Int) (hkf : L[k] = ⟨f0, f1⟩) (h20 : 0 ≤ a0_2 ∧ a0_2 ≤ 20) (h21 : 1 ≤ a0_1 ∧ a0_1 ≤ 20) (h22 : 0 ≤ a0_3 ∧ a0_3 ≤ 20) (hc : a2 % 5 = 4) (hv : 1 < a0_1 - a3 % 20) (hWA : floor_Who.f n a0_1 a0_2 a0_3 L = some ([], 10)) (wb : List FT) (eb : Int) (hWB : floor_Who.f n (a0_1 - a3 % 20) a0_2 a0_3 L = some (wb, eb)) :
    Calls Try.prog 5 #[.agg #[.int .i64 n, .int .i64 a0_1, .int .i64 a0_2, .int .i64 a0_3, .slice A0_4 l0_4.length c0_4], .int .u8 a1, .int .u8 a2, .int .u8 a3, .int .u16 a4] w fun e w' => e = .returned (.bool true) ∧ Below w.heap.size w w' := by
  have HWA := Lib.hid hWA
  have HWB := Lib.hid hWB
  clear hWA hWB
  have HRD := Lib.hid hrd
  have HL := Lib.hid hL
  have HLL := Lib.hid hLl
  have HCK := Lib.hid hck
  have HK := Lib.hid hk
  have HKF := Lib.hid hkf
  have h00 : ((l0_4.length : Int) == 0) = false := beq_eq_false_iff_ne.2 (by omega)
  have hLp : 0 < L.length := by omega
  have hLp2 : (0 : Int) < (L.length : Int) := by omega
  have hLp3 : ((L.length : Int) == 0) = false := beq_eq_false_iff_ne.2 (by omega)
  have hkL2 : (k : Int) < (L.length : Int) := by omega
  have hkL0 : (0 : Int) ≤ (k : Int) := by omega
  obtain ⟨h201, h202⟩ := h20
  obtain ⟨h211, h212⟩ := h21
  obtain ⟨h221, h222⟩ := h22
  have hn3 : (1 : Int) ≤ n := by omega
  have hn4 : (n : Int) ≤ 12 := by omega
  have HC := Lib.hid hc
  clear hrd hL hLl hck hk hkf hc
  have hu := Try.underlying24
  have hu2 := Try.underlying33
  have hu3 := Try.underlying52
  have hu4 := Try.underlying54
  obtain ⟨w10, w11⟩ := wf_u8 w1
  obtain ⟨w20, w21⟩ := wf_u8 w2
  obtain ⟨w30, w31⟩ := wf_u8 w3
  unfold maxLen at hl0
  go_enter Try.func5, Try.ntmps5
  have HRw := Lib.hid hr0_4
  clear hr0_4 hm0 w1 w2 w3 w4
  go_wp2_with fail
  obtain ⟨W0, hW0⟩ : ∃ W0, w.alloc (.cells #[.int .i64 n, .int .i64 a0_1, .int .i64 a0_2, .int .i64 a0_3, .slice A0_4 l0_4.length c0_4] 24) = W0 := ⟨_, rfl⟩
  have hb0 : Below w.heap.size w W0 := by rw [← hW0]; exact (Below.refl _ w).alloc (Nat.le_refl _) _
  have HSC : Hid (W0.heap[w.heap.size]? = some (.cells #[.int .i64 n, .int .i64 a0_1, .int .i64 a0_2, .int .i64 a0_3, .slice A0_4 l0_4.length c0_4] 24 (0, 0))) := Lib.hid (by rw [← hW0]; exact heap_new rfl)
  rw [hW0]
  clear hW0
  have HR := Lib.hid (Kd.C_below HRw.out hb0)
  have HB := Lib.hid hb0
  clear hb0 HRw
  refine (ready.W _ HR.out hc0_4 HRD.out).mono ?_
  rintro e V1 ⟨rfl, hb⟩
  replace HSC := Lib.hid (blkBel HSC.out hb)
  replace HR := Lib.hid (Kd.C_below HR.out hb)
  replace HB := Lib.hid (below_then HB.out HB.out.size hb)
  clear hb
  obtain ⟨e0, e1, e2, e3, e4⟩ := agg5 HSC.out
  have kz := (Array.getElem?_eq_some_iff.1 HSC.out).1
  go_wp2_with fail
  have kz0 := kz
  have HR1 := Lib.hid HR.out
  have HSC1 := Lib.hid HSC.out
  have HB1 := Lib.hid HB.out
  have HBB := Lib.hid (Below.refl V1.heap.size V1)
  refine (Scene.R HL.out hLp _ HR.out hc0_4 (by omega)).mono ?_
  rintro e V2 ⟨g, cg, cur, rfl, hcg, hgs, hgh, hC, hb⟩
  replace HSC := Lib.hid (blkBel HSC.out hb)
  replace HR := Lib.hid (Kd.C_below HR.out hb)
  replace HBB := Lib.hid (below_then HBB.out HBB.out.size hb)
  replace HB := Lib.hid (below_then HB.out HB.out.size hb)
  have HCg := Lib.hid hC
  clear hC
  have HGH := Lib.hid hgh
  clear hgh
  clear hb
  clear e0 e1 e2 e3 e4 kz
  obtain ⟨e0, e1, e2, e3, e4⟩ := agg5 HSC.out
  have kz := (Array.getElem?_eq_some_iff.1 HSC.out).1
  have HCg2 := Lib.hid HCg.out
  have HBB2 := Lib.hid (Below.refl V2.heap.size V2)
  have hg2 : g < V2.heap.size := (Array.getElem?_eq_some_iff.1 HGH.out).1
  go_wp2_with fail
  obtain ⟨V3, hW⟩ : ∃ W, V2.alloc (.cells #[.int .i64 n, .int .i64 a0_1, .int .i64 a0_2, .int .i64 a0_3, .slice (some ⟨g, 0, none⟩) L.length cg] 33) = W := ⟨_, rfl⟩
  have hb : Below V2.heap.size V2 V3 := by rw [← hW]; exact (Below.refl _ V2).alloc (Nat.le_refl _) _
  have HXB : Hid (V3.heap[V2.heap.size]? = some (.cells #[.int .i64 n, .int .i64 a0_1, .int .i64 a0_2, .int .i64 a0_3, .slice (some ⟨g, 0, none⟩) L.length cg] 33 (0, 0))) := Lib.hid (by rw [← hW]; exact heap_new rfl)
  rw [hW]
  clear hW
  replace HSC := Lib.hid (blkBel HSC.out hb)
  replace HR := Lib.hid (Kd.C_below HR.out hb)
  replace HBB := Lib.hid (below_then HBB.out HBB.out.size hb)
  replace HCg := Lib.hid (Kd.C_below HCg.out hb)
  replace HGH := Lib.hid (blkBel HGH.out hb)
  replace HBB2 := Lib.hid (below_then HBB2.out HBB2.out.size hb)
  replace HB := Lib.hid (below_then HB.out HB.out.size hb)
  clear hb
  have hxz : V2.heap.size < V3.heap.size := (Array.getElem?_eq_some_iff.1 HXB.out).1
  clear e0 e1 e2 e3 e4 kz
  obtain ⟨e0, e1, e2, e3, e4⟩ := agg5 HSC.out
  have kz := (Array.getElem?_eq_some_iff.1 HSC.out).1
  obtain ⟨x0, x1, x2, x3, x4⟩ := agg5 HXB.out
  have hwr : IntKind.i64.wrap a1 = a1 := IntWalk.i64_in _ (by omega)
  have hwk : IntKind.i64.wrap (k : Int) = (k : Int) := IntWalk.i64_in _ (by omega)
  have htm : a1.tmod (L.length : Int) = (k : Int) := by rw [Int.tmod_eq_emod_of_nonneg (by omega)]; exact HK.out
  have hL0 : (L.length : Int) ≠ 0 := by omega
  have hkt : ((k : Int)).toNat = k := Int.toNat_natCast k
  go_wp2_with fail
  go_quiet (fail)
  obtain ⟨V4, hW⟩ : ∃ W, V3.drewN nq = W := ⟨_, rfl⟩
  have hb : Below V3.heap.size V3 V4 := by rw [← hW]; exact pw_below_drewN (Below.refl _ _) _
  rw [hW]
  clear hW
  replace HSC := Lib.hid (blkBel HSC.out hb)
  replace HR := Lib.hid (Kd.C_below HR.out hb)
  replace HBB := Lib.hid (below_then HBB.out HBB.out.size hb)
  replace HCg := Lib.hid (Kd.C_below HCg.out hb)
  replace HGH := Lib.hid (blkBel HGH.out hb)
  replace HBB2 := Lib.hid (below_then HBB2.out HBB2.out.size hb)
  replace HXB := Lib.hid (blkBel HXB.out hb)
  replace x0 := (hb.cell (World.block_lt_of_cell? _ _ x0)).trans x0
  replace x1 := (hb.cell (World.block_lt_of_cell? _ _ x1)).trans x1
  replace x2 := (hb.cell (World.block_lt_of_cell? _ _ x2)).trans x2
  replace x3 := (hb.cell (World.block_lt_of_cell? _ _ x3)).trans x3
  replace x4 := (hb.cell (World.block_lt_of_cell? _ _ x4)).trans x4
  replace HB := Lib.hid (below_then HB.out HB.out.size hb)
  clear hb
  clear e0 e1 e2 e3 e4 kz
  obtain ⟨e0, e1, e2, e3, e4⟩ := agg5 HSC.out
  have kz := (Array.getElem?_eq_some_iff.1 HSC.out).1
  clear hwr hwk htm
  obtain ⟨ad, hadA, m0, m1⟩ := at_T52 HCg.out k (by omega) (by omega)
  rw [rd52 hkL, Int.toNat_natCast, HKF.out] at m0 m1
  simp only [] at m0 m1
  cases hadA
  have hadd : Addr.add ⟨g, 0, none⟩ (k * 2) = ⟨g, k * 2, none⟩ := by generalize k * 2 = m; rcases m with _ | m <;> simp [Addr.add]
  rw [hadd] at m0 m1
  simp only [] at m0 m1
  have hfz := not_frozen (i := k * 2) HGH.out
  have hfz1 := not_frozen (i := k * 2 + 1) HGH.out
  have hfx1 := not_frozen (i := 1) HXB.out
  have hfx2 := not_frozen (i := 2) HXB.out
  have hfx3 := not_frozen (i := 3) HXB.out
  have hne1 : ¬ w.heap.size = g := by omega
  have hne2 : ¬ g = w.heap.size := by omega
  have hne3 : ¬ w.heap.size = V2.heap.size := by omega
  have hne4 : ¬ V2.heap.size = w.heap.size := by omega
  have hc := HC.out
  go_wp2_with fail
  obtain ⟨Vs, hW⟩ : ∃ W, V4.setCell ⟨V2.heap.size, 1, none⟩ (.int .i64 (a0_1 - a3 % 20)) = W := ⟨_, rfl⟩
  have hb : Below V1.heap.size V1 Vs := by rw [← hW]; exact HBB.out.setCell (by show V1.heap.size ≤ V2.heap.size; omega) _
  have hb2 : Below V2.heap.size V2 Vs := by rw [← hW]; exact HBB2.out.setCell (Nat.le_refl _) _
  have hC2 : Kd.C k52 Vs (some ⟨g, 0, none⟩) L.length L := Kd.C_below HCg2.out hb2
  have hxb0 := heap_set HXB.out 1 (.int .i64 (a0_1 - a3 % 20))
  rw [hW] at hxb0
  have hxb : Vs.heap[V2.heap.size]? = some (.cells #[.int .i64 n, .int .i64 (a0_1 - a3 % 20), .int .i64 a0_2, .int .i64 a0_3, .slice (some ⟨g, 0, none⟩) L.length cg] 33 (0, 0)) := by simpa using hxb0
  rw [hW]
  clear hW hb2 hxb0 hc
  replace HR := Lib.hid (Kd.C_below HR1.out hb)
  replace HSC := Lib.hid (blkBel HSC1.out hb)
  replace HB := Lib.hid (below_then HB1.out HB1.out.size hb)
  have HCL := Lib.hid hC2
  have HXN := Lib.hid hxb
  clear hb hC2 hxb HCg HGH HXB HBB HBB2 HCg2 HR1 HSC1 HB1 m0 m1 hfz hfz1 hfx1 hfx2 hfx3 hne1 hne2 hne3 hne4 hadd x0 x1 x2 x3 x4 hg2 hxz hgs hkt hL0 kz0 e0 e1 e2 e3 e4 kz
  obtain ⟨e0, e1, e2, e3, e4⟩ := agg5 HSC.out
  have kz := (Array.getElem?_eq_some_iff.1 HSC.out).1
  refine (Scene.W HL.out _ HR.out hc0_4 (by omega)).mono ?_
  rintro e V5 ⟨Ax5, cx5, rfl, hcx5, hC, hb⟩
  replace HR := Lib.hid (Kd.C_below HR.out hb)
  replace HSC := Lib.hid (blkBel HSC.out hb)
  replace HCL := Lib.hid (Kd.C_below HCL.out hb)
  replace HXN := Lib.hid (blkBel HXN.out hb)
  replace HB := Lib.hid (below_then HB.out HB.out.size hb)
  have HCx5 := Lib.hid hC
  clear hC
  clear hb
  clear e0 e1 e2 e3 e4 kz
  obtain ⟨e0, e1, e2, e3, e4⟩ := agg5 HSC.out
  have kz := (Array.getElem?_eq_some_iff.1 HSC.out).1
  go_wp2_with fail
  refine (Who.W _ HCx5.out hcx5 HWA.out).mono ?_
  rintro e V6 ⟨Ax6, cx6, rfl, hcx6, hC, hb⟩
  replace HR := Lib.hid (Kd.C_below HR.out hb)
  replace HSC := Lib.hid (blkBel HSC.out hb)
  replace HCL := Lib.hid (Kd.C_below HCL.out hb)
  replace HXN := Lib.hid (blkBel HXN.out hb)
  replace HCx5 := Lib.hid (Kd.C_below HCx5.out hb)
  replace HB := Lib.hid (below_then HB.out HB.out.size hb)
  have HCx6 := Lib.hid hC
  clear hC
  clear hb
  clear e0 e1 e2 e3 e4 kz
  obtain ⟨e0, e1, e2, e3, e4⟩ := agg5 HSC.out
  have kz := (Array.getElem?_eq_some_iff.1 HSC.out).1
  clear HCx5
  obtain ⟨x0, x1, x2, x3, x4⟩ := agg5 HXN.out
  go_wp2_with fail
  refine (Who.W _ HCL.out hcg HWB.out).mono ?_
  rintro e V7 ⟨Ax7, cx7, rfl, hcx7, hC, hb⟩
  replace HR := Lib.hid (Kd.C_below HR.out hb)
  replace HSC := Lib.hid (blkBel HSC.out hb)
  replace HCL := Lib.hid (Kd.C_below HCL.out hb)
  replace HXN := Lib.hid (blkBel HXN.out hb)
  replace HCx6 := Lib.hid (Kd.C_below HCx6.out hb)
  replace HB := Lib.hid (below_then HB.out HB.out.size hb)
  have HCx7 := Lib.hid hC
  clear hC
  clear hb
  clear e0 e1 e2 e3 e4 kz
  obtain ⟨e0, e1, e2, e3, e4⟩ := agg5 HSC.out
  have kz := (Array.getElem?_eq_some_iff.1 HSC.out).1
  clear x0 x1 x2 x3 x4
  go_wp2_with fail
  refine (awake.W _).mono ?_
  rintro e V8 ⟨rfl, hb⟩
  replace HR := Lib.hid (Kd.C_below HR.out hb)
  replace HSC := Lib.hid (blkBel HSC.out hb)
  replace HCL := Lib.hid (Kd.C_below HCL.out hb)
  replace HXN := Lib.hid (blkBel HXN.out hb)
  replace HCx6 := Lib.hid (Kd.C_below HCx6.out hb)
  replace HCx7 := Lib.hid (Kd.C_below HCx7.out hb)
  replace HB := Lib.hid (below_then HB.out HB.out.size hb)
  clear hb
  go_wp2_with fail
  go_ret
  exact ⟨rfl, HB.out⟩
set_option maxRecDepth 100000 in
set_option maxHeartbeats 8000000 in
theorem palantypelaw02_FloorLess.told4a (n : Nat) (a0_1 a0_2 a0_3 : Int) (A0_4 : Option Addr) (c0_4 : Nat) (l0_4 : List RM) (a1 : Int) (a2 : Int) (a3 : Int) (a4 : Int) (w : World) (hr0_4 : Kd.C k59 w A0_4 l0_4.length l0_4) (hc0_4 : l0_4.length ≤ c0_4) (hm0 : ∀ y ∈ l0_4, (Lit.int .u16 y.f0).wf = true ∧ (Lit.int .u16 y.f1).wf = true) (hl0 : l0_4.length ≤ maxLen) (w1 : (Lit.int .u8 a1).wf = true) (w2 : (Lit.int .u8 a2).wf = true) (w3 : (Lit.int .u8 a3).wf = true) (w4 : (Lit.int .u16 a4).wf = true) (hrd : Ev (fun k => palantypelaw02_ready.f k n a0_1 a0_2 a0_3 l0_4) true) (h0 : 0 < l0_4.length) (L : List FM) (hL : l0_4.map mo = L) (hLl : L.length = l0_4.length) (hck : floor_Scene_check.f n a0_1 a0_2 a0_3 L = some 0) (hL40 : l0_4.length ≤ 40) (hL40b : L.length ≤ 40) (hn1 : 1 ≤ n) (hn2 : n ≤ 12) (k : Nat) (hk : a1 % (L.length : Int) = k) (hkL : k < L.length) (f0 f1 : Int) (hkf : L[k] = ⟨f0, f1⟩) (h20 : 0 ≤ a0_2 ∧ a0_2 ≤ 20) (h21 : 1 ≤ a0_1 ∧ a0_1 ≤ 20) (h22 : 0 ≤ a0_3 ∧ a0_3 ≤ 20) (hc : a2 % 5 = 4) (hv : 1 < a0_1 - a3 % 20) (wa wb : List FT) (hWA : floor_Who.f n a0_1 a0_2 a0_3 L = some (wa, 0)) (hWB : floor_Who.f n (a0_1 - a3 % 20) a0_2 a0_3 L = some (wb, 0)) (hwa : wa.length = l0_4.length) (hwb : wb.length = l0_4.length) (hsub : ∀ i (h : i < wa.length), ∃ h2 : i < wb.length, Go.bits .andNot .u16 wa[i].f0 wb[i].f0 = 0 ∧ Go.bits .andNot .u16 wa[i].f1 wb[i].f1 = 0) :
    Calls Try.prog 5 #[.agg #[.int .i64 n, .int .i64 a0_1, .int .i64 a0_2, .int .i64 a0_3, .slice A0_4 l0_4.length c0_4], .int .u8 a1, .int .u8 a2, .int .u8 a3, .int .u16 a4] w fun e w' => e = .returned (.bool true) ∧ Below w.heap.size w w' := by
  have HWA := Lib.hid hWA
  have HWB := Lib.hid hWB
  have HSUB := Lib.hid hsub
  have q1 : ((wa.length : Int) != (l0_4.length : Int)) = false := by simp; omega
  have q2 : ((wb.length : Int) != (wa.length : Int)) = false := by simp; omega
  have hwa40 : wa.length ≤ 40 := by omega
  have hwb40 : wb.length ≤ 40 := by omega
  clear hWA hWB hsub hwa hwb
  have HRD := Lib.hid hrd
  have HL := Lib.hid hL
  have HLL := Lib.hid hLl
  have HCK := Lib.hid hck
  have HK := Lib.hid hk
  have HKF := Lib.hid hkf
  have h00 : ((l0_4.length : Int) == 0) = false := beq_eq_false_iff_ne.2 (by omega)
  have hLp : 0 < L.length := by omega
  have hLp2 : (0 : Int) < (L.length : Int) := by omega
  have hLp3 : ((L.length : Int) == 0) = false := beq_eq_false_iff_ne.2 (by omega)
  have hkL2 : (k : Int) < (L.length : Int) := by omega
  have hkL0 : (0 : Int) ≤ (k : Int) := by omega
  obtain ⟨h201, h202⟩ := h20
  obtain ⟨h211, h212⟩ := h21
  obtain ⟨h221, h222⟩ := h22
  have hn3 : (1 : Int) ≤ n := by omega
  have hn4 : (n : Int) ≤ 12 := by omega
  have HC := Lib.hid hc
  clear hrd hL hLl hck hk hkf hc
  have hu := Try.underlying24
  have hu2 := Try.underlying33
  have hu3 := Try.underlying52
  have hu4 := Try.underlying54
  obtain ⟨w10, w11⟩ := wf_u8 w1
  obtain ⟨w20, w21⟩ := wf_u8 w2
  obtain ⟨w30, w31⟩ := wf_u8 w3
  unfold maxLen at hl0
  go_enter Try.func5, Try.ntmps5
  have HRw := Lib.hid hr0_4
  clear hr0_4 hm0 w1 w2 w3 w4
  go_wp2_with fail
  obtain ⟨W0, hW0⟩ : ∃ W0, w.alloc (.cells #[.int .i64 n, .int .i64 a0_1, .int .i64 a0_2, .int .i64 a0_3, .slice A0_4 l0_4.length c0_4] 24) = W0 := ⟨_, rfl⟩
  have hb0 : Below w.heap.size w W0 := by rw [← hW0]; exact (Below.refl _ w).alloc (Nat.le_refl _) _
  have HSC : Hid (W0.heap[w.heap.size]? = some (.cells #[.int .i64 n, .int .i64 a0_1, .int .i64 a0_2, .int .i64 a0_3, .slice A0_4 l0_4.length c0_4] 24 (0, 0))) := Lib.hid (by rw [← hW0]; exact heap_new rfl)
  rw [hW0]
  clear hW0
  have HR := Lib.hid (Kd.C_below HRw.out hb0)
  have HB := Lib.hid hb0
  clear hb0 HRw
  refine (ready.W _ HR.out hc0_4 HRD.out).mono ?_
  rintro e V1 ⟨rfl, hb⟩
  replace HSC := Lib.hid (blkBel HSC.out hb)
  replace HR := Lib.hid (Kd.C_below HR.out hb)
  replace HB := Lib.hid (below_then HB.out HB.out.size hb)
  clear hb
  obtain ⟨e0, e1, e2, e3, e4⟩ := agg5 HSC.out
  have kz := (Array.getElem?_eq_some_iff.1 HSC.out).1
  go_wp2_with fail
  have kz0 := kz
  have HR1 := Lib.hid HR.out
  have HSC1 := Lib.hid HSC.out
  have HB1 := Lib.hid HB.out
  have HBB := Lib.hid (Below.refl V1.heap.size V1)
  refine (Scene.R HL.out hLp _ HR.out hc0_4 (by omega)).mono ?_
  rintro e V2 ⟨g, cg, cur, rfl, hcg, hgs, hgh, hC, hb⟩
  replace HSC := Lib.hid (blkBel HSC.out hb)
  replace HR := Lib.hid (Kd.C_below HR.out hb)
  replace HBB := Lib.hid (below_then HBB.out HBB.out.size hb)
  replace HB := Lib.hid (below_then HB.out HB.out.size hb)
  have HCg := Lib.hid hC
  clear hC
  have HGH := Lib.hid hgh
  clear hgh
  clear hb
  clear e0 e1 e2 e3 e4 kz
  obtain ⟨e0, e1, e2, e3, e4⟩ := agg5 HSC.out
  have kz := (Array.getElem?_eq_some_iff.1 HSC.out).1
  have HCg2 := Lib.hid HCg.out
  have HBB2 := Lib.hid (Below.refl V2.heap.size V2)
  have hg2 : g < V2.heap.size := (Array.getElem?_eq_some_iff.1 HGH.out).1
  go_wp2_with fail
  obtain ⟨V3, hW⟩ : ∃ W, V2.alloc (.cells #[.int .i64 n, .int .i64 a0_1, .int .i64 a0_2, .int .i64 a0_3, .slice (some ⟨g, 0, none⟩) L.length cg] 33) = W := ⟨_, rfl⟩
  have hb : Below V2.heap.size V2 V3 := by rw [← hW]; exact (Below.refl _ V2).alloc (Nat.le_refl _) _
  have HXB : Hid (V3.heap[V2.heap.size]? = some (.cells #[.int .i64 n, .int .i64 a0_1, .int .i64 a0_2, .int .i64 a0_3, .slice (some ⟨g, 0, none⟩) L.length cg] 33 (0, 0))) := Lib.hid (by rw [← hW]; exact heap_new rfl)
  rw [hW]
  clear hW
  replace HSC := Lib.hid (blkBel HSC.out hb)
  replace HR := Lib.hid (Kd.C_below HR.out hb)
  replace HBB := Lib.hid (below_then HBB.out HBB.out.size hb)
  replace HCg := Lib.hid (Kd.C_below HCg.out hb)
  replace HGH := Lib.hid (blkBel HGH.out hb)
  replace HBB2 := Lib.hid (below_then HBB2.out HBB2.out.size hb)
  replace HB := Lib.hid (below_then HB.out HB.out.size hb)
  clear hb
  have hxz : V2.heap.size < V3.heap.size := (Array.getElem?_eq_some_iff.1 HXB.out).1
  clear e0 e1 e2 e3 e4 kz
  obtain ⟨e0, e1, e2, e3, e4⟩ := agg5 HSC.out
  have kz := (Array.getElem?_eq_some_iff.1 HSC.out).1
  obtain ⟨x0, x1, x2, x3, x4⟩ := agg5 HXB.out
  have hwr : IntKind.i64.wrap a1 = a1 := IntWalk.i64_in _ (by omega)
  have hwk : IntKind.i64.wrap (k : Int) = (k : Int) := IntWalk.i64_in _ (by omega)
  have htm : a1.tmod (L.length : Int) = (k : Int) := by rw [Int.tmod_eq_emod_of_nonneg (by omega)]; exact HK.out
  have hL0 : (L.length : Int) ≠ 0 := by omega
  have hkt : ((k : Int)).toNat = k := Int.toNat_natCast k
  go_wp2_with fail
  go_quiet (fail)
  obtain ⟨V4, hW⟩ : ∃ W, V3.drewN nq = W := ⟨_, rfl⟩
  have hb : Below V3.heap.size V3 V4 := by rw [← hW]; exact pw_below_drewN (Below.refl _ _) _
  rw [hW]
  clear hW
  replace HSC := Lib.hid (blkBel HSC.out hb)
  replace HR := Lib.hid (Kd.C_below HR.out hb)
  replace HBB := Lib.hid (below_then HBB.out HBB.out.size hb)
  replace HCg := Lib.hid (Kd.C_below HCg.out hb)
  replace HGH := Lib.hid (blkBel HGH.out hb)
  replace HBB2 := Lib.hid (below_then HBB2.out HBB2.out.size hb)
  replace HXB := Lib.hid (blkBel HXB.out hb)
  replace x0 := (hb.cell (World.block_lt_of_cell? _ _ x0)).trans x0
  replace x1 := (hb.cell (World.block_lt_of_cell? _ _ x1)).trans x1
  replace x2 := (hb.cell (World.block_lt_of_cell? _ _ x2)).trans x2
  replace x3 := (hb.cell (World.block_lt_of_cell? _ _ x3)).trans x3
  replace x4 := (hb.cell (World.block_lt_of_cell? _ _ x4)).trans x4
  replace HB := Lib.hid (below_then HB.out HB.out.size hb)
  clear hb
  clear e0 e1 e2 e3 e4 kz
  obtain ⟨e0, e1, e2, e3, e4⟩ := agg5 HSC.out
  have kz := (Array.getElem?_eq_some_iff.1 HSC.out).1
  clear hwr hwk htm
  obtain ⟨ad, hadA, m0, m1⟩ := at_T52 HCg.out k (by omega) (by omega)
  rw [rd52 hkL, Int.toNat_natCast, HKF.out] at m0 m1
  simp only [] at m0 m1
  cases hadA
  have hadd : Addr.add ⟨g, 0, none⟩ (k * 2) = ⟨g, k * 2, none⟩ := by generalize k * 2 = m; rcases m with _ | m <;> simp [Addr.add]
  rw [hadd] at m0 m1
  simp only [] at m0 m1
  have hfz := not_frozen (i := k * 2) HGH.out
  have hfz1 := not_frozen (i := k * 2 + 1) HGH.out
  have hfx1 := not_frozen (i := 1) HXB.out
  have hfx2 := not_frozen (i := 2) HXB.out
  have hfx3 := not_frozen (i := 3) HXB.out
  have hne1 : ¬ w.heap.size = g := by omega
  have hne2 : ¬ g = w.heap.size := by omega
  have hne3 : ¬ w.heap.size = V2.heap.size := by omega
  have hne4 : ¬ V2.heap.size = w.heap.size := by omega
  have hc := HC.out
  go_wp2_with fail
  obtain ⟨Vs, hW⟩ : ∃ W, V4.setCell ⟨V2.heap.size, 1, none⟩ (.int .i64 (a0_1 - a3 % 20)) = W := ⟨_, rfl⟩
  have hb : Below V1.heap.size V1 Vs := by rw [← hW]; exact HBB.out.setCell (by show V1.heap.size ≤ V2.heap.size; omega) _
  have hb2 : Below V2.heap.size V2 Vs := by rw [← hW]; exact HBB2.out.setCell (Nat.le_refl _) _
  have hC2 : Kd.C k52 Vs (some ⟨g, 0, none⟩) L.length L := Kd.C_below HCg2.out hb2
  have hxb0 := heap_set HXB.out 1 (.int .i64 (a0_1 - a3 % 20))
  rw [hW] at hxb0
  have hxb : Vs.heap[V2.heap.size]? = some (.cells #[.int .i64 n, .int .i64 (a0_1 - a3 % 20), .int .i64 a0_2, .int .i64 a0_3, .slice (some ⟨g, 0, none⟩) L.length cg] 33 (0, 0)) := by simpa using hxb0
  rw [hW]
  clear hW hb2 hxb0 hc
  replace HR := Lib.hid (Kd.C_below HR1.out hb)
  replace HSC := Lib.hid (blkBel HSC1.out hb)
  replace HB := Lib.hid (below_then HB1.out HB1.out.size hb)
  have HCL := Lib.hid hC2
  have HXN := Lib.hid hxb
  clear hb hC2 hxb HCg HGH HXB HBB HBB2 HCg2 HR1 HSC1 HB1 m0 m1 hfz hfz1 hfx1 hfx2 hfx3 hne1 hne2 hne3 hne4 hadd x0 x1 x2 x3 x4 hg2 hxz hgs hkt hL0 kz0 e0 e1 e2 e3 e4 kz
  obtain ⟨e0, e1, e2, e3, e4⟩ := agg5 HSC.out
  have kz := (Array.getElem?_eq_some_iff.1 HSC.out).1
  refine (Scene.W HL.out _ HR.out hc0_4 (by omega)).mono ?_
  rintro e V5 ⟨Ax5, cx5, rfl, hcx5, hC, hb⟩
  replace HR := Lib.hid (Kd.C_below HR.out hb)
  replace HSC := Lib.hid (blkBel HSC.out hb)
  replace HCL := Lib.hid (Kd.C_below HCL.out hb)
  replace HXN := Lib.hid (blkBel HXN.out hb)
  replace HB := Lib.hid (below_then HB.out HB.out.size hb)
  have HCx5 := Lib.hid hC
  clear hC
  clear hb
  clear e0 e1 e2 e3 e4 kz
  obtain ⟨e0, e1, e2, e3, e4⟩ := agg5 HSC.out
  have kz := (Array.getElem?_eq_some_iff.1 HSC.out).1
  go_wp2_with fail
  refine (Who.W _ HCx5.out hcx5 HWA.out).mono ?_
  rintro e V6 ⟨Ax6, cx6, rfl, hcx6, hC, hb⟩
  replace HR := Lib.hid (Kd.C_below HR.out hb)
  replace HSC := Lib.hid (blkBel HSC.out hb)
  replace HCL := Lib.hid (Kd.C_below HCL.out hb)
  replace HXN := Lib.hid (blkBel HXN.out hb)
  replace HCx5 := Lib.hid (Kd.C_below HCx5.out hb)
  replace HB := Lib.hid (below_then HB.out HB.out.size hb)
  have HCx6 := Lib.hid hC
  clear hC
  clear hb
  clear e0 e1 e2 e3 e4 kz
  obtain ⟨e0, e1, e2, e3, e4⟩ := agg5 HSC.out
  have kz := (Array.getElem?_eq_some_iff.1 HSC.out).1
  clear HCx5
  obtain ⟨x0, x1, x2, x3, x4⟩ := agg5 HXN.out
  go_wp2_with fail
  refine (Who.W _ HCL.out hcg HWB.out).mono ?_
  rintro e V7 ⟨Ax7, cx7, rfl, hcx7, hC, hb⟩
  replace HR := Lib.hid (Kd.C_below HR.out hb)
  replace HSC := Lib.hid (blkBel HSC.out hb)
  replace HCL := Lib.hid (Kd.C_below HCL.out hb)
  replace HXN := Lib.hid (blkBel HXN.out hb)
  replace HCx6 := Lib.hid (Kd.C_below HCx6.out hb)
  replace HB := Lib.hid (below_then HB.out HB.out.size hb)
  have HCx7 := Lib.hid hC
  clear hC
  clear hb
  clear e0 e1 e2 e3 e4 kz
  obtain ⟨e0, e1, e2, e3, e4⟩ := agg5 HSC.out
  have kz := (Array.getElem?_eq_some_iff.1 HSC.out).1
  clear x0 x1 x2 x3 x4
  go_wp2_with fail
  clear q1 q2 e0 e1 e2 e3 e4 kz
  clear HR HSC HCL HXN
  go_loopg [18] wa.length (fun kq v18 w' => ∃ (i : Nat), v18 = .int .i64 i ∧ Hid (kq + i = wa.length) ∧ Hid (Below V7.heap.size V7 w'))
  case atStart => exact ⟨0, rfl, Lib.hid (by omega), Lib.hid (Below.refl _ _)⟩
  case round =>
    obtain ⟨i, rfl, HI, HBW⟩ := hrel
    have hiq := HI.out
    clear HI
    have hb := HBW.out
    replace HCx6 := Lib.hid (Kd.C_below HCx6.out hb)
    replace HCx7 := Lib.hid (Kd.C_below HCx7.out hb)
    replace HB := Lib.hid (below_then HB.out HB.out.size hb)
    clear hb
    cases gk with
    | zero =>
      obtain rfl : i = wa.length := by omega
      clear hiq
      go_wp2_with fail
      refine (awake.W _).mono ?_
      rintro e V8 ⟨rfl, hb⟩
      replace HCx6 := Lib.hid (Kd.C_below HCx6.out hb)
      replace HCx7 := Lib.hid (Kd.C_below HCx7.out hb)
      replace HBW := Lib.hid (below_then HBW.out HBW.out.size hb)
      replace HB := Lib.hid (below_then HB.out HB.out.size hb)
      clear hb
      go_wp2_with fail
      go_ret
      exact ⟨rfl, HB.out⟩
    | succ k1 =>
      have hlt : i < wa.length := by omega
      have hlt2 : (i : Int) < wa.length := by omega
      have hi0 : (0 : Int) ≤ (i : Int) := by omega
      obtain ⟨hlb, z0, z1⟩ := HSUB.out i hlt
      have hlb2 : (i : Int) < wb.length := by omega
      obtain ⟨ad, hadA, m0, m1⟩ := at_T54 HCx6.out i (by omega) (by omega)
      rw [rd54 hlt, Int.toNat_natCast] at m0 m1
      obtain ⟨ad2, hadA2, n0, n1⟩ := at_T54 HCx7.out i (by omega) (by omega)
      rw [rd54 hlb, Int.toNat_natCast] at n0 n1
      obtain ⟨⟨pf, ph⟩, hpa⟩ : ∃ m, wa[i] = m := ⟨_, rfl⟩
      obtain ⟨⟨qf, qh⟩, hpb⟩ : ∃ m, wb[i] = m := ⟨_, rfl⟩
      rw [hpa] at m0 m1 z0 z1
      rw [hpb] at n0 n1 z0 z1
      simp only [] at m0 m1 n0 n1 z0 z1
      subst hadA hadA2
      have HIQ := Lib.hid hiq
      clear hpa hpb hiq
      go_wp2_with fail
      go_quiet (fail)
      obtain ⟨V8, hW⟩ : ∃ W, wr.drewN nq = W := ⟨_, rfl⟩
      have hb : Below wr.heap.size wr V8 := by rw [← hW]; exact pw_below_drewN (Below.refl _ _) _
      rw [hW]
      clear hW
      replace HCx6 := Lib.hid (Kd.C_below HCx6.out hb)
      replace HCx7 := Lib.hid (Kd.C_below HCx7.out hb)
      replace HBW := Lib.hid (below_then HBW.out HBW.out.size hb)
      replace m0 := (hb.cell (World.block_lt_of_cell? _ _ m0)).trans m0
      replace m1 := (hb.cell (World.block_lt_of_cell? _ _ m1)).trans m1
      replace n0 := (hb.cell (World.block_lt_of_cell? _ _ n0)).trans n0
      replace n1 := (hb.cell (World.block_lt_of_cell? _ _ n1)).trans n1
      replace HB := Lib.hid (below_then HB.out HB.out.size hb)
      clear hb
      go_wp2_with fail
      go_roundg k1
      case measure => omega
      case rel => exact ⟨i + 1, by simp, Lib.hid (by have := HIQ.out; omega), HBW⟩
set_option maxRecDepth 100000 in
set_option maxHeartbeats 8000000 in
theorem palantypelaw02_FloorLess.gap4b (n : Nat) (a0_1 a0_2 a0_3 : Int) (A0_4 : Option Addr) (c0_4 : Nat) (l0_4 : List RM) (a1 : Int) (a2 : Int) (a3 : Int) (a4 : Int) (w : World) (hr0_4 : Kd.C k59 w A0_4 l0_4.length l0_4) (hc0_4 : l0_4.length ≤ c0_4) (hm0 : ∀ y ∈ l0_4, (Lit.int .u16 y.f0).wf = true ∧ (Lit.int .u16 y.f1).wf = true) (hl0 : l0_4.length ≤ maxLen) (w1 : (Lit.int .u8 a1).wf = true) (w2 : (Lit.int .u8 a2).wf = true) (w3 : (Lit.int .u8 a3).wf = true) (w4 : (Lit.int .u16 a4).wf = true) (hrd : Ev (fun k => palantypelaw02_ready.f k n a0_1 a0_2 a0_3 l0_4) true) (h0 : 0 < l0_4.length) (L : List FM) (hL : l0_4.map mo = L) (hLl : L.length = l0_4.length) (hck : floor_Scene_check.f n a0_1 a0_2 a0_3 L = some 0) (hL40 : l0_4.length ≤ 40) (hL40b : L.length ≤ 40) (hn1 : 1 ≤ n) (hn2 : n ≤ 12) (k : Nat) (hk : a1 % (L.length : Int) = k) (hkL : k < L.length) (f0 f1 : Int) (hkf : L[k] = ⟨f0, f1⟩) (h20 : 0 ≤ a0_2 ∧ a0_2 ≤ 20) (h21 : 1 ≤ a0_1 ∧ a0_1 ≤ 20) (h22 : 0 ≤ a0_3 ∧ a0_3 ≤ 20) (hc : a2 % 5 = 4) (hv : a0_1 - a3 % 20 ≤ 1) (hWA : floor_Who.f n a0_1 a0_2 a0_3 L = some ([], 10)) (wb : List FT) (eb : Int) (hWB : floor_Who.f n (1) a0_2 a0_3 L = some (wb, eb)) :
    Calls Try.prog 5 #[.agg #[.int .i64 n, .int .i64 a0_1, .int .i64 a0_2, .int .i64 a0_3, .slice A0_4 l0_4.length c0_4], .int .u8 a1, .int .u8 a2, .int .u8 a3, .int .u16 a4] w fun e w' => e = .returned (.bool true) ∧ Below w.heap.size w w' := by
  have HWA := Lib.hid hWA
  have HWB := Lib.hid hWB
  clear hWA hWB
  have HRD := Lib.hid hrd
  have HL := Lib.hid hL
  have HLL := Lib.hid hLl
  have HCK := Lib.hid hck
  have HK := Lib.hid hk
  have HKF := Lib.hid hkf
  have h00 : ((l0_4.length : Int) == 0) = false := beq_eq_false_iff_ne.2 (by omega)
  have hLp : 0 < L.length := by omega
  have hLp2 : (0 : Int) < (L.length : Int) := by omega
  have hLp3 : ((L.length : Int) == 0) = false := beq_eq_false_iff_ne.2 (by omega)
  have hkL2 : (k : Int) < (L.length : Int) := by omega
  have hkL0 : (0 : Int) ≤ (k : Int) := by omega
  obtain ⟨h201, h202⟩ := h20
  obtain ⟨h211, h212⟩ := h21
  obtain ⟨h221, h222⟩ := h22
  have hn3 : (1 : Int) ≤ n := by omega
  have hn4 : (n : Int) ≤ 12 := by omega
  have HC := Lib.hid hc
  clear hrd hL hLl hck hk hkf hc
  have hu := Try.underlying24
  have hu2 := Try.underlying33
  have hu3 := Try.underlying52
  have hu4 := Try.underlying54
  obtain ⟨w10, w11⟩ := wf_u8 w1
  obtain ⟨w20, w21⟩ := wf_u8 w2
  obtain ⟨w30, w31⟩ := wf_u8 w3
  unfold maxLen at hl0
  go_enter Try.func5, Try.ntmps5
  have HRw := Lib.hid hr0_4
  clear hr0_4 hm0 w1 w2 w3 w4
  go_wp2_with fail
  obtain ⟨W0, hW0⟩ : ∃ W0, w.alloc (.cells #[.int .i64 n, .int .i64 a0_1, .int .i64 a0_2, .int .i64 a0_3, .slice A0_4 l0_4.length c0_4] 24) = W0 := ⟨_, rfl⟩
  have hb0 : Below w.heap.size w W0 := by rw [← hW0]; exact (Below.refl _ w).alloc (Nat.le_refl _) _
  have HSC : Hid (W0.heap[w.heap.size]? = some (.cells #[.int .i64 n, .int .i64 a0_1, .int .i64 a0_2, .int .i64 a0_3, .slice A0_4 l0_4.length c0_4] 24 (0, 0))) := Lib.hid (by rw [← hW0]; exact heap_new rfl)
  rw [hW0]
  clear hW0
  have HR := Lib.hid (Kd.C_below HRw.out hb0)
  have HB := Lib.hid hb0
  clear hb0 HRw
  refine (ready.W _ HR.out hc0_4 HRD.out).mono ?_
  rintro e V1 ⟨rfl, hb⟩
  replace HSC := Lib.hid (blkBel HSC.out hb)
  replace HR := Lib.hid (Kd.C_below HR.out hb)
  replace HB := Lib.hid (below_then HB.out HB.out.size hb)
  clear hb
  obtain ⟨e0, e1, e2, e3, e4⟩ := agg5 HSC.out
  have kz := (Array.getElem?_eq_some_iff.1 HSC.out).1
  go_wp2_with fail
  have kz0 := kz
  have HR1 := Lib.hid HR.out
  have HSC1 := Lib.hid HSC.out
  have HB1 := Lib.hid HB.out
  have HBB := Lib.hid (Below.refl V1.heap.size V1)
  refine (Scene.R HL.out hLp _ HR.out hc0_4 (by omega)).mono ?_
  rintro e V2 ⟨g, cg, cur, rfl, hcg, hgs, hgh, hC, hb⟩
  replace HSC := Lib.hid (blkBel HSC.out hb)
  replace HR := Lib.hid (Kd.C_below HR.out hb)
  replace HBB := Lib.hid (below_then HBB.out HBB.out.size hb)
  replace HB := Lib.hid (below_then HB.out HB.out.size hb)
  have HCg := Lib.hid hC
  clear hC
  have HGH := Lib.hid hgh
  clear hgh
  clear hb
  clear e0 e1 e2 e3 e4 kz
  obtain ⟨e0, e1, e2, e3, e4⟩ := agg5 HSC.out
  have kz := (Array.getElem?_eq_some_iff.1 HSC.out).1
  have HCg2 := Lib.hid HCg.out
  have HBB2 := Lib.hid (Below.refl V2.heap.size V2)
  have hg2 : g < V2.heap.size := (Array.getElem?_eq_some_iff.1 HGH.out).1
  go_wp2_with fail
  obtain ⟨V3, hW⟩ : ∃ W, V2.alloc (.cells #[.int .i64 n, .int .i64 a0_1, .int .i64 a0_2, .int .i64 a0_3, .slice (some ⟨g, 0, none⟩) L.length cg] 33) = W := ⟨_, rfl⟩
  have hb : Below V2.heap.size V2 V3 := by rw [← hW]; exact (Below.refl _ V2).alloc (Nat.le_refl _) _
  have HXB : Hid (V3.heap[V2.heap.size]? = some (.cells #[.int .i64 n, .int .i64 a0_1, .int .i64 a0_2, .int .i64 a0_3, .slice (some ⟨g, 0, none⟩) L.length cg] 33 (0, 0))) := Lib.hid (by rw [← hW]; exact heap_new rfl)
  rw [hW]
  clear hW
  replace HSC := Lib.hid (blkBel HSC.out hb)
  replace HR := Lib.hid (Kd.C_below HR.out hb)
  replace HBB := Lib.hid (below_then HBB.out HBB.out.size hb)
  replace HCg := Lib.hid (Kd.C_below HCg.out hb)
  replace HGH := Lib.hid (blkBel HGH.out hb)
  replace HBB2 := Lib.hid (below_then HBB2.out HBB2.out.size hb)
  replace HB := Lib.hid (below_then HB.out HB.out.size hb)
  clear hb
  have hxz : V2.heap.size < V3.heap.size := (Array.getElem?_eq_some_iff.1 HXB.out).1
  clear e0 e1 e2 e3 e4 kz
  obtain ⟨e0, e1, e2, e3, e4⟩ := agg5 HSC.out
  have kz := (Array.getElem?_eq_some_iff.1 HSC.out).1
  obtain ⟨x0, x1, x2, x3, x4⟩ := agg5 HXB.out
  have hwr : IntKind.i64.wrap a1 = a1 := IntWalk.i64_in _ (by omega)
  have hwk : IntKind.i64.wrap (k : Int) = (k : Int) := IntWalk.i64_in _ (by omega)
  have htm : a1.tmod (L.length : Int) = (k : Int) := by rw [Int.tmod_eq_emod_of_nonneg (by omega)]; exact HK.out
  have hL0 : (L.length : Int) ≠ 0 := by omega
  have hkt : ((k : Int)).toNat = k := Int.toNat_natCast k
  go_wp2_with fail
  go_quiet (fail)
  obtain ⟨V4, hW⟩ : ∃ W, V3.drewN nq = W := ⟨_, rfl⟩
  have hb : Below V3.heap.size V3 V4 := by rw [← hW]; exact pw_below_drewN (Below.refl _ _) _
  rw [hW]
  clear hW
  replace HSC := Lib.hid (blkBel HSC.out hb)
  replace HR := Lib.hid (Kd.C_below HR.out hb)
  replace HBB := Lib.hid (below_then HBB.out HBB.out.size hb)
  replace HCg := Lib.hid (Kd.C_below HCg.out hb)
  replace HGH := Lib.hid (blkBel HGH.out hb)
  replace HBB2 := Lib.hid (below_then HBB2.out HBB2.out.size hb)
  replace HXB := Lib.hid (blkBel HXB.out hb)
  replace x0 := (hb.cell (World.block_lt_of_cell? _ _ x0)).trans x0
  replace x1 := (hb.cell (World.block_lt_of_cell? _ _ x1)).trans x1
  replace x2 := (hb.cell (World.block_lt_of_cell? _ _ x2)).trans x2
  replace x3 := (hb.cell (World.block_lt_of_cell? _ _ x3)).trans x3
  replace x4 := (hb.cell (World.block_lt_of_cell? _ _ x4)).trans x4
  replace HB := Lib.hid (below_then HB.out HB.out.size hb)
  clear hb
  clear e0 e1 e2 e3 e4 kz
  obtain ⟨e0, e1, e2, e3, e4⟩ := agg5 HSC.out
  have kz := (Array.getElem?_eq_some_iff.1 HSC.out).1
  clear hwr hwk htm
  obtain ⟨ad, hadA, m0, m1⟩ := at_T52 HCg.out k (by omega) (by omega)
  rw [rd52 hkL, Int.toNat_natCast, HKF.out] at m0 m1
  simp only [] at m0 m1
  cases hadA
  have hadd : Addr.add ⟨g, 0, none⟩ (k * 2) = ⟨g, k * 2, none⟩ := by generalize k * 2 = m; rcases m with _ | m <;> simp [Addr.add]
  rw [hadd] at m0 m1
  simp only [] at m0 m1
  have hfz := not_frozen (i := k * 2) HGH.out
  have hfz1 := not_frozen (i := k * 2 + 1) HGH.out
  have hfx1 := not_frozen (i := 1) HXB.out
  have hfx2 := not_frozen (i := 2) HXB.out
  have hfx3 := not_frozen (i := 3) HXB.out
  have hne1 : ¬ w.heap.size = g := by omega
  have hne2 : ¬ g = w.heap.size := by omega
  have hne3 : ¬ w.heap.size = V2.heap.size := by omega
  have hne4 : ¬ V2.heap.size = w.heap.size := by omega
  have hc := HC.out
  go_wp2_with fail
  obtain ⟨Vs, hW⟩ : ∃ W, V4.setCell ⟨V2.heap.size, 1, none⟩ (.int .i64 (1)) = W := ⟨_, rfl⟩
  have hb : Below V1.heap.size V1 Vs := by rw [← hW]; exact HBB.out.setCell (by show V1.heap.size ≤ V2.heap.size; omega) _
  have hb2 : Below V2.heap.size V2 Vs := by rw [← hW]; exact HBB2.out.setCell (Nat.le_refl _) _
  have hC2 : Kd.C k52 Vs (some ⟨g, 0, none⟩) L.length L := Kd.C_below HCg2.out hb2
  have hxb0 := heap_set HXB.out 1 (.int .i64 (1))
  rw [hW] at hxb0
  have hxb : Vs.heap[V2.heap.size]? = some (.cells #[.int .i64 n, .int .i64 (1), .int .i64 a0_2, .int .i64 a0_3, .slice (some ⟨g, 0, none⟩) L.length cg] 33 (0, 0)) := by simpa using hxb0
  rw [hW]
  clear hW hb2 hxb0 hc
  replace HR := Lib.hid (Kd.C_below HR1.out hb)
  replace HSC := Lib.hid (blkBel HSC1.out hb)
  replace HB := Lib.hid (below_then HB1.out HB1.out.size hb)
  have HCL := Lib.hid hC2
  have HXN := Lib.hid hxb
  clear hb hC2 hxb HCg HGH HXB HBB HBB2 HCg2 HR1 HSC1 HB1 m0 m1 hfz hfz1 hfx1 hfx2 hfx3 hne1 hne2 hne3 hne4 hadd x0 x1 x2 x3 x4 hg2 hxz hgs hkt hL0 kz0 e0 e1 e2 e3 e4 kz
  obtain ⟨e0, e1, e2, e3, e4⟩ := agg5 HSC.out
  have kz := (Array.getElem?_eq_some_iff.1 HSC.out).1
  refine (Scene.W HL.out _ HR.out hc0_4 (by omega)).mono ?_
  rintro e V5 ⟨Ax5, cx5, rfl, hcx5, hC, hb⟩
  replace HR := Lib.hid (Kd.C_below HR.out hb)
  replace HSC := Lib.hid (blkBel HSC.out hb)
  replace HCL := Lib.hid (Kd.C_below HCL.out hb)
  replace HXN := Lib.hid (blkBel HXN.out hb)
  replace HB := Lib.hid (below_then HB.out HB.out.size hb)
  have HCx5 := Lib.hid hC
  clear hC
  clear hb
  clear e0 e1 e2 e3 e4 kz
  obtain ⟨e0, e1, e2, e3, e4⟩ := agg5 HSC.out
  have kz := (Array.getElem?_eq_some_iff.1 HSC.out).1
  go_wp2_with fail
  refine (Who.W _ HCx5.out hcx5 HWA.out).mono ?_
  rintro e V6 ⟨Ax6, cx6, rfl, hcx6, hC, hb⟩
  replace HR := Lib.hid (Kd.C_below HR.out hb)
  replace HSC := Lib.hid (blkBel HSC.out hb)
  replace HCL := Lib.hid (Kd.C_below HCL.out hb)
  replace HXN := Lib.hid (blkBel HXN.out hb)
  replace HCx5 := Lib.hid (Kd.C_below HCx5.out hb)
  replace HB := Lib.hid (below_then HB.out HB.out.size hb)
  have HCx6 := Lib.hid hC
  clear hC
  clear hb
  clear e0 e1 e2 e3 e4 kz
  obtain ⟨e0, e1, e2, e3, e4⟩ := agg5 HSC.out
  have kz := (Array.getElem?_eq_some_iff.1 HSC.out).1
  clear HCx5
  obtain ⟨x0, x1, x2, x3, x4⟩ := agg5 HXN.out
  go_wp2_with fail
  refine (Who.W _ HCL.out hcg HWB.out).mono ?_
  rintro e V7 ⟨Ax7, cx7, rfl, hcx7, hC, hb⟩
  replace HR := Lib.hid (Kd.C_below HR.out hb)
  replace HSC := Lib.hid (blkBel HSC.out hb)
  replace HCL := Lib.hid (Kd.C_below HCL.out hb)
  replace HXN := Lib.hid (blkBel HXN.out hb)
  replace HCx6 := Lib.hid (Kd.C_below HCx6.out hb)
  replace HB := Lib.hid (below_then HB.out HB.out.size hb)
  have HCx7 := Lib.hid hC
  clear hC
  clear hb
  clear e0 e1 e2 e3 e4 kz
  obtain ⟨e0, e1, e2, e3, e4⟩ := agg5 HSC.out
  have kz := (Array.getElem?_eq_some_iff.1 HSC.out).1
  clear x0 x1 x2 x3 x4
  go_wp2_with fail
  refine (awake.W _).mono ?_
  rintro e V8 ⟨rfl, hb⟩
  replace HR := Lib.hid (Kd.C_below HR.out hb)
  replace HSC := Lib.hid (blkBel HSC.out hb)
  replace HCL := Lib.hid (Kd.C_below HCL.out hb)
  replace HXN := Lib.hid (blkBel HXN.out hb)
  replace HCx6 := Lib.hid (Kd.C_below HCx6.out hb)
  replace HCx7 := Lib.hid (Kd.C_below HCx7.out hb)
  replace HB := Lib.hid (below_then HB.out HB.out.size hb)
  clear hb
  go_wp2_with fail
  go_ret
  exact ⟨rfl, HB.out⟩
set_option maxRecDepth 100000 in
set_option maxHeartbeats 8000000 in
theorem palantypelaw02_FloorLess.told4b (n : Nat) (a0_1 a0_2 a0_3 : Int) (A0_4 : Option Addr) (c0_4 : Nat) (l0_4 : List RM) (a1 : Int) (a2 : Int) (a3 : Int) (a4 : Int) (w : World) (hr0_4 : Kd.C k59 w A0_4 l0_4.length l0_4) (hc0_4 : l0_4.length ≤ c0_4) (hm0 : ∀ y ∈ l0_4, (Lit.int .u16 y.f0).wf = true ∧ (Lit.int .u16 y.f1).wf = true) (hl0 : l0_4.length ≤ maxLen) (w1 : (Lit.int .u8 a1).wf = true) (w2 : (Lit.int .u8 a2).wf = true) (w3 : (Lit.int .u8 a3).wf = true) (w4 : (Lit.int .u16 a4).wf = true) (hrd : Ev (fun k => palantypelaw02_ready.f k n a0_1 a0_2 a0_3 l0_4) true) (h0 : 0 < l0_4.length) (L : List FM) (hL : l0_4.map mo = L) (hLl : L.length = l0_4.length) (hck : floor_Scene_check.f n a0_1 a0_2 a0_3 L = some 0) (hL40 : l0_4.length ≤ 40) (hL40b : L.length ≤ 40) (hn1 : 1 ≤ n) (hn2 : n ≤ 12) (k : Nat) (hk : a1 % (L.length : Int) = k) (hkL : k < L.length) (f0 f1 : Int) (hkf : L[k] = ⟨f0, f1⟩) (h20 : 0 ≤ a0_2 ∧ a0_2 ≤ 20) (h21 : 1 ≤ a0_1 ∧ a0_1 ≤ 20) (h22 : 0 ≤ a0_3 ∧ a0_3 ≤ 20) (hc : a2 % 5 = 4) (hv : a0_1 - a3 % 20 ≤ 1) (wa wb : List FT) (hWA : floor_Who.f n a0_1 a0_2 a0_3 L = some (wa, 0)) (hWB : floor_Who.f n (1) a0_2 a0_3 L = some (wb, 0)) (hwa : wa.length = l0_4.length) (hwb : wb.length = l0_4.length) (hsub : ∀ i (h : i < wa.length), ∃ h2 : i < wb.length, Go.bits .andNot .u16 wa[i].f0 wb[i].f0 = 0 ∧ Go.bits .andNot .u16 wa[i].f1 wb[i].f1 = 0) :
    Calls Try.prog 5 #[.agg #[.int .i64 n, .int .i64 a0_1, .int .i64 a0_2, .int .i64 a0_3, .slice A0_4 l0_4.length c0_4], .int .u8 a1, .int .u8 a2, .int .u8 a3, .int .u16 a4] w fun e w' => e = .returned (.bool true) ∧ Below w.heap.size w w' := by
  have HWA := Lib.hid hWA
  have HWB := Lib.hid hWB
  have HSUB := Lib.hid hsub
  have q1 : ((wa.length : Int) != (l0_4.length : Int)) = false := by simp; omega
  have q2 : ((wb.length : Int) != (wa.length : Int)) = false := by simp; omega
  have hwa40 : wa.length ≤ 40 := by omega
  have hwb40 : wb.length ≤ 40 := by omega
  clear hWA hWB hsub hwa hwb
  have HRD := Lib.hid hrd
  have HL := Lib.hid hL
  have HLL := Lib.hid hLl
  have HCK := Lib.hid hck
  have HK := Lib.hid hk
  have HKF := Lib.hid hkf
  have h00 : ((l0_4.length : Int) == 0) = false := beq_eq_false_iff_ne.2 (by omega)
  have hLp : 0 < L.length := by omega
  have hLp2 : (0 : Int) < (L.length : Int) := by omega
  have hLp3 : ((L.length : Int) == 0) = false := beq_eq_false_iff_ne.2 (by omega)
  have hkL2 : (k : Int) < (L.length : Int) := by omega
  have hkL0 : (0 : Int) ≤ (k : Int) := by omega
  obtain ⟨h201, h202⟩ := h20
  obtain ⟨h211, h212⟩ := h21
  obtain ⟨h221, h222⟩ := h22
  have hn3 : (1 : Int) ≤ n := by omega
  have hn4 : (n : Int) ≤ 12 := by omega
  have HC := Lib.hid hc
  clear hrd hL hLl hck hk hkf hc
  have hu := Try.underlying24
  have hu2 := Try.underlying33
  have hu3 := Try.underlying52
  have hu4 := Try.underlying54
  obtain ⟨w10, w11⟩ := wf_u8 w1
  obtain ⟨w20, w21⟩ := wf_u8 w2
  obtain ⟨w30, w31⟩ := wf_u8 w3
  unfold maxLen at hl0
  go_enter Try.func5, Try.ntmps5
  have HRw := Lib.hid hr0_4
  clear hr0_4 hm0 w1 w2 w3 w4
  go_wp2_with fail
  obtain ⟨W0, hW0⟩ : ∃ W0, w.alloc (.cells #[.int .i64 n, .int .i64 a0_1, .int .i64 a0_2, .int .i64 a0_3, .slice A0_4 l0_4.length c0_4] 24) = W0 := ⟨_, rfl⟩
  have hb0 : Below w.heap.size w W0 := by rw [← hW0]; exact (Below.refl _ w).alloc (Nat.le_refl _) _
  have HSC : Hid (W0.heap[w.heap.size]? = some (.cells #[.int .i64 n, .int .i64 a0_1, .int .i64 a0_2, .int .i64 a0_3, .slice A0_4 l0_4.length c0_4] 24 (0, 0))) := Lib.hid (by rw [← hW0]; exact heap_new rfl)
  rw [hW0]
  clear hW0
  have HR := Lib.hid (Kd.C_below HRw.out hb0)
  have HB := Lib.hid hb0
  clear hb0 HRw
  refine (ready.W _ HR.out hc0_4 HRD.out).mono ?_
  rintro e V1 ⟨rfl, hb⟩
  replace HSC := Lib.hid (blkBel HSC.out hb)
  replace HR := Lib.hid (Kd.C_below HR.out hb)
  replace HB := Lib.hid (below_then HB.out HB.out.size hb)
  clear hb
  obtain ⟨e0, e1, e2, e3, e4⟩ := agg5 HSC.out
  have kz := (Array.getElem?_eq_some_iff.1 HSC.out).1
  go_wp2_with fail
  have kz0 := kz
  have HR1 := Lib.hid HR.out
  have HSC1 := Lib.hid HSC.out
  have HB1 := Lib.hid HB.out
  have HBB := Lib.hid (Below.refl V1.heap.size V1)
  refine (Scene.R HL.out hLp _ HR.out hc0_4 (by omega)).mono ?_
  rintro e V2 ⟨g, cg, cur, rfl, hcg, hgs, hgh, hC, hb⟩
  replace HSC := Lib.hid (blkBel HSC.out hb)
  replace HR := Lib.hid (Kd.C_below HR.out hb)
  replace HBB := Lib.hid (below_then HBB.out HBB.out.size hb)
  replace HB := Lib.hid (below_then HB.out HB.out.size hb)
  have HCg := Lib.hid hC
  clear hC
  have HGH := Lib.hid hgh
  clear hgh
  clear hb
  clear e0 e1 e2 e3 e4 kz
  obtain ⟨e0, e1, e2, e3, e4⟩ := agg5 HSC.out
  have kz := (Array.getElem?_eq_some_iff.1 HSC.out).1
  have HCg2 := Lib.hid HCg.out
  have HBB2 := Lib.hid (Below.refl V2.heap.size V2)
  have hg2 : g < V2.heap.size := (Array.getElem?_eq_some_iff.1 HGH.out).1
  go_wp2_with fail
  obtain ⟨V3, hW⟩ : ∃ W, V2.alloc (.cells #[.int .i64 n, .int .i64 a0_1, .int .i64 a0_2, .int .i64 a0_3, .slice (some ⟨g, 0, none⟩) L.length cg] 33) = W := ⟨_, rfl⟩
  have hb : Below V2.heap.size V2 V3 := by rw [← hW]; exact (Below.refl _ V2).alloc (Nat.le_refl _) _
  have HXB : Hid (V3.heap[V2.heap.size]? = some (.cells #[.int .i64 n, .int .i64 a0_1, .int .i64 a0_2, .int .i64 a0_3, .slice (some ⟨g, 0, none⟩) L.length cg] 33 (0, 0))) := Lib.hid (by rw [← hW]; exact heap_new rfl)
  rw [hW]
  clear hW
  replace HSC := Lib.hid (blkBel HSC.out hb)
  replace HR := Lib.hid (Kd.C_below HR.out hb)
  replace HBB := Lib.hid (below_then HBB.out HBB.out.size hb)
  replace HCg := Lib.hid (Kd.C_below HCg.out hb)
  replace HGH := Lib.hid (blkBel HGH.out hb)
  replace HBB2 := Lib.hid (below_then HBB2.out HBB2.out.size hb)
  replace HB := Lib.hid (below_then HB.out HB.out.size hb)
  clear hb
  have hxz : V2.heap.size < V3.heap.size := (Array.getElem?_eq_some_iff.1 HXB.out).1
  clear e0 e1 e2 e3 e4 kz
  obtain ⟨e0, e1, e2, e3, e4⟩ := agg5 HSC.out
  have kz := (Array.getElem?_eq_some_iff.1 HSC.out).1
  obtain ⟨x0, x1, x2, x3, x4⟩ := agg5 HXB.out
  have hwr : IntKind.i64.wrap a1 = a1 := IntWalk.i64_in _ (by omega)
  have hwk : IntKind.i64.wrap (k : Int) = (k : Int) := IntWalk.i64_in _ (by omega)
  have htm : a1.tmod (L.length : Int) = (k : Int) := by rw [Int.tmod_eq_emod_of_nonneg (by omega)]; exact HK.out
  have hL0 : (L.length : Int) ≠ 0 := by omega
  have hkt : ((k : Int)).toNat = k := Int.toNat_natCast k
  go_wp2_with fail
  go_quiet (fail)
  obtain ⟨V4, hW⟩ : ∃ W, V3.drewN nq = W := ⟨_, rfl⟩
  have hb : Below V3.heap.size V3 V4 := by rw [← hW]; exact pw_below_drewN (Below.refl _ _) _
  rw [hW]
  clear hW
  replace HSC := Lib.hid (blkBel HSC.out hb)
  replace HR := Lib.hid (Kd.C_below HR.out hb)
  replace HBB := Lib.hid (below_then HBB.out HBB.out.size hb)
  replace HCg := Lib.hid (Kd.C_below HCg.out hb)
  replace HGH := Lib.hid (blkBel HGH.out hb)
  replace HBB2 := Lib.hid (below_then HBB2.out HBB2.out.size hb)
  replace HXB := Lib.hid (blkBel HXB.out hb)
  replace x0 := (hb.cell (World.block_lt_of_cell? _ _ x0)).trans x0
  replace x1 := (hb.cell (World.block_lt_of_cell? _ _ x1)).trans x1
  replace x2 := (hb.cell (World.block_lt_of_cell? _ _ x2)).trans x2
  replace x3 := (hb.cell (World.block_lt_of_cell? _ _ x3)).trans x3
  replace x4 := (hb.cell (World.block_lt_of_cell? _ _ x4)).trans x4
  replace HB := Lib.hid (below_then HB.out HB.out.size hb)
  clear hb
  clear e0 e1 e2 e3 e4 kz
  obtain ⟨e0, e1, e2, e3, e4⟩ := agg5 HSC.out
  have kz := (Array.getElem?_eq_some_iff.1 HSC.out).1
  clear hwr hwk htm
  obtain ⟨ad, hadA, m0, m1⟩ := at_T52 HCg.out k (by omega) (by omega)
  rw [rd52 hkL, Int.toNat_natCast, HKF.out] at m0 m1
  simp only [] at m0 m1
  cases hadA
  have hadd : Addr.add ⟨g, 0, none⟩ (k * 2) = ⟨g, k * 2, none⟩ := by generalize k * 2 = m; rcases m with _ | m <;> simp [Addr.add]
  rw [hadd] at m0 m1
  simp only [] at m0 m1
  have hfz := not_frozen (i := k * 2) HGH.out
  have hfz1 := not_frozen (i := k * 2 + 1) HGH.out
  have hfx1 := not_frozen (i := 1) HXB.out
  have hfx2 := not_frozen (i := 2) HXB.out
  have hfx3 := not_frozen (i := 3) HXB.out
  have hne1 : ¬ w.heap.size = g := by omega
  have hne2 : ¬ g = w.heap.size := by omega
  have hne3 : ¬ w.heap.size = V2.heap.size := by omega
  have hne4 : ¬ V2.heap.size = w.heap.size := by omega
  have hc := HC.out
  go_wp2_with fail
  obtain ⟨Vs, hW⟩ : ∃ W, V4.setCell ⟨V2.heap.size, 1, none⟩ (.int .i64 (1)) = W := ⟨_, rfl⟩
  have hb : Below V1.heap.size V1 Vs := by rw [← hW]; exact HBB.out.setCell (by show V1.heap.size ≤ V2.heap.size; omega) _
  have hb2 : Below V2.heap.size V2 Vs := by rw [← hW]; exact HBB2.out.setCell (Nat.le_refl _) _
  have hC2 : Kd.C k52 Vs (some ⟨g, 0, none⟩) L.length L := Kd.C_below HCg2.out hb2
  have hxb0 := heap_set HXB.out 1 (.int .i64 (1))
  rw [hW] at hxb0
  have hxb : Vs.heap[V2.heap.size]? = some (.cells #[.int .i64 n, .int .i64 (1), .int .i64 a0_2, .int .i64 a0_3, .slice (some ⟨g, 0, none⟩) L.length cg] 33 (0, 0)) := by simpa using hxb0
  rw [hW]
  clear hW hb2 hxb0 hc
  replace HR := Lib.hid (Kd.C_below HR1.out hb)
  replace HSC := Lib.hid (blkBel HSC1.out hb)
  replace HB := Lib.hid (below_then HB1.out HB1.out.size hb)
  have HCL := Lib.hid hC2
  have HXN := Lib.hid hxb
  clear hb hC2 hxb HCg HGH HXB HBB HBB2 HCg2 HR1 HSC1 HB1 m0 m1 hfz hfz1 hfx1 hfx2 hfx3 hne1 hne2 hne3 hne4 hadd x0 x1 x2 x3 x4 hg2 hxz hgs hkt hL0 kz0 e0 e1 e2 e3 e4 kz
  obtain ⟨e0, e1, e2, e3, e4⟩ := agg5 HSC.out
  have kz := (Array.getElem?_eq_some_iff.1 HSC.out).1
  refine (Scene.W HL.out _ HR.out hc0_4 (by omega)).mono ?_
  rintro e V5 ⟨Ax5, cx5, rfl, hcx5, hC, hb⟩
  replace HR := Lib.hid (Kd.C_below HR.out hb)
  replace HSC := Lib.hid (blkBel HSC.out hb)
  replace HCL := Lib.hid (Kd.C_below HCL.out hb)
  replace HXN := Lib.hid (blkBel HXN.out hb)
  replace HB := Lib.hid (below_then HB.out HB.out.size hb)
  have HCx5 := Lib.hid hC
  clear hC
  clear hb
  clear e0 e1 e2 e3 e4 kz
  obtain ⟨e0, e1, e2, e3, e4⟩ := agg5 HSC.out
  have kz := (Array.getElem?_eq_some_iff.1 HSC.out).1
  go_wp2_with fail
  refine (Who.W _ HCx5.out hcx5 HWA.out).mono ?_
  rintro e V6 ⟨Ax6, cx6, rfl, hcx6, hC, hb⟩
  replace HR := Lib.hid (Kd.C_below HR.out hb)
  replace HSC := Lib.hid (blkBel HSC.out hb)
  replace HCL := Lib.hid (Kd.C_below HCL.out hb)
  replace HXN := Lib.hid (blkBel HXN.out hb)
  replace HCx5 := Lib.hid (Kd.C_below HCx5.out hb)
  replace HB := Lib.hid (below_then HB.out HB.out.size hb)
  have HCx6 := Lib.hid hC
  clear hC
  clear hb
  clear e0 e1 e2 e3 e4 kz
  obtain ⟨e0, e1, e2, e3, e4⟩ := agg5 HSC.out
  have kz := (Array.getElem?_eq_some_iff.1 HSC.out).1
  clear HCx5
  obtain ⟨x0, x1, x2, x3, x4⟩ := agg5 HXN.out
  go_wp2_with fail
  refine (Who.W _ HCL.out hcg HWB.out).mono ?_
  rintro e V7 ⟨Ax7, cx7, rfl, hcx7, hC, hb⟩
  replace HR := Lib.hid (Kd.C_below HR.out hb)
  replace HSC := Lib.hid (blkBel HSC.out hb)
  replace HCL := Lib.hid (Kd.C_below HCL.out hb)
  replace HXN := Lib.hid (blkBel HXN.out hb)
  replace HCx6 := Lib.hid (Kd.C_below HCx6.out hb)
  replace HB := Lib.hid (below_then HB.out HB.out.size hb)
  have HCx7 := Lib.hid hC
  clear hC
  clear hb
  clear e0 e1 e2 e3 e4 kz
  obtain ⟨e0, e1, e2, e3, e4⟩ := agg5 HSC.out
  have kz := (Array.getElem?_eq_some_iff.1 HSC.out).1
  clear x0 x1 x2 x3 x4
  go_wp2_with fail
  clear q1 q2 e0 e1 e2 e3 e4 kz
  clear HR HSC HCL HXN
  go_loopg [18] wa.length (fun kq v18 w' => ∃ (i : Nat), v18 = .int .i64 i ∧ Hid (kq + i = wa.length) ∧ Hid (Below V7.heap.size V7 w'))
  case atStart => exact ⟨0, rfl, Lib.hid (by omega), Lib.hid (Below.refl _ _)⟩
  case round =>
    obtain ⟨i, rfl, HI, HBW⟩ := hrel
    have hiq := HI.out
    clear HI
    have hb := HBW.out
    replace HCx6 := Lib.hid (Kd.C_below HCx6.out hb)
    replace HCx7 := Lib.hid (Kd.C_below HCx7.out hb)
    replace HB := Lib.hid (below_then HB.out HB.out.size hb)
    clear hb
    cases gk with
    | zero =>
      obtain rfl : i = wa.length := by omega
      clear hiq
      go_wp2_with fail
      refine (awake.W _).mono ?_
      rintro e V8 ⟨rfl, hb⟩
      replace HCx6 := Lib.hid (Kd.C_below HCx6.out hb)
      replace HCx7 := Lib.hid (Kd.C_below HCx7.out hb)
      replace HBW := Lib.hid (below_then HBW.out HBW.out.size hb)
      replace HB := Lib.hid (below_then HB.out HB.out.size hb)
      clear hb
      go_wp2_with fail
      go_ret
      exact ⟨rfl, HB.out⟩
    | succ k1 =>
      have hlt : i < wa.length := by omega
      have hlt2 : (i : Int) < wa.length := by omega
      have hi0 : (0 : Int) ≤ (i : Int) := by omega
      obtain ⟨hlb, z0, z1⟩ := HSUB.out i hlt
      have hlb2 : (i : Int) < wb.length := by omega
      obtain ⟨ad, hadA, m0, m1⟩ := at_T54 HCx6.out i (by omega) (by omega)
      rw [rd54 hlt, Int.toNat_natCast] at m0 m1
      obtain ⟨ad2, hadA2, n0, n1⟩ := at_T54 HCx7.out i (by omega) (by omega)
      rw [rd54 hlb, Int.toNat_natCast] at n0 n1
      obtain ⟨⟨pf, ph⟩, hpa⟩ : ∃ m, wa[i] = m := ⟨_, rfl⟩
      obtain ⟨⟨qf, qh⟩, hpb⟩ : ∃ m, wb[i] = m := ⟨_, rfl⟩
      rw [hpa] at m0 m1 z0 z1
      rw [hpb] at n0 n1 z0 z1
      simp only [] at m0 m1 n0 n1 z0 z1
      subst hadA hadA2
      have HIQ := Lib.hid hiq
      clear hpa hpb hiq
      go_wp2_with fail
      go_quiet (fail)
      obtain ⟨V8, hW⟩ : ∃ W, wr.drewN nq = W := ⟨_, rfl⟩
      have hb : Below wr.heap.size wr V8 := by rw [← hW]; exact pw_below_drewN (Below.refl _ _) _
      rw [hW]
      clear hW
      replace HCx6 := Lib.hid (Kd.C_below HCx6.out hb)
      replace HCx7 := Lib.hid (Kd.C_below HCx7.out hb)
      replace HBW := Lib.hid (below_then HBW.out HBW.out.size hb)
      replace m0 := (hb.cell (World.block_lt_of_cell? _ _ m0)).trans m0
      replace m1 := (hb.cell (World.block_lt_of_cell? _ _ m1)).trans m1
      replace n0 := (hb.cell (World.block_lt_of_cell? _ _ n0)).trans n0
      replace n1 := (hb.cell (World.block_lt_of_cell? _ _ n1)).trans n1
      replace HB := Lib.hid (below_then HB.out HB.out.size hb)
      clear hb
      go_wp2_with fail
      go_roundg k1
      case measure => omega
      case rel => exact ⟨i + 1, by simp, Lib.hid (by have := HIQ.out; omega), HBW⟩
end Go.Proofs.Ytdnjmhhjjbdieaa.Q
end
