/- FloorSure: for every input the statement answers true; the inputs are a scene and a telling of any size, as an argument can hold them. -/
import Derived.Test.YtdnjmhhjjbdieaaG1
import Derived.Test.YtdnjmhhjjbdieaaG9
import Derived.Test.YtdnjmhhjjbdieaaRows
import Derived.WalkKit
import Derived.ProofKit
import Derived.OpenShut
import Derived.ShutString
import Derived.ChangeOld
import Derived.Below
import Derived.SizedLaws
import Derived.Carry
namespace Go.Proofs.Ytdnjmhhjjbdieaa.Q
end Go.Proofs.Ytdnjmhhjjbdieaa.Q
namespace Go.Proofs.YtdnjmhhjjbdieaaW.PrintLast
end Go.Proofs.YtdnjmhhjjbdieaaW.PrintLast
namespace Go.Proofs.YtdnjmhhjjbdieaaW.PrintWords
end Go.Proofs.YtdnjmhhjjbdieaaW.PrintWords
section
namespace Go.Proofs.Ytdnjmhhjjbdieaa.Q
open Go.RowKit Go.Shelf Go.Proofs.YtdnjmhhjjbdieaaW.PrintWords Go.Proofs.YtdnjmhhjjbdieaaW.PrintLast
set_option linter.unusedVariables false
set_option linter.unusedSimpArgs false
set_option maxRecDepth 100000 in
set_option maxHeartbeats 4000000 in
theorem palantypelaw02_FloorSure.early (a0_0 a0_1 a0_2 a0_3 : Int) (A0_4 : Option Addr) (c0_4 : Nat) (l0_4 : List RM) (A1 : Option Addr) (c1 : Nat) (l1 : List RP) (w : World) (hr0_4 : Kd.C k59 w A0_4 l0_4.length l0_4) (hc0_4 : l0_4.length ≤ c0_4) (hm0 : ∀ y ∈ l0_4, (Lit.int .u16 y.f0).wf = true ∧ (Lit.int .u16 y.f1).wf = true) (hl0 : l0_4.length ≤ maxLen) (hr1 : Kd.C k89 w A1 l1.length l1) (hc1 : l1.length ≤ c1) (hl1 : l1.length ≤ maxLen) (hm1 : ∀ y ∈ l1, (Lit.int .i64 y.f0).wf = true ∧ (Lit.int .i64 y.f1).wf = true) (hrd : Ev (fun k => palantypelaw02_ready.f k a0_0 a0_1 a0_2 a0_3 l0_4) false) :
    Calls Try.prog 12 #[.agg #[.int .i64 a0_0, .int .i64 a0_1, .int .i64 a0_2, .int .i64 a0_3, .slice A0_4 l0_4.length c0_4], .slice A1 l1.length c1] w fun e w' => e = .returned (.bool true) ∧ Below w.heap.size w w' := by
  have HRD := Lib.hid hrd
  clear hrd
  have hu := Try.underlying24
  unfold maxLen at hl0 hl1
  go_enter Try.func12, Try.ntmps12
  have HRw := Lib.hid hr0_4
  have HTw := Lib.hid hr1
  clear hr0_4 hr1 hm0 hm1
  go_wp2_with fail
  obtain ⟨W0, hW0⟩ : ∃ W0, w.alloc (.cells #[.int .i64 a0_0, .int .i64 a0_1, .int .i64 a0_2, .int .i64 a0_3, .slice A0_4 l0_4.length c0_4] 24) = W0 := ⟨_, rfl⟩
  have hb0 : Below w.heap.size w W0 := by rw [← hW0]; exact (Below.refl _ w).alloc (Nat.le_refl _) _
  have HSC : Hid (W0.heap[w.heap.size]? = some (.cells #[.int .i64 a0_0, .int .i64 a0_1, .int .i64 a0_2, .int .i64 a0_3, .slice A0_4 l0_4.length c0_4] 24 (0, 0))) := Lib.hid (by rw [← hW0]; exact heap_new rfl)
  rw [hW0]
  clear hW0
  have HR := Lib.hid (Kd.C_below HRw.out hb0)
  have HT := Lib.hid (Kd.C_below HTw.out hb0)
  have HB := Lib.hid hb0
  clear hb0 HRw HTw
  refine (ready.W _ HR.out hc0_4 HRD.out).mono ?_
  rintro e V1 ⟨rfl, hb⟩
  replace HSC := Lib.hid (blk_below HSC.out hb)
  replace HR := Lib.hid (Kd.C_below HR.out hb)
  replace HT := Lib.hid (Kd.C_below HT.out hb)
  replace HB := Lib.hid (below_then HB.out HB.out.size hb)
  clear hb
  go_wp2_with fail
  refine (awake.W _).mono ?_
  rintro e V2 ⟨rfl, hb⟩
  replace HSC := Lib.hid (blk_below HSC.out hb)
  replace HR := Lib.hid (Kd.C_below HR.out hb)
  replace HT := Lib.hid (Kd.C_below HT.out hb)
  replace HB := Lib.hid (below_then HB.out HB.out.size hb)
  clear hb
  go_wp2_with fail
  go_ret
  exact ⟨rfl, HB.out⟩
set_option maxRecDepth 100000 in
set_option maxHeartbeats 4000000 in
theorem palantypelaw02_FloorSure.long (a0_0 a0_1 a0_2 a0_3 : Int) (A0_4 : Option Addr) (c0_4 : Nat) (l0_4 : List RM) (A1 : Option Addr) (c1 : Nat) (l1 : List RP) (w : World) (hr0_4 : Kd.C k59 w A0_4 l0_4.length l0_4) (hc0_4 : l0_4.length ≤ c0_4) (hm0 : ∀ y ∈ l0_4, (Lit.int .u16 y.f0).wf = true ∧ (Lit.int .u16 y.f1).wf = true) (hl0 : l0_4.length ≤ maxLen) (hr1 : Kd.C k89 w A1 l1.length l1) (hc1 : l1.length ≤ c1) (hl1 : l1.length ≤ maxLen) (hm1 : ∀ y ∈ l1, (Lit.int .i64 y.f0).wf = true ∧ (Lit.int .i64 y.f1).wf = true) (hrd : Ev (fun k => palantypelaw02_ready.f k a0_0 a0_1 a0_2 a0_3 l0_4) true) (h45 : 45 < (l1.length : Int)) :
    Calls Try.prog 12 #[.agg #[.int .i64 a0_0, .int .i64 a0_1, .int .i64 a0_2, .int .i64 a0_3, .slice A0_4 l0_4.length c0_4], .slice A1 l1.length c1] w fun e w' => e = .returned (.bool true) ∧ Below w.heap.size w w' := by
  have HRD := Lib.hid hrd
  clear hrd
  have hu := Try.underlying24
  unfold maxLen at hl0 hl1
  go_enter Try.func12, Try.ntmps12
  have HRw := Lib.hid hr0_4
  have HTw := Lib.hid hr1
  clear hr0_4 hr1 hm0 hm1
  go_wp2_with fail
  obtain ⟨W0, hW0⟩ : ∃ W0, w.alloc (.cells #[.int .i64 a0_0, .int .i64 a0_1, .int .i64 a0_2, .int .i64 a0_3, .slice A0_4 l0_4.length c0_4] 24) = W0 := ⟨_, rfl⟩
  have hb0 : Below w.heap.size w W0 := by rw [← hW0]; exact (Below.refl _ w).alloc (Nat.le_refl _) _
  have HSC : Hid (W0.heap[w.heap.size]? = some (.cells #[.int .i64 a0_0, .int .i64 a0_1, .int .i64 a0_2, .int .i64 a0_3, .slice A0_4 l0_4.length c0_4] 24 (0, 0))) := Lib.hid (by rw [← hW0]; exact heap_new rfl)
  rw [hW0]
  clear hW0
  have HR := Lib.hid (Kd.C_below HRw.out hb0)
  have HT := Lib.hid (Kd.C_below HTw.out hb0)
  have HB := Lib.hid hb0
  clear hb0 HRw HTw
  refine (ready.W _ HR.out hc0_4 HRD.out).mono ?_
  rintro e V1 ⟨rfl, hb⟩
  replace HSC := Lib.hid (blk_below HSC.out hb)
  replace HR := Lib.hid (Kd.C_below HR.out hb)
  replace HT := Lib.hid (Kd.C_below HT.out hb)
  replace HB := Lib.hid (below_then HB.out HB.out.size hb)
  clear hb
  go_wp2_with fail
  refine (awake.W _).mono ?_
  rintro e V2 ⟨rfl, hb⟩
  replace HSC := Lib.hid (blk_below HSC.out hb)
  replace HR := Lib.hid (Kd.C_below HR.out hb)
  replace HT := Lib.hid (Kd.C_below HT.out hb)
  replace HB := Lib.hid (below_then HB.out HB.out.size hb)
  clear hb
  go_wp2_with fail
  go_ret
  exact ⟨rfl, HB.out⟩
set_option maxRecDepth 100000 in
set_option maxHeartbeats 4000000 in
theorem palantypelaw02_FloorSure.gap (n : Nat) (a0_1 a0_2 a0_3 : Int) (A0_4 : Option Addr) (c0_4 : Nat) (l0_4 : List RM) (A1 : Option Addr) (c1 : Nat) (l1 : List RP) (w : World) (hr0_4 : Kd.C k59 w A0_4 l0_4.length l0_4) (hc0_4 : l0_4.length ≤ c0_4) (hm0 : ∀ y ∈ l0_4, (Lit.int .u16 y.f0).wf = true ∧ (Lit.int .u16 y.f1).wf = true) (hl0 : l0_4.length ≤ maxLen) (hr1 : Kd.C k89 w A1 l1.length l1) (hc1 : l1.length ≤ c1) (hl1 : l1.length ≤ maxLen) (hm1 : ∀ y ∈ l1, (Lit.int .i64 y.f0).wf = true ∧ (Lit.int .i64 y.f1).wf = true) (hrd : Ev (fun k => palantypelaw02_ready.f k n a0_1 a0_2 a0_3 l0_4) true) (h45 : (l1.length : Int) ≤ 45) (L : List FM) (hL : l0_4.map mo = L) (hck : floor_Scene_check.f n a0_1 a0_2 a0_3 L = some 0) (hL40 : l0_4.length ≤ 40) (he : ∀ x, ¬ fwd a0_1 a0_2 a0_3 n L L.length x) :
    Calls Try.prog 12 #[.agg #[.int .i64 n, .int .i64 a0_1, .int .i64 a0_2, .int .i64 a0_3, .slice A0_4 l0_4.length c0_4], .slice A1 l1.length c1] w fun e w' => e = .returned (.bool true) ∧ Below w.heap.size w w' := by
  have HRD := Lib.hid hrd
  have HL := Lib.hid hL
  have HW := Lib.hid (who_gap hck he)
  have HTE := Lib.hid (tell_gap hck he)
  clear hrd hL hck he
  have hu := Try.underlying24
  unfold maxLen at hl0 hl1
  go_enter Try.func12, Try.ntmps12
  have HRw := Lib.hid hr0_4
  have HTw := Lib.hid hr1
  clear hr0_4 hr1 hm0 hm1
  go_wp2_with fail
  obtain ⟨W0, hW0⟩ : ∃ W0, w.alloc (.cells #[.int .i64 n, .int .i64 a0_1, .int .i64 a0_2, .int .i64 a0_3, .slice A0_4 l0_4.length c0_4] 24) = W0 := ⟨_, rfl⟩
  have hb0 : Below w.heap.size w W0 := by rw [← hW0]; exact (Below.refl _ w).alloc (Nat.le_refl _) _
  have HSC : Hid (W0.heap[w.heap.size]? = some (.cells #[.int .i64 n, .int .i64 a0_1, .int .i64 a0_2, .int .i64 a0_3, .slice A0_4 l0_4.length c0_4] 24 (0, 0))) := Lib.hid (by rw [← hW0]; exact heap_new rfl)
  rw [hW0]
  clear hW0
  have HR := Lib.hid (Kd.C_below HRw.out hb0)
  have HT := Lib.hid (Kd.C_below HTw.out hb0)
  have HB := Lib.hid hb0
  clear hb0 HRw HTw
  refine (ready.W _ HR.out hc0_4 HRD.out).mono ?_
  rintro e V1 ⟨rfl, hb⟩
  replace HSC := Lib.hid (blk_below HSC.out hb)
  replace HR := Lib.hid (Kd.C_below HR.out hb)
  replace HT := Lib.hid (Kd.C_below HT.out hb)
  replace HB := Lib.hid (below_then HB.out HB.out.size hb)
  clear hb
  obtain ⟨e0, e1, e2, e3, e4⟩ := agg5 HSC.out
  go_wp2_with fail
  refine (Scene.W HL.out _ HR.out hc0_4 (by omega)).mono ?_
  rintro e V2 ⟨Ax1, cx1, rfl, hcx1, hC, hb⟩
  replace HSC := Lib.hid (blk_below HSC.out hb)
  replace HR := Lib.hid (Kd.C_below HR.out hb)
  replace HT := Lib.hid (Kd.C_below HT.out hb)
  replace HB := Lib.hid (below_then HB.out HB.out.size hb)
  have HCx1 := Lib.hid hC
  clear hC
  clear hb
  clear e0 e1 e2 e3 e4
  obtain ⟨e0, e1, e2, e3, e4⟩ := agg5 HSC.out
  go_wp2_with fail
  refine (Who.W _ HCx1.out hcx1 HW.out).mono ?_
  rintro e V3 ⟨Ax2, cx2, rfl, hcx2, hC, hb⟩
  replace HSC := Lib.hid (blk_below HSC.out hb)
  replace HR := Lib.hid (Kd.C_below HR.out hb)
  replace HT := Lib.hid (Kd.C_below HT.out hb)
  replace HCx1 := Lib.hid (Kd.C_below HCx1.out hb)
  replace HB := Lib.hid (below_then HB.out HB.out.size hb)
  have HCx2 := Lib.hid hC
  clear hC
  clear hb
  clear e0 e1 e2 e3 e4
  obtain ⟨e0, e1, e2, e3, e4⟩ := agg5 HSC.out
  clear HCx1
  go_wp2_with fail
  refine (Scene.W HL.out _ HR.out hc0_4 (by omega)).mono ?_
  rintro e V4 ⟨Ax3, cx3, rfl, hcx3, hC, hb⟩
  replace HSC := Lib.hid (blk_below HSC.out hb)
  replace HR := Lib.hid (Kd.C_below HR.out hb)
  replace HT := Lib.hid (Kd.C_below HT.out hb)
  replace HCx2 := Lib.hid (Kd.C_below HCx2.out hb)
  replace HB := Lib.hid (below_then HB.out HB.out.size hb)
  have HCx3 := Lib.hid hC
  clear hC
  clear hb
  clear e0 e1 e2 e3 e4
  obtain ⟨e0, e1, e2, e3, e4⟩ := agg5 HSC.out
  go_wp2_with fail
  refine (Tell.W _ HCx3.out hcx3 HTE.out).mono ?_
  rintro e V5 ⟨Ax4, cx4, rfl, hcx4, hC, hb⟩
  replace HSC := Lib.hid (blk_below HSC.out hb)
  replace HR := Lib.hid (Kd.C_below HR.out hb)
  replace HT := Lib.hid (Kd.C_below HT.out hb)
  replace HCx2 := Lib.hid (Kd.C_below HCx2.out hb)
  replace HCx3 := Lib.hid (Kd.C_below HCx3.out hb)
  replace HB := Lib.hid (below_then HB.out HB.out.size hb)
  have HCx4 := Lib.hid hC
  clear hC
  clear hb
  clear e0 e1 e2 e3 e4
  obtain ⟨e0, e1, e2, e3, e4⟩ := agg5 HSC.out
  clear HCx3
  go_wp2_with fail
  refine (awake.W _).mono ?_
  rintro e V6 ⟨rfl, hb⟩
  replace HSC := Lib.hid (blk_below HSC.out hb)
  replace HR := Lib.hid (Kd.C_below HR.out hb)
  replace HT := Lib.hid (Kd.C_below HT.out hb)
  replace HCx2 := Lib.hid (Kd.C_below HCx2.out hb)
  replace HCx4 := Lib.hid (Kd.C_below HCx4.out hb)
  replace HB := Lib.hid (below_then HB.out HB.out.size hb)
  clear hb
  go_wp2_with fail
  go_ret
  exact ⟨rfl, HB.out⟩
set_option maxRecDepth 100000 in
set_option maxHeartbeats 4000000 in
theorem palantypelaw02_FloorSure.told (n : Nat) (a0_1 a0_2 a0_3 : Int) (A0_4 : Option Addr) (c0_4 : Nat) (l0_4 : List RM) (A1 : Option Addr) (c1 : Nat) (l1 : List RP) (w : World) (hr0_4 : Kd.C k59 w A0_4 l0_4.length l0_4) (hc0_4 : l0_4.length ≤ c0_4) (hm0 : ∀ y ∈ l0_4, (Lit.int .u16 y.f0).wf = true ∧ (Lit.int .u16 y.f1).wf = true) (hl0 : l0_4.length ≤ maxLen) (hr1 : Kd.C k89 w A1 l1.length l1) (hc1 : l1.length ≤ c1) (hl1 : l1.length ≤ maxLen) (hm1 : ∀ y ∈ l1, (Lit.int .i64 y.f0).wf = true ∧ (Lit.int .i64 y.f1).wf = true) (hrd : Ev (fun k => palantypelaw02_ready.f k n a0_1 a0_2 a0_3 l0_4) true) (h45 : (l1.length : Int) ≤ 45) (L : List FM) (hL : l0_4.map mo = L) (hck : floor_Scene_check.f n a0_1 a0_2 a0_3 L = some 0) (hL40 : l0_4.length ≤ 40) (he : ∃ x, fwd a0_1 a0_2 a0_3 n L L.length x) (hn : n ≤ 12) (wl : List FT) (pl : List FP) (hwl : wl.length = L.length) (hpl : pl.length = L.length) (hLl : L.length = l0_4.length) (hW : floor_Who.f n a0_1 a0_2 a0_3 L = some (wl, 0)) (hTE : floor_Tell.f n a0_1 a0_2 a0_3 L = some (pl, 0)) (T : List FP) (hTP : l1.map po = T) (rp : Bool) (hPR : floor_ProveTelling.f n a0_1 a0_2 a0_3 L T = some rp) (hsame : rp = true → (∀ j (h : j < wl.length), oneB wl[j].f0 = true ∧ oneB wl[j].f1 = true) → ∀ j (h : j < pl.length), ∃ h2 : j < l1.length, l1[j] = op pl[j]) :
    Calls Try.prog 12 #[.agg #[.int .i64 n, .int .i64 a0_1, .int .i64 a0_2, .int .i64 a0_3, .slice A0_4 l0_4.length c0_4], .slice A1 l1.length c1] w fun e w' => e = .returned (.bool true) ∧ Below w.heap.size w w' := by
  have HRD := Lib.hid hrd
  have HL := Lib.hid hL
  have HW := Lib.hid hW
  have HTE := Lib.hid hTE
  have HTP := Lib.hid hTP
  have HPR := Lib.hid hPR
  have HSAME := Lib.hid hsame
  have HWL := Lib.hid hwl
  have HPL := Lib.hid hpl
  have HLL := Lib.hid hLl
  have q1 : ((wl.length : Int) == (l0_4.length : Int)) = true := by simp; omega
  have q2 : ((pl.length : Int) == (wl.length : Int)) = true := by simp; omega
  have hwl40 : wl.length ≤ 40 := by omega
  have hpl40 : pl.length ≤ 40 := by omega
  clear hrd hL hck he hW hTE hTP hPR hsame hwl hpl hLl
  have hu := Try.underlying24
  unfold maxLen at hl0 hl1
  go_enter Try.func12, Try.ntmps12
  have HRw := Lib.hid hr0_4
  have HTw := Lib.hid hr1
  clear hr0_4 hr1 hm0 hm1
  go_wp2_with fail
  obtain ⟨W0, hW0⟩ : ∃ W0, w.alloc (.cells #[.int .i64 n, .int .i64 a0_1, .int .i64 a0_2, .int .i64 a0_3, .slice A0_4 l0_4.length c0_4] 24) = W0 := ⟨_, rfl⟩
  have hb0 : Below w.heap.size w W0 := by rw [← hW0]; exact (Below.refl _ w).alloc (Nat.le_refl _) _
  have HSC : Hid (W0.heap[w.heap.size]? = some (.cells #[.int .i64 n, .int .i64 a0_1, .int .i64 a0_2, .int .i64 a0_3, .slice A0_4 l0_4.length c0_4] 24 (0, 0))) := Lib.hid (by rw [← hW0]; exact heap_new rfl)
  rw [hW0]
  clear hW0
  have HR := Lib.hid (Kd.C_below HRw.out hb0)
  have HT := Lib.hid (Kd.C_below HTw.out hb0)
  have HB := Lib.hid hb0
  clear hb0 HRw HTw
  refine (ready.W _ HR.out hc0_4 HRD.out).mono ?_
  rintro e V1 ⟨rfl, hb⟩
  replace HSC := Lib.hid (blk_below HSC.out hb)
  replace HR := Lib.hid (Kd.C_below HR.out hb)
  replace HT := Lib.hid (Kd.C_below HT.out hb)
  replace HB := Lib.hid (below_then HB.out HB.out.size hb)
  clear hb
  obtain ⟨e0, e1, e2, e3, e4⟩ := agg5 HSC.out
  go_wp2_with fail
  refine (Scene.W HL.out _ HR.out hc0_4 (by omega)).mono ?_
  rintro e V2 ⟨Ax1, cx1, rfl, hcx1, hC, hb⟩
  replace HSC := Lib.hid (blk_below HSC.out hb)
  replace HR := Lib.hid (Kd.C_below HR.out hb)
  replace HT := Lib.hid (Kd.C_below HT.out hb)
  replace HB := Lib.hid (below_then HB.out HB.out.size hb)
  have HCx1 := Lib.hid hC
  clear hC
  clear hb
  clear e0 e1 e2 e3 e4
  obtain ⟨e0, e1, e2, e3, e4⟩ := agg5 HSC.out
  go_wp2_with fail
  refine (Who.W _ HCx1.out hcx1 HW.out).mono ?_
  rintro e V3 ⟨Ax2, cx2, rfl, hcx2, hC, hb⟩
  replace HSC := Lib.hid (blk_below HSC.out hb)
  replace HR := Lib.hid (Kd.C_below HR.out hb)
  replace HT := Lib.hid (Kd.C_below HT.out hb)
  replace HCx1 := Lib.hid (Kd.C_below HCx1.out hb)
  replace HB := Lib.hid (below_then HB.out HB.out.size hb)
  have HCx2 := Lib.hid hC
  clear hC
  clear hb
  clear e0 e1 e2 e3 e4
  obtain ⟨e0, e1, e2, e3, e4⟩ := agg5 HSC.out
  clear HCx1
  go_wp2_with fail
  refine (Scene.W HL.out _ HR.out hc0_4 (by omega)).mono ?_
  rintro e V4 ⟨Ax3, cx3, rfl, hcx3, hC, hb⟩
  replace HSC := Lib.hid (blk_below HSC.out hb)
  replace HR := Lib.hid (Kd.C_below HR.out hb)
  replace HT := Lib.hid (Kd.C_below HT.out hb)
  replace HCx2 := Lib.hid (Kd.C_below HCx2.out hb)
  replace HB := Lib.hid (below_then HB.out HB.out.size hb)
  have HCx3 := Lib.hid hC
  clear hC
  clear hb
  clear e0 e1 e2 e3 e4
  obtain ⟨e0, e1, e2, e3, e4⟩ := agg5 HSC.out
  go_wp2_with fail
  refine (Tell.W _ HCx3.out hcx3 HTE.out).mono ?_
  rintro e V5 ⟨Ax4, cx4, rfl, hcx4, hC, hb⟩
  replace HSC := Lib.hid (blk_below HSC.out hb)
  replace HR := Lib.hid (Kd.C_below HR.out hb)
  replace HT := Lib.hid (Kd.C_below HT.out hb)
  replace HCx2 := Lib.hid (Kd.C_below HCx2.out hb)
  replace HCx3 := Lib.hid (Kd.C_below HCx3.out hb)
  replace HB := Lib.hid (below_then HB.out HB.out.size hb)
  have HCx4 := Lib.hid hC
  clear hC
  clear hb
  clear e0 e1 e2 e3 e4
  obtain ⟨e0, e1, e2, e3, e4⟩ := agg5 HSC.out
  clear HCx3
  go_wp2_with fail
  clear q1 q2 e0 e1 e2 e3 e4
  go_loopg [9, 10] wl.length (fun kq v9 v10 w' => ∃ (b : Bool) (k : Nat), v9 = .bool b ∧ v10 = .int .i64 k ∧ Hid (kq + k = wl.length) ∧ Hid (b = true → ∀ j (h : j < wl.length), j < k → oneB wl[j].f0 = true ∧ oneB wl[j].f1 = true) ∧ Hid (Below V5.heap.size V5 w'))
  case atStart => exact ⟨true, 0, rfl, rfl, Lib.hid (by omega), Lib.hid (fun _ j _ h => by omega), Lib.hid (Below.refl _ _)⟩
  case round =>
    obtain ⟨b, k, rfl, rfl, HK, HALL, HBW⟩ := hrel
    have hkq := HK.out
    clear HK
    cases gk with
    | succ k1 =>
      have hlt : k < wl.length := by omega
      have hlt2 : (k : Int) < wl.length := by omega
      obtain ⟨ad, hadA, m0, m1⟩ := at_T54 (Kd.C_below HCx2.out HBW.out) k (by omega) (by omega)
      rw [rd54 hlt, Int.toNat_natCast] at m0 m1
      obtain ⟨⟨mf, mh⟩, hmk⟩ : ∃ m, wl[k] = m := ⟨_, rfl⟩
      rw [hmk] at m0 m1
      simp only [] at m0 m1
      subst hadA
      have HMK := Lib.hid hmk
      clear hmk
      cases b with
      | false =>
        have HKQ := Lib.hid hkq
        clear hkq
        go_wp2_with fail
        go_roundg k1
        case measure => omega
        case rel => exact ⟨false, k + 1, rfl, by simp, Lib.hid (by have := HKQ.out; omega), Lib.hid (fun h => by cases h), HBW⟩
      | true =>
        have HKQ := Lib.hid hkq
        clear hkq
        cases h1 : oneB mf with
        | false =>
          have H1 := Lib.hid h1
          clear h1
          go_wp2_with fail
          refine (one.W mf _).mono ?_
          rintro e V20 ⟨rfl, hb⟩
          rw [H1.out]
          replace m0 := (hb.cell (World.block_lt_of_cell? _ _ m0)).trans m0
          replace m1 := (hb.cell (World.block_lt_of_cell? _ _ m1)).trans m1
          have HBV := Lib.hid (below_then HBW.out HBW.out.size hb)
          clear hb
          go_wp2_with fail
          go_roundg k1
          case measure => omega
          case rel => exact ⟨false, k + 1, rfl, by simp, Lib.hid (by have := HKQ.out; omega), Lib.hid (fun h => by cases h), HBV⟩
        | true =>
          have H1 := Lib.hid h1
          clear h1
          go_wp2_with fail
          refine (one.W mf _).mono ?_
          rintro e V20 ⟨rfl, hb⟩
          rw [H1.out]
          replace m0 := (hb.cell (World.block_lt_of_cell? _ _ m0)).trans m0
          replace m1 := (hb.cell (World.block_lt_of_cell? _ _ m1)).trans m1
          have HBV := Lib.hid (below_then HBW.out HBW.out.size hb)
          clear hb
          obtain ⟨b2, hb2⟩ : ∃ b2, oneB mh = b2 := ⟨_, rfl⟩
          have HB2 := Lib.hid hb2
          clear hb2
          go_wp2_with fail
          refine (one.W mh _).mono ?_
          rintro e V21 ⟨rfl, hb⟩
          rw [HB2.out]
          have HBV2 := Lib.hid (below_then HBV.out HBV.out.size hb)
          clear hb
          go_wp2_with fail
          go_roundg k1
          case measure => omega
          case rel =>
            refine ⟨b2, k + 1, rfl, by simp, Lib.hid (by have := HKQ.out; omega), Lib.hid (fun h j hj hjk => ?_), HBV2⟩
            by_cases e : j = k
            · subst e; rw [HMK.out]; exact ⟨H1.out, by rw [HB2.out]; exact h⟩
            · exact HALL.out (by trivial) j hj (by omega)
    | zero =>
      obtain rfl : k = wl.length := by omega
      have HALL2 : Hid (b = true → ∀ j (h : j < wl.length), oneB wl[j].f0 = true ∧ oneB wl[j].f1 = true) := Lib.hid (fun hb j h => HALL.out hb j h h)
      have hb := HBW.out
      clear hkq HALL HBW
      clear HCx2
      replace HSC := Lib.hid (blk_below HSC.out hb)
      replace HR := Lib.hid (Kd.C_below HR.out hb)
      replace HT := Lib.hid (Kd.C_below HT.out hb)
      replace HCx4 := Lib.hid (Kd.C_below HCx4.out hb)
      replace HB := Lib.hid (below_then HB.out HB.out.size hb)
      clear hb
      obtain ⟨e0, e1, e2, e3, e4⟩ := agg5 HSC.out
      cases b with
      | false =>
        go_wp2_with fail
        refine (awake.W _).mono ?_
        rintro e V6 ⟨rfl, hb⟩
        replace HSC := Lib.hid (blk_below HSC.out hb)
        replace HR := Lib.hid (Kd.C_below HR.out hb)
        replace HT := Lib.hid (Kd.C_below HT.out hb)
        replace HCx4 := Lib.hid (Kd.C_below HCx4.out hb)
        replace HB := Lib.hid (below_then HB.out HB.out.size hb)
        clear hb
        go_wp2_with fail
        go_ret
        exact ⟨rfl, HB.out⟩
      | true =>
        go_wp2_with fail
        refine (Scene.W HL.out _ HR.out hc0_4 (by omega)).mono ?_
        rintro e V6 ⟨Ax5, cx5, rfl, hcx5, hC, hb⟩
        replace HSC := Lib.hid (blk_below HSC.out hb)
        replace HR := Lib.hid (Kd.C_below HR.out hb)
        replace HT := Lib.hid (Kd.C_below HT.out hb)
        replace HCx4 := Lib.hid (Kd.C_below HCx4.out hb)
        replace HB := Lib.hid (below_then HB.out HB.out.size hb)
        have HCx5 := Lib.hid hC
        clear hC
        clear hb
        clear e0 e1 e2 e3 e4
        obtain ⟨e0, e1, e2, e3, e4⟩ := agg5 HSC.out
        go_wp2_with fail
        refine (Telling.W HTP.out _ HT.out hc1 (by omega)).mono ?_
        rintro e V7 ⟨Ax6, cx6, rfl, hcx6, hC, hb⟩
        replace HSC := Lib.hid (blk_below HSC.out hb)
        replace HR := Lib.hid (Kd.C_below HR.out hb)
        replace HT := Lib.hid (Kd.C_below HT.out hb)
        replace HCx4 := Lib.hid (Kd.C_below HCx4.out hb)
        replace HCx5 := Lib.hid (Kd.C_below HCx5.out hb)
        replace HB := Lib.hid (below_then HB.out HB.out.size hb)
        have HCx6 := Lib.hid hC
        clear hC
        clear hb
        clear e0 e1 e2 e3 e4
        obtain ⟨e0, e1, e2, e3, e4⟩ := agg5 HSC.out
        go_wp2_with fail
        cases rp with
        | false =>
          refine (prove.W _ HCx5.out hcx5 HCx6.out hcx6 HPR.out).mono ?_
          rintro e V8 ⟨rfl, hb⟩
          replace HSC := Lib.hid (blk_below HSC.out hb)
          replace HR := Lib.hid (Kd.C_below HR.out hb)
          replace HT := Lib.hid (Kd.C_below HT.out hb)
          replace HCx4 := Lib.hid (Kd.C_below HCx4.out hb)
          replace HCx5 := Lib.hid (Kd.C_below HCx5.out hb)
          replace HCx6 := Lib.hid (Kd.C_below HCx6.out hb)
          replace HB := Lib.hid (below_then HB.out HB.out.size hb)
          clear hb
          clear e0 e1 e2 e3 e4
          obtain ⟨e0, e1, e2, e3, e4⟩ := agg5 HSC.out
          clear HCx5 HCx6
          go_wp2_with fail
          refine (awake.W _).mono ?_
          rintro e V9 ⟨rfl, hb⟩
          replace HSC := Lib.hid (blk_below HSC.out hb)
          replace HR := Lib.hid (Kd.C_below HR.out hb)
          replace HT := Lib.hid (Kd.C_below HT.out hb)
          replace HCx4 := Lib.hid (Kd.C_below HCx4.out hb)
          replace HB := Lib.hid (below_then HB.out HB.out.size hb)
          clear hb
          go_wp2_with fail
          go_ret
          exact ⟨rfl, HB.out⟩
        | true =>
          refine (prove.W _ HCx5.out hcx5 HCx6.out hcx6 HPR.out).mono ?_
          rintro e V8 ⟨rfl, hb⟩
          replace HSC := Lib.hid (blk_below HSC.out hb)
          replace HR := Lib.hid (Kd.C_below HR.out hb)
          replace HT := Lib.hid (Kd.C_below HT.out hb)
          replace HCx4 := Lib.hid (Kd.C_below HCx4.out hb)
          replace HCx5 := Lib.hid (Kd.C_below HCx5.out hb)
          replace HCx6 := Lib.hid (Kd.C_below HCx6.out hb)
          replace HB := Lib.hid (below_then HB.out HB.out.size hb)
          clear hb
          clear e0 e1 e2 e3 e4
          obtain ⟨e0, e1, e2, e3, e4⟩ := agg5 HSC.out
          clear HCx5 HCx6
          go_wp2_with fail
          have HEQ := Lib.hid (HSAME.out (by trivial) (HALL2.out (by trivial)))
          clear HALL2 HSAME e0 e1 e2 e3 e4
          go_loopg [11] pl.length (fun kq v11 w' => ∃ (k : Nat), v11 = .int .i64 k ∧ Hid (kq + k = pl.length) ∧ Hid (Below V8.heap.size V8 w'))
          case atStart => exact ⟨0, rfl, Lib.hid (by omega), Lib.hid (Below.refl _ _)⟩
          case round =>
            obtain ⟨k, rfl, HK, HBW⟩ := hrel
            have hkq := HK.out
            clear HK
            cases gk with
            | zero =>
              obtain rfl : k = pl.length := by omega
              have hb := HBW.out
              clear hkq HBW
              replace HB := Lib.hid (below_then HB.out HB.out.size hb)
              clear hb
              go_wp2_with fail
              refine (awake.W _).mono ?_
              rintro e V9 ⟨rfl, hb⟩
              replace HB := Lib.hid (below_then HB.out HB.out.size hb)
              clear hb
              go_wp2_with fail
              go_ret
              exact ⟨rfl, HB.out⟩
            | succ k1 =>
              have hlt : k < pl.length := by omega
              have hlt2 : (k : Int) < pl.length := by omega
              obtain ⟨hlt3, heq⟩ := HEQ.out k hlt
              have hlt4 : (k : Int) < l1.length := by omega
              have hk0 : (0 : Int) ≤ (k : Int) := by omega
              obtain ⟨ad, hadA, m0, m1⟩ := at_T65 (Kd.C_below HCx4.out HBW.out) k (by omega) (by omega)
              obtain ⟨ad2, hadA2, n0, n1⟩ := at_T89 (Kd.C_below HT.out HBW.out) k (by omega) (by omega)
              rw [rd65 hlt, Int.toNat_natCast] at m0 m1
              rw [rd89 hlt3, Int.toNat_natCast, heq] at n0 n1
              obtain ⟨⟨ph, pv⟩, hmk⟩ : ∃ m, pl[k] = m := ⟨_, rfl⟩
              rw [hmk] at m0 m1 n0 n1
              simp only [op] at m0 m1 n0 n1
              subst hadA hadA2
              have HKQ := Lib.hid hkq
              clear hkq heq hmk
              have hge : decide (l1.length ≤ k) = false := by simp; omega
              go_wp2_with fail
              go_quiet (fail)
              go_wp2_with fail
              go_roundg k1
              case measure => omega
              case rel => exact ⟨k + 1, by simp, Lib.hid (by have := HKQ.out; omega), Lib.hid (pw_below_drewN HBW.out _)⟩
end Go.Proofs.Ytdnjmhhjjbdieaa.Q
end
section
namespace Go.Proofs.Ytdnjmhhjjbdieaa.Q
open Go.RowKit Go.Proofs.YtdnjmhhjjbdieaaW.PrintWords
set_option linter.unusedVariables false
theorem sure_same {a1 a2 a3 : Int} {n : Nat} (hn : n ≤ 12) {L : List FM} {t : List RP} {pl : List FP} (hp : Told a1 a2 a3 n L (pl.map op)) (ht : Told a1 a2 a3 n L t)
    (h1 : ∀ j (h : j < ((List.range L.length).map (toldOf a1 a2 a3 n L)).length), oneB ((List.range L.length).map (toldOf a1 a2 a3 n L))[j].f0 = true ∧ oneB ((List.range L.length).map (toldOf a1 a2 a3 n L))[j].f1 = true) :
    ∀ j (h : j < pl.length), ∃ h2 : j < t.length, t[j] = op pl[j] := by
  intro j hj
  have hjL : j < L.length := by have := hp.1; rw [List.length_map] at this; omega
  have hjt : j < t.length := by have := ht.1; omega
  refine ⟨hjt, ?_⟩
  have h := h1 j (by simpa using hjL)
  rw [List.getElem_map, List.getElem_range] at h
  obtain ⟨s0, s1⟩ := toldOf_isSet (least := a1) (most := a2) (short := a3) hn hjL
  have hjp : j < (pl.map op).length := by rw [List.length_map]; exact hj
  have rp := told_range hp _ (List.getElem_mem hjp)
  have rt := told_range ht _ (List.getElem_mem hjt)
  rw [List.getElem_map] at rp
  have gp : (pl.map op)[j]? = some (op pl[j]) := by rw [List.getElem?_eq_getElem hjp, List.getElem_map]
  have gt : t[j]? = some t[j] := List.getElem?_eq_getElem hjt
  have e0 : t[j].f0 = (op pl[j]).f0 := one_same s0 h.1 (by omega) (by omega) (by omega) (by omega) ⟨t, ht, _, gt, rfl⟩ ⟨_, hp, _, gp, rfl⟩
  have e1 : t[j].f1 = (op pl[j]).f1 := one_same s1 h.2 (by omega) (by omega) (by omega) (by omega) ⟨t, ht, _, gt, rfl⟩ ⟨_, hp, _, gp, rfl⟩
  generalize op pl[j] = q at e0 e1 ⊢
  generalize t[j] = p at e0 e1 ⊢
  obtain ⟨x, y⟩ := p
  obtain ⟨u, v⟩ := q
  cases e0
  cases e1
  rfl
theorem palantypelaw02_FloorSure.walk (a0_0 a0_1 a0_2 a0_3 : Int) (A0_4 : Option Addr) (c0_4 : Nat) (l0_4 : List RM) (A1 : Option Addr) (c1 : Nat) (l1 : List RP) (w : World) (hr0_4 : Kd.C k59 w A0_4 l0_4.length l0_4) (hc0_4 : l0_4.length ≤ c0_4) (hm0 : ∀ y ∈ l0_4, (Lit.int .u16 y.f0).wf = true ∧ (Lit.int .u16 y.f1).wf = true) (hl0 : l0_4.length ≤ maxLen)
    (hr1 : Kd.C k89 w A1 l1.length l1) (hc1 : l1.length ≤ c1) (hl1 : l1.length ≤ maxLen) (hm1 : ∀ y ∈ l1, (Lit.int .i64 y.f0).wf = true ∧ (Lit.int .i64 y.f1).wf = true) :
    Calls Try.prog 12 #[.agg #[.int .i64 a0_0, .int .i64 a0_1, .int .i64 a0_2, .int .i64 a0_3, .slice A0_4 l0_4.length c0_4], .slice A1 l1.length c1] w fun e w' => e = .returned (.bool true) ∧ Below w.heap.size w w' := by
  rcases ready_cases (a0 := a0_0) (a1 := a0_1) (a2 := a0_2) (a3 := a0_3) hm0 with hrd | ⟨hrd, n, rfl, hn1, hn2, h40, hck, h20, h1m, hs20⟩
  · exact palantypelaw02_FloorSure.early _ _ _ _ _ _ _ _ _ _ w hr0_4 hc0_4 hm0 hl0 hr1 hc1 hl1 hm1 hrd
  · by_cases h45 : (l1.length : Int) ≤ 45
    · obtain ⟨L, hL⟩ : ∃ L, l0_4.map mo = L := ⟨_, rfl⟩
      rw [hL] at hck
      have hLl : L.length = l0_4.length := by rw [← hL, List.length_map]
      rcases gap_or (least := a0_1) (most := a0_2) (short := a0_3) (n := n) (l := L) with he | he
      · exact palantypelaw02_FloorSure.gap n _ _ _ _ _ _ _ _ _ w hr0_4 hc0_4 hm0 hl0 hr1 hc1 hl1 hm1 hrd h45 L hL hck h40 he
      · refine palantypelaw02_FloorSure.told n _ _ _ _ _ _ _ _ _ w hr0_4 hc0_4 hm0 hl0 hr1 hc1 hl1 hm1 hrd h45 L hL hck h40 he hn2 _ _ (by simp) (tell_len he) hLl (who_ok hck he) (tell_ok hck he) _ rfl _ (prove_ok hck) (fun hp h1 => ?_)
        exact sure_same hn2 (tell_told he) (told_of_prove hp) h1
    · exact palantypelaw02_FloorSure.long _ _ _ _ _ _ _ _ _ _ w hr0_4 hc0_4 hm0 hl0 hr1 hc1 hl1 hm1 hrd (by omega)
end Go.Proofs.Ytdnjmhhjjbdieaa.Q
end
section
namespace Go.Proofs.Ytdnjmhhjjbdieaa.floorSure
open Go.ChangeShapes Go.WideShapes Go.ChangeAt Go.RowKit Go.Proofs.Ytdnjmhhjjbdieaa.Q
set_option linter.unusedVariables false
theorem own : ownKnob Try.prog.godebug = none := by kernel_rfl
theorem laidOut : laidOutB Try.prog = true := by kernel_rfl
set_option maxRecDepth 100000 in
theorem lifted (os : Os) (started : os.Started) (H : Type) (enc : TypeId × Value → H) :
    ReturnsInHanded {} Try.checked os 12 .any (Rows.floorSureSpec.pre6 enc Try.prog Try.f12 Rows.floorSureRow.domain false) (Rows.floorSureSpec.post enc Try.prog Try.f12 false true false false) := by
  refine returnsInHanded_of_change_sized (C := Try.checked) own started (by kernel_rfl) Try.func12
    (ChangeSpec.witness6 (enc := enc) (C := Try.checked) false ⟨#[], #[.agg #[.int .i64 0, .int .i64 0, .int .i64 0, .int .i64 0, .slice none 0 0], .slice none 0 0], []⟩ 8 (by kernel_rfl) (by kernel_rfl) (by kernel_rfl) (by kernel_rfl)) ?_
  intro W base args ds gs before hval0 hW hcnd hsz0 _
  have hval : ∀ (j : Nat) t v, Try.f12.params[j]? = some t → args[j]? = some v → Value.okWide Try.prog W .any base t v := hval0
  have hW' := hW
  obtain ⟨p, q, hA0, hV, rfl, hfz, hnd⟩ := hW
  have hA : DataW.TrodAll enc Try.prog W 0 (fun _ => true) true Try.f12.params.toList args.toList ds p := hA0
  rw [Try.params12] at hA hval
  obtain ⟨v0, vs0, d0, ds0, p0, q0, hargs, rfl, rfl, h0, r0⟩ := trodAll_cons hA
  obtain ⟨v1, vs1, d1, ds1, p1, q1, rfl, rfl, rfl, h1, r1⟩ := trodAll_cons r0
  obtain ⟨rfl, rfl, rfl⟩ := trodAll_nil r1
  obtain rfl : args = #[v0, v1] := by cases args; simp_all
  obtain ⟨rfl, rfl⟩ := trodVars_none hV
  have k0 := h0
  have lt0 : ∀ x ∈ p0, x.block < W.heap.size := by obtain ⟨m, hm⟩ := k0; exact DataW.trod_lt m _ _ _ hm
  obtain ⟨a0_0, a0_1, a0_2, a0_3, A0, l0_4, c0, rfl, hc0, hr0, w0_0, w0_1, w0_2, w0_3, hl0, hm0⟩ := open_scene (hval 0 24 v0 rfl rfl) h0
  have k1 := h1
  have lt1 : ∀ x ∈ p1, x.block < W.heap.size := by obtain ⟨m, hm⟩ := k1; exact DataW.trod_lt m _ _ _ hm
  obtain ⟨A1, l1, c1, rfl, hc1, hr1, hl1, hm1⟩ := open_parts (hval 1 84 v1 rfl rfl) h1
  clear hA0 hval0 hsz0
  refine Calls.mono (palantypelaw02_FloorSure.walk (a0_0 := a0_0) (a0_1 := a0_1) (a0_2 := a0_2) (a0_3 := a0_3) (hr0_4 := hr0) (hc0_4 := hc0) (hm0 := hm0) (hl0 := hl0) (hr1 := hr1) (hc1 := hc1) (hm1 := hm1) (hl1 := hl1)) (fun e W' ⟨he, bel⟩ => ?_)
  subst he
  exact ⟨_, rfl, _, _, _, [], _, [], hW', trodAll_mk1 (shut_bool Try.underlying4 _), (trodAll_cons_mk (Below.trod laidOut (by kernel_rfl) (of_decide_eq_true (by kernel_rfl)) k0 bel lt0) (trodAll_cons_mk (Below.trod laidOut (by kernel_rfl) (of_decide_eq_true (by kernel_rfl)) k1 bel lt1) trodAll_mk0)), rfl, bel.frame _, fun h => by cases h⟩
theorem over : Rows.floorSureRow.holds Try.pinned (OpenSpec.ofChange Rows.floorSureSpec) :=
  OpenClaim.holds_of_wide 12 Try.f12 rfl rfl rfl rfl rfl rfl rfl ⟨rfl, rfl, rfl, rfl, rfl⟩ rfl rfl rfl rfl rfl (by kernel_rfl) Try.func12 (by kernel_rfl)
    (of_decide_eq_true (by kernel_rfl)) (by unfold Func.isWrapper; first | (rw [if_pos (by decide +kernel)]; kernel_rfl) | (rw [if_neg (by decide +kernel)]; exact ⟨rfl, rfl⟩))
    (fun os started H enc _ => lifted os started H enc)
theorem proved : Rows.FloorSureSaid := over
#print axioms proved
end Go.Proofs.Ytdnjmhhjjbdieaa.floorSure
namespace Go.Proofs.Ytdnjmhhjjbdieaa
theorem floorSure_holds : Rows.FloorSureSaid := floorSure.proved
end Go.Proofs.Ytdnjmhhjjbdieaa
end
