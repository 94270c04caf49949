/- FloorRanges: for every input the statement answers true; the inputs are a scene and a telling of any size, as an argument can hold them, and any number of 8 bits. -/
import Derived.Test.YtdnjmhhjjbdieaaG1
import Derived.Test.YtdnjmhhjjbdieaaG9
import Derived.Test.YtdnjmhhjjbdieaaG10
import Derived.Test.YtdnjmhhjjbdieaaRows
import Derived.WalkKit
import Derived.ProofKit
import Derived.OpenShut
import Derived.ShutString
import Derived.ChangeOld
import Derived.Below
import Derived.SizedLaws
import Derived.Carry
namespace Go.Proofs.Ytdnjmhhjjbdieaa.Q
end Go.Proofs.Ytdnjmhhjjbdieaa.Q
namespace Go.Proofs.YtdnjmhhjjbdieaaW.PrintLast
end Go.Proofs.YtdnjmhhjjbdieaaW.PrintLast
namespace Go.Proofs.YtdnjmhhjjbdieaaW.PrintWords
end Go.Proofs.YtdnjmhhjjbdieaaW.PrintWords
section
namespace Go.Proofs.Ytdnjmhhjjbdieaa.Q
open Go.RowKit Go.Shelf Go.Proofs.YtdnjmhhjjbdieaaW.PrintWords Go.Proofs.YtdnjmhhjjbdieaaW.PrintLast
set_option linter.unusedVariables false
set_option linter.unusedSimpArgs false
def highN (wl : List FT) (p : Int) : Nat → Nat
  | 0 => 0
  | i + 1 => highN wl p i + (if inSet (wl.getD i ⟨0, 0⟩).f0 p = true then 1 else 0)
def lowN (wl : List FT) (p : Int) : Nat → Nat
  | 0 => 0
  | i + 1 => lowN wl p i + (if inSet (wl.getD i ⟨0, 0⟩).f0 p = true ∧ oneB (wl.getD i ⟨0, 0⟩).f0 = true then 1 else 0)
theorem highN_le (wl : List FT) (p : Int) : ∀ i, highN wl p i ≤ i
  | 0 => Nat.le_refl _
  | i + 1 => by have := highN_le wl p i; simp only [highN]; split <;> omega
theorem lowN_le (wl : List FT) (p : Int) : ∀ i, lowN wl p i ≤ i
  | 0 => Nat.le_refl _
  | i + 1 => by have := lowN_le wl p i; simp only [lowN]; split <;> omega
def sumN (f : Nat → Int) : Nat → Int
  | 0 => 0
  | i + 1 => sumN f i + f i
theorem sumN_range {f : Nat → Int} {B : Int} : ∀ i, (∀ j, j < i → 0 ≤ f j ∧ f j ≤ B) → 0 ≤ sumN f i ∧ sumN f i ≤ i * B
  | 0, _ => by simp [sumN]
  | i + 1, h => by
    have h1 := sumN_range i (fun j hj => h j (by omega))
    have h2 := h i (by omega)
    have e : ((i + 1 : Nat) : Int) * B = i * B + B := by rw [Int.natCast_succ, Int.add_mul, Int.one_mul]
    rw [e]
    simp only [sumN]
    omega
set_option maxRecDepth 100000 in
set_option maxHeartbeats 4000000 in
theorem palantypelaw02_FloorRanges.early (a0_0 a0_1 a0_2 a0_3 : Int) (A0_4 : Option Addr) (c0_4 : Nat) (l0_4 : List RM) (A1 : Option Addr) (c1 : Nat) (l1 : List RP) (a2 : Int) (w : World) (hr0_4 : Kd.C k59 w A0_4 l0_4.length l0_4) (hc0_4 : l0_4.length ≤ c0_4) (hm0 : ∀ y ∈ l0_4, (Lit.int .u16 y.f0).wf = true ∧ (Lit.int .u16 y.f1).wf = true) (hl0 : l0_4.length ≤ maxLen) (hr1 : Kd.C k89 w A1 l1.length l1) (hc1 : l1.length ≤ c1) (hl1 : l1.length ≤ maxLen) (hm1 : ∀ y ∈ l1, (Lit.int .i64 y.f0).wf = true ∧ (Lit.int .i64 y.f1).wf = true) (w2 : (Lit.int .u8 a2).wf = true) (hrd : Ev (fun k => palantypelaw02_ready.f k a0_0 a0_1 a0_2 a0_3 l0_4) false) :
    Calls Try.prog 13 #[.agg #[.int .i64 a0_0, .int .i64 a0_1, .int .i64 a0_2, .int .i64 a0_3, .slice A0_4 l0_4.length c0_4], .slice A1 l1.length c1, .int .u8 a2] w fun e w' => e = .returned (.bool true) ∧ Below w.heap.size w w' := by
  have HRD := Lib.hid hrd
  clear hrd
  have hu := Try.underlying24
  have hu2 := Try.underlying42
  have ⟨w20, w21⟩ := wf_u8 w2
  unfold maxLen at hl0 hl1
  go_enter Try.func13, Try.ntmps13
  have HRw := Lib.hid hr0_4
  have HTw := Lib.hid hr1
  clear hr0_4 hr1 hm0 hm1 w2
  go_wp2_with fail
  obtain ⟨W0, hW0⟩ : ∃ W0, w.alloc (.cells #[.int .i64 a0_0, .int .i64 a0_1, .int .i64 a0_2, .int .i64 a0_3, .slice A0_4 l0_4.length c0_4] 24) = W0 := ⟨_, rfl⟩
  have hb0 : Below w.heap.size w W0 := by rw [← hW0]; exact (Below.refl _ w).alloc (Nat.le_refl _) _
  have HSC : Hid (W0.heap[w.heap.size]? = some (.cells #[.int .i64 a0_0, .int .i64 a0_1, .int .i64 a0_2, .int .i64 a0_3, .slice A0_4 l0_4.length c0_4] 24 (0, 0))) := Lib.hid (by rw [← hW0]; exact heap_new rfl)
  rw [hW0]
  clear hW0
  have HR := Lib.hid (Kd.C_below HRw.out hb0)
  have HT := Lib.hid (Kd.C_below HTw.out hb0)
  have HB := Lib.hid hb0
  clear hb0 HRw HTw
  refine (ready.W _ HR.out hc0_4 HRD.out).mono ?_
  rintro e V1 ⟨rfl, hb⟩
  replace HSC := Lib.hid (blkBel HSC.out hb)
  replace HR := Lib.hid (Kd.C_below HR.out hb)
  replace HT := Lib.hid (Kd.C_below HT.out hb)
  replace HB := Lib.hid (below_then HB.out HB.out.size hb)
  clear hb
  go_wp2_with fail
  refine (awake.W _).mono ?_
  rintro e V2 ⟨rfl, hb⟩
  replace HSC := Lib.hid (blkBel HSC.out hb)
  replace HR := Lib.hid (Kd.C_below HR.out hb)
  replace HT := Lib.hid (Kd.C_below HT.out hb)
  replace HB := Lib.hid (below_then HB.out HB.out.size hb)
  clear hb
  go_wp2_with fail
  go_ret
  exact ⟨rfl, HB.out⟩
set_option maxRecDepth 100000 in
set_option maxHeartbeats 4000000 in
theorem palantypelaw02_FloorRanges.long (a0_0 a0_1 a0_2 a0_3 : Int) (A0_4 : Option Addr) (c0_4 : Nat) (l0_4 : List RM) (A1 : Option Addr) (c1 : Nat) (l1 : List RP) (a2 : Int) (w : World) (hr0_4 : Kd.C k59 w A0_4 l0_4.length l0_4) (hc0_4 : l0_4.length ≤ c0_4) (hm0 : ∀ y ∈ l0_4, (Lit.int .u16 y.f0).wf = true ∧ (Lit.int .u16 y.f1).wf = true) (hl0 : l0_4.length ≤ maxLen) (hr1 : Kd.C k89 w A1 l1.length l1) (hc1 : l1.length ≤ c1) (hl1 : l1.length ≤ maxLen) (hm1 : ∀ y ∈ l1, (Lit.int .i64 y.f0).wf = true ∧ (Lit.int .i64 y.f1).wf = true) (w2 : (Lit.int .u8 a2).wf = true) (hrd : Ev (fun k => palantypelaw02_ready.f k a0_0 a0_1 a0_2 a0_3 l0_4) true) (h45 : 45 < (l1.length : Int)) :
    Calls Try.prog 13 #[.agg #[.int .i64 a0_0, .int .i64 a0_1, .int .i64 a0_2, .int .i64 a0_3, .slice A0_4 l0_4.length c0_4], .slice A1 l1.length c1, .int .u8 a2] w fun e w' => e = .returned (.bool true) ∧ Below w.heap.size w w' := by
  have HRD := Lib.hid hrd
  clear hrd
  have hu := Try.underlying24
  have hu2 := Try.underlying42
  have ⟨w20, w21⟩ := wf_u8 w2
  unfold maxLen at hl0 hl1
  go_enter Try.func13, Try.ntmps13
  have HRw := Lib.hid hr0_4
  have HTw := Lib.hid hr1
  clear hr0_4 hr1 hm0 hm1 w2
  go_wp2_with fail
  obtain ⟨W0, hW0⟩ : ∃ W0, w.alloc (.cells #[.int .i64 a0_0, .int .i64 a0_1, .int .i64 a0_2, .int .i64 a0_3, .slice A0_4 l0_4.length c0_4] 24) = W0 := ⟨_, rfl⟩
  have hb0 : Below w.heap.size w W0 := by rw [← hW0]; exact (Below.refl _ w).alloc (Nat.le_refl _) _
  have HSC : Hid (W0.heap[w.heap.size]? = some (.cells #[.int .i64 a0_0, .int .i64 a0_1, .int .i64 a0_2, .int .i64 a0_3, .slice A0_4 l0_4.length c0_4] 24 (0, 0))) := Lib.hid (by rw [← hW0]; exact heap_new rfl)
  rw [hW0]
  clear hW0
  have HR := Lib.hid (Kd.C_below HRw.out hb0)
  have HT := Lib.hid (Kd.C_below HTw.out hb0)
  have HB := Lib.hid hb0
  clear hb0 HRw HTw
  refine (ready.W _ HR.out hc0_4 HRD.out).mono ?_
  rintro e V1 ⟨rfl, hb⟩
  replace HSC := Lib.hid (blkBel HSC.out hb)
  replace HR := Lib.hid (Kd.C_below HR.out hb)
  replace HT := Lib.hid (Kd.C_below HT.out hb)
  replace HB := Lib.hid (below_then HB.out HB.out.size hb)
  clear hb
  go_wp2_with fail
  refine (awake.W _).mono ?_
  rintro e V2 ⟨rfl, hb⟩
  replace HSC := Lib.hid (blkBel HSC.out hb)
  replace HR := Lib.hid (Kd.C_below HR.out hb)
  replace HT := Lib.hid (Kd.C_below HT.out hb)
  replace HB := Lib.hid (below_then HB.out HB.out.size hb)
  clear hb
  go_wp2_with fail
  go_ret
  exact ⟨rfl, HB.out⟩
set_option maxRecDepth 100000 in
set_option maxHeartbeats 4000000 in
theorem palantypelaw02_FloorRanges.gap (n : Nat) (a0_1 a0_2 a0_3 : Int) (A0_4 : Option Addr) (c0_4 : Nat) (l0_4 : List RM) (A1 : Option Addr) (c1 : Nat) (l1 : List RP) (a2 : Int) (w : World) (hr0_4 : Kd.C k59 w A0_4 l0_4.length l0_4) (hc0_4 : l0_4.length ≤ c0_4) (hm0 : ∀ y ∈ l0_4, (Lit.int .u16 y.f0).wf = true ∧ (Lit.int .u16 y.f1).wf = true) (hl0 : l0_4.length ≤ maxLen) (hr1 : Kd.C k89 w A1 l1.length l1) (hc1 : l1.length ≤ c1) (hl1 : l1.length ≤ maxLen) (hm1 : ∀ y ∈ l1, (Lit.int .i64 y.f0).wf = true ∧ (Lit.int .i64 y.f1).wf = true) (w2 : (Lit.int .u8 a2).wf = true) (hrd : Ev (fun k => palantypelaw02_ready.f k n a0_1 a0_2 a0_3 l0_4) true) (h45 : (l1.length : Int) ≤ 45) (L : List FM) (hL : l0_4.map mo = L) (hck : floor_Scene_check.f n a0_1 a0_2 a0_3 L = some 0) (hL40 : l0_4.length ≤ 40) (hn1 : 1 ≤ n) (hn2 : n ≤ 12) (he : ∀ x, ¬ fwd a0_1 a0_2 a0_3 n L L.length x) :
    Calls Try.prog 13 #[.agg #[.int .i64 n, .int .i64 a0_1, .int .i64 a0_2, .int .i64 a0_3, .slice A0_4 l0_4.length c0_4], .slice A1 l1.length c1, .int .u8 a2] w fun e w' => e = .returned (.bool true) ∧ Below w.heap.size w w' := by
  have HRD := Lib.hid hrd
  have HL := Lib.hid hL
  have HTE := Lib.hid (tell_gap hck he)
  clear hrd hL hck he
  have hn3 : (1 : Int) ≤ n := by omega
  have hn4 : (n : Int) ≤ 12 := by omega
  have hn5 : ((n : Int) == 0) = false := by simp; omega
  have hu := Try.underlying24
  have hu2 := Try.underlying42
  have ⟨w20, w21⟩ := wf_u8 w2
  unfold maxLen at hl0 hl1
  go_enter Try.func13, Try.ntmps13
  have HRw := Lib.hid hr0_4
  have HTw := Lib.hid hr1
  clear hr0_4 hr1 hm0 hm1 w2
  go_wp2_with fail
  obtain ⟨W0, hW0⟩ : ∃ W0, w.alloc (.cells #[.int .i64 n, .int .i64 a0_1, .int .i64 a0_2, .int .i64 a0_3, .slice A0_4 l0_4.length c0_4] 24) = W0 := ⟨_, rfl⟩
  have hb0 : Below w.heap.size w W0 := by rw [← hW0]; exact (Below.refl _ w).alloc (Nat.le_refl _) _
  have HSC : Hid (W0.heap[w.heap.size]? = some (.cells #[.int .i64 n, .int .i64 a0_1, .int .i64 a0_2, .int .i64 a0_3, .slice A0_4 l0_4.length c0_4] 24 (0, 0))) := Lib.hid (by rw [← hW0]; exact heap_new rfl)
  rw [hW0]
  clear hW0
  have HR := Lib.hid (Kd.C_below HRw.out hb0)
  have HT := Lib.hid (Kd.C_below HTw.out hb0)
  have HB := Lib.hid hb0
  clear hb0 HRw HTw
  refine (ready.W _ HR.out hc0_4 HRD.out).mono ?_
  rintro e V1 ⟨rfl, hb⟩
  replace HSC := Lib.hid (blkBel HSC.out hb)
  replace HR := Lib.hid (Kd.C_below HR.out hb)
  replace HT := Lib.hid (Kd.C_below HT.out hb)
  replace HB := Lib.hid (below_then HB.out HB.out.size hb)
  clear hb
  obtain ⟨e0, e1, e2, e3, e4⟩ := agg5 HSC.out
  have kz := (Array.getElem?_eq_some_iff.1 HSC.out).1
  go_wp2_with fail
  refine (Scene.W HL.out _ HR.out hc0_4 (by omega)).mono ?_
  rintro e V2 ⟨Ax1, cx1, rfl, hcx1, hC, hb⟩
  replace HSC := Lib.hid (blkBel HSC.out hb)
  replace HR := Lib.hid (Kd.C_below HR.out hb)
  replace HT := Lib.hid (Kd.C_below HT.out hb)
  replace HB := Lib.hid (below_then HB.out HB.out.size hb)
  have HCx1 := Lib.hid hC
  clear hC
  clear hb
  clear e0 e1 e2 e3 e4 kz
  obtain ⟨e0, e1, e2, e3, e4⟩ := agg5 HSC.out
  have kz := (Array.getElem?_eq_some_iff.1 HSC.out).1
  go_wp2_with fail
  refine (Tell.W _ HCx1.out hcx1 HTE.out).mono ?_
  rintro e V3 ⟨Ax2, cx2, rfl, hcx2, hC, hb⟩
  replace HSC := Lib.hid (blkBel HSC.out hb)
  replace HR := Lib.hid (Kd.C_below HR.out hb)
  replace HT := Lib.hid (Kd.C_below HT.out hb)
  replace HCx1 := Lib.hid (Kd.C_below HCx1.out hb)
  replace HB := Lib.hid (below_then HB.out HB.out.size hb)
  have HCx2 := Lib.hid hC
  clear hC
  clear hb
  clear e0 e1 e2 e3 e4 kz
  obtain ⟨e0, e1, e2, e3, e4⟩ := agg5 HSC.out
  have kz := (Array.getElem?_eq_some_iff.1 HSC.out).1
  clear HCx1
  go_wp2_with fail
  refine (awake.W _).mono ?_
  rintro e V4 ⟨rfl, hb⟩
  replace HSC := Lib.hid (blkBel HSC.out hb)
  replace HR := Lib.hid (Kd.C_below HR.out hb)
  replace HT := Lib.hid (Kd.C_below HT.out hb)
  replace HCx2 := Lib.hid (Kd.C_below HCx2.out hb)
  replace HB := Lib.hid (below_then HB.out HB.out.size hb)
  clear hb
  go_wp2_with fail
  go_ret
  exact ⟨rfl, HB.out⟩
set_option maxRecDepth 100000 in
set_option maxHeartbeats 4000000 in
theorem palantypelaw02_FloorRanges.told (n : Nat) (a0_1 a0_2 a0_3 : Int) (A0_4 : Option Addr) (c0_4 : Nat) (l0_4 : List RM) (A1 : Option Addr) (c1 : Nat) (l1 : List RP) (a2 : Int) (w : World) (hr0_4 : Kd.C k59 w A0_4 l0_4.length l0_4) (hc0_4 : l0_4.length ≤ c0_4) (hm0 : ∀ y ∈ l0_4, (Lit.int .u16 y.f0).wf = true ∧ (Lit.int .u16 y.f1).wf = true) (hl0 : l0_4.length ≤ maxLen) (hr1 : Kd.C k89 w A1 l1.length l1) (hc1 : l1.length ≤ c1) (hl1 : l1.length ≤ maxLen) (hm1 : ∀ y ∈ l1, (Lit.int .i64 y.f0).wf = true ∧ (Lit.int .i64 y.f1).wf = true) (w2 : (Lit.int .u8 a2).wf = true) (hrd : Ev (fun k => palantypelaw02_ready.f k n a0_1 a0_2 a0_3 l0_4) true) (h45 : (l1.length : Int) ≤ 45) (L : List FM) (hL : l0_4.map mo = L) (hck : floor_Scene_check.f n a0_1 a0_2 a0_3 L = some 0) (hL40 : l0_4.length ≤ 40) (hn1 : 1 ≤ n) (hn2 : n ≤ 12) (he : ∃ x, fwd a0_1 a0_2 a0_3 n L L.length x) (wl : List FT) (pl : List FP) (hwl : wl.length = L.length) (hpl : pl.length = L.length) (hLl : L.length = l0_4.length) (hW : floor_Who.f n a0_1 a0_2 a0_3 L = some (wl, 0)) (hTE : floor_Tell.f n a0_1 a0_2 a0_3 L = some (pl, 0)) (T : List FP) (hTP : l1.map po = T) (rp : Bool) (hPR : floor_ProveTelling.f n a0_1 a0_2 a0_3 L T = some rp) (kp : Int) (hkp : a2 % (n : Int) = kp) (hk0 : 0 ≤ kp) (hk1 : kp < n)
    (HF : Nat → Int × Int) (hHF : ∀ i, i < n → floor_Held.f n a0_1 a0_2 a0_3 L i = some ((HF i).1, (HF i).2, 0) ∧ 0 ≤ (HF i).1 ∧ (HF i).1 ≤ (HF i).2 ∧ (HF i).2 ≤ (L.length : Int)) (rlo rhi : Int) (hH : floor_Held.f n a0_1 a0_2 a0_3 L kp = some (rlo, rhi, 0)) (hsum : sumN (fun i => (HF i).1) n ≤ (L.length : Int)) (hlow : (lowN wl kp wl.length : Int) ≤ rlo) (hhigh : rhi ≤ (highN wl kp wl.length : Int))
    (pb : List RP) (hpb : pl.map op = pb) (hn0 : rlo ≤ heldN kp pb ∧ heldN kp pb ≤ rhi) (hm3 : rp = true → rlo ≤ heldN kp l1 ∧ heldN kp l1 ≤ rhi) :
    Calls Try.prog 13 #[.agg #[.int .i64 n, .int .i64 a0_1, .int .i64 a0_2, .int .i64 a0_3, .slice A0_4 l0_4.length c0_4], .slice A1 l1.length c1, .int .u8 a2] w fun e w' => e = .returned (.bool true) ∧ Below w.heap.size w w' := by
  have HRD := Lib.hid hrd
  have HL := Lib.hid hL
  have HW := Lib.hid hW
  have HTE := Lib.hid hTE
  have HTP := Lib.hid hTP
  have HPR := Lib.hid hPR
  have HWL := Lib.hid hwl
  have HPL := Lib.hid hpl
  have HLL := Lib.hid hLl
  have HKP := Lib.hid hkp
  have HHF := Lib.hid hHF
  have HH := Lib.hid hH
  have HSUM := Lib.hid hsum
  have HLOW := Lib.hid hlow
  have HHIGH := Lib.hid hhigh
  have HPB := Lib.hid hpb
  have HN0 := Lib.hid hn0
  have HM3 := Lib.hid hm3
  have q1 : ((wl.length : Int) != (l0_4.length : Int)) = false := by simp; omega
  have hwl40 : wl.length ≤ 40 := by omega
  have hpl40 : pl.length ≤ 40 := by omega
  clear hck he hrd hL hW hTE hTP hPR hwl hpl hLl hkp hHF hH hsum hlow hhigh hpb hn0 hm3
  have hn3 : (1 : Int) ≤ n := by omega
  have hn4 : (n : Int) ≤ 12 := by omega
  have hn5 : ((n : Int) == 0) = false := by simp; omega
  have hu := Try.underlying24
  have hu2 := Try.underlying42
  have ⟨w20, w21⟩ := wf_u8 w2
  unfold maxLen at hl0 hl1
  go_enter Try.func13, Try.ntmps13
  have HRw := Lib.hid hr0_4
  have HTw := Lib.hid hr1
  clear hr0_4 hr1 hm0 hm1 w2
  go_wp2_with fail
  obtain ⟨W0, hW0⟩ : ∃ W0, w.alloc (.cells #[.int .i64 n, .int .i64 a0_1, .int .i64 a0_2, .int .i64 a0_3, .slice A0_4 l0_4.length c0_4] 24) = W0 := ⟨_, rfl⟩
  have hb0 : Below w.heap.size w W0 := by rw [← hW0]; exact (Below.refl _ w).alloc (Nat.le_refl _) _
  have HSC : Hid (W0.heap[w.heap.size]? = some (.cells #[.int .i64 n, .int .i64 a0_1, .int .i64 a0_2, .int .i64 a0_3, .slice A0_4 l0_4.length c0_4] 24 (0, 0))) := Lib.hid (by rw [← hW0]; exact heap_new rfl)
  rw [hW0]
  clear hW0
  have HR := Lib.hid (Kd.C_below HRw.out hb0)
  have HT := Lib.hid (Kd.C_below HTw.out hb0)
  have HB := Lib.hid hb0
  clear hb0 HRw HTw
  refine (ready.W _ HR.out hc0_4 HRD.out).mono ?_
  rintro e V1 ⟨rfl, hb⟩
  replace HSC := Lib.hid (blkBel HSC.out hb)
  replace HR := Lib.hid (Kd.C_below HR.out hb)
  replace HT := Lib.hid (Kd.C_below HT.out hb)
  replace HB := Lib.hid (below_then HB.out HB.out.size hb)
  clear hb
  obtain ⟨e0, e1, e2, e3, e4⟩ := agg5 HSC.out
  have kz := (Array.getElem?_eq_some_iff.1 HSC.out).1
  go_wp2_with fail
  rw [HKP.out]
  refine (Scene.W HL.out _ HR.out hc0_4 (by omega)).mono ?_
  rintro e V2 ⟨Ax1, cx1, rfl, hcx1, hC, hb⟩
  replace HSC := Lib.hid (blkBel HSC.out hb)
  replace HR := Lib.hid (Kd.C_below HR.out hb)
  replace HT := Lib.hid (Kd.C_below HT.out hb)
  replace HB := Lib.hid (below_then HB.out HB.out.size hb)
  have HCx1 := Lib.hid hC
  clear hC
  clear hb
  clear e0 e1 e2 e3 e4 kz
  obtain ⟨e0, e1, e2, e3, e4⟩ := agg5 HSC.out
  have kz := (Array.getElem?_eq_some_iff.1 HSC.out).1
  go_wp2_with fail
  refine (Tell.W _ HCx1.out hcx1 HTE.out).mono ?_
  rintro e V3 ⟨Ax2, cx2, rfl, hcx2, hC, hb⟩
  replace HSC := Lib.hid (blkBel HSC.out hb)
  replace HR := Lib.hid (Kd.C_below HR.out hb)
  replace HT := Lib.hid (Kd.C_below HT.out hb)
  replace HCx1 := Lib.hid (Kd.C_below HCx1.out hb)
  replace HB := Lib.hid (below_then HB.out HB.out.size hb)
  have HCx2 := Lib.hid hC
  clear hC
  clear hb
  clear e0 e1 e2 e3 e4 kz
  obtain ⟨e0, e1, e2, e3, e4⟩ := agg5 HSC.out
  have kz := (Array.getElem?_eq_some_iff.1 HSC.out).1
  clear HCx1
  go_wp2_with fail
  refine (Scene.W HL.out _ HR.out hc0_4 (by omega)).mono ?_
  rintro e V4 ⟨Ax3, cx3, rfl, hcx3, hC, hb⟩
  replace HSC := Lib.hid (blkBel HSC.out hb)
  replace HR := Lib.hid (Kd.C_below HR.out hb)
  replace HT := Lib.hid (Kd.C_below HT.out hb)
  replace HCx2 := Lib.hid (Kd.C_below HCx2.out hb)
  replace HB := Lib.hid (below_then HB.out HB.out.size hb)
  have HCx3 := Lib.hid hC
  clear hC
  clear hb
  clear e0 e1 e2 e3 e4 kz
  obtain ⟨e0, e1, e2, e3, e4⟩ := agg5 HSC.out
  have kz := (Array.getElem?_eq_some_iff.1 HSC.out).1
  go_wp2_with fail
  refine (Who.W _ HCx3.out hcx3 HW.out).mono ?_
  rintro e V5 ⟨Ax4, cx4, rfl, hcx4, hC, hb⟩
  replace HSC := Lib.hid (blkBel HSC.out hb)
  replace HR := Lib.hid (Kd.C_below HR.out hb)
  replace HT := Lib.hid (Kd.C_below HT.out hb)
  replace HCx2 := Lib.hid (Kd.C_below HCx2.out hb)
  replace HCx3 := Lib.hid (Kd.C_below HCx3.out hb)
  replace HB := Lib.hid (below_then HB.out HB.out.size hb)
  have HCx4 := Lib.hid hC
  clear hC
  clear hb
  clear e0 e1 e2 e3 e4 kz
  obtain ⟨e0, e1, e2, e3, e4⟩ := agg5 HSC.out
  have kz := (Array.getElem?_eq_some_iff.1 HSC.out).1
  clear HCx3
  go_wp2_with fail
  refine (Scene.W HL.out _ HR.out hc0_4 (by omega)).mono ?_
  rintro e V6 ⟨Ax5, cx5, rfl, hcx5, hC, hb⟩
  replace HSC := Lib.hid (blkBel HSC.out hb)
  replace HR := Lib.hid (Kd.C_below HR.out hb)
  replace HT := Lib.hid (Kd.C_below HT.out hb)
  replace HCx2 := Lib.hid (Kd.C_below HCx2.out hb)
  replace HCx4 := Lib.hid (Kd.C_below HCx4.out hb)
  replace HB := Lib.hid (below_then HB.out HB.out.size hb)
  have HCx5 := Lib.hid hC
  clear hC
  clear hb
  clear e0 e1 e2 e3 e4 kz
  obtain ⟨e0, e1, e2, e3, e4⟩ := agg5 HSC.out
  have kz := (Array.getElem?_eq_some_iff.1 HSC.out).1
  go_wp2_with fail
  refine (held.W _ HCx5.out hcx5 HH.out).mono ?_
  rintro e V7 ⟨rfl, hb⟩
  replace HSC := Lib.hid (blkBel HSC.out hb)
  replace HR := Lib.hid (Kd.C_below HR.out hb)
  replace HT := Lib.hid (Kd.C_below HT.out hb)
  replace HCx2 := Lib.hid (Kd.C_below HCx2.out hb)
  replace HCx4 := Lib.hid (Kd.C_below HCx4.out hb)
  replace HCx5 := Lib.hid (Kd.C_below HCx5.out hb)
  replace HB := Lib.hid (below_then HB.out HB.out.size hb)
  clear hb
  clear e0 e1 e2 e3 e4 kz
  obtain ⟨e0, e1, e2, e3, e4⟩ := agg5 HSC.out
  have kz := (Array.getElem?_eq_some_iff.1 HSC.out).1
  clear HCx5
  go_wp2_with fail
  obtain ⟨V8, hW⟩ : ∃ W, V7.alloc (.cells #[.int .i64 rlo, .int .i64 rhi] 42) = W := ⟨_, rfl⟩
  have hb : Below V7.heap.size V7 V8 := by rw [← hW]; exact (Below.refl _ V7).alloc (Nat.le_refl _) _
  have HRG : Hid (V8.heap[V7.heap.size]? = some (.cells #[.int .i64 rlo, .int .i64 rhi] 42 (0, 0))) := Lib.hid (by rw [← hW]; exact heap_new rfl)
  rw [hW]
  clear hW
  replace HSC := Lib.hid (blkBel HSC.out hb)
  replace HR := Lib.hid (Kd.C_below HR.out hb)
  replace HT := Lib.hid (Kd.C_below HT.out hb)
  replace HCx2 := Lib.hid (Kd.C_below HCx2.out hb)
  replace HCx4 := Lib.hid (Kd.C_below HCx4.out hb)
  replace HB := Lib.hid (below_then HB.out HB.out.size hb)
  clear hb
  clear q1 e0 e1 e2 e3 e4 kz
  go_loopg [14, 15, 17] wl.length (fun kq v14 v15 v17 w' => ∃ (k : Nat), v14 = .int .i64 (lowN wl kp k : Nat) ∧ v15 = .int .i64 (highN wl kp k : Nat) ∧ v17 = .int .i64 k ∧ Hid (kq + k = wl.length) ∧ Hid (Below V8.heap.size V8 w'))
  case atStart => exact ⟨0, rfl, rfl, rfl, Lib.hid (by omega), Lib.hid (Below.refl _ _)⟩
  case round =>
    obtain ⟨k, rfl, rfl, rfl, HK, HBW⟩ := hrel
    have hkq := HK.out
    clear HK
    have hlo := lowN_le wl kp k
    have hhi := highN_le wl kp k
    cases gk with
    | succ k1 =>
      have hlt : k < wl.length := by omega
      have hlt2 : (k : Int) < wl.length := by omega
      obtain ⟨ad, hadA, m0, m1⟩ := at_T54 (Kd.C_below HCx4.out HBW.out) k (by omega) (by omega)
      rw [rd54 hlt, Int.toNat_natCast] at m0 m1
      have hgd : wl.getD k ⟨0, 0⟩ = wl[k] := by simp [List.getD, hlt]
      obtain ⟨⟨mf, mh⟩, hmk⟩ : ∃ m, wl[k] = m := ⟨_, rfl⟩
      rw [hmk] at m0 m1 hgd
      simp only [] at m0 m1
      subst hadA
      have hnl : lowN wl kp (k + 1) = lowN wl kp k + (if inSet mf kp = true ∧ oneB mf = true then 1 else 0) := by simp only [lowN]; rw [hgd]
      have hnh : highN wl kp (k + 1) = highN wl kp k + (if inSet mf kp = true then 1 else 0) := by simp only [highN]; rw [hgd]
      have HNL := Lib.hid hnl
      have HNH := Lib.hid hnh
      have HKQ := Lib.hid hkq
      clear hmk hgd hnl hnh hkq
      generalize lowN wl kp k = lo at hlo HNL ⊢
      generalize highN wl kp k = hi at hhi HNH ⊢
      go_wp2_with fail
      cases h1 : inSet mf kp with
      | false =>
        refine (has.W mf (by omega) (by omega) _).mono ?_
        rintro e V30 ⟨rfl, hb⟩
        rw [h1]
        have H1 := Lib.hid h1
        clear h1
        replace m0 := (hb.cell (World.block_lt_of_cell? _ _ m0)).trans m0
        have HBV := Lib.hid (below_then HBW.out HBW.out.size hb)
        clear hb m1
        go_wp2_with fail
        go_roundg k1
        case measure => omega
        case rel => exact ⟨k + 1, by rw [HNL.out, if_neg (by rw [H1.out]; simp), Nat.add_zero], by rw [HNH.out, if_neg (by rw [H1.out]; simp), Nat.add_zero], by simp, Lib.hid (by have := HKQ.out; omega), HBV⟩
      | true =>
        refine (has.W mf (by omega) (by omega) _).mono ?_
        rintro e V30 ⟨rfl, hb⟩
        rw [h1]
        have H1 := Lib.hid h1
        clear h1
        replace m0 := (hb.cell (World.block_lt_of_cell? _ _ m0)).trans m0
        have HBV := Lib.hid (below_then HBW.out HBW.out.size hb)
        clear hb m1
        cases h2 : oneB mf with
        | false =>
          go_wp2_with fail
          refine (one.W mf _).mono ?_
          rintro e V31 ⟨rfl, hb⟩
          rw [h2]
          have H2 := Lib.hid h2
          clear h2
          have HBV2 := Lib.hid (below_then HBV.out HBV.out.size hb)
          clear hb
          go_wp2_with fail
          go_roundg k1
          case measure => omega
          case rel => exact ⟨k + 1, by rw [HNL.out, if_neg (by rw [H2.out]; simp), Nat.add_zero], by rw [HNH.out, if_pos H1.out]; simp, by simp, Lib.hid (by have := HKQ.out; omega), HBV2⟩
        | true =>
          go_wp2_with fail
          refine (one.W mf _).mono ?_
          rintro e V31 ⟨rfl, hb⟩
          rw [h2]
          have H2 := Lib.hid h2
          clear h2
          have HBV2 := Lib.hid (below_then HBV.out HBV.out.size hb)
          clear hb
          go_wp2_with fail
          go_roundg k1
          case measure => omega
          case rel => exact ⟨k + 1, by rw [HNL.out, if_pos ⟨H1.out, H2.out⟩]; simp, by rw [HNH.out, if_pos H1.out]; simp, by simp, Lib.hid (by have := HKQ.out; omega), HBV2⟩
    | zero =>
      obtain rfl : k = wl.length := by omega
      have hb := HBW.out
      clear hkq HBW
      clear HCx4
      have HLOWB := Lib.hid hlo
      have HHIGHB := Lib.hid hhi
      clear hlo hhi
      obtain ⟨lo, hlo⟩ : ∃ lo, lowN wl kp wl.length = lo := ⟨_, rfl⟩
      obtain ⟨hi, hhi⟩ : ∃ hi, highN wl kp wl.length = hi := ⟨_, rfl⟩
      rw [hlo, hhi]
      replace HLOW : Hid ((lo : Int) ≤ rlo) := Lib.hid (by rw [← hlo]; exact HLOW.out)
      replace HHIGH : Hid (rhi ≤ (hi : Int)) := Lib.hid (by rw [← hhi]; exact HHIGH.out)
      clear hlo hhi HLOWB HHIGHB
      replace HSC := Lib.hid (blkBel HSC.out hb)
      replace HR := Lib.hid (Kd.C_below HR.out hb)
      replace HT := Lib.hid (Kd.C_below HT.out hb)
      replace HCx2 := Lib.hid (Kd.C_below HCx2.out hb)
      replace HRG := Lib.hid (blkBel HRG.out hb)
      replace HB := Lib.hid (below_then HB.out HB.out.size hb)
      clear hb
      obtain ⟨e0, e1, e2, e3, e4⟩ := agg5 HSC.out
      have kz := (Array.getElem?_eq_some_iff.1 HSC.out).1
      obtain ⟨Wb, rfl⟩ : ∃ Wb : World, Wb = wr := ⟨_, rfl⟩
      go_wp2_with fail
      clear e0 e1 e2 e3 e4 kz
      go_loopg [16, 18] n (fun kq v16 v18 w' => ∃ (k : Nat), v16 = .int .i64 (sumN (fun i => (HF i).1) k) ∧ v18 = .int .i64 k ∧ Hid (kq + k = n) ∧ Hid (Below Wb.heap.size Wb w'))
      case atStart => exact ⟨0, rfl, rfl, Lib.hid (by omega), Lib.hid (Below.refl _ _)⟩
      case round =>
        obtain ⟨k, rfl, rfl, HK, HBW⟩ := hrel
        have hkq := HK.out
        clear HK
        have hb := HBW.out
        replace HSC := Lib.hid (blkBel HSC.out hb)
        replace HR := Lib.hid (Kd.C_below HR.out hb)
        replace HT := Lib.hid (Kd.C_below HT.out hb)
        replace HCx2 := Lib.hid (Kd.C_below HCx2.out hb)
        replace HRG := Lib.hid (blkBel HRG.out hb)
        replace HB := Lib.hid (below_then HB.out HB.out.size hb)
        clear hb
        obtain ⟨e0, e1, e2, e3, e4⟩ := agg5 HSC.out
        have kz := (Array.getElem?_eq_some_iff.1 HSC.out).1
        cases gk with
        | succ k1 =>
          have hlt : k < n := by omega
          have hlt2 : (k : Int) < n := by omega
          have hsr := sumN_range (f := fun i => (HF i).1) (B := 40) k (fun j hj => by have := HHF.out j (by omega); have := HLL.out; omega)
          obtain ⟨h0, h1, h2, h3⟩ := HHF.out k hlt
          have hsn : sumN (fun i => (HF i).1) (k + 1) = sumN (fun i => (HF i).1) k + (HF k).1 := rfl
          rw [HLL.out] at h3
          generalize sumN (fun i => (HF i).1) k = sm at hsr hsn ⊢
          have HSN := Lib.hid hsn
          have HHK := Lib.hid h0
          clear hsn h0
          obtain ⟨⟨xlo, xhi⟩, hx⟩ : ∃ x, HF k = x := ⟨_, rfl⟩
          rw [hx] at HSN HHK h1 h2 h3
          simp only [] at h1 h2 h3
          obtain ⟨hsr0, hsr1⟩ := hsr
          have hsr2 : sm ≤ 1000 := by omega
          have HKQ := Lib.hid hkq
          clear hx hkq hsr1
          go_wp2_with fail
          refine (Scene.W HL.out _ HR.out hc0_4 (by omega)).mono ?_
          rintro e V9 ⟨Ax7, cx7, rfl, hcx7, hC, hb⟩
          replace HSC := Lib.hid (blkBel HSC.out hb)
          replace HR := Lib.hid (Kd.C_below HR.out hb)
          replace HT := Lib.hid (Kd.C_below HT.out hb)
          replace HCx2 := Lib.hid (Kd.C_below HCx2.out hb)
          replace HRG := Lib.hid (blkBel HRG.out hb)
          replace HBW := Lib.hid (below_then HBW.out HBW.out.size hb)
          replace HB := Lib.hid (below_then HB.out HB.out.size hb)
          have HCx7 := Lib.hid hC
          clear hC
          clear hb
          clear e0 e1 e2 e3 e4 kz
          obtain ⟨e0, e1, e2, e3, e4⟩ := agg5 HSC.out
          have kz := (Array.getElem?_eq_some_iff.1 HSC.out).1
          go_wp2_with fail
          refine (held.W _ HCx7.out hcx7 HHK.out).mono ?_
          rintro e V10 ⟨rfl, hb⟩
          replace HSC := Lib.hid (blkBel HSC.out hb)
          replace HR := Lib.hid (Kd.C_below HR.out hb)
          replace HT := Lib.hid (Kd.C_below HT.out hb)
          replace HCx2 := Lib.hid (Kd.C_below HCx2.out hb)
          replace HRG := Lib.hid (blkBel HRG.out hb)
          replace HBW := Lib.hid (below_then HBW.out HBW.out.size hb)
          replace HCx7 := Lib.hid (Kd.C_below HCx7.out hb)
          replace HB := Lib.hid (below_then HB.out HB.out.size hb)
          clear hb
          clear e0 e1 e2 e3 e4 kz
          obtain ⟨e0, e1, e2, e3, e4⟩ := agg5 HSC.out
          have kz := (Array.getElem?_eq_some_iff.1 HSC.out).1
          clear HCx7
          go_wp2_with fail
          obtain ⟨V11, hW⟩ : ∃ W, V10.alloc (.cells #[.int .i64 xlo, .int .i64 xhi] 42) = W := ⟨_, rfl⟩
          have hb : Below V10.heap.size V10 V11 := by rw [← hW]; exact (Below.refl _ V10).alloc (Nat.le_refl _) _
          have HXR : Hid (V11.heap[V10.heap.size]? = some (.cells #[.int .i64 xlo, .int .i64 xhi] 42 (0, 0))) := Lib.hid (by rw [← hW]; exact heap_new rfl)
          rw [hW]
          clear hW
          replace HSC := Lib.hid (blkBel HSC.out hb)
          replace HR := Lib.hid (Kd.C_below HR.out hb)
          replace HT := Lib.hid (Kd.C_below HT.out hb)
          replace HCx2 := Lib.hid (Kd.C_below HCx2.out hb)
          replace HRG := Lib.hid (blkBel HRG.out hb)
          replace HBW := Lib.hid (below_then HBW.out HBW.out.size hb)
          replace HB := Lib.hid (below_then HB.out HB.out.size hb)
          clear hb
          go_roundg k1
          case measure => omega
          case rel => exact ⟨k + 1, by rw [HSN.out], by simp, Lib.hid (by have := HKQ.out; omega), HBW⟩
        | zero =>
          obtain rfl : k = n := by omega
          have hsr := sumN_range (f := fun i => (HF i).1) (B := 40) k (fun j hj => by have := HHF.out j (by omega); have := HLL.out; omega)
          obtain ⟨hsr0, _⟩ := hsr
          have hsle := HSUM.out
          rw [HLL.out] at hsle
          generalize sumN (fun i => (HF i).1) k = sm at hsr0 hsle ⊢
          clear hkq HBW HSUM HHF
          obtain ⟨hn01, hn02⟩ := HN0.out
          have hlo1 := HLOW.out
          have hhi1 := HHIGH.out
          obtain ⟨nb, hnb⟩ : ∃ nb, heldN kp pb = nb := ⟨_, rfl⟩
          rw [hnb] at hn01 hn02
          have HNB := Lib.hid hnb
          clear hnb
          go_wp2_with fail
          refine (Back.W HPB.out _ HCx2.out hcx2 (by omega)).mono ?_
          rintro e V9 ⟨Ax8, cx8, rfl, hcx8, hC, hb⟩
          replace HSC := Lib.hid (blkBel HSC.out hb)
          replace HR := Lib.hid (Kd.C_below HR.out hb)
          replace HT := Lib.hid (Kd.C_below HT.out hb)
          replace HCx2 := Lib.hid (Kd.C_below HCx2.out hb)
          replace HRG := Lib.hid (blkBel HRG.out hb)
          replace HB := Lib.hid (below_then HB.out HB.out.size hb)
          have HCx8 := Lib.hid hC
          clear hC
          clear hb
          clear e0 e1 e2 e3 e4 kz
          obtain ⟨e0, e1, e2, e3, e4⟩ := agg5 HSC.out
          have kz := (Array.getElem?_eq_some_iff.1 HSC.out).1
          go_wp2_with fail
          refine (floorN.W kp _ HCx8.out hcx8 (by have := HPB.out; have e := congrArg List.length this; rw [List.length_map] at e; omega)).mono ?_
          rintro e V10 ⟨rfl, hb⟩
          replace HSC := Lib.hid (blkBel HSC.out hb)
          replace HR := Lib.hid (Kd.C_below HR.out hb)
          replace HT := Lib.hid (Kd.C_below HT.out hb)
          replace HCx2 := Lib.hid (Kd.C_below HCx2.out hb)
          replace HRG := Lib.hid (blkBel HRG.out hb)
          replace HCx8 := Lib.hid (Kd.C_below HCx8.out hb)
          replace HB := Lib.hid (below_then HB.out HB.out.size hb)
          clear hb
          clear e0 e1 e2 e3 e4 kz
          obtain ⟨e0, e1, e2, e3, e4⟩ := agg5 HSC.out
          have kz := (Array.getElem?_eq_some_iff.1 HSC.out).1
          rw [HNB.out]
          clear HCx8
          obtain ⟨f0, f1⟩ := agg2 HRG.out
          go_wp2_with fail
          refine (Scene.W HL.out _ HR.out hc0_4 (by omega)).mono ?_
          rintro e V11 ⟨Ax9, cx9, rfl, hcx9, hC, hb⟩
          replace HSC := Lib.hid (blkBel HSC.out hb)
          replace HR := Lib.hid (Kd.C_below HR.out hb)
          replace HT := Lib.hid (Kd.C_below HT.out hb)
          replace HCx2 := Lib.hid (Kd.C_below HCx2.out hb)
          replace HRG := Lib.hid (blkBel HRG.out hb)
          replace HB := Lib.hid (below_then HB.out HB.out.size hb)
          have HCx9 := Lib.hid hC
          clear hC
          clear hb
          clear e0 e1 e2 e3 e4 kz
          obtain ⟨e0, e1, e2, e3, e4⟩ := agg5 HSC.out
          have kz := (Array.getElem?_eq_some_iff.1 HSC.out).1
          go_wp2_with fail
          clear f0 f1
          obtain ⟨f0, f1⟩ := agg2 HRG.out
          refine (Telling.W HTP.out _ HT.out hc1 (by omega)).mono ?_
          rintro e V12 ⟨Ax10, cx10, rfl, hcx10, hC, hb⟩
          replace HSC := Lib.hid (blkBel HSC.out hb)
          replace HR := Lib.hid (Kd.C_below HR.out hb)
          replace HT := Lib.hid (Kd.C_below HT.out hb)
          replace HCx2 := Lib.hid (Kd.C_below HCx2.out hb)
          replace HRG := Lib.hid (blkBel HRG.out hb)
          replace HCx9 := Lib.hid (Kd.C_below HCx9.out hb)
          replace HB := Lib.hid (below_then HB.out HB.out.size hb)
          have HCx10 := Lib.hid hC
          clear hC
          clear hb
          clear e0 e1 e2 e3 e4 kz
          obtain ⟨e0, e1, e2, e3, e4⟩ := agg5 HSC.out
          have kz := (Array.getElem?_eq_some_iff.1 HSC.out).1
          go_wp2_with fail
          clear f0 f1
          obtain ⟨f0, f1⟩ := agg2 HRG.out
          cases rp with
          | false =>
            refine (prove.W _ HCx9.out hcx9 HCx10.out hcx10 HPR.out).mono ?_
            rintro e V13 ⟨rfl, hb⟩
            replace HSC := Lib.hid (blkBel HSC.out hb)
            replace HR := Lib.hid (Kd.C_below HR.out hb)
            replace HT := Lib.hid (Kd.C_below HT.out hb)
            replace HCx2 := Lib.hid (Kd.C_below HCx2.out hb)
            replace HRG := Lib.hid (blkBel HRG.out hb)
            replace HCx9 := Lib.hid (Kd.C_below HCx9.out hb)
            replace HCx10 := Lib.hid (Kd.C_below HCx10.out hb)
            replace HB := Lib.hid (below_then HB.out HB.out.size hb)
            clear hb
            clear e0 e1 e2 e3 e4 kz
            obtain ⟨e0, e1, e2, e3, e4⟩ := agg5 HSC.out
            have kz := (Array.getElem?_eq_some_iff.1 HSC.out).1
            clear HCx9 HCx10
            go_wp2_with fail
            refine (awake.W _).mono ?_
            rintro e V14 ⟨rfl, hb⟩
            replace HSC := Lib.hid (blkBel HSC.out hb)
            replace HR := Lib.hid (Kd.C_below HR.out hb)
            replace HT := Lib.hid (Kd.C_below HT.out hb)
            replace HCx2 := Lib.hid (Kd.C_below HCx2.out hb)
            replace HRG := Lib.hid (blkBel HRG.out hb)
            replace HB := Lib.hid (below_then HB.out HB.out.size hb)
            clear hb
            go_wp2_with fail
            go_ret
            exact ⟨rfl, HB.out⟩
          | true =>
            refine (prove.W _ HCx9.out hcx9 HCx10.out hcx10 HPR.out).mono ?_
            rintro e V13 ⟨rfl, hb⟩
            replace HSC := Lib.hid (blkBel HSC.out hb)
            replace HR := Lib.hid (Kd.C_below HR.out hb)
            replace HT := Lib.hid (Kd.C_below HT.out hb)
            replace HCx2 := Lib.hid (Kd.C_below HCx2.out hb)
            replace HRG := Lib.hid (blkBel HRG.out hb)
            replace HCx9 := Lib.hid (Kd.C_below HCx9.out hb)
            replace HCx10 := Lib.hid (Kd.C_below HCx10.out hb)
            replace HB := Lib.hid (below_then HB.out HB.out.size hb)
            clear hb
            clear e0 e1 e2 e3 e4 kz
            obtain ⟨e0, e1, e2, e3, e4⟩ := agg5 HSC.out
            have kz := (Array.getElem?_eq_some_iff.1 HSC.out).1
            clear HCx9 HCx10
            go_wp2_with fail
            obtain ⟨hm31, hm32⟩ := HM3.out (by trivial)
            obtain ⟨mb, hmb⟩ : ∃ mb, heldN kp l1 = mb := ⟨_, rfl⟩
            rw [hmb] at hm31 hm32
            have HMB := Lib.hid hmb
            clear hmb f0 f1
            refine (floorN.W kp _ HT.out hc1 (by omega)).mono ?_
            rintro e V14 ⟨rfl, hb⟩
            replace HSC := Lib.hid (blkBel HSC.out hb)
            replace HR := Lib.hid (Kd.C_below HR.out hb)
            replace HT := Lib.hid (Kd.C_below HT.out hb)
            replace HCx2 := Lib.hid (Kd.C_below HCx2.out hb)
            replace HRG := Lib.hid (blkBel HRG.out hb)
            replace HB := Lib.hid (below_then HB.out HB.out.size hb)
            clear hb
            clear e0 e1 e2 e3 e4 kz
            obtain ⟨e0, e1, e2, e3, e4⟩ := agg5 HSC.out
            have kz := (Array.getElem?_eq_some_iff.1 HSC.out).1
            rw [HMB.out]
            obtain ⟨f0, f1⟩ := agg2 HRG.out
            go_wp2_with fail
            refine (awake.W _).mono ?_
            rintro e V15 ⟨rfl, hb⟩
            replace HSC := Lib.hid (blkBel HSC.out hb)
            replace HR := Lib.hid (Kd.C_below HR.out hb)
            replace HT := Lib.hid (Kd.C_below HT.out hb)
            replace HCx2 := Lib.hid (Kd.C_below HCx2.out hb)
            replace HRG := Lib.hid (blkBel HRG.out hb)
            replace HB := Lib.hid (below_then HB.out HB.out.size hb)
            clear hb
            go_wp2_with fail
            go_ret
            exact ⟨rfl, HB.out⟩
end Go.Proofs.Ytdnjmhhjjbdieaa.Q
end
section
namespace Go.Proofs.Ytdnjmhhjjbdieaa.Q
open Go.RowKit Go.Proofs.YtdnjmhhjjbdieaaW.PrintWords
set_option linter.unusedVariables false
theorem sumN_le {f g : Nat → Int} : ∀ n, (∀ i, i < n → f i ≤ g i) → sumN f n ≤ sumN g n
  | 0, _ => Int.le_refl _
  | n + 1, h => by
    have := sumN_le n (fun i hi => h i (by omega))
    have := h n (by omega)
    simp only [sumN]; omega
theorem sumN_one (q : Int) : ∀ n, 0 ≤ sumN (fun i => if q = (i : Int) then 1 else 0) n ∧ sumN (fun i => if q = (i : Int) then 1 else 0) n ≤ 1 ∧ ((n : Int) ≤ q → sumN (fun i => if q = (i : Int) then 1 else 0) n = 0)
  | 0 => by simp [sumN]
  | n + 1 => by
    obtain ⟨h1, h2, h3⟩ := sumN_one q n
    simp only [sumN]
    split
    · rename_i h
      have := h3 (by omega)
      refine ⟨by omega, by omega, fun h => by omega⟩
    · refine ⟨by omega, by omega, fun h => ?_⟩
      have := h3 (by omega)
      omega
theorem sumN_add {f g : Nat → Int} : ∀ n, sumN (fun i => f i + g i) n = sumN f n + sumN g n
  | 0 => rfl
  | n + 1 => by simp only [sumN, sumN_add n]; omega
theorem sum_held (n : Nat) : ∀ (s : List RP), sumN (fun i => heldN i s) n ≤ s.length
  | [] => by
    have : ∀ n, sumN (fun i => heldN i []) n = 0 := fun n => by
      induction n with
      | zero => rfl
      | succ n ih => simp only [sumN, heldN] at ih ⊢; omega
    rw [this]; simp
  | p :: t => by
    have h1 := sum_held n t
    have h2 := (sumN_one p.f0 n).2.1
    have e : sumN (fun i => heldN i (p :: t)) n = sumN (fun i => if p.f0 = (i : Int) then 1 else 0) n + sumN (fun i => heldN i t) n := sumN_add n
    rw [e, List.length_cons]
    omega
section
variable {a1 a2 a3 : Int} {n : Nat} {L : List FM}
theorem held_told {p : Int} (hc : floor_Scene_check.f n a1 a2 a3 L = some 0) (he : ∃ x, fwd a1 a2 a3 n L L.length x) (hp : 0 ≤ p ∧ p < n) :
    ∃ v : Int × Int, floor_Held.f n a1 a2 a3 L p = some (v.1, v.2, 0) ∧ (∃ s, Told a1 a2 a3 n L s ∧ heldN p s = v.1) ∧ (∃ s, Told a1 a2 a3 n L s ∧ heldN p s = v.2) ∧ ∀ s, Told a1 a2 a3 n L s → v.1 ≤ heldN p s ∧ heldN p s ≤ v.2 := by
  obtain ⟨v, h1, h2⟩ := held_ok hc he hp
  obtain ⟨h3, h4, h5⟩ := h2.congr (fun c => hcnt_told)
  exact ⟨v, h1, h3, h4, fun s hs => h5 _ ⟨s, hs, rfl⟩⟩
theorem low_le (hn : n ≤ 12) {p : Int} (hp : 0 ≤ p ∧ p < n) {s : List RP} (hs : Told a1 a2 a3 n L s) : ∀ j, j ≤ L.length →
    (lowN ((List.range L.length).map (toldOf a1 a2 a3 n L)) p j : Int) ≤ heldN p (s.take j) ∧ heldN p (s.take j) ≤ (highN ((List.range L.length).map (toldOf a1 a2 a3 n L)) p j : Int)
  | 0, _ => by simp [lowN, highN, heldN]
  | j + 1, hj => by
    obtain ⟨h1, h2⟩ := low_le hn hp hs j (by omega)
    have hjL : j < L.length := by omega
    have hjs : j < s.length := by have := hs.1; omega
    have hg : ((List.range L.length).map (toldOf a1 a2 a3 n L)).getD j ⟨0, 0⟩ = toldOf a1 a2 a3 n L j := by simp [List.getD, hjL]
    obtain ⟨s0, _⟩ := toldOf_isSet (least := a1) (most := a2) (short := a3) hn hjL
    have gs : s[j]? = some s[j] := List.getElem?_eq_getElem hjs
    have rs := told_range hs _ (List.getElem_mem hjs)
    have e : s.take (j + 1) = s.take j ++ [s[j]] := by rw [List.take_succ_eq_append_getElem hjs]
    have hmem := s0.mem (q := p) (by omega) (by omega)
    simp only [lowN, highN, hg]
    rw [e, heldN_append]
    simp only [heldN, Int.add_zero]
    by_cases hin : inSet (toldOf a1 a2 a3 n L j).f0 p = true
    · rw [if_pos hin]
      by_cases ho : oneB (toldOf a1 a2 a3 n L j).f0 = true
      · have hsp : s[j].f0 = p := one_same s0 ho (by omega) (by omega) (by omega) (by omega) ⟨s, hs, _, gs, rfl⟩ (hmem.1 hin)
        rw [if_pos ⟨hin, ho⟩, if_pos hsp]; omega
      · rw [if_neg (fun h => ho h.2)]
        split <;> omega
    · have hsp : ¬ s[j].f0 = p := fun h => hin (hmem.2 ⟨s, hs, _, gs, h⟩)
      rw [if_neg hin, if_neg (fun h => hin h.1), if_neg hsp]; omega
end
theorem palantypelaw02_FloorRanges.walk (a0_0 a0_1 a0_2 a0_3 : Int) (A0_4 : Option Addr) (c0_4 : Nat) (l0_4 : List RM) (A1 : Option Addr) (c1 : Nat) (l1 : List RP) (a2 : Int) (w : World) (hr0_4 : Kd.C k59 w A0_4 l0_4.length l0_4) (hc0_4 : l0_4.length ≤ c0_4) (hm0 : ∀ y ∈ l0_4, (Lit.int .u16 y.f0).wf = true ∧ (Lit.int .u16 y.f1).wf = true) (hl0 : l0_4.length ≤ maxLen)
    (hr1 : Kd.C k89 w A1 l1.length l1) (hc1 : l1.length ≤ c1) (hl1 : l1.length ≤ maxLen) (hm1 : ∀ y ∈ l1, (Lit.int .i64 y.f0).wf = true ∧ (Lit.int .i64 y.f1).wf = true) (w2 : (Lit.int .u8 a2).wf = true) :
    Calls Try.prog 13 #[.agg #[.int .i64 a0_0, .int .i64 a0_1, .int .i64 a0_2, .int .i64 a0_3, .slice A0_4 l0_4.length c0_4], .slice A1 l1.length c1, .int .u8 a2] w fun e w' => e = .returned (.bool true) ∧ Below w.heap.size w w' := by
  rcases ready_cases (a0 := a0_0) (a1 := a0_1) (a2 := a0_2) (a3 := a0_3) hm0 with hrd | ⟨hrd, n, rfl, hn1, hn2, h40, hck, h20, h1m, hs20⟩
  · exact palantypelaw02_FloorRanges.early _ _ _ _ _ _ _ _ _ _ _ w hr0_4 hc0_4 hm0 hl0 hr1 hc1 hl1 hm1 w2 hrd
  · by_cases h45 : (l1.length : Int) ≤ 45
    · obtain ⟨L, hL⟩ : ∃ L, l0_4.map mo = L := ⟨_, rfl⟩
      rw [hL] at hck
      have hLl : L.length = l0_4.length := by rw [← hL, List.length_map]
      rcases gap_or (least := a0_1) (most := a0_2) (short := a0_3) (n := n) (l := L) with he | he
      · exact palantypelaw02_FloorRanges.gap n _ _ _ _ _ _ _ _ _ _ w hr0_4 hc0_4 hm0 hl0 hr1 hc1 hl1 hm1 w2 hrd h45 L hL hck h40 hn1 hn2 he
      · have hk : 0 ≤ a2 % (n : Int) ∧ a2 % (n : Int) < n := ⟨Int.emod_nonneg _ (by omega), Int.emod_lt_of_pos _ (by omega)⟩
        obtain ⟨HF, hHF⟩ := Classical.axiomOfChoice (r := fun (i : Nat) (v : Int × Int) => i < n → floor_Held.f n a0_1 a0_2 a0_3 L i = some (v.1, v.2, 0) ∧ (∃ s, Told a0_1 a0_2 a0_3 n L s ∧ heldN i s = v.1) ∧ (∃ s, Told a0_1 a0_2 a0_3 n L s ∧ heldN i s = v.2) ∧ ∀ s, Told a0_1 a0_2 a0_3 n L s → v.1 ≤ heldN i s ∧ heldN i s ≤ v.2) (fun i => by
          by_cases hi : i < n
          · obtain ⟨v, hv⟩ := held_told (p := (i : Int)) hck he (by omega)
            exact ⟨v, fun _ => hv⟩
          · exact ⟨(0, 0), fun h => absurd h hi⟩)
        obtain ⟨v, hv, ⟨s1, t1, e1⟩, ⟨s2, t2, e2⟩, hb⟩ := held_told hck he hk
        have ht := tell_told he
        refine palantypelaw02_FloorRanges.told n _ _ _ _ _ _ _ _ _ _ w hr0_4 hc0_4 hm0 hl0 hr1 hc1 hl1 hm1 w2 hrd h45 L hL hck h40 hn1 hn2 he _ _ (by simp) (tell_len he) hLl (who_ok hck he) (tell_ok hck he) _ rfl _ (prove_ok hck) _ rfl hk.1 hk.2 HF (fun i hi => ?_) v.1 v.2 hv ?_ ?_ ?_ _ rfl (hb _ ht) (fun hp => hb _ (told_of_prove hp))
        · obtain ⟨g1, ⟨s, ts, es⟩, ⟨s', ts', es'⟩, g4⟩ := hHF i hi
          refine ⟨g1, ?_, ?_, ?_⟩
          · rw [← es]; exact (heldN_range _ _).1
          · rw [← es']; exact (g4 _ ts').1
          · rw [← es']
            have := (heldN_range (i : Int) s').2
            have := ts'.1
            omega
        · have h1 := sum_held n ((tellTo a0_1 a0_2 a0_3 n L L.length).1.map op)
          have h2 := sumN_le (f := fun i => (HF i).1) (g := fun i => heldN i ((tellTo a0_1 a0_2 a0_3 n L L.length).1.map op)) n (fun i hi => ((hHF i hi).2.2.2 _ ht).1)
          have := ht.1
          omega
        · have := (low_le hn2 hk t1 L.length (Nat.le_refl _)).1
          rw [List.take_of_length_le (by have := t1.1; omega), e1] at this
          simpa using this
        · have := (low_le hn2 hk t2 L.length (Nat.le_refl _)).2
          rw [List.take_of_length_le (by have := t2.1; omega), e2] at this
          simpa using this
    · exact palantypelaw02_FloorRanges.long _ _ _ _ _ _ _ _ _ _ _ w hr0_4 hc0_4 hm0 hl0 hr1 hc1 hl1 hm1 w2 hrd (by omega)
end Go.Proofs.Ytdnjmhhjjbdieaa.Q
end
section
namespace Go.Proofs.Ytdnjmhhjjbdieaa.floorRanges
open Go.ChangeShapes Go.WideShapes Go.ChangeAt Go.RowKit Go.Proofs.Ytdnjmhhjjbdieaa.Q
set_option linter.unusedVariables false
theorem own : ownKnob Try.prog.godebug = none := by kernel_rfl
theorem laidOut : laidOutB Try.prog = true := by kernel_rfl
set_option maxRecDepth 100000 in
theorem lifted (os : Os) (started : os.Started) (H : Type) (enc : TypeId × Value → H) :
    ReturnsInHanded {} Try.checked os 13 .any (Rows.floorRangesSpec.pre6 enc Try.prog Try.f13 Rows.floorRangesRow.domain false) (Rows.floorRangesSpec.post enc Try.prog Try.f13 false true false false) := by
  refine returnsInHanded_of_change_sized (C := Try.checked) own started (by kernel_rfl) Try.func13
    (ChangeSpec.witness6 (enc := enc) (C := Try.checked) false ⟨#[], #[.agg #[.int .i64 0, .int .i64 0, .int .i64 0, .int .i64 0, .slice none 0 0], .slice none 0 0, .int .u8 0], []⟩ 8 (by kernel_rfl) (by kernel_rfl) (by kernel_rfl) (by kernel_rfl)) ?_
  intro W base args ds gs before hval0 hW hcnd hsz0 _
  have hval : ∀ (j : Nat) t v, Try.f13.params[j]? = some t → args[j]? = some v → Value.okWide Try.prog W .any base t v := hval0
  have hW' := hW
  obtain ⟨p, q, hA0, hV, rfl, hfz, hnd⟩ := hW
  have hA : DataW.TrodAll enc Try.prog W 0 (fun _ => true) true Try.f13.params.toList args.toList ds p := hA0
  rw [Try.params13] at hA hval
  obtain ⟨v0, vs0, d0, ds0, p0, q0, hargs, rfl, rfl, h0, r0⟩ := trodAll_cons hA
  obtain ⟨v1, vs1, d1, ds1, p1, q1, rfl, rfl, rfl, h1, r1⟩ := trodAll_cons r0
  obtain ⟨v2, vs2, d2, ds2, p2, q2, rfl, rfl, rfl, h2, r2⟩ := trodAll_cons r1
  obtain ⟨rfl, rfl, rfl⟩ := trodAll_nil r2
  obtain rfl : args = #[v0, v1, v2] := by cases args; simp_all
  obtain ⟨rfl, rfl⟩ := trodVars_none hV
  have k0 := h0
  have lt0 : ∀ x ∈ p0, x.block < W.heap.size := by obtain ⟨m, hm⟩ := k0; exact DataW.trod_lt m _ _ _ hm
  obtain ⟨a0_0, a0_1, a0_2, a0_3, A0, l0_4, c0, rfl, hc0, hr0, w0_0, w0_1, w0_2, w0_3, hl0, hm0⟩ := open_scene (hval 0 24 v0 rfl rfl) h0
  have k1 := h1
  have lt1 : ∀ x ∈ p1, x.block < W.heap.size := by obtain ⟨m, hm⟩ := k1; exact DataW.trod_lt m _ _ _ hm
  obtain ⟨A1, l1, c1, rfl, hc1, hr1, hl1, hm1⟩ := open_parts (hval 1 84 v1 rfl rfl) h1
  obtain ⟨a2, rfl, rfl, rfl, w2⟩ := open_int Try.underlying5 (hval 2 5 v2 rfl rfl) h2
  clear hA0 hval0 hsz0
  refine Calls.mono (palantypelaw02_FloorRanges.walk (a0_0 := a0_0) (a0_1 := a0_1) (a0_2 := a0_2) (a0_3 := a0_3) (hr0_4 := hr0) (hc0_4 := hc0) (hm0 := hm0) (hl0 := hl0) (hr1 := hr1) (hc1 := hc1) (hm1 := hm1) (hl1 := hl1) (a2 := a2) (w2 := w2)) (fun e W' ⟨he, bel⟩ => ?_)
  subst he
  exact ⟨_, rfl, _, _, _, [], _, [], hW', trodAll_mk1 (shut_bool Try.underlying4 _), (trodAll_cons_mk (Below.trod laidOut (by kernel_rfl) (of_decide_eq_true (by kernel_rfl)) k0 bel lt0) (trodAll_cons_mk (Below.trod laidOut (by kernel_rfl) (of_decide_eq_true (by kernel_rfl)) k1 bel lt1) (trodAll_cons_mk (shut_int Try.underlying5 w2) trodAll_mk0))), rfl, bel.frame _, fun h => by cases h⟩
theorem over : Rows.floorRangesRow.holds Try.pinned (OpenSpec.ofChange Rows.floorRangesSpec) :=
  OpenClaim.holds_of_wide 13 Try.f13 rfl rfl rfl rfl rfl rfl rfl ⟨rfl, rfl, rfl, rfl, rfl⟩ rfl rfl rfl rfl rfl (by kernel_rfl) Try.func13 (by kernel_rfl)
    (of_decide_eq_true (by kernel_rfl)) (by unfold Func.isWrapper; first | (rw [if_pos (by decide +kernel)]; kernel_rfl) | (rw [if_neg (by decide +kernel)]; exact ⟨rfl, rfl⟩))
    (fun os started H enc _ => lifted os started H enc)
theorem proved : Rows.FloorRangesSaid := over
#print axioms proved
end Go.Proofs.Ytdnjmhhjjbdieaa.floorRanges
namespace Go.Proofs.Ytdnjmhhjjbdieaa
theorem floorRanges_holds : Rows.FloorRangesSaid := floorRanges.proved
end Go.Proofs.Ytdnjmhhjjbdieaa
end
