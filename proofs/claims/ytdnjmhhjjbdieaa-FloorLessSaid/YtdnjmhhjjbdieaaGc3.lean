/- FloorLess: for every input the statement answers true; the inputs are a scene of any size, as an argument can hold it, three numbers of 8 bits and one of 16. -/
import Derived.Test.YtdnjmhhjjbdieaaG1
import Derived.Test.YtdnjmhhjjbdieaaG9
import Derived.Test.YtdnjmhhjjbdieaaGc1
import Derived.Test.YtdnjmhhjjbdieaaGc2
import Derived.Test.YtdnjmhhjjbdieaaRows
import Derived.WalkKit
import Derived.ProofKit
import Derived.OpenShut
import Derived.ShutString
import Derived.ChangeOld
import Derived.Below
import Derived.SizedLaws
import Derived.Carry
namespace Go.Proofs.Ytdnjmhhjjbdieaa.Q
end Go.Proofs.Ytdnjmhhjjbdieaa.Q
namespace Go.Proofs.YtdnjmhhjjbdieaaW.PrintWords
end Go.Proofs.YtdnjmhhjjbdieaaW.PrintWords
section
namespace Go.Proofs.Ytdnjmhhjjbdieaa.Q
open Go.RowKit Go.Proofs.YtdnjmhhjjbdieaaW.PrintWords
set_option linter.unusedVariables false
theorem IsSet.or2 {x y : Int} {P Q : Int → Prop} (hx : IsSet x P) (hy : IsSet y Q) : IsSet (Go.bits .or .u16 x y) (fun q => P q ∨ Q q) := by
  obtain ⟨m, rfl, hm, hp⟩ := hx
  obtain ⟨k, rfl, hk, hq⟩ := hy
  refine ⟨m ||| k, bits_or_u16_nat _ _ hm hk, Nat.or_lt_two_pow (n := 16) hm hk, fun q a b => ?_⟩
  rw [Nat.testBit_or, Bool.or_eq_true, hp q a b, hq q a b]
theorem IsSet.and2 {x y : Int} {P Q : Int → Prop} (hx : IsSet x P) (hy : IsSet y Q) : IsSet (Go.bits .and .u16 x y) (fun q => P q ∧ Q q) := by
  obtain ⟨m, rfl, hm, hp⟩ := hx
  obtain ⟨k, rfl, hk, hq⟩ := hy
  refine ⟨m &&& k, bits_and_u16_nat _ _ hm hk, Nat.and_lt_two_pow (n := 16) _ hk, fun q a b => ?_⟩
  rw [Nat.testBit_and, Bool.and_eq_true, hp q a b, hq q a b]
theorem andNot_zero {x y : Int} {P Q : Int → Prop} (hx : IsSet x P) (hy : IsSet y Q) (h : ∀ q, -1 ≤ q → q ≤ 14 → P q → Q q) : Go.bits .andNot .u16 x y = 0 :=
  ((hx.but hy).congr (Q := fun _ => False) (fun q a b => ⟨fun ⟨h1, h2⟩ => h2 (h q a b h1), fun h => h.elim⟩)).unique isSet_zero
def allOf (n : Nat) : Int := Go.bits .or .u16 32768 (IntKind.u16.wrap (IntKind.u16.wrap (2 ^ n) - 1))
theorem allOf_isSet {n : Nat} (h1 : 1 ≤ n) (h2 : n ≤ 12) : IsSet (allOf n) (fun q => q = -1 ∨ q < n) := by
  have hc : ∀ k : Fin 13, 1 ≤ k.val → allOf k.val = knownOf k.val := by decide +kernel
  have e : allOf n = knownOf n := hc ⟨n, by omega⟩ h1
  obtain ⟨m, hm, hml, hmb⟩ := known_nat h1 h2
  refine ⟨m, by rw [e, hm], hml, fun q a b => ?_⟩
  rw [hmb _ (pidx_lt a b)]
  unfold pidx
  simp only [Bool.or_eq_true, decide_eq_true_eq]
  split <;> omega
def Sup : List FM → List FM → Prop
  | [], [] => True
  | m :: l, m' :: l' => (∀ p, -1 ≤ p → p ≤ 14 → (inSet m.f0 p = true → inSet m'.f0 p = true) ∧ (inSet m.f1 p = true → inSet m'.f1 p = true)) ∧ Sup l l'
  | _, _ => False
theorem Sup.refl : ∀ l, Sup l l
  | [] => trivial
  | m :: l => ⟨fun p _ _ => ⟨fun h => h, fun h => h⟩, Sup.refl l⟩
theorem Sup.set : ∀ (l : List FM) (k : Nat) (hk : k < l.length) (m' : FM), (∀ p, -1 ≤ p → p ≤ 14 → (inSet l[k].f0 p = true → inSet m'.f0 p = true) ∧ (inSet l[k].f1 p = true → inSet m'.f1 p = true)) → Sup l (l.set k m')
  | [], k, hk, _, _ => by simp at hk
  | m :: l, 0, hk, m', h => ⟨h, Sup.refl l⟩
  | m :: l, k + 1, hk, m', h => ⟨fun p _ _ => ⟨fun h => h, fun h => h⟩, Sup.set l k (by simpa using hk) m' h⟩
theorem Sup.len : ∀ {l l' : List FM}, Sup l l' → l.length = l'.length
  | [], [], _ => rfl
  | m :: l, m' :: l', h => by simp [Sup.len h.2]
  | [], _ :: _, h => h.elim
  | _ :: _, [], h => h.elim
section
variable {a1 a2 a3 b1 b2 b3 : Int} (h1 : b1 ≤ a1) (h2 : a2 ≤ b2) (h3 : a3 ≤ b3)
include h1 h2 h3
theorem step_less {x : St} {h v : Int} (hs : (stepF a1 a2 a3 x h v).2 = true) : stepF b1 b2 b3 x h v = ((stepF a1 a2 a3 x h v).1, true) := by
  have out : ∀ t, (stepOut a2 a3 x h v t).2 = true → stepOut b2 b3 x h v t = ((stepOut a2 a3 x h v t).1, true) := fun t ht => by
    unfold stepOut at ht ⊢
    simp only [Bool.and_eq_true, decide_eq_true_eq] at ht
    have e1 : decide (t ≤ b2) = true := decide_eq_true (by omega)
    have e2 : decide ((if v ≠ -1 ∧ v ≠ h then x.short + 1 else 0) ≤ b3) = true := decide_eq_true (by omega)
    rw [e1, e2]; rfl
  unfold stepF at hs ⊢
  by_cases c1 : h = -1
  · rw [if_pos c1] at hs ⊢
    rw [if_pos c1]
    simp only [Bool.and_eq_true, Bool.or_eq_true, decide_eq_true_eq] at hs
    have : ((decide (x.holder < 0) || (decide (b1 ≤ x.turn) && x.own)) && decide (v = -1)) = true := by
      simp only [Bool.and_eq_true, Bool.or_eq_true, decide_eq_true_eq]
      exact ⟨hs.1.imp id (fun h => ⟨by omega, h.2⟩), hs.2⟩
    rw [this]
  · rw [if_neg c1] at hs ⊢
    rw [if_neg c1]
    by_cases c2 : h = x.holder
    · rw [if_pos c2] at hs ⊢
      rw [if_pos c2]
      exact out _ hs
    · rw [if_neg c2] at hs ⊢
      rw [if_neg c2]
      by_cases c3 : v ≠ h
      · rw [if_pos c3] at hs; cases hs
      · rw [if_neg c3] at hs ⊢
        rw [if_neg c3]
        by_cases c4 : 0 ≤ x.holder ∧ (x.turn < a1 ∨ x.own = false)
        · rw [if_pos c4] at hs; cases hs
        · rw [if_neg c4] at hs ⊢
          have c5 : ¬ (0 ≤ x.holder ∧ (x.turn < b1 ∨ x.own = false)) := fun h => c4 ⟨h.1, h.2.imp (fun h => by omega) id⟩
          rw [if_neg c5]
          exact out _ hs
theorem path_less {n : Nat} (hn : n ≤ 12) : ∀ {l l' : List FM}, Sup l l' → ∀ (t : List RP) (x : St), pathB a1 a2 a3 n l t x = true → pathB b1 b2 b3 n l' t x = true
  | _, l', _, [], x, _ => by cases l' <;> rfl
  | [], _, _, p :: t, x, h => by simp [pathB] at h
  | m :: l, [], hs, _, _, _ => hs.elim
  | m :: l, m' :: l', hs, p :: t, x, h => by
    simp only [pathB, Bool.and_eq_true] at h ⊢
    obtain ⟨g1, g2⟩ := h
    simp only [partOk, win, Bool.and_eq_true, po] at g1 ⊢
    obtain ⟨⟨⟨⟨⟨k1, k2⟩, k3, k4⟩, k5⟩, k6⟩, k7⟩ := g1
    have hst := step_less h1 h2 h3 k5
    refine ⟨⟨⟨⟨⟨⟨k1, k2⟩, k3, k4⟩, by rw [hst]⟩, (hs.1 p.f0 (of_decide_eq_true k1) (by have := of_decide_eq_true k2; omega)).1 k6⟩, (hs.1 p.f1 (of_decide_eq_true k3) (by have := of_decide_eq_true k4; omega)).2 k7⟩, ?_⟩
    rw [hst]
    exact path_less hn hs.2 t _ g2
theorem told_less {n : Nat} (hn : n ≤ 12) {l l' : List FM} (hs : Sup l l') {s : List RP} (h : Told a1 a2 a3 n l s) : Told b1 b2 b3 n l' s := ⟨by rw [← hs.len]; exact h.1, path_less h1 h2 h3 hn hs s _ h.2⟩
theorem fwd_less {n : Nat} (hn : n ≤ 12) {l l' : List FM} (hs : Sup l l') (he : ∃ x, fwd a1 a2 a3 n l l.length x) : ∃ x, fwd b1 b2 b3 n l' l'.length x := by
  have ht := told_less h1 h2 h3 hn hs (tell_told he)
  exact ⟨_, (fwd_path _ _).2 ⟨_, ht.1, ht.2, rfl⟩⟩
theorem who_less {n : Nat} (hn : n ≤ 12) {l l' : List FM} (hs : Sup l l') : ∀ i (h : i < ((List.range l.length).map (toldOf a1 a2 a3 n l)).length), ∃ h2 : i < ((List.range l'.length).map (toldOf b1 b2 b3 n l')).length,
    Go.bits .andNot .u16 ((List.range l.length).map (toldOf a1 a2 a3 n l))[i].f0 ((List.range l'.length).map (toldOf b1 b2 b3 n l'))[i].f0 = 0 ∧ Go.bits .andNot .u16 ((List.range l.length).map (toldOf a1 a2 a3 n l))[i].f1 ((List.range l'.length).map (toldOf b1 b2 b3 n l'))[i].f1 = 0 := by
  intro i h
  have hi : i < l.length := by simpa using h
  have hi' : i < l'.length := by rw [← hs.len]; exact hi
  refine ⟨by simpa using hi', ?_⟩
  rw [List.getElem_map, List.getElem_range, List.getElem_map, List.getElem_range]
  obtain ⟨s0, s1⟩ := toldOf_isSet (least := a1) (most := a2) (short := a3) hn hi
  obtain ⟨r0, r1⟩ := toldOf_isSet (least := b1) (most := b2) (short := b3) hn hi'
  exact ⟨andNot_zero s0 r0 (fun q _ _ ⟨s, hs1, h⟩ => ⟨s, told_less h1 h2 h3 hn hs hs1, h⟩), andNot_zero s1 r1 (fun q _ _ ⟨s, hs1, h⟩ => ⟨s, told_less h1 h2 h3 hn hs hs1, h⟩)⟩
end
theorem who_any {a1 a2 a3 : Int} {n : Nat} {l : List FM} (hc : floor_Scene_check.f n a1 a2 a3 l = some 0) : ∃ wb eb, floor_Who.f n a1 a2 a3 l = some (wb, eb) := by
  rcases gap_or (least := a1) (most := a2) (short := a3) (n := n) (l := l) with he | he
  · exact ⟨_, _, who_gap hc he⟩
  · exact ⟨_, _, who_ok hc he⟩
theorem more_set {n : Nat} (hn1 : 1 ≤ n) (hn2 : n ≤ 12) {f m : Int} (hf : 0 ≤ f ∧ f < 65536) (hm : 0 ≤ m ∧ m < 65536) (hk : setB f n = true) :
    (0 ≤ Go.bits .or .u16 f (Go.bits .and .u16 m (allOf n)) ∧ Go.bits .or .u16 f (Go.bits .and .u16 m (allOf n)) < 65536) ∧ setB (Go.bits .or .u16 f (Go.bits .and .u16 m (allOf n))) n = true ∧ ∀ p, -1 ≤ p → p ≤ 14 → inSet f p = true → inSet (Go.bits .or .u16 f (Go.bits .and .u16 m (allOf n))) p = true := by
  have hs := (isSet_self hf).or2 ((isSet_self hm).and2 (allOf_isSet hn1 hn2))
  refine ⟨hs.range, ?_, fun p a b h => (hs.mem a b).2 (.inl h)⟩
  rw [setB_iff] at hk ⊢
  intro i h1 h2
  cases hb : inSet (Go.bits .or .u16 f (Go.bits .and .u16 m (allOf n))) i with
  | false => rfl
  | true =>
    rcases (hs.mem (by omega) (by omega)).1 hb with h | ⟨_, h⟩
    · rw [hk i h1 h2] at h; cases h
    · omega
theorem palantypelaw02_FloorLess.walk (a0_0 a0_1 a0_2 a0_3 : Int) (A0_4 : Option Addr) (c0_4 : Nat) (l0_4 : List RM) (a1 a2 a3 a4 : Int) (w : World) (hr0_4 : Kd.C k59 w A0_4 l0_4.length l0_4) (hc0_4 : l0_4.length ≤ c0_4) (hm0 : ∀ y ∈ l0_4, (Lit.int .u16 y.f0).wf = true ∧ (Lit.int .u16 y.f1).wf = true) (hl0 : l0_4.length ≤ maxLen)
    (w1 : (Lit.int .u8 a1).wf = true) (w2 : (Lit.int .u8 a2).wf = true) (w3 : (Lit.int .u8 a3).wf = true) (w4 : (Lit.int .u16 a4).wf = true) :
    Calls Try.prog 5 #[.agg #[.int .i64 a0_0, .int .i64 a0_1, .int .i64 a0_2, .int .i64 a0_3, .slice A0_4 l0_4.length c0_4], .int .u8 a1, .int .u8 a2, .int .u8 a3, .int .u16 a4] w fun e w' => e = .returned (.bool true) ∧ Below w.heap.size w w' := by
  rcases ready_cases (a0 := a0_0) (a1 := a0_1) (a2 := a0_2) (a3 := a0_3) hm0 with hrd | ⟨hrd, n, rfl, hn1, hn2, h40, hck, h20, h1m, hs20⟩
  · exact palantypelaw02_FloorLess.early _ _ _ _ _ _ _ _ _ _ _ w hr0_4 hc0_4 hm0 hl0 w1 w2 w3 w4 hrd
  rcases Nat.eq_zero_or_pos l0_4.length with h0 | h0
  · exact palantypelaw02_FloorLess.empty _ _ _ _ _ _ _ _ _ _ _ w hr0_4 hc0_4 hm0 hl0 w1 w2 w3 w4 hrd h0
  obtain ⟨L, hL⟩ : ∃ L, l0_4.map mo = L := ⟨_, rfl⟩
  rw [hL] at hck
  have hLl : L.length = l0_4.length := by rw [← hL, List.length_map]
  have hw1 := wf_u8 w1
  have hw2 := wf_u8 w2
  have hw3 := wf_u8 w3
  have hw4 := wf_u16 w4
  obtain ⟨k, hk⟩ : ∃ k : Nat, a1 % (L.length : Int) = k := ⟨(a1 % (L.length : Int)).toNat, by have := Int.emod_nonneg a1 (show (L.length : Int) ≠ 0 by omega); omega⟩
  have hkL : k < L.length := by have := Int.emod_lt_of_pos a1 (show (0 : Int) < (L.length : Int) by omega); omega
  obtain ⟨f0, f1, hkf⟩ : ∃ f0 f1, L[k] = ⟨f0, f1⟩ := ⟨_, _, rfl⟩
  have hin : (0 ≤ f0 ∧ f0 < 65536) ∧ (0 ≤ f1 ∧ f1 < 65536) := by
    have hk2 : k < l0_4.length := by omega
    have h := wf_moments hm0 l0_4[k] (List.getElem_mem hk2)
    have e : L[k] = mo l0_4[k] := by subst hL; rw [List.getElem_map]
    rw [hkf] at e
    have e0 : f0 = l0_4[k].f0 := congrArg (fun m => m.f0) e
    have e1 : f1 = l0_4[k].f1 := congrArg (fun m => m.f1) e
    rw [e0, e1]; exact h
  obtain ⟨hl1, _, hm1, hm2, hm3, hm4⟩ := check_ok hck
  have hall := hm4
  rw [List.all_eq_true] at hall
  have hset : setB f0 n = true ∧ setB f1 n = true := by
    have := hall L[k] (List.getElem_mem hkL)
    rw [hkf, momOk_eq hn1 hn2 hin.1 hin.2, Bool.and_eq_true] at this
    exact this
  have chk : ∀ m' : FM, momOk (knownOf n) m' = true → floor_Scene_check.f n a0_1 a0_2 a0_3 (L.set k m') = some 0 := fun m' hm' => by
    refine check_mk (by rw [List.length_set]; exact hl1) (by omega) hm1 hm2 hm3 ?_
    rw [List.all_eq_true]
    intro y hy
    rcases List.mem_or_eq_of_mem_set hy with h | h
    · exact hall y h
    · rw [h]; exact hm'
  have chk2 : ∀ b1 b2 b3, (1 ≤ b2 ∧ b2 ≤ 20) → (1 ≤ b1 ∧ b1 ≤ b2) → (0 ≤ b3 ∧ b3 ≤ 20) → floor_Scene_check.f n b1 b2 b3 L = some 0 := fun b1 b2 b3 g1 g2 g3 => check_mk hl1 (by omega) g1 g2 g3 hm4
  have hc5 : a2 % 5 = 0 ∨ a2 % 5 = 1 ∨ a2 % 5 = 2 ∨ a2 % 5 = 3 ∨ a2 % 5 = 4 := by omega
  have gap := gap_or (least := a0_1) (most := a0_2) (short := a0_3) (n := n) (l := L)
  have q20 : 0 ≤ a0_2 ∧ a0_2 ≤ 20 := by omega
  have q21 : 1 ≤ a0_1 ∧ a0_1 ≤ 20 := by omega
  rcases hc5 with hc | hc | hc | hc | hc
  · obtain ⟨g1, g2, g3⟩ := more_set hn1 hn2 hin.1 hw4 hset.1
    have hck2 := chk ⟨_, f1⟩ (by rw [momOk_eq hn1 hn2 g1 hin.2, g2, hset.2]; rfl)
    have hsup : Sup L (L.set k ⟨_, f1⟩) := Sup.set L k hkL ⟨Go.bits .or .u16 f0 (Go.bits .and .u16 a4 (allOf n)), f1⟩ (fun p a b => by rw [hkf]; exact ⟨g3 p a b, fun h => h⟩)
    rcases gap with he | he
    · obtain ⟨wb, eb, hwb⟩ := who_any hck2
      exact palantypelaw02_FloorLess.gap0 n _ _ _ _ _ _ _ _ _ _ w hr0_4 hc0_4 hm0 hl0 w1 w2 w3 w4 hrd h0 L hL hLl hck h40 (by omega) hn1 hn2 k hk hkL f0 f1 hkf q20 q21 hs20 hc _ rfl (who_gap hck he) wb eb hwb
    · exact palantypelaw02_FloorLess.told0 n _ _ _ _ _ _ _ _ _ _ w hr0_4 hc0_4 hm0 hl0 w1 w2 w3 w4 hrd h0 L hL hLl hck h40 (by omega) hn1 hn2 k hk hkL f0 f1 hkf q20 q21 hs20 hc _ rfl _ _ (who_ok hck he) (who_ok hck2 (fwd_less (Int.le_refl _) (Int.le_refl _) (Int.le_refl _) hn2 hsup he)) (by simp; omega) (by simp; omega) (who_less (Int.le_refl _) (Int.le_refl _) (Int.le_refl _) hn2 hsup)
  · obtain ⟨g1, g2, g3⟩ := more_set hn1 hn2 hin.2 hw4 hset.2
    have hck2 := chk ⟨f0, _⟩ (by rw [momOk_eq hn1 hn2 hin.1 g1, g2, hset.1]; rfl)
    have hsup : Sup L (L.set k ⟨f0, _⟩) := Sup.set L k hkL ⟨f0, Go.bits .or .u16 f1 (Go.bits .and .u16 a4 (allOf n))⟩ (fun p a b => by rw [hkf]; exact ⟨fun h => h, g3 p a b⟩)
    rcases gap with he | he
    · obtain ⟨wb, eb, hwb⟩ := who_any hck2
      exact palantypelaw02_FloorLess.gap1 n _ _ _ _ _ _ _ _ _ _ w hr0_4 hc0_4 hm0 hl0 w1 w2 w3 w4 hrd h0 L hL hLl hck h40 (by omega) hn1 hn2 k hk hkL f0 f1 hkf q20 q21 hs20 hc _ rfl (who_gap hck he) wb eb hwb
    · exact palantypelaw02_FloorLess.told1 n _ _ _ _ _ _ _ _ _ _ w hr0_4 hc0_4 hm0 hl0 w1 w2 w3 w4 hrd h0 L hL hLl hck h40 (by omega) hn1 hn2 k hk hkL f0 f1 hkf q20 q21 hs20 hc _ rfl _ _ (who_ok hck he) (who_ok hck2 (fwd_less (Int.le_refl _) (Int.le_refl _) (Int.le_refl _) hn2 hsup he)) (by simp; omega) (by simp; omega) (who_less (Int.le_refl _) (Int.le_refl _) (Int.le_refl _) hn2 hsup)
  · have hmod : 0 ≤ a3 % 20 ∧ a3 % 20 < 20 := by omega
    by_cases hv : a0_2 + a3 % 20 < 20
    · have hck2 := chk2 a0_1 (a0_2 + a3 % 20) a0_3 (by omega) (by omega) (by omega)
      rcases gap with he | he
      · obtain ⟨wb, eb, hwb⟩ := who_any hck2
        exact palantypelaw02_FloorLess.gap2a n _ _ _ _ _ _ _ _ _ _ w hr0_4 hc0_4 hm0 hl0 w1 w2 w3 w4 hrd h0 L hL hLl hck h40 (by omega) hn1 hn2 k hk hkL f0 f1 hkf q20 q21 hs20 hc hv (who_gap hck he) wb eb hwb
      · exact palantypelaw02_FloorLess.told2a n _ _ _ _ _ _ _ _ _ _ w hr0_4 hc0_4 hm0 hl0 w1 w2 w3 w4 hrd h0 L hL hLl hck h40 (by omega) hn1 hn2 k hk hkL f0 f1 hkf q20 q21 hs20 hc hv _ _ (who_ok hck he) (who_ok hck2 (fwd_less (by omega) (by omega) (by omega) hn2 (Sup.refl L) he)) (by simp; omega) (by simp; omega) (who_less (by omega) (by omega) (by omega) hn2 (Sup.refl L))
    · have hck2 := chk2 a0_1 20 a0_3 (by omega) (by omega) (by omega)
      rcases gap with he | he
      · obtain ⟨wb, eb, hwb⟩ := who_any hck2
        exact palantypelaw02_FloorLess.gap2b n _ _ _ _ _ _ _ _ _ _ w hr0_4 hc0_4 hm0 hl0 w1 w2 w3 w4 hrd h0 L hL hLl hck h40 (by omega) hn1 hn2 k hk hkL f0 f1 hkf q20 q21 hs20 hc (by omega) (who_gap hck he) wb eb hwb
      · exact palantypelaw02_FloorLess.told2b n _ _ _ _ _ _ _ _ _ _ w hr0_4 hc0_4 hm0 hl0 w1 w2 w3 w4 hrd h0 L hL hLl hck h40 (by omega) hn1 hn2 k hk hkL f0 f1 hkf q20 q21 hs20 hc (by omega) _ _ (who_ok hck he) (who_ok hck2 (fwd_less (by omega) (by omega) (by omega) hn2 (Sup.refl L) he)) (by simp; omega) (by simp; omega) (who_less (by omega) (by omega) (by omega) hn2 (Sup.refl L))
  · have hmod : 0 ≤ a3 % 20 ∧ a3 % 20 < 20 := by omega
    by_cases hv : a0_3 + a3 % 20 < 20
    · have hck2 := chk2 a0_1 a0_2 (a0_3 + a3 % 20) (by omega) (by omega) (by omega)
      rcases gap with he | he
      · obtain ⟨wb, eb, hwb⟩ := who_any hck2
        exact palantypelaw02_FloorLess.gap3a n _ _ _ _ _ _ _ _ _ _ w hr0_4 hc0_4 hm0 hl0 w1 w2 w3 w4 hrd h0 L hL hLl hck h40 (by omega) hn1 hn2 k hk hkL f0 f1 hkf q20 q21 hs20 hc hv (who_gap hck he) wb eb hwb
      · exact palantypelaw02_FloorLess.told3a n _ _ _ _ _ _ _ _ _ _ w hr0_4 hc0_4 hm0 hl0 w1 w2 w3 w4 hrd h0 L hL hLl hck h40 (by omega) hn1 hn2 k hk hkL f0 f1 hkf q20 q21 hs20 hc hv _ _ (who_ok hck he) (who_ok hck2 (fwd_less (by omega) (by omega) (by omega) hn2 (Sup.refl L) he)) (by simp; omega) (by simp; omega) (who_less (by omega) (by omega) (by omega) hn2 (Sup.refl L))
    · have hck2 := chk2 a0_1 a0_2 20 (by omega) (by omega) (by omega)
      rcases gap with he | he
      · obtain ⟨wb, eb, hwb⟩ := who_any hck2
        exact palantypelaw02_FloorLess.gap3b n _ _ _ _ _ _ _ _ _ _ w hr0_4 hc0_4 hm0 hl0 w1 w2 w3 w4 hrd h0 L hL hLl hck h40 (by omega) hn1 hn2 k hk hkL f0 f1 hkf q20 q21 hs20 hc (by omega) (who_gap hck he) wb eb hwb
      · exact palantypelaw02_FloorLess.told3b n _ _ _ _ _ _ _ _ _ _ w hr0_4 hc0_4 hm0 hl0 w1 w2 w3 w4 hrd h0 L hL hLl hck h40 (by omega) hn1 hn2 k hk hkL f0 f1 hkf q20 q21 hs20 hc (by omega) _ _ (who_ok hck he) (who_ok hck2 (fwd_less (by omega) (by omega) (by omega) hn2 (Sup.refl L) he)) (by simp; omega) (by simp; omega) (who_less (by omega) (by omega) (by omega) hn2 (Sup.refl L))
  · have hmod : 0 ≤ a3 % 20 ∧ a3 % 20 < 20 := by omega
    by_cases hv : 1 < a0_1 - a3 % 20
    · have hck2 := chk2 (a0_1 - a3 % 20) a0_2 a0_3 (by omega) (by omega) (by omega)
      rcases gap with he | he
      · obtain ⟨wb, eb, hwb⟩ := who_any hck2
        exact palantypelaw02_FloorLess.gap4a n _ _ _ _ _ _ _ _ _ _ w hr0_4 hc0_4 hm0 hl0 w1 w2 w3 w4 hrd h0 L hL hLl hck h40 (by omega) hn1 hn2 k hk hkL f0 f1 hkf q20 q21 hs20 hc hv (who_gap hck he) wb eb hwb
      · exact palantypelaw02_FloorLess.told4a n _ _ _ _ _ _ _ _ _ _ w hr0_4 hc0_4 hm0 hl0 w1 w2 w3 w4 hrd h0 L hL hLl hck h40 (by omega) hn1 hn2 k hk hkL f0 f1 hkf q20 q21 hs20 hc hv _ _ (who_ok hck he) (who_ok hck2 (fwd_less (by omega) (by omega) (by omega) hn2 (Sup.refl L) he)) (by simp; omega) (by simp; omega) (who_less (by omega) (by omega) (by omega) hn2 (Sup.refl L))
    · have hck2 := chk2 1 a0_2 a0_3 (by omega) (by omega) (by omega)
      rcases gap with he | he
      · obtain ⟨wb, eb, hwb⟩ := who_any hck2
        exact palantypelaw02_FloorLess.gap4b n _ _ _ _ _ _ _ _ _ _ w hr0_4 hc0_4 hm0 hl0 w1 w2 w3 w4 hrd h0 L hL hLl hck h40 (by omega) hn1 hn2 k hk hkL f0 f1 hkf q20 q21 hs20 hc (by omega) (who_gap hck he) wb eb hwb
      · exact palantypelaw02_FloorLess.told4b n _ _ _ _ _ _ _ _ _ _ w hr0_4 hc0_4 hm0 hl0 w1 w2 w3 w4 hrd h0 L hL hLl hck h40 (by omega) hn1 hn2 k hk hkL f0 f1 hkf q20 q21 hs20 hc (by omega) _ _ (who_ok hck he) (who_ok hck2 (fwd_less (by omega) (by omega) (by omega) hn2 (Sup.refl L) he)) (by simp; omega) (by simp; omega) (who_less (by omega) (by omega) (by omega) hn2 (Sup.refl L))
end Go.Proofs.Ytdnjmhhjjbdieaa.Q
end
section
namespace Go.Proofs.Ytdnjmhhjjbdieaa.floorLess
open Go.ChangeShapes Go.WideShapes Go.ChangeAt Go.RowKit Go.Proofs.Ytdnjmhhjjbdieaa.Q
set_option linter.unusedVariables false
theorem own : ownKnob Try.prog.godebug = none := by kernel_rfl
theorem laidOut : laidOutB Try.prog = true := by kernel_rfl
set_option maxRecDepth 100000 in
theorem lifted (os : Os) (started : os.Started) (H : Type) (enc : TypeId × Value → H) :
    ReturnsInHanded {} Try.checked os 5 .any (Rows.floorLessSpec.pre6 enc Try.prog Try.f5 Rows.floorLessRow.domain false) (Rows.floorLessSpec.post enc Try.prog Try.f5 false true false false) := by
  refine returnsInHanded_of_change_sized (C := Try.checked) own started (by kernel_rfl) Try.func5
    (ChangeSpec.witness6 (enc := enc) (C := Try.checked) false ⟨#[], #[.agg #[.int .i64 0, .int .i64 0, .int .i64 0, .int .i64 0, .slice none 0 0], .int .u8 0, .int .u8 0, .int .u8 0, .int .u16 0], []⟩ 8 (by kernel_rfl) (by kernel_rfl) (by kernel_rfl) (by kernel_rfl)) ?_
  intro W base args ds gs before hval0 hW hcnd hsz0 _
  have hval : ∀ (j : Nat) t v, Try.f5.params[j]? = some t → args[j]? = some v → Value.okWide Try.prog W .any base t v := hval0
  have hW' := hW
  obtain ⟨p, q, hA0, hV, rfl, hfz, hnd⟩ := hW
  have hA : DataW.TrodAll enc Try.prog W 0 (fun _ => true) true Try.f5.params.toList args.toList ds p := hA0
  rw [Try.params5] at hA hval
  obtain ⟨v0, vs0, d0, ds0, p0, q0, hargs, rfl, rfl, h0, r0⟩ := trodAll_cons hA
  obtain ⟨v1, vs1, d1, ds1, p1, q1, rfl, rfl, rfl, h1, r1⟩ := trodAll_cons r0
  obtain ⟨v2, vs2, d2, ds2, p2, q2, rfl, rfl, rfl, h2, r2⟩ := trodAll_cons r1
  obtain ⟨v3, vs3, d3, ds3, p3, q3, rfl, rfl, rfl, h3, r3⟩ := trodAll_cons r2
  obtain ⟨v4, vs4, d4, ds4, p4, q4, rfl, rfl, rfl, h4, r4⟩ := trodAll_cons r3
  obtain ⟨rfl, rfl, rfl⟩ := trodAll_nil r4
  obtain rfl : args = #[v0, v1, v2, v3, v4] := by cases args; simp_all
  obtain ⟨rfl, rfl⟩ := trodVars_none hV
  have k0 := h0
  have lt0 : ∀ x ∈ p0, x.block < W.heap.size := by obtain ⟨m, hm⟩ := k0; exact DataW.trod_lt m _ _ _ hm
  obtain ⟨a0_0, a0_1, a0_2, a0_3, A0, l0_4, c0, rfl, hc0, hr0, w0_0, w0_1, w0_2, w0_3, hl0, hm0⟩ := open_scene (hval 0 24 v0 rfl rfl) h0
  obtain ⟨a1, rfl, rfl, rfl, w1⟩ := open_int Try.underlying5 (hval 1 5 v1 rfl rfl) h1
  obtain ⟨a2, rfl, rfl, rfl, w2⟩ := open_int Try.underlying5 (hval 2 5 v2 rfl rfl) h2
  obtain ⟨a3, rfl, rfl, rfl, w3⟩ := open_int Try.underlying5 (hval 3 5 v3 rfl rfl) h3
  obtain ⟨a4, rfl, rfl, rfl, w4⟩ := open_int Try.underlying49 (hval 4 49 v4 rfl rfl) h4
  clear hA0 hval0 hsz0
  refine Calls.mono (palantypelaw02_FloorLess.walk (a0_0 := a0_0) (a0_1 := a0_1) (a0_2 := a0_2) (a0_3 := a0_3) (hr0_4 := hr0) (hc0_4 := hc0) (hm0 := hm0) (hl0 := hl0) (a1 := a1) (w1 := w1) (a2 := a2) (w2 := w2) (a3 := a3) (w3 := w3) (a4 := a4) (w4 := w4)) (fun e W' ⟨he, bel⟩ => ?_)
  subst he
  exact ⟨_, rfl, _, _, _, [], _, [], hW', trodAll_mk1 (shut_bool Try.underlying4 _), (trodAll_cons_mk (Below.trod laidOut (by kernel_rfl) (of_decide_eq_true (by kernel_rfl)) k0 bel lt0) (trodAll_cons_mk (shut_int Try.underlying5 w1) (trodAll_cons_mk (shut_int Try.underlying5 w2) (trodAll_cons_mk (shut_int Try.underlying5 w3) (trodAll_cons_mk (shut_int Try.underlying49 w4) trodAll_mk0))))), rfl, bel.frame _, fun h => by cases h⟩
theorem over : Rows.floorLessRow.holds Try.pinned (OpenSpec.ofChange Rows.floorLessSpec) :=
  OpenClaim.holds_of_wide 5 Try.f5 rfl rfl rfl rfl rfl rfl rfl ⟨rfl, rfl, rfl, rfl, rfl⟩ rfl rfl rfl rfl rfl (by kernel_rfl) Try.func5 (by kernel_rfl)
    (of_decide_eq_true (by kernel_rfl)) (by unfold Func.isWrapper; first | (rw [if_pos (by decide +kernel)]; kernel_rfl) | (rw [if_neg (by decide +kernel)]; exact ⟨rfl, rfl⟩))
    (fun os started H enc _ => lifted os started H enc)
theorem proved : Rows.FloorLessSaid := over
#print axioms proved
end Go.Proofs.Ytdnjmhhjjbdieaa.floorLess
namespace Go.Proofs.Ytdnjmhhjjbdieaa
theorem floorLess_holds : Rows.FloorLessSaid := floorLess.proved
end Go.Proofs.Ytdnjmhhjjbdieaa
end
