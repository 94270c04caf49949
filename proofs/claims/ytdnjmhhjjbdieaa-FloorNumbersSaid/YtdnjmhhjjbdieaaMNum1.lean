/- Texts of a proof, joined: see the last one. -/
import Derived.Test.YtdnjmhhjjbdieaaMCut1
import Derived.Test.YtdnjmhhjjbdieaaMCut3
import Derived.Test.YtdnjmhhjjbdieaaWEqStruct
section
-- printed by wip/tools/qprint.py, a program of this session's, out of the translation. Not trusted: Lean checks it.
namespace Go.Proofs.Ytdnjmhhjjbdieaa.Q
open Go.RowKit Go.Proofs.YtdnjmhhjjbdieaaW.PrintWords Go.Proofs.YtdnjmhhjjbdieaaW.PrintLast
set_option linter.unusedVariables false
set_option linter.unusedSimpArgs false

/-! ### palantypelaw02_swapped: function 30 -/
def palantypelaw02_swapped.j0 : Nat → Int → Int → Int → Int → Option (Int)
  | 0, _, _, _, _ => none
  | k + 1, x0, x1, x2, x7 => (palantyperef02_Has.f x0 x2).bind fun t316 => (if t316 = true then ((palantyperef02_Bit.f x1).bind fun t317 => (some (Go.bits .or .u16 x7 t317))) else (some x7))
def palantypelaw02_swapped.f (k : Nat) (a0 : Int) (a1 : Int) (a2 : Int) : Option (Int) := (palantyperef02_Bit.f a1).bind fun t312 => ((palantyperef02_Bit.f a2).bind fun t313 => ((palantyperef02_Has.f a0 a1).bind fun t314 => (if t314 = true then ((palantyperef02_Bit.f a2).bind fun t315 => (palantypelaw02_swapped.j0 k a0 a1 a2 (Go.bits .or .u16 (Go.bits .andNot .u16 a0 (Go.bits .or .u16 t312 t313)) t315))) else (palantypelaw02_swapped.j0 k a0 a1 a2 (Go.bits .andNot .u16 a0 (Go.bits .or .u16 t312 t313))))))
theorem palantypelaw02_swapped.mono_l : ∀ k, (∀ y0 y1 y2 y3, LeO (palantypelaw02_swapped.j0 k y0 y1 y2 y3) (palantypelaw02_swapped.j0 (k + 1) y0 y1 y2 y3))
  | 0 => fun _ _ _ _ r h => by simp [palantypelaw02_swapped.j0] at h
  | k + 1 => by
    have ih0 := palantypelaw02_swapped.mono_l k
    · intro y0 y1 y2 y3
      unfold palantypelaw02_swapped.j0
      repeat' first
      | (with_reducible exact ih0 _ _ _ _)
      | (with_reducible exact LeO.refl _)
      | (with_reducible exact LeO.none _)
      | (with_reducible refine LeO.ite ?_ ?_)
      | (with_reducible refine LeO.bind ?_ (fun _ => ?_))
      | exact ih0 _ _ _ _
      | exact LeO.none _
      | refine LeO.ite ?_ ?_
      | refine LeO.bind ?_ (fun _ => ?_)
theorem palantypelaw02_swapped.mono : ∀ a0 a1 a2 k, LeO (palantypelaw02_swapped.f k a0 a1 a2) (palantypelaw02_swapped.f (k + 1) a0 a1 a2) := by
  intro a0 a1 a2 k
  have ih0 := palantypelaw02_swapped.mono_l k
  unfold palantypelaw02_swapped.f
  repeat' first
      | (with_reducible exact ih0 _ _ _ _)
      | (with_reducible exact LeO.refl _)
      | (with_reducible exact LeO.none _)
      | (with_reducible refine LeO.ite ?_ ?_)
      | (with_reducible refine LeO.bind ?_ (fun _ => ?_))
      | exact ih0 _ _ _ _
      | exact LeO.none _
      | refine LeO.ite ?_ ?_
      | refine LeO.bind ?_ (fun _ => ?_)
set_option maxHeartbeats 8000000 in
set_option maxRecDepth 100000 in
theorem palantypelaw02_swapped.calls (k : Nat) (a0 : Int) (a1 : Int) (a2 : Int) (r : Int) (w : World) (h : palantypelaw02_swapped.f k a0 a1 a2 = some r) :
    Calls Try.prog 30 #[.int .u16 a0, .int .i64 a1, .int .i64 a2] w fun e w' => e = .returned (.int .u16 r) ∧ Drawn0 w w' := by
  have H : ((palantyperef02_Bit.f a1).bind fun t312 => ((palantyperef02_Bit.f a2).bind fun t313 => ((palantyperef02_Has.f a0 a1).bind fun t314 => (if t314 = true then ((palantyperef02_Bit.f a2).bind fun t315 => (palantypelaw02_swapped.j0 k a0 a1 a2 (Go.bits .or .u16 (Go.bits .andNot .u16 a0 (Go.bits .or .u16 t312 t313)) t315))) else (palantypelaw02_swapped.j0 k a0 a1 a2 (Go.bits .andNot .u16 a0 (Go.bits .or .u16 t312 t313))))))) = some r := h
  clear h
  replace H := Option.bind_eq_some_iff.mp H
  obtain ⟨t312, A40, H⟩ := H
  replace H : ((palantyperef02_Bit.f a2).bind fun t313 => ((palantyperef02_Has.f a0 a1).bind fun t314 => (if t314 = true then ((palantyperef02_Bit.f a2).bind fun t315 => (palantypelaw02_swapped.j0 k a0 a1 a2 (Go.bits .or .u16 (Go.bits .andNot .u16 a0 (Go.bits .or .u16 t312 t313)) t315))) else (palantypelaw02_swapped.j0 k a0 a1 a2 (Go.bits .andNot .u16 a0 (Go.bits .or .u16 t312 t313)))))) = some r := H
  have A4 := Aside0.mk A40
  clear A40
  replace H := Option.bind_eq_some_iff.mp H
  obtain ⟨t313, A50, H⟩ := H
  replace H : ((palantyperef02_Has.f a0 a1).bind fun t314 => (if t314 = true then ((palantyperef02_Bit.f a2).bind fun t315 => (palantypelaw02_swapped.j0 k a0 a1 a2 (Go.bits .or .u16 (Go.bits .andNot .u16 a0 (Go.bits .or .u16 t312 t313)) t315))) else (palantypelaw02_swapped.j0 k a0 a1 a2 (Go.bits .andNot .u16 a0 (Go.bits .or .u16 t312 t313))))) = some r := H
  have A5 := Aside0.mk A50
  clear A50
  replace H := Option.bind_eq_some_iff.mp H
  obtain ⟨t314, A60, H⟩ := H
  replace H : (if t314 = true then ((palantyperef02_Bit.f a2).bind fun t315 => (palantypelaw02_swapped.j0 k a0 a1 a2 (Go.bits .or .u16 (Go.bits .andNot .u16 a0 (Go.bits .or .u16 t312 t313)) t315))) else (palantypelaw02_swapped.j0 k a0 a1 a2 (Go.bits .andNot .u16 a0 (Go.bits .or .u16 t312 t313)))) = some r := H
  have A6 := Aside0.mk A60
  clear A60
  have HC7 := Aside0.mk H
  clear H
  go_enter Try.func30, Try.ntmps30
  go_upto_if 17 with (first | ((with_reducible refine gate_callee (f := 44) rfl ?_); refine goesL_ (some 10) rfl rfl Try.func44 (by kernel_rfl) rfl #[.int .i64 a1] rfl (by (try simp only [List.map_toArray, List.map_cons, List.map_nil]); first | done | rfl | (simp only [List.length_drop, List.length_take]; rfl)) ?_; (with_reducible refine (palantyperef02_Bit.calls a1 t312 _ A4.out).mono ?_); rintro e w' ⟨rfl, ⟨nd, rfl⟩⟩; refine ⟨_, rfl, ?_⟩) | ((with_reducible refine gate_callee (f := 44) rfl ?_); refine goesL_ (some 12) rfl rfl Try.func44 (by kernel_rfl) rfl #[.int .i64 a2] rfl (by (try simp only [List.map_toArray, List.map_cons, List.map_nil]); first | done | rfl | (simp only [List.length_drop, List.length_take]; rfl)) ?_; (with_reducible refine (palantyperef02_Bit.calls a2 t313 _ A5.out).mono ?_); rintro e w' ⟨rfl, ⟨nd, rfl⟩⟩; refine ⟨_, rfl, ?_⟩) | ((with_reducible refine gate_callee (f := 32) rfl ?_); refine goesL_ (some 17) rfl rfl Try.func32 (by kernel_rfl) rfl #[.int .u16 a0, .int .i64 a1] rfl (by (try simp only [List.map_toArray, List.map_cons, List.map_nil]); first | done | rfl | (simp only [List.length_drop, List.length_take]; rfl)) ?_; (with_reducible refine (palantyperef02_Has.calls a0 a1 t314 _ A6.out).mono ?_); rintro e w' ⟨rfl, ⟨nd, rfl⟩⟩; refine ⟨_, rfl, ?_⟩))
  (try simp only [Act.put, List.setIfInBounds_toArray, List.set_cons_zero, List.set_cons_succ])
  go_cut [7] (fun v7 wc => ∃ (kq : Nat) (x7_6 : Int), v7 = .int .u16 x7_6 ∧ Aside0 (palantypelaw02_swapped.j0 kq a0 a1 a2 x7_6 = some r) ∧ Aside0 (kq ≤ k) ∧ Drawn0 w wc)
  case first =>
    have H := HC7.out
    clear HC7
    by_cases c8 : t314 = true
    · subst c8
      have H1 : ((palantyperef02_Bit.f a2).bind fun t315 => (palantypelaw02_swapped.j0 k a0 a1 a2 (Go.bits .or .u16 (Go.bits .andNot .u16 a0 (Go.bits .or .u16 t312 t313)) t315))) = some r := by rw [if_pos rfl] at H; exact H
      clear H
      have H := H1
      clear H1
      replace H := Option.bind_eq_some_iff.mp H
      obtain ⟨t315, A90, H⟩ := H
      replace H : (palantypelaw02_swapped.j0 k a0 a1 a2 (Go.bits .or .u16 (Go.bits .andNot .u16 a0 (Go.bits .or .u16 t312 t313)) t315)) = some r := H
      have A9 := Aside0.mk A90
      clear A90
      have H' := Aside0.mk H
      clear H
      go_wp2_with (first | ((with_reducible refine gate_callee (f := 44) rfl ?_); refine goesL_ (some 20) rfl rfl Try.func44 (by kernel_rfl) rfl #[.int .i64 a2] rfl (by (try simp only [List.map_toArray, List.map_cons, List.map_nil]); first | done | rfl | (simp only [List.length_drop, List.length_take]; rfl)) ?_; (with_reducible refine (palantyperef02_Bit.calls a2 t315 _ A9.out).mono ?_); rintro e w' ⟨rfl, ⟨nd, rfl⟩⟩; refine ⟨_, rfl, ?_⟩))
      go_meet
      case rel => exact ⟨_, (Go.bits .or .u16 (Go.bits .andNot .u16 a0 (Go.bits .or .u16 t312 t313)) t315), (by first | rfl | (simp; done) | (simp [*]; done)), H', ⟨by first | omega | exact Nat.le_refl _⟩, by repeat (first | exact Drawn0.refl _ | apply Drawn0.step)⟩
    · replace c8 := Bool.eq_false_iff.mpr c8
      subst c8
      have H1 : (palantypelaw02_swapped.j0 k a0 a1 a2 (Go.bits .andNot .u16 a0 (Go.bits .or .u16 t312 t313))) = some r := by rw [if_neg (show ¬ (false = true) by decide)] at H; exact H
      clear H
      have H := H1
      clear H1
      have H' := Aside0.mk H
      clear H
      go_wp2
      go_meet
      case rel => exact ⟨_, (Go.bits .andNot .u16 a0 (Go.bits .or .u16 t312 t313)), (by first | rfl | (simp; done) | (simp [*]; done)), H', ⟨by first | omega | exact Nat.le_refl _⟩, by repeat (first | exact Drawn0.refl _ | apply Drawn0.step)⟩
  case rest =>
    clear HC7
    try clear p2
    try clear c3
    try clear c4
    try clear c8
    obtain ⟨kq, x7_6, rfl, HA, HJ6, ⟨mc6, rfl⟩⟩ := hcut
    cases kq with
    | zero => exact absurd HA.out (by simp [palantypelaw02_swapped.j0])
    | succ kj6 =>
      have H := HA.out
      clear HA
      simp only [palantypelaw02_swapped.j0] at H
      replace H := Option.bind_eq_some_iff.mp H
      obtain ⟨t316, A100, H⟩ := H
      replace H : (if t316 = true then ((palantyperef02_Bit.f a1).bind fun t317 => (some (Go.bits .or .u16 x7_6 t317))) else (some x7_6)) = some r := H
      have A10 := Aside0.mk A100
      clear A100
      by_cases c11 : t316 = true
      · subst c11
        have H1 : ((palantyperef02_Bit.f a1).bind fun t317 => (some (Go.bits .or .u16 x7_6 t317))) = some r := by rw [if_pos rfl] at H; exact H
        clear H
        have H := H1
        clear H1
        replace H := Option.bind_eq_some_iff.mp H
        obtain ⟨t317, A120, H⟩ := H
        replace H : (some (Go.bits .or .u16 x7_6 t317)) = some r := H
        have A12 := Aside0.mk A120
        clear A120
        obtain rfl := Option.some.inj H
        go_wp2_with (first | ((with_reducible refine gate_callee (f := 32) rfl ?_); refine goesL_ (some 24) rfl rfl Try.func32 (by kernel_rfl) rfl #[.int .u16 a0, .int .i64 a2] rfl (by (try simp only [List.map_toArray, List.map_cons, List.map_nil]); first | done | rfl | (simp only [List.length_drop, List.length_take]; rfl)) ?_; (with_reducible refine (palantyperef02_Has.calls a0 a2 true _ A10.out).mono ?_); rintro e w' ⟨rfl, ⟨nd, rfl⟩⟩; refine ⟨_, rfl, ?_⟩) | ((with_reducible refine gate_callee (f := 44) rfl ?_); refine goesL_ (some 27) rfl rfl Try.func44 (by kernel_rfl) rfl #[.int .i64 a1] rfl (by (try simp only [List.map_toArray, List.map_cons, List.map_nil]); first | done | rfl | (simp only [List.length_drop, List.length_take]; rfl)) ?_; (with_reducible refine (palantyperef02_Bit.calls a1 t317 _ A12.out).mono ?_); rintro e w' ⟨rfl, ⟨nd, rfl⟩⟩; refine ⟨_, rfl, ?_⟩))
        go_ret
        exact ⟨by first | rfl | (simp; done) | (simp [*]; done), by repeat (first | exact Drawn0.refl _ | apply Drawn0.step)⟩
      · replace c11 := Bool.eq_false_iff.mpr c11
        subst c11
        have H1 : (some x7_6) = some r := by rw [if_neg (show ¬ (false = true) by decide)] at H; exact H
        clear H
        have H := H1
        clear H1
        obtain rfl := Option.some.inj H
        go_wp2_with (first | ((with_reducible refine gate_callee (f := 32) rfl ?_); refine goesL_ (some 24) rfl rfl Try.func32 (by kernel_rfl) rfl #[.int .u16 a0, .int .i64 a2] rfl (by (try simp only [List.map_toArray, List.map_cons, List.map_nil]); first | done | rfl | (simp only [List.length_drop, List.length_take]; rfl)) ?_; (with_reducible refine (palantyperef02_Has.calls a0 a2 false _ A10.out).mono ?_); rintro e w' ⟨rfl, ⟨nd, rfl⟩⟩; refine ⟨_, rfl, ?_⟩))
        go_ret
        exact ⟨by first | rfl | (simp; done) | (simp [*]; done), by repeat (first | exact Drawn0.refl _ | apply Drawn0.step)⟩

end Go.Proofs.Ytdnjmhhjjbdieaa.Q
end

section
/- Plain: two persons change their numbers. -/
namespace Go.Proofs.Ytdnjmhhjjbdieaa.Q
open Go.RowKit Go.Proofs.YtdnjmhhjjbdieaaW.PrintWords
set_option linter.unusedVariables false

/-- Two numbers changed. -/
def sg (a b p : Int) : Int := if p = a then b else if p = b then a else p
theorem sg_sg (a b p : Int) : sg a b (sg a b p) = p := by unfold sg; split <;> split <;> (try split) <;> omega
theorem sg_inj {a b p q : Int} : sg a b p = sg a b q ↔ p = q := ⟨fun h => by rw [← sg_sg a b p, h, sg_sg], fun h => by rw [h]⟩
theorem sg_neg {a b p : Int} (ha : 0 ≤ a) (hb : 0 ≤ b) : sg a b p < 0 ↔ p < 0 := by unfold sg; split <;> (try split) <;> omega
theorem sg_out {a b p : Int} (h1 : p ≠ a) (h2 : p ≠ b) : sg a b p = p := by unfold sg; rw [if_neg h1, if_neg h2]
theorem sg_below {a b p : Int} {n : Nat} (ha : a < n) (hb : b < n) : sg a b p < n ↔ p < n := by unfold sg; split <;> (try split) <;> omega
theorem sg_low {a b p : Int} (ha : 0 ≤ a) (hb : 0 ≤ b) : -1 ≤ sg a b p ↔ -1 ≤ p := by unfold sg; split <;> (try split) <;> omega
theorem sg_high {a b p : Int} (ha : a ≤ 14) (hb : b ≤ 14) : sg a b p ≤ 14 ↔ p ≤ 14 := by unfold sg; split <;> (try split) <;> omega
theorem sg_one {a b : Int} (ha : 0 ≤ a) (hb : 0 ≤ b) : sg a b (-1) = -1 := sg_out (by omega) (by omega)

theorem isSet_self {x : Int} (h : 0 ≤ x ∧ x < 65536) : IsSet x (fun q => inSet x q = true) := by
  obtain ⟨m, rfl⟩ := Int.eq_ofNat_of_zero_le h.1
  exact ⟨m, rfl, by omega, fun q h1 h2 => by
    show m.testBit (pidx q) = true ↔ inSet (m : Int) q = true
    rw [inSet_nat (by omega) h1 h2]⟩
theorem IsSet.range {x : Int} {P : Int → Prop} (h : IsSet x P) : 0 ≤ x ∧ x < 65536 := by
  obtain ⟨m, rfl, hm, _⟩ := h
  omega
theorem IsSet.but {x y : Int} {P Q : Int → Prop} (h : IsSet x P) (h' : IsSet y Q) : IsSet (Go.bits .andNot .u16 x y) (fun q => P q ∧ ¬ Q q) := by
  obtain ⟨m, rfl, hm, hp⟩ := h
  obtain ⟨m', rfl, hm', hp'⟩ := h'
  obtain ⟨r, hr, hrl, hrb⟩ := bits_andNot_bit m m' hm hm'
  refine ⟨r, hr, hrl, fun q h1 h2 => ?_⟩
  show _ ↔ (P q ∧ ¬ Q q)
  rw [hrb, Bool.and_eq_true, hp q h1 h2, Bool.not_eq_true', ← hp' q h1 h2]
  simp
theorem isSet_bit {q : Int} (h1 : -1 ≤ q) (h2 : q ≤ 14) : IsSet (bitOf q) (fun p => p = q) :=
  ⟨2 ^ pidx q, bitOf_nat h1 h2, Nat.lt_of_lt_of_le (Nat.pow_lt_pow_right (by omega) (pidx_lt h1 h2)) (by decide), fun p a b => by
    rw [Nat.testBit_two_pow, decide_eq_true_eq]
    exact ⟨fun e => (pidx_inj h1 h2 a b e).symm, fun e => by rw [e]⟩⟩

/-- A set in which two persons have changed their numbers. -/
def swp (x a b : Int) : Int :=
  let o := Go.bits .andNot .u16 x (Go.bits .or .u16 (bitOf a) (bitOf b))
  let o := if inSet x a = true then Go.bits .or .u16 o (bitOf b) else o
  if inSet x b = true then Go.bits .or .u16 o (bitOf a) else o
theorem swapped_ev {x a b : Int} (ha : 0 ≤ a ∧ a ≤ 14) (hb : 0 ≤ b ∧ b ≤ 14) : Ev (fun k => palantypelaw02_swapped.f k x a b) (swp x a b) := by
  have j0 : ∀ o, Ev (fun k => palantypelaw02_swapped.j0 k x a b o) (if inSet x b = true then Go.bits .or .u16 o (bitOf a) else o) := fun o => by
    refine Ev.step (f := fun k => some (if inSet x b = true then Go.bits .or .u16 o (bitOf a) else o)) (fun k => ?_) (Ev.now _)
    simp only [palantypelaw02_swapped.j0]
    rw [has_at x (by omega) hb.2, bit_at (by omega) ha.2]
    simp only [Option.bind_some]
    split <;> rfl
  refine Ev.congr (f := fun k => palantypelaw02_swapped.j0 k x a b (if inSet x a = true then Go.bits .or .u16 (Go.bits .andNot .u16 x (Go.bits .or .u16 (bitOf a) (bitOf b))) (bitOf b) else Go.bits .andNot .u16 x (Go.bits .or .u16 (bitOf a) (bitOf b)))) (fun k => ?_) (j0 _)
  unfold palantypelaw02_swapped.f
  rw [has_at x (by omega) ha.2, bit_at (by omega) ha.2, bit_at (by omega) hb.2]
  simp only [Option.bind_some]
  split <;> rfl
theorem swp_isSet {x a b : Int} (hx : 0 ≤ x ∧ x < 65536) (ha : 0 ≤ a ∧ a ≤ 14) (hb : 0 ≤ b ∧ b ≤ 14) : IsSet (swp x a b) (fun q => inSet x (sg a b q) = true) := by
  have h0 : IsSet (Go.bits .andNot .u16 x (Go.bits .or .u16 (bitOf a) (bitOf b))) (fun q => inSet x q = true ∧ ¬ (q = a ∨ q = b)) := (isSet_self hx).but ((isSet_bit (by omega) ha.2).or (by omega) hb.2)
  obtain ⟨o1, e1⟩ : ∃ o, (if inSet x a = true then Go.bits .or .u16 (Go.bits .andNot .u16 x (Go.bits .or .u16 (bitOf a) (bitOf b))) (bitOf b) else Go.bits .andNot .u16 x (Go.bits .or .u16 (bitOf a) (bitOf b))) = o := ⟨_, rfl⟩
  have h1 : IsSet o1 (fun q => (inSet x q = true ∧ ¬ (q = a ∨ q = b)) ∨ (inSet x a = true ∧ q = b)) := by
    subst e1
    split
    · rename_i h; exact (h0.or (by omega) hb.2).congr (fun q _ _ => by simp [h])
    · rename_i h; exact h0.congr (fun q _ _ => by simp [h])
  have h2 : IsSet (swp x a b) (fun q => ((inSet x q = true ∧ ¬ (q = a ∨ q = b)) ∨ (inSet x a = true ∧ q = b)) ∨ (inSet x b = true ∧ q = a)) := by
    unfold swp
    simp only []
    rw [e1]
    split
    · rename_i h; exact (h1.or (by omega) ha.2).congr (fun q _ _ => by simp [h])
    · rename_i h; exact h1.congr (fun q _ _ => by simp [h])
  refine h2.congr (fun q _ _ => ?_)
  unfold sg
  by_cases c1 : q = a
  · subst c1
    by_cases c2 : q = b
    · subst c2; simp
    · simp [c2]
  · by_cases c2 : q = b
    · subst c2; simp [c1]
    · simp [c1, c2]
theorem swp_mem {x a b : Int} (hx : 0 ≤ x ∧ x < 65536) (ha : 0 ≤ a ∧ a ≤ 14) (hb : 0 ≤ b ∧ b ≤ 14) {q : Int} (h1 : -1 ≤ q) (h2 : q ≤ 14) : inSet (swp x a b) q = true ↔ inSet x (sg a b q) = true := (swp_isSet hx ha hb).mem h1 h2
theorem swp_swp {x a b : Int} (hx : 0 ≤ x ∧ x < 65536) (ha : 0 ≤ a ∧ a ≤ 14) (hb : 0 ≤ b ∧ b ≤ 14) : swp (swp x a b) a b = x :=
  ((swp_isSet (swp_isSet hx ha hb).range ha hb).congr (fun q h1 h2 => by
    rw [swp_mem hx ha hb ((sg_low ha.1 hb.1).2 h1) ((sg_high ha.2 hb.2).2 h2), sg_sg])).unique (isSet_self hx)

/-! ### scenes -/
def sw (a b : Int) (m : S52) : S52 := ⟨swp m.f0 a b, swp m.f1 a b⟩
def InR (m : S52) : Prop := (0 ≤ m.f0 ∧ m.f0 < 65536) ∧ (0 ≤ m.f1 ∧ m.f1 < 65536)
def sgS (a b : Int) (x : St) : St := ⟨sg a b x.holder, x.turn, x.short, x.own⟩
theorem sgS_sgS (a b : Int) (x : St) : sgS a b (sgS a b x) = x := by unfold sgS; simp only [sg_sg]

section
variable {a b : Int} (ha : 0 ≤ a ∧ a ≤ 14) (hb : 0 ≤ b ∧ b ≤ 14)
include ha hb
theorem sw_sw {m : S52} (h : InR m) : sw a b (sw a b m) = m := by
  unfold sw
  simp only []
  rw [swp_swp h.1 ha hb, swp_swp h.2 ha hb]
theorem sw_inR {m : S52} (h : InR m) : InR (sw a b m) := ⟨(swp_isSet h.1 ha hb).range, (swp_isSet h.2 ha hb).range⟩
theorem step_sw {least most short : Int} {x y : St} {h v : Int} (hs : stepF least most short x h v = (y, true)) : stepF least most short (sgS a b x) (sg a b h) (sg a b v) = (sgS a b y, true) := by
  have eh : sg a b h = -1 ↔ h = -1 := ⟨fun e => by rw [← sg_sg a b h, e, sg_one ha.1 hb.1], fun e => by rw [e, sg_one ha.1 hb.1]⟩
  have ev : sg a b v = -1 ↔ v = -1 := ⟨fun e => by rw [← sg_sg a b v, e, sg_one ha.1 hb.1], fun e => by rw [e, sg_one ha.1 hb.1]⟩
  have en : (0 ≤ sg a b x.holder) ↔ 0 ≤ x.holder := by have := sg_neg (a := a) (b := b) (p := x.holder) ha.1 hb.1; omega
  have en' : (sg a b x.holder < 0) ↔ x.holder < 0 := sg_neg ha.1 hb.1
  have out : ∀ t, stepOut most short x h v t = (y, true) → stepOut most short (sgS a b x) (sg a b h) (sg a b v) t = (sgS a b y, true) := fun t ht => by
    unfold stepOut at ht ⊢
    have e2 : (sg a b v ≠ -1 ∧ sg a b v ≠ sg a b h) ↔ (v ≠ -1 ∧ v ≠ h) := and_congr (not_congr ev) (not_congr sg_inj)
    have e3 : (sg a b v == sg a b h) = (v == h) := by rw [Bool.eq_iff_iff, beq_iff_eq, beq_iff_eq]; exact sg_inj
    have e4 : ∀ (A B : Int), (if sg a b v ≠ -1 ∧ sg a b v ≠ sg a b h then A else B) = if v ≠ -1 ∧ v ≠ h then A else B := fun A B => by
      by_cases c : v ≠ -1 ∧ v ≠ h
      · rw [if_pos c, if_pos (e2.2 c)]
      · rw [if_neg c, if_neg (fun h => c (e2.1 h))]
    simp only [e4, e3, sgS] at ht ⊢
    injection ht with h1 h2
    subst h1
    rw [h2]
  unfold stepF at hs ⊢
  by_cases c1 : h = -1
  · rw [if_pos c1] at hs
    rw [if_pos (eh.2 c1)]
    injection hs with h1 h2
    subst h1
    have e1 : decide ((sgS a b x).holder < 0) = decide (x.holder < 0) := decide_eq_decide.2 en'
    have e2 : decide (sg a b v = -1) = decide (v = -1) := decide_eq_decide.2 ev
    rw [e1, e2]
    unfold sgS
    simp only [sg_one ha.1 hb.1]
    rw [h2]
  · rw [if_neg c1] at hs
    rw [if_neg (fun h => c1 (eh.1 h))]
    by_cases c2 : h = x.holder
    · rw [if_pos c2] at hs
      rw [if_pos (show sg a b h = (sgS a b x).holder from sg_inj.2 c2)]
      exact out _ hs
    · rw [if_neg c2] at hs
      rw [if_neg (show ¬ (sg a b h = (sgS a b x).holder) from fun e => c2 (sg_inj.1 e))]
      by_cases c3 : v ≠ h
      · rw [if_pos c3] at hs; cases hs
      · rw [if_neg c3] at hs
        rw [if_neg (fun e => e (by rw [Classical.not_not.1 c3]))]
        by_cases c4 : 0 ≤ x.holder ∧ (x.turn < least ∨ x.own = false)
        · rw [if_pos c4] at hs; cases hs
        · rw [if_neg c4] at hs
          rw [if_neg (show ¬ (0 ≤ (sgS a b x).holder ∧ ((sgS a b x).turn < least ∨ (sgS a b x).own = false)) from fun e => c4 ⟨en.1 e.1, e.2⟩)]
          exact out _ hs
def sgP (a b : Int) (p : (Int × Int) × St) : (Int × Int) × St := ((sg a b p.1.1, sg a b p.1.2), sgS a b p.2)
theorem upTo_sw {n : Nat} (hn : n ≤ 12) (han : a < n) (hbn : b < n) {x : Int} (hx : 0 ≤ x ∧ x < 65536) {p : Int} (h : p ∈ upTo x (n + 1)) : sg a b p ∈ upTo (swp x a b) (n + 1) := by
  obtain ⟨h1, h2, h3⟩ := mem_upTo.1 h
  have k1 := (sg_low (p := p) ha.1 hb.1).2 h1
  have k2 : sg a b p < n := (sg_below han hbn).2 (by omega)
  refine mem_upTo.2 ⟨k1, by omega, ?_⟩
  rw [swp_mem hx ha hb k1 (by omega), sg_sg]
  exact h3
theorem parts_sw {n : Nat} (hn : n ≤ 12) (han : a < n) (hbn : b < n) {least most short : Int} {x : St} {m : S52} (hm : InR m) {p : (Int × Int) × St} (hp : p ∈ partsOf least most short x m.f0 m.f1 n) :
    sgP a b p ∈ partsOf least most short (sgS a b x) (sw a b m).f0 (sw a b m).f1 n := by
  obtain ⟨h1, h2, h3⟩ := mem_partsOf.1 hp
  exact mem_partsOf.2 ⟨upTo_sw ha hb hn han hbn hm.1 h1, upTo_sw ha hb hn han hbn hm.2 h2, step_sw ha hb h3⟩
theorem fwd_sw {n : Nat} (hn : n ≤ 12) (han : a < n) (hbn : b < n) {least most short : Int} {l : List S52} (hl : ∀ m ∈ l, InR m) : ∀ (j : Nat) (y : St), fwd least most short n l j y → fwd least most short n (l.map (sw a b)) j (sgS a b y)
  | 0, y, h => by
    cases h
    show sgS a b beginSt = beginSt
    unfold sgS beginSt
    simp only [sg_out (a := a) (b := b) (p := -2) (by omega) (by omega)]
  | j + 1, y, h => by
    cases hm : l[j]? with
    | none => simp [fwd, hm] at h
    | some m =>
      have hm' : (l.map (sw a b))[j]? = some (sw a b m) := by rw [List.getElem?_map, hm]; rfl
      simp only [fwd, hm] at h
      simp only [fwd, hm']
      obtain ⟨x, hx, p, hp, rfl⟩ := h
      exact ⟨sgS a b x, fwd_sw hn han hbn hl j x hx, sgP a b p, parts_sw ha hb hn han hbn (hl m (List.mem_of_getElem? hm)) hp, rfl⟩
theorem map_sw {l : List S52} (hl : ∀ m ∈ l, InR m) : (l.map (sw a b)).map (sw a b) = l := by
  rw [List.map_map]
  conv => rhs; rw [← List.map_id l]
  exact List.map_congr_left (fun m hm => sw_sw ha hb (hl m hm))
theorem map_inR {l : List S52} (hl : ∀ m ∈ l, InR m) : ∀ m ∈ l.map (sw a b), InR m := fun m hm => by
  obtain ⟨m', h, rfl⟩ := List.mem_map.1 hm
  exact sw_inR ha hb (hl m' h)
theorem fwd_sw_iff {n : Nat} (hn : n ≤ 12) (han : a < n) (hbn : b < n) {least most short : Int} {l : List S52} (hl : ∀ m ∈ l, InR m) (j : Nat) (y : St) : fwd least most short n (l.map (sw a b)) j y ↔ fwd least most short n l j (sgS a b y) := by
  constructor
  · intro h
    have := fwd_sw ha hb hn han hbn (map_inR ha hb hl) j y h
    rwa [map_sw ha hb hl] at this
  · intro h
    have := fwd_sw ha hb hn han hbn hl j _ h
    rwa [sgS_sgS] at this
theorem tellable_sw {n : Nat} (hn : n ≤ 12) (han : a < n) (hbn : b < n) {least most short : Int} : ∀ (l : List S52) (hl : ∀ m ∈ l, InR m) (x : St), tellable least most short n l x → tellable least most short n (l.map (sw a b)) (sgS a b x)
  | [], _, _, _ => trivial
  | m :: l, hl, x, h => by
    obtain ⟨p, hp, ht⟩ := h
    exact ⟨sgP a b p, parts_sw ha hb hn han hbn (hl m (by simp)) hp, tellable_sw hn han hbn l (fun m hm => hl m (by simp [hm])) p.2 ht⟩
theorem pruned_sw {n : Nat} (hn : n ≤ 12) (han : a < n) (hbn : b < n) {least most short : Int} {l : List S52} (hl : ∀ m ∈ l, InR m) {j : Nat} {x : St} (h : pruned least most short n l 0 j x) : pruned least most short n (l.map (sw a b)) 0 j (sgS a b x) :=
  ⟨fwd_sw ha hb hn han hbn hl j x h.1, fun _ => by
    rw [← List.map_drop]
    exact tellable_sw ha hb hn han hbn _ (fun m hm => hl m (List.mem_of_mem_drop hm)) x (h.2 (Nat.zero_le _))⟩
theorem good_sw {n : Nat} (hn : n ≤ 12) (han : a < n) (hbn : b < n) {least most short : Int} {l : List S52} (hl : ∀ m ∈ l, InR m) {j : Nat} {m : S52} (hm : InR m) {q : Int × Int} (h : q ∈ goodParts least most short n l j m) :
    (sg a b q.1, sg a b q.2) ∈ goodParts least most short n (l.map (sw a b)) j (sw a b m) := by
  obtain ⟨x, hx, p, hp, ht, rfl⟩ := mem_goodParts.1 h
  exact mem_goodParts.2 ⟨sgS a b x, pruned_sw ha hb hn han hbn hl hx, sgP a b p, parts_sw ha hb hn han hbn hm hp, pruned_sw ha hb hn han hbn hl ht, rfl⟩
theorem good_sw_iff {n : Nat} (hn : n ≤ 12) (han : a < n) (hbn : b < n) {least most short : Int} {l : List S52} (hl : ∀ m ∈ l, InR m) {j : Nat} {m : S52} (hm : InR m) {q : Int × Int} :
    q ∈ goodParts least most short n (l.map (sw a b)) j (sw a b m) ↔ (sg a b q.1, sg a b q.2) ∈ goodParts least most short n l j m := by
  constructor
  · intro h
    have := good_sw ha hb hn han hbn (map_inR ha hb hl) (sw_inR ha hb hm) h
    rwa [map_sw ha hb hl, sw_sw ha hb hm] at this
  · intro h
    have := good_sw ha hb hn han hbn hl hm h
    rwa [show (sg a b (sg a b q.1, sg a b q.2).1, sg a b (sg a b q.1, sg a b q.2).2) = q by simp only [sg_sg]] at this
theorem told_sw {n : Nat} (hn : n ≤ 12) (han : a < n) (hbn : b < n) {least most short : Int} {l : List S52} (hl : ∀ m ∈ l, InR m) {j : Nat} (hj : j < l.length) :
    swp (toldOf least most short n l j).f0 a b = (toldOf least most short n (l.map (sw a b)) j).f0 ∧ swp (toldOf least most short n l j).f1 a b = (toldOf least most short n (l.map (sw a b)) j).f1 := by
  have hg : l[j]? = some l[j] := List.getElem?_eq_getElem hj
  have hm := hl l[j] (List.getElem_mem hj)
  have hg' : (l.map (sw a b))[j]? = some (sw a b l[j]) := by rw [List.getElem?_map, hg]; rfl
  have e1 : toldOf least most short n l j = ⟨orOf ((goodParts least most short n l j l[j]).map (·.1)), orOf ((goodParts least most short n l j l[j]).map (·.2))⟩ := by unfold toldOf; rw [hg]
  have e2 : toldOf least most short n (l.map (sw a b)) j = ⟨orOf ((goodParts least most short n (l.map (sw a b)) j (sw a b l[j])).map (·.1)), orOf ((goodParts least most short n (l.map (sw a b)) j (sw a b l[j])).map (·.2))⟩ := by unfold toldOf; rw [hg']
  have key : ∀ (f : Int × Int → Int) (hf : ∀ q : Int × Int, f (sg a b q.1, sg a b q.2) = sg a b (f q)) (hr : ∀ (l' : List S52) m (q : Int × Int), q ∈ goodParts least most short n l' j m → -1 ≤ f q ∧ f q ≤ 14),
      swp (orOf ((goodParts least most short n l j l[j]).map f)) a b = orOf ((goodParts least most short n (l.map (sw a b)) j (sw a b l[j])).map f) := fun f hf hr => by
    have s1 : IsSet (orOf ((goodParts least most short n l j l[j]).map f)) _ := orOf_isSet (fun q hq => by obtain ⟨r, hq2, rfl⟩ := List.mem_map.1 hq; exact hr _ _ r hq2)
    have s2 : IsSet (orOf ((goodParts least most short n (l.map (sw a b)) j (sw a b l[j])).map f)) _ := orOf_isSet (fun q hq => by obtain ⟨r, hq2, rfl⟩ := List.mem_map.1 hq; exact hr _ _ r hq2)
    refine ((swp_isSet s1.range ha hb).congr (fun q h1 h2 => ?_)).unique s2
    rw [s1.mem ((sg_low ha.1 hb.1).2 h1) ((sg_high ha.2 hb.2).2 h2), List.mem_map, List.mem_map]
    constructor
    · rintro ⟨r, hr, e⟩
      exact ⟨(sg a b r.1, sg a b r.2), good_sw ha hb hn han hbn hl hm hr, by rw [hf, e, sg_sg]⟩
    · rintro ⟨r, hr, rfl⟩
      exact ⟨(sg a b r.1, sg a b r.2), (good_sw_iff ha hb hn han hbn hl hm).1 hr, hf r⟩
  rw [e1, e2]
  exact ⟨key (·.1) (fun q => rfl) (fun l' m q hq => by have := good_range hn hq; omega), key (·.2) (fun q => rfl) (fun l' m q hq => by have := good_range hn hq; omega)⟩
theorem hcnt_sw {n : Nat} (hn : n ≤ 12) (han : a < n) (hbn : b < n) {least most short : Int} {l : List S52} (hl : ∀ m ∈ l, InR m) {person : Int} : ∀ (j : Nat) (y : St) (c : Int), hcnt least most short n l person j y c → hcnt least most short n (l.map (sw a b)) (sg a b person) j (sgS a b y) c
  | 0, y, c, h => by
    obtain ⟨rfl, rfl⟩ := h
    refine ⟨?_, rfl⟩
    unfold sgS beginSt
    simp only [sg_out (a := a) (b := b) (p := -2) (by omega) (by omega)]
  | j + 1, y, c, h => by
    cases hm : l[j]? with
    | none => simp [hcnt, hm] at h
    | some m =>
      have hm' : (l.map (sw a b))[j]? = some (sw a b m) := by rw [List.getElem?_map, hm]; rfl
      simp only [hcnt, hm] at h
      simp only [hcnt, hm']
      obtain ⟨x, p, hp, rfl, c', hc, rfl⟩ := h
      refine ⟨sgS a b x, sgP a b p, parts_sw ha hb hn han hbn (hl m (List.mem_of_getElem? hm)) hp, rfl, c', hcnt_sw hn han hbn hl j x c' hc, ?_⟩
      have : heldOne (sg a b person) (sgP a b p) = heldOne person p := by
        unfold heldOne sgP
        by_cases e : p.1.1 = person
        · rw [if_pos e, if_pos (by rw [e])]
        · rw [if_neg e, if_neg (fun h => e (sg_inj.1 h))]
      rw [this]
theorem check_sw {n : Nat} (hn0 : 1 ≤ n) (hn : n ≤ 12) (han : a < n) (hbn : b < n) {a1 a2 a3 : Int} {l : List S52} (hl : ∀ m ∈ l, InR m) (hc : floor_Scene_check.f n a1 a2 a3 l = some 0) : floor_Scene_check.f n a1 a2 a3 (l.map (sw a b)) = some 0 := by
  obtain ⟨h1, _, h3, h4, h5, h6⟩ := check_ok hc
  refine check_mk (by rw [List.length_map]; exact h1) (by omega) h3 h4 h5 ?_
  rw [List.all_eq_true] at h6 ⊢
  intro m hm
  obtain ⟨m', hm', rfl⟩ := List.mem_map.1 hm
  have hr := hl m' hm'
  have hr' := sw_inR ha hb hr
  have k := h6 m' hm'
  have k1 : momOk (knownOf n) m' = (setB m'.f0 n && setB m'.f1 n) := momOk_eq hn0 hn hr.1 hr.2
  have k2 : momOk (knownOf n) (sw a b m') = (setB (sw a b m').f0 n && setB (sw a b m').f1 n) := momOk_eq hn0 hn hr'.1 hr'.2
  rw [k1, Bool.and_eq_true, setB_iff, setB_iff] at k
  rw [k2, Bool.and_eq_true, setB_iff, setB_iff]
  have key : ∀ x : Int, (0 ≤ x ∧ x < 65536) → (∀ i : Nat, n ≤ i → i < 15 → inSet x i = false) → ∀ i : Nat, n ≤ i → i < 15 → inSet (swp x a b) i = false := fun x hx hk i h1 h2 => by
    have := swp_mem hx ha hb (q := (i : Int)) (by omega) (by omega)
    rw [sg_out (by omega) (by omega), hk i h1 h2] at this
    simpa using this
  exact ⟨key _ hr.1 k.1, key _ hr.2 k.2⟩
end
end Go.Proofs.Ytdnjmhhjjbdieaa.Q
end

section
-- printed by wip/tools/qprint.py, a program of this session's, out of the translation. Not trusted: Lean checks it.
namespace Go.Proofs.Ytdnjmhhjjbdieaa.Q
open Go.RowKit Go.Proofs.YtdnjmhhjjbdieaaW.PrintWords Go.Proofs.YtdnjmhhjjbdieaaW.PrintLast
set_option linter.unusedVariables false
set_option linter.unusedSimpArgs false

theorem eqA42 (d : Nat) (w : World) (x0 y0 : Int) (x1 y1 : Int) :
    (Op.equalIn (d + 2) 42 (.agg #[.int .i64 x0, .int .i64 x1]) (.agg #[.int .i64 y0, .int .i64 y1])).run Try.prog w = .ok (x0 == y0 && (x1 == y1)) w := by
  refine eqA_of Try.underlying42 (by kernel_rfl) ?_
  refine eqf_cons (by rfl) (by go_simp; rfl) (by go_simp; rfl) (by go_simp) ?_
  exact eqf_last (by rfl) (by go_simp; rfl) (by go_simp; rfl) (by go_simp)
end Go.Proofs.Ytdnjmhhjjbdieaa.Q
end
