/- Texts of a proof, joined: see the last one. -/
import Derived.Test.YtdnjmhhjjbdieaaG1
import Derived.Test.YtdnjmhhjjbdieaaG2
import Derived.Test.YtdnjmhhjjbdieaaG6
import Derived.Test.YtdnjmhhjjbdieaaG7
import Derived.Test.YtdnjmhhjjbdieaaG8
import Derived.Laws.MakeOwn
namespace Go.Proofs.YtdnjmhhjjbdieaaW.PrintLast
end Go.Proofs.YtdnjmhhjjbdieaaW.PrintLast
namespace Go.Proofs.YtdnjmhhjjbdieaaW.PrintMore
end Go.Proofs.YtdnjmhhjjbdieaaW.PrintMore
namespace Go.Proofs.YtdnjmhhjjbdieaaW.PrintWords
end Go.Proofs.YtdnjmhhjjbdieaaW.PrintWords
section
namespace Go.Proofs.Ytdnjmhhjjbdieaa.Q
open Go.RowKit Go.Proofs.YtdnjmhhjjbdieaaW.PrintWords Go.Proofs.YtdnjmhhjjbdieaaW.PrintLast
set_option linter.unusedVariables false
set_option linter.unusedSimpArgs false
def palantypelaw02_told.l0 : Nat → List (S54) → List (S100) → Int → Option (Bool)
  | 0, _, _, _ => none
  | k + 1, x0, x1, x5 => if x5 < (x0.length : Int) then (if 0 ≤ x5 then (if x5 < (x1.length : Int) then (if ((rd_T54 x0 x5).f0) = ((rd_T100 x1 x5).f0) then (if ((rd_T54 x0 x5).f1) = ((rd_T100 x1 x5).f1) then (palantypelaw02_told.l0 k x0 x1 (wrap64 (x5 + 1))) else (some false)) else (some false)) else (none)) else (none)) else (some true)
def palantypelaw02_told.f (k : Nat) (l0 : List (S54)) (l1 : List (S100)) : Option (Bool) := if (l0.length : Int) = (l1.length : Int) then (palantypelaw02_told.l0 k l0 l1 0) else (some false)
theorem palantypelaw02_told.mono_l : ∀ k, (∀ y0 y1 y2, LeO (palantypelaw02_told.l0 k y0 y1 y2) (palantypelaw02_told.l0 (k + 1) y0 y1 y2))
  | 0 => fun _ _ _ r h => by simp [palantypelaw02_told.l0] at h
  | k + 1 => by
    have ih0 := palantypelaw02_told.mono_l k
    · intro y0 y1 y2
      unfold palantypelaw02_told.l0
      repeat' first
      | (with_reducible exact ih0 _ _ _)
      | (with_reducible exact LeO.refl _)
      | (with_reducible exact LeO.none _)
      | (with_reducible refine LeO.ite ?_ ?_)
      | (with_reducible refine LeO.bind ?_ (fun _ => ?_))
      | exact ih0 _ _ _
      | exact LeO.none _
      | refine LeO.ite ?_ ?_
      | refine LeO.bind ?_ (fun _ => ?_)
theorem palantypelaw02_told.mono : ∀ a0 a1 k, LeO (palantypelaw02_told.f k a0 a1) (palantypelaw02_told.f (k + 1) a0 a1) := by
  intro a0 a1 k
  have ih0 := palantypelaw02_told.mono_l k
  unfold palantypelaw02_told.f
  repeat' first
      | (with_reducible exact ih0 _ _ _)
      | (with_reducible exact LeO.refl _)
      | (with_reducible exact LeO.none _)
      | (with_reducible refine LeO.ite ?_ ?_)
      | (with_reducible refine LeO.bind ?_ (fun _ => ?_))
      | exact ih0 _ _ _
      | exact LeO.none _
      | refine LeO.ite ?_ ?_
      | refine LeO.bind ?_ (fun _ => ?_)
set_option maxHeartbeats 8000000 in
set_option maxRecDepth 100000 in
theorem palantypelaw02_told.calls (k : Nat) (A0 : Option Addr) (c0 : Nat) (l0 : List (S54)) (A1 : Option Addr) (c1 : Nat) (l1 : List (S100)) (r : Bool) (w : World) (hr0 : Kd.C k54 w A0 l0.length l0) (hc0 : l0.length ≤ c0) (hr1 : Kd.C k100 w A1 l1.length l1) (hc1 : l1.length ≤ c1) (h : palantypelaw02_told.f k l0 l1 = some r) :
    Calls Try.prog 22 #[.slice A0 l0.length c0, .slice A1 l1.length c1] w fun e w' => e = .returned (.bool r) ∧ Drawn0 w w' := by
  have HR0 := Aside0.mk hr0
  have HC0 := Aside0.mk hc0
  clear hr0 hc0
  have HR1 := Aside0.mk hr1
  have HC1 := Aside0.mk hc1
  clear hr1 hc1
  have H : (if (l0.length : Int) = (l1.length : Int) then (palantypelaw02_told.l0 k l0 l1 0) else (some false)) = some r := h
  clear h
  by_cases c3 : (l0.length : Int) = (l1.length : Int)
  · rw [if_pos c3] at H
    have c3b0 : ((l0.length : Int) == (l1.length : Int)) = true := beq_iff_eq.mpr c3
    have c3b1 : ((l0.length : Int) != (l1.length : Int)) = false := bne_eq_false_iff_eq.mpr c3
    have c3b2 : (l0.length == l1.length) = true := by first | simpa using c3 | (simp at c3 ⊢; omega)
    clear c3
    have H' := Aside0.mk H
    clear H
    go_enter Try.func22, Try.ntmps22
    go_wp2
    repeat (go_quiet (fail); try go_wp2)
    go_loopg [5] k (fun kq v5 w' => ∃ (x5_1 : Int), v5 = .int .i64 x5_1 ∧ Aside0 (palantypelaw02_told.l0 kq l0 l1 x5_1 = some r) ∧ Aside0 (kq ≤ k) ∧ Drawn0 w w')
    case atStart => exact ⟨(0), (by first | rfl | (simp; done) | (simp [*]; done)), H', ⟨Nat.le_refl _⟩, by repeat (first | exact Drawn0.refl _ | apply Drawn0.step)⟩
    case round =>
      clear H'
      try clear c1
      try clear c2
      try clear p2
      try clear c3
      try clear c3b0
      try clear c3b1
      try clear c3b2
      obtain ⟨x5_1, rfl, HA, HK1, ⟨m1, rfl⟩⟩ := hrel
      cases gk with
      | zero => exact absurd HA.out (by simp [palantypelaw02_told.l0])
      | succ k1 =>
        have H := HA.out
        clear HA
        simp only [palantypelaw02_told.l0] at H
        by_cases c4 : x5_1 < (l0.length : Int)
        · rw [if_pos c4] at H
          have c4b0 : decide (x5_1 < (l0.length : Int)) = true := decide_eq_true c4
          clear c4
          by_cases c5 : 0 ≤ x5_1
          · rw [if_pos c5] at H
            have c5b0 : decide (0 ≤ x5_1) = true := decide_eq_true c5
            clear c5
            by_cases c6 : x5_1 < (l1.length : Int)
            · rw [if_pos c6] at H
              have c6b0 : decide (x5_1 < (l1.length : Int)) = true := decide_eq_true c6
              clear c6
              by_cases c7 : ((rd_T54 l0 x5_1).f0) = ((rd_T100 l1 x5_1).f0)
              · rw [if_pos c7] at H
                have c7b0 : (((rd_T54 l0 x5_1).f0) == ((rd_T100 l1 x5_1).f0)) = true := beq_iff_eq.mpr c7
                have c7b1 : (((rd_T54 l0 x5_1).f0) != ((rd_T100 l1 x5_1).f0)) = false := bne_eq_false_iff_eq.mpr c7
                clear c7
                by_cases c8 : ((rd_T54 l0 x5_1).f1) = ((rd_T100 l1 x5_1).f1)
                · rw [if_pos c8] at H
                  have c8b0 : (((rd_T54 l0 x5_1).f1) == ((rd_T100 l1 x5_1).f1)) = true := beq_iff_eq.mpr c8
                  have c8b1 : (((rd_T54 l0 x5_1).f1) != ((rd_T100 l1 x5_1).f1)) = false := bne_eq_false_iff_eq.mpr c8
                  clear c8
                  have H' := Aside0.mk H
                  clear H
                  have p117 : 0 ≤ (x5_1 : Int) := of_decide_eq_true (by first | (with_reducible assumption) | assumption)
                  have q117 : x5_1 < (l0.length : Int) := of_decide_eq_true (by first | (with_reducible assumption) | assumption)
                  obtain ⟨ad117, e117, hx117_0, hx117_1⟩ := at_T54 HR0.out x5_1 p117 q117
                  cases e117
                  replace p117 := eq_true p117
                  replace q117 := eq_true q117
                  have p118 : 0 ≤ (x5_1 : Int) := of_decide_eq_true (by first | (with_reducible assumption) | assumption)
                  have q118 : x5_1 < (l1.length : Int) := of_decide_eq_true (by first | (with_reducible assumption) | assumption)
                  obtain ⟨ad118, e118, hx118_0, hx118_1⟩ := at_T100 HR1.out x5_1 p118 q118
                  cases e118
                  replace p118 := eq_true p118
                  replace q118 := eq_true q118
                  have p119 : 0 ≤ (x5_1 : Int) := of_decide_eq_true (by first | (with_reducible assumption) | assumption)
                  have q119 : x5_1 < (l0.length : Int) := of_decide_eq_true (by first | (with_reducible assumption) | assumption)
                  obtain ⟨ad119, e119, hx119_0, hx119_1⟩ := at_T54 HR0.out x5_1 p119 q119
                  obtain rfl : ad117 = ad119 := (by injection e119)
                  replace p119 := eq_true p119
                  replace q119 := eq_true q119
                  have p120 : 0 ≤ (x5_1 : Int) := of_decide_eq_true (by first | (with_reducible assumption) | assumption)
                  have q120 : x5_1 < (l1.length : Int) := of_decide_eq_true (by first | (with_reducible assumption) | assumption)
                  obtain ⟨ad120, e120, hx120_0, hx120_1⟩ := at_T100 HR1.out x5_1 p120 q120
                  obtain rfl : ad118 = ad120 := (by injection e120)
                  replace p120 := eq_true p120
                  replace q120 := eq_true q120
                  go_wp2
                  repeat (go_quiet (fail); try go_wp2)
                  go_roundg k1
                  case measure => have := HK1.out; omega
                  case rel => exact ⟨(wrap64 (x5_1 + 1)), (by first | rfl | (simp; done) | (simp [*]; done)), H', ⟨by have := HK1.out; omega⟩, by repeat (first | exact Drawn0.refl _ | apply Drawn0.step)⟩
                · rw [if_neg c8] at H
                  have c8b0 : (((rd_T54 l0 x5_1).f1) == ((rd_T100 l1 x5_1).f1)) = false := beq_eq_false_iff_ne.mpr c8
                  have c8b1 : (((rd_T54 l0 x5_1).f1) != ((rd_T100 l1 x5_1).f1)) = true := bne_iff_ne.mpr c8
                  obtain rfl := Option.some.inj H
                  have p117 : 0 ≤ (x5_1 : Int) := of_decide_eq_true (by first | (with_reducible assumption) | assumption)
                  have q117 : x5_1 < (l0.length : Int) := of_decide_eq_true (by first | (with_reducible assumption) | assumption)
                  obtain ⟨ad117, e117, hx117_0, hx117_1⟩ := at_T54 HR0.out x5_1 p117 q117
                  cases e117
                  replace p117 := eq_true p117
                  replace q117 := eq_true q117
                  have p118 : 0 ≤ (x5_1 : Int) := of_decide_eq_true (by first | (with_reducible assumption) | assumption)
                  have q118 : x5_1 < (l1.length : Int) := of_decide_eq_true (by first | (with_reducible assumption) | assumption)
                  obtain ⟨ad118, e118, hx118_0, hx118_1⟩ := at_T100 HR1.out x5_1 p118 q118
                  cases e118
                  replace p118 := eq_true p118
                  replace q118 := eq_true q118
                  have p119 : 0 ≤ (x5_1 : Int) := of_decide_eq_true (by first | (with_reducible assumption) | assumption)
                  have q119 : x5_1 < (l0.length : Int) := of_decide_eq_true (by first | (with_reducible assumption) | assumption)
                  obtain ⟨ad119, e119, hx119_0, hx119_1⟩ := at_T54 HR0.out x5_1 p119 q119
                  obtain rfl : ad117 = ad119 := (by injection e119)
                  replace p119 := eq_true p119
                  replace q119 := eq_true q119
                  have p120 : 0 ≤ (x5_1 : Int) := of_decide_eq_true (by first | (with_reducible assumption) | assumption)
                  have q120 : x5_1 < (l1.length : Int) := of_decide_eq_true (by first | (with_reducible assumption) | assumption)
                  obtain ⟨ad120, e120, hx120_0, hx120_1⟩ := at_T100 HR1.out x5_1 p120 q120
                  obtain rfl : ad118 = ad120 := (by injection e120)
                  replace p120 := eq_true p120
                  replace q120 := eq_true q120
                  go_wp2
                  repeat (go_quiet (fail); try go_wp2)
                  go_ret
                  exact ⟨by first | rfl | (simp; done) | (simp [*]; done), by repeat (first | exact Drawn0.refl _ | apply Drawn0.step)⟩
              · rw [if_neg c7] at H
                have c7b0 : (((rd_T54 l0 x5_1).f0) == ((rd_T100 l1 x5_1).f0)) = false := beq_eq_false_iff_ne.mpr c7
                have c7b1 : (((rd_T54 l0 x5_1).f0) != ((rd_T100 l1 x5_1).f0)) = true := bne_iff_ne.mpr c7
                obtain rfl := Option.some.inj H
                have p117 : 0 ≤ (x5_1 : Int) := of_decide_eq_true (by first | (with_reducible assumption) | assumption)
                have q117 : x5_1 < (l0.length : Int) := of_decide_eq_true (by first | (with_reducible assumption) | assumption)
                obtain ⟨ad117, e117, hx117_0, hx117_1⟩ := at_T54 HR0.out x5_1 p117 q117
                cases e117
                replace p117 := eq_true p117
                replace q117 := eq_true q117
                have p118 : 0 ≤ (x5_1 : Int) := of_decide_eq_true (by first | (with_reducible assumption) | assumption)
                have q118 : x5_1 < (l1.length : Int) := of_decide_eq_true (by first | (with_reducible assumption) | assumption)
                obtain ⟨ad118, e118, hx118_0, hx118_1⟩ := at_T100 HR1.out x5_1 p118 q118
                cases e118
                replace p118 := eq_true p118
                replace q118 := eq_true q118
                go_wp2
                repeat (go_quiet (fail); try go_wp2)
                go_ret
                exact ⟨by first | rfl | (simp; done) | (simp [*]; done), by repeat (first | exact Drawn0.refl _ | apply Drawn0.step)⟩
            · rw [if_neg c6] at H
              exact absurd H (by simp)
          · rw [if_neg c5] at H
            exact absurd H (by simp)
        · rw [if_neg c4] at H
          have c4b0 : decide (x5_1 < (l0.length : Int)) = false := decide_eq_false c4
          clear c4
          obtain rfl := Option.some.inj H
          go_wp2
          repeat (go_quiet (fail); try go_wp2)
          go_ret
          exact ⟨by first | rfl | (simp; done) | (simp [*]; done), by repeat (first | exact Drawn0.refl _ | apply Drawn0.step)⟩
  · rw [if_neg c3] at H
    have c3b0 : ((l0.length : Int) == (l1.length : Int)) = false := beq_eq_false_iff_ne.mpr c3
    have c3b1 : ((l0.length : Int) != (l1.length : Int)) = true := bne_iff_ne.mpr c3
    have c3b2 : (l0.length == l1.length) = false := by first | simpa using c3 | (simp at c3 ⊢; omega)
    obtain rfl := Option.some.inj H
    go_enter Try.func22, Try.ntmps22
    go_wp2
    repeat (go_quiet (fail); try go_wp2)
    go_ret
    exact ⟨by first | rfl | (simp; done) | (simp [*]; done), by repeat (first | exact Drawn0.refl _ | apply Drawn0.step)⟩
end Go.Proofs.Ytdnjmhhjjbdieaa.Q
end
section
namespace Go.Proofs.Ytdnjmhhjjbdieaa.Q
open Go.RowKit Go.Proofs.YtdnjmhhjjbdieaaW.PrintWords
set_option linter.unusedVariables false
abbrev FT := S54
theorem toldOf_isSet {least most short : Int} {n : Nat} (hn : n ≤ 12) {l : List FM} {j : Nat} (hj : j < l.length) :
    IsSet (toldOf least most short n l j).f0 (fun q => ∃ s, Told least most short n l s ∧ ∃ p, s[j]? = some p ∧ p.f0 = q) ∧ IsSet (toldOf least most short n l j).f1 (fun q => ∃ s, Told least most short n l s ∧ ∃ p, s[j]? = some p ∧ p.f1 = q) := by
  have e : toldOf least most short n l j = ⟨orOf ((goodParts least most short n l j l[j]).map (·.1)), orOf ((goodParts least most short n l j l[j]).map (·.2))⟩ := by
    unfold toldOf; rw [List.getElem?_eq_getElem hj]
  rw [e]
  refine ⟨(orOf_isSet (fun q hq => ?_)).congr (fun q _ _ => ?_), (orOf_isSet (fun q hq => ?_)).congr (fun q _ _ => ?_)⟩
  · obtain ⟨r, hr, rfl⟩ := List.mem_map.1 hq; have := good_range hn hr; omega
  · rw [List.mem_map]
    constructor
    · rintro ⟨r, hr, rfl⟩
      obtain ⟨s, h1, h2⟩ := (mem_good_told hj).1 hr
      exact ⟨s, h1, _, h2, rfl⟩
    · rintro ⟨s, h1, p, h2, rfl⟩
      exact ⟨(p.f0, p.f1), (mem_good_told hj).2 ⟨s, h1, h2⟩, rfl⟩
  · obtain ⟨r, hr, rfl⟩ := List.mem_map.1 hq; have := good_range hn hr; omega
  · rw [List.mem_map]
    constructor
    · rintro ⟨r, hr, rfl⟩
      obtain ⟨s, h1, h2⟩ := (mem_good_told hj).1 hr
      exact ⟨s, h1, _, h2, rfl⟩
    · rintro ⟨s, h1, p, h2, rfl⟩
      exact ⟨(p.f0, p.f1), (mem_good_told hj).2 ⟨s, h1, h2⟩, rfl⟩
theorem told_range {least most short : Int} {n : Nat} {l : List FM} {s : List RP} (h : Told least most short n l s) : ∀ p ∈ s, (-1 ≤ p.f0 ∧ p.f0 < n) ∧ (-1 ≤ p.f1 ∧ p.f1 < n) := by
  intro p hp
  obtain ⟨j, hj, rfl⟩ := List.getElem_of_mem hp
  have hjl : j < l.length := by rw [← h.1]; exact hj
  have hm : ((s[j].f0, s[j].f1) : Int × Int) ∈ goodParts least most short n l j l[j] := (mem_good_told hjl).2 ⟨s, h, List.getElem?_eq_getElem hj⟩
  obtain ⟨x, _, q, hq, _, e⟩ := mem_goodParts.1 hm
  have a := mem_upTo.1 (mem_partsOf.1 hq).1
  have b := mem_upTo.1 (mem_partsOf.1 hq).2.1
  rw [e] at a b
  simp only [] at a b
  omega
end Go.Proofs.Ytdnjmhhjjbdieaa.Q
end
section
namespace Go.Proofs.Ytdnjmhhjjbdieaa.Q
open Go.RowKit Go.Proofs.YtdnjmhhjjbdieaaW.PrintWords
set_option linter.unusedVariables false
theorem isSet_self {x : Int} (h : 0 ≤ x ∧ x < 65536) : IsSet x (fun q => inSet x q = true) := by
  obtain ⟨m, rfl⟩ := Int.eq_ofNat_of_zero_le h.1
  exact ⟨m, rfl, by omega, fun q h1 h2 => by
    show m.testBit (pidx q) = true ↔ inSet (m : Int) q = true
    rw [inSet_nat (by omega) h1 h2]⟩
theorem IsSet.range {x : Int} {P : Int → Prop} (h : IsSet x P) : 0 ≤ x ∧ x < 65536 := by
  obtain ⟨m, rfl, hm, _⟩ := h
  omega
theorem IsSet.but {x y : Int} {P Q : Int → Prop} (h : IsSet x P) (h' : IsSet y Q) : IsSet (Go.bits .andNot .u16 x y) (fun q => P q ∧ ¬ Q q) := by
  obtain ⟨m, rfl, hm, hp⟩ := h
  obtain ⟨m', rfl, hm', hp'⟩ := h'
  obtain ⟨r, hr, hrl, hrb⟩ := bits_andNot_bit m m' hm hm'
  refine ⟨r, hr, hrl, fun q h1 h2 => ?_⟩
  show _ ↔ (P q ∧ ¬ Q q)
  rw [hrb, Bool.and_eq_true, hp q h1 h2, Bool.not_eq_true', ← hp' q h1 h2]
  simp
end Go.Proofs.Ytdnjmhhjjbdieaa.Q
end
section
namespace Go.Proofs.Ytdnjmhhjjbdieaa.Q
open Go.RowKit Go.Proofs.YtdnjmhhjjbdieaaW.PrintWords Go.Proofs.YtdnjmhhjjbdieaaW.PrintLast
set_option linter.unusedVariables false
set_option linter.unusedSimpArgs false
def palantypelaw02_one.f (a0 : Int) : Option (Bool) := if a0 = 0 then (some false) else (some ((Go.bits .and .u16 a0 (IntKind.u16.wrap (a0 - 1))) == 0))
set_option maxHeartbeats 8000000 in
set_option maxRecDepth 100000 in
theorem palantypelaw02_one.calls (a0 : Int) (r : Bool) (w : World) (h : palantypelaw02_one.f a0 = some r) :
    Calls Try.prog 45 #[.int .u16 a0] w fun e w' => e = .returned (.bool r) ∧ Drawn0 w w' := by
  have H : (if a0 = 0 then (some false) else (some ((Go.bits .and .u16 a0 (IntKind.u16.wrap (a0 - 1))) == 0))) = some r := h
  clear h
  by_cases c2 : a0 = 0
  · rw [if_pos c2] at H
    have c2b0 : (a0 == 0) = true := beq_iff_eq.mpr c2
    have c2b1 : (a0 != 0) = false := bne_eq_false_iff_eq.mpr c2
    clear c2
    obtain rfl := Option.some.inj H
    go_enter Try.func45, Try.ntmps45
    go_wp2
    go_ret
    exact ⟨by first | rfl | (simp; done) | (simp [*]; done), by repeat (first | exact Drawn0.refl _ | apply Drawn0.step)⟩
  · rw [if_neg c2] at H
    have c2b0 : (a0 == 0) = false := beq_eq_false_iff_ne.mpr c2
    have c2b1 : (a0 != 0) = true := bne_iff_ne.mpr c2
    obtain rfl := Option.some.inj H
    go_enter Try.func45, Try.ntmps45
    go_wp2
    go_ret
    exact ⟨by first | rfl | (simp; done) | (simp [*]; done), by repeat (first | exact Drawn0.refl _ | apply Drawn0.step)⟩
end Go.Proofs.Ytdnjmhhjjbdieaa.Q
end
section
namespace Go.Proofs.Ytdnjmhhjjbdieaa.Q
open Go.RowKit Go.Proofs.YtdnjmhhjjbdieaaW.PrintWords
set_option linter.unusedVariables false
theorem tellTo_path {least most short : Int} {n : Nat} {l : List FM} (h : tellable least most short n l beginSt) : ∀ k, k ≤ l.length →
    pathB least most short n l ((tellTo least most short n l k).1.map op) beginSt = true ∧ runS least most short beginSt ((tellTo least most short n l k).1.map op) = (tellTo least most short n l k).2
  | 0, _ => ⟨pathB_nil _ _ _ _ _ _, rfl⟩
  | k + 1, hk => by
    obtain ⟨h1, h2⟩ := tellTo_path h k (by omega)
    obtain ⟨g1, g2, g3⟩ := tellTo_good h k (by omega)
    have hk' : k < l.length := by omega
    rw [List.drop_eq_getElem_cons hk'] at g2
    obtain ⟨p, hp, ht⟩ := g2
    simp only [tellTo, List.getElem?_eq_getElem hk']
    cases hf : (partsOf least most short (tellTo least most short n l k).2 l[k].f0 l[k].f1 n).find? (fun p => tellB least most short n (l.drop (k + 1)) p.2) with
    | none => exact absurd (tellB_iff _ _ |>.2 ht) (by simpa using List.find?_eq_none.1 hf p hp)
    | some q =>
      have hq := List.mem_of_find?_eq_some hf
      have hst := (mem_partsOf.1 hq).2.2
      have hok : partOk least most short n l[k] (tellTo least most short n l k).2 ⟨q.1.1, q.1.2⟩ = true := partOk_iff.2 ⟨q.2, hq, by simp only [hst]⟩
      have e : ([⟨q.1.1, q.1.2⟩] : List FP).map op = [⟨q.1.1, q.1.2⟩] := rfl
      simp only [List.map_append, e]
      refine ⟨?_, ?_⟩
      · rw [pathB_append, h1, h2, List.length_map, g3, List.drop_eq_getElem_cons hk', Bool.true_and]
        simp only [pathB, po, hok, pathB_nil, Bool.and_self]
      · rw [runS_append, h2]
        simp only [runS, List.foldl_cons, List.foldl_nil, hst]
theorem fwd_tellable {least most short : Int} {n : Nat} {l : List FM} (h : ∃ x, fwd least most short n l l.length x) : tellable least most short n l beginSt := by
  obtain ⟨x, hx⟩ := h
  obtain ⟨t, h1, h2, _⟩ := (fwd_path _ _).1 hx
  exact (tellable_path _ _).2 ⟨t, h1, h2⟩
theorem tell_told {least most short : Int} {n : Nat} {l : List FM} (h : ∃ x, fwd least most short n l l.length x) : Told least most short n l ((tellTo least most short n l l.length).1.map op) := by
  have ht := fwd_tellable h
  exact ⟨by rw [List.length_map]; exact (tellTo_good ht _ (Nat.le_refl _)).2.2, (tellTo_path ht _ (Nat.le_refl _)).1⟩
theorem tell_len {least most short : Int} {n : Nat} {l : List FM} (h : ∃ x, fwd least most short n l l.length x) : (tellTo least most short n l l.length).1.length = l.length := (tellTo_good (fwd_tellable h) _ (Nat.le_refl _)).2.2
theorem runTo_path (least most short : Int) (n : Nat) {l : List FM} {t : List RP} (hl : t.length = l.length) : ∀ k, k ≤ l.length →
    runTo least most short n l (t.map po) k = if pathB least most short n l (t.take k) beginSt = true then some (runS least most short beginSt (t.take k)) else none
  | 0, _ => by simp [runTo, pathB_nil, runS]
  | k + 1, hk => by
    have ih := runTo_path least most short n hl k (by omega)
    have hk' : k < l.length := by omega
    have hkt : k < t.length := by omega
    have e : t.take (k + 1) = t.take k ++ [t[k]] := by rw [List.take_succ_eq_append_getElem hkt]
    have hlt : (t.take k).length = k := by rw [List.length_take]; omega
    simp only [runTo, ih]
    have hg : (t.map po)[k]? = some (po t[k]) := by rw [List.getElem?_map, List.getElem?_eq_getElem hkt]; rfl
    rw [hg, List.getElem?_eq_getElem hk', e, pathB_append, hlt, List.drop_eq_getElem_cons hk', runS_append]
    simp only [pathB, pathB_nil, Bool.and_true]
    by_cases hp : pathB least most short n l (t.take k) beginSt = true
    · rw [if_pos hp, hp, Bool.true_and]; rfl
    · rw [if_neg hp]
      have : pathB least most short n l (t.take k) beginSt = false := by simpa using hp
      rw [this]; simp
theorem prove_ok {a1 a2 a3 : Int} {n : Nat} {l : List FM} {t : List RP} (hc : floor_Scene_check.f n a1 a2 a3 l = some 0) : floor_ProveTelling.f n a1 a2 a3 l (t.map po) = some (decide (t.length = l.length) && pathB a1 a2 a3 n l t beginSt) := by
  unfold floor_ProveTelling.f
  rw [hc, List.length_map]
  simp only []
  by_cases hl : t.length = l.length
  · rw [if_neg (by simp [hl]), runTo_path a1 a2 a3 n hl _ (Nat.le_refl _), List.take_of_length_le (by omega), decide_eq_true hl, Bool.true_and]
    cases pathB a1 a2 a3 n l t beginSt <;> rfl
  · rw [if_pos (.inr hl), decide_eq_false hl, Bool.false_and]
theorem told_of_prove {a1 a2 a3 : Int} {n : Nat} {l : List FM} {t : List RP} (h : (decide (t.length = l.length) && pathB a1 a2 a3 n l t beginSt) = true) : Told a1 a2 a3 n l t := by
  rw [Bool.and_eq_true, decide_eq_true_eq] at h; exact h
theorem one_bit {m i j : Nat} (hi : m.testBit i = true) (hj : m.testBit j = true) (h : m &&& (m - 1) = 0) : ¬ i < j := by
  intro hij
  have h1 : 2 ^ i ≤ m % 2 ^ j := by
    have hm : (m % 2 ^ j).testBit i = true := by rw [Nat.testBit_mod_two_pow]; simp [hi, hij]
    exact Nat.ge_two_pow_of_testBit hm
  have h2 : (m - 1) / 2 ^ j = m / 2 ^ j := by
    have hp : 0 < 2 ^ i := Nat.pos_of_ne_zero (by simp)
    have hP : 0 < 2 ^ j := Nat.pos_of_ne_zero (by simp)
    have e := Nat.div_add_mod m (2 ^ j)
    have hlt := Nat.mod_lt m hP
    generalize m / 2 ^ j = q at e ⊢
    generalize m % 2 ^ j = r at e hlt h1
    generalize 2 ^ j = P at e hlt hP ⊢
    generalize 2 ^ i = I at h1 hp
    have : m - 1 = P * q + (r - 1) := by omega
    rw [this, Nat.mul_add_div hP, Nat.div_eq_of_lt (by omega), Nat.add_zero]
  have h3 : (m - 1).testBit j = true := by
    rw [Nat.testBit_eq_decide_div_mod_eq, h2, ← Nat.testBit_eq_decide_div_mod_eq]; exact hj
  have : (m &&& (m - 1)).testBit j = true := by rw [Nat.testBit_and, hj, h3]; rfl
  rw [h] at this; simp at this
def oneB (x : Int) : Bool := if x = 0 then false else Go.bits .and .u16 x (IntKind.u16.wrap (x - 1)) == 0
theorem one_f (x : Int) : palantypelaw02_one.f x = some (oneB x) := by
  unfold palantypelaw02_one.f oneB
  split <;> rfl
theorem one_same {x : Int} {P : Int → Prop} (hs : IsSet x P) (h : oneB x = true) {p q : Int} (p1 : -1 ≤ p) (p2 : p ≤ 14) (q1 : -1 ≤ q) (q2 : q ≤ 14) (hp : P p) (hq : P q) : p = q := by
  obtain ⟨m, rfl, hm, hb⟩ := hs
  unfold oneB at h
  split at h
  · cases h
  · rename_i h0
    have hw : IntKind.u16.wrap ((m : Int) - 1) = ((m - 1 : Nat) : Int) := by
      rw [IntKind.wrap_u16]; omega
    rw [hw, bits_and_u16_nat _ _ hm (by omega), beq_iff_eq] at h
    have h : m &&& (m - 1) = 0 := by omega
    have tp := (hb p p1 p2).2 hp
    have tq := (hb q q1 q2).2 hq
    have h1 := one_bit tp tq h
    have h2 := one_bit tq tp h
    exact pidx_inj p1 p2 q1 q2 (by omega)
end Go.Proofs.Ytdnjmhhjjbdieaa.Q
end
section
namespace Go.Proofs.Ytdnjmhhjjbdieaa.Q
open Go.RowKit Go.Proofs.YtdnjmhhjjbdieaaW.PrintWords Go.Proofs.YtdnjmhhjjbdieaaW.PrintLast Go.Proofs.YtdnjmhhjjbdieaaW.PrintMore
set_option linter.unusedVariables false
set_option linter.unusedSimpArgs false
def palantypelaw02_Telling.l0 : Nat → List (S89) → List (S65) → Int → Option ((List (S65)))
  | 0, _, _, _ => none
  | k + 1, x0, x3, x4 => if x4 < (x0.length : Int) then (if 0 ≤ x4 then (if x3.length < 8796093022208 then (palantypelaw02_Telling.l0 k x0 (x3 ++ [(⟨(rd_T89 x0 x4).f0, (rd_T89 x0 x4).f1⟩ : S65)]) (wrap64 (x4 + 1))) else (none)) else (none)) else (some x3)
def palantypelaw02_Telling.f (k : Nat) (l0 : List (S89)) : Option ((List (S65))) := palantypelaw02_Telling.l0 k l0 ([] : List (S65)) 0
theorem palantypelaw02_Telling.mono_l : ∀ k, (∀ y0 y1 y2, LeO (palantypelaw02_Telling.l0 k y0 y1 y2) (palantypelaw02_Telling.l0 (k + 1) y0 y1 y2))
  | 0 => fun _ _ _ r h => by simp [palantypelaw02_Telling.l0] at h
  | k + 1 => by
    have ih0 := palantypelaw02_Telling.mono_l k
    · intro y0 y1 y2
      unfold palantypelaw02_Telling.l0
      repeat' first
      | (with_reducible exact ih0 _ _ _)
      | (with_reducible exact LeO.refl _)
      | (with_reducible exact LeO.none _)
      | (with_reducible refine LeO.ite ?_ ?_)
      | (with_reducible refine LeO.bind ?_ (fun _ => ?_))
      | exact ih0 _ _ _
      | exact LeO.none _
      | refine LeO.ite ?_ ?_
      | refine LeO.bind ?_ (fun _ => ?_)
theorem palantypelaw02_Telling.mono : ∀ a0 k, LeO (palantypelaw02_Telling.f k a0) (palantypelaw02_Telling.f (k + 1) a0) := by
  intro a0 k
  have ih0 := palantypelaw02_Telling.mono_l k
  unfold palantypelaw02_Telling.f
  repeat' first
      | (with_reducible exact ih0 _ _ _)
      | (with_reducible exact LeO.refl _)
      | (with_reducible exact LeO.none _)
      | (with_reducible refine LeO.ite ?_ ?_)
      | (with_reducible refine LeO.bind ?_ (fun _ => ?_))
      | exact ih0 _ _ _
      | exact LeO.none _
      | refine LeO.ite ?_ ?_
      | refine LeO.bind ?_ (fun _ => ?_)
def palantypelaw02_Telling.T5 : Bool × List (List Nat × List Nat) := (true, [([], []), ([], []), ([], []), ([1, 2], [1, 2]), ([3], [3]), ([4], [4]), ([], []), ([], []), ([6, 7], [6, 7]), ([8], [8]), ([9], [9]), ([5, 10], [5, 10]), ([11], [11]), ([0, 12], [0, 12]), ([13, 13, 0, 1, 2, 3, 4, 5, 6, 7, 8, 9, 10, 11, 12, 13], [0, 13])])
def palantypelaw02_Telling.B5 : List Nat := [0, 0, 0, 6, 14, 30, 0, 0, 192, 448, 960, 2046, 4094, 8191, 16383]
theorem palantypelaw02_Telling.tab5 : rtab .any (opsOf Try.f42 5) = palantypelaw02_Telling.T5 := by kernel_rfl
theorem palantypelaw02_Telling.bits5 : waitsOk palantypelaw02_Telling.T5.2 palantypelaw02_Telling.B5 = true := by kernel_rfl
set_option maxHeartbeats 8000000 in
set_option maxRecDepth 100000 in
theorem palantypelaw02_Telling.calls (k : Nat) (A0 : Option Addr) (c0 : Nat) (l0 : List (S89)) (r : List (S65)) (w : World) (hr0 : Kd.C k89 w A0 l0.length l0) (hc0 : l0.length ≤ c0) (h : palantypelaw02_Telling.f k l0 = some r) :
    Calls Try.prog 42 #[.slice A0 l0.length c0] w fun e w' => ∃ v0_ : Value, e = .returned (v0_) ∧ Kd.R k65 65 w' w.heap.size (fun _ => True) v0_ r ∧ Below w.heap.size w w' := by
  have hu65 := Try.underlying65
  have HR0 := Aside0.mk hr0
  have HC0 := Aside0.mk hc0
  clear hr0 hc0
  have HB := Aside0.mk (Below.refl w.heap.size w)
  have H : (palantypelaw02_Telling.l0 k l0 ([] : List (S65)) 0) = some r := h
  clear h
  have H' := Aside0.mk H
  clear H
  go_enter Try.func42, Try.ntmps42
  go_wp2
  go_loopg [3, 4] k (fun kq v3 v4 w' => ∃ (x3_1 : List (S65)) (x4_1 : Int), v4 = .int .i64 x4_1 ∧ Aside0 (palantypelaw02_Telling.l0 kq l0 x3_1 x4_1 = some r) ∧ Aside0 (kq ≤ k) ∧ Aside0 (Kd.R k65 65 w' w.heap.size (fun _ => True) v3 x3_1) ∧ Aside0 (Below w.heap.size w w'))
  case atStart => exact ⟨(([] : List (S65))), (0), (by first | rfl | (simp; done) | (simp [*]; done)), H', ⟨Nat.le_refl _⟩, ⟨by first | exact Kd.R_nil _ _ _ _ _ | exact Kd.N_nil _ _ _ _ _ | exact Kd.V_nil _ _ _ _ _ | exact Kd.Q_nil _ _ _ _ _ | exact Kd.S_nil _ _ _ _ _⟩, ⟨by repeat (first | (with_reducible first | exact HB.out | apply below_alloc | apply pw_below_drewN | apply below_drew1) | exact HB.out)⟩⟩
  case round =>
    clear H'
    obtain ⟨x3_1, x4_1, rfl, HA, HK1, HO_3, HB⟩ := hrel
    cases gk with
    | zero => exact absurd HA.out (by simp [palantypelaw02_Telling.l0])
    | succ k1 =>
      have H := HA.out
      clear HA
      simp only [palantypelaw02_Telling.l0] at H
      by_cases c2 : x4_1 < (l0.length : Int)
      · rw [if_pos c2] at H
        have c2b0 : decide (x4_1 < (l0.length : Int)) = true := decide_eq_true c2
        clear c2
        by_cases c3 : 0 ≤ x4_1
        · rw [if_pos c3] at H
          have c3b0 : decide (0 ≤ x4_1) = true := decide_eq_true c3
          clear c3
          by_cases c4 : x3_1.length < 8796093022208
          · rw [if_pos c4] at H
            have LMc4 := Aside0.mk c4
            clear c4
            obtain ⟨y622, hy622⟩ : ∃ y_ : List (S65), y_ = (x3_1 ++ [(⟨(rd_T89 l0 x4_1).f0, (rd_T89 l0 x4_1).f1⟩ : S65)]) := ⟨_, rfl⟩
            replace H : (palantypelaw02_Telling.l0 k1 l0 y622 (wrap64 (x4_1 + 1))) = some r := by first | (rw [hy622]; with_reducible exact H) | (have H2_ := (Option.bind_some _ _).symm.trans H; rw [hy622]; with_reducible exact H2_) | (have H2_ := (Option.bind_some _ _).symm.trans H; with_reducible exact H2_) | with_reducible exact H | (rw [hy622]; exact H) | exact H
            have Ny622 := Aside0.mk hy622
            clear hy622
            have H' := Aside0.mk H
            clear H
            try go_wp2
            have n0_ := Aside0.mk (Kd.R_drew HO_3.out)
            have n1_ := Aside0.mk (below_drew1 HB.out)
            clear HO_3
            clear HB
            have HO_3 := n0_
            have HB := n1_
            clear n0_ n1_
            have p620 : 0 ≤ (x4_1 : Int) := of_decide_eq_true (by first | (with_reducible assumption) | assumption)
            have q620 : x4_1 < (l0.length : Int) := of_decide_eq_true (by first | (with_reducible assumption) | assumption)
            obtain ⟨ad620, e620, hx620_0, hx620_1⟩ := at_T89 HR0.out x4_1 p620 q620
            have hw620_1 := hx620_1
            have hw620_0 := hx620_0
            cases e620
            replace hx620_0 := (HB.out.cell (World.block_lt_of_cell? w _ hx620_0)).trans hx620_0
            replace hx620_1 := (HB.out.cell (World.block_lt_of_cell? w _ hx620_1)).trans hx620_1
            replace p620 := eq_true p620
            replace q620 := eq_true q620
            have p621 : 0 ≤ (x4_1 : Int) := of_decide_eq_true (by first | (with_reducible assumption) | assumption)
            have q621 : x4_1 < (l0.length : Int) := of_decide_eq_true (by first | (with_reducible assumption) | assumption)
            obtain ⟨ad621, e621, hx621_0, hx621_1⟩ := at_T89 HR0.out x4_1 p621 q621
            have hw621_1 := hx621_1
            have hw621_0 := hx621_0
            obtain rfl : ad620 = ad621 := (by injection e621)
            replace hx621_0 := (HB.out.cell (World.block_lt_of_cell? w _ hx621_0)).trans hx621_0
            replace hx621_1 := (HB.out.cell (World.block_lt_of_cell? w _ hx621_1)).trans hx621_1
            replace p621 := eq_true p621
            replace q621 := eq_true q621
            refine start_ (n := 15) (S := fun w' => w'.cell? (ad620.add ((x4_1).toNat * 2)) = some (.int .i64 ((rd_T89 l0 x4_1).f0)) ∧ w'.cell? ⟨(ad620.add ((x4_1).toNat * 2)).block, (ad620.add ((x4_1).toNat * 2)).off + 1, none⟩ = some (.int .i64 ((rd_T89 l0 x4_1).f1)) ∧ w'.cell? (ad620.add ((x4_1).toNat * 2)) = some (.int .i64 ((rd_T89 l0 x4_1).f0)) ∧ w'.cell? ⟨(ad620.add ((x4_1).toNat * 2)).block, (ad620.add ((x4_1).toNat * 2)).off + 1, none⟩ = some (.int .i64 ((rd_T89 l0 x4_1).f1))) (ds := []) #[false, false, false, false, false, false, false, false, false, false, false, false, false, false, false] (by kernel_rfl) rfl rfl ⟨((HB.out.cell (World.block_lt_of_cell? w _ hw620_0)).trans hw620_0), ((HB.out.cell (World.block_lt_of_cell? w _ hw620_1)).trans hw620_1), ((HB.out.cell (World.block_lt_of_cell? w _ hw621_0)).trans hw621_0), ((HB.out.cell (World.block_lt_of_cell? w _ hw621_1)).trans hw621_1)⟩ (fun hHeld => ?_); refine with_tabW palantypelaw02_Telling.tab5 palantypelaw02_Telling.bits5 (fun HT_ HW_ => ?_)
            generalize wr.drew = w5 at HO_3 HB hx620_0 hx620_1 hx621_0 hx621_1 hHeld ⊢
            refine pure_ (i := 0) (N := some 11) (v := ?_) (a' := ?_) #[true, false, false, false, false, false, false, false, false, false, false, false, false, false, false] rfl rfl (any_of HT_.out (by kernel_rfl)) (fun _ _ _ h => h) (Or.inl ⟨by rfl, ?_⟩) ?_ ?_
            rotate_left
            · intro w'
              go_simp
              with_reducible rfl
            rotate_left
            · simp only [Act.put, List.setIfInBounds_toArray, List.set_cons_zero, List.set_cons_succ, i64_w, i32_w]
              rfl
            refine pure_ (i := 1) (N := some 12) (v := ?_) (a' := ?_) #[true, true, false, false, false, false, false, false, false, false, false, false, false, false, false] rfl rfl (any_of HT_.out (by kernel_rfl)) (fun _ _ _ h => h) (Or.inl ⟨by rfl, ?_⟩) ?_ ?_
            rotate_left
            · intro w'
              go_simp
              with_reducible rfl
            rotate_left
            · simp only [Act.put, List.setIfInBounds_toArray, List.set_cons_zero, List.set_cons_succ, i64_w, i32_w]
              rfl
            refine pure_ (i := 2) (N := some 13) (v := ?_) (a' := ?_) #[true, true, true, false, false, false, false, false, false, false, false, false, false, false, false] rfl rfl (any_of HT_.out (by kernel_rfl)) (fun _ _ _ h => h) (Or.inl ⟨by rfl, ?_⟩) ?_ ?_
            rotate_left
            · intro w'
              go_simp
              with_reducible rfl
            rotate_left
            · simp only [Act.put, List.setIfInBounds_toArray, List.set_cons_zero, List.set_cons_succ, i64_w, i32_w]
              rfl
            refine pure_ (i := 3) (N := some 14) (v := ?_) (a' := ?_) #[true, true, true, true, false, false, false, false, false, false, false, false, false, false, false] rfl rfl (any_of HT_.out (by kernel_rfl)) (fun _ _ _ h => h) (Or.inl ⟨by rfl, ?_⟩) ?_ ?_
            rotate_left
            · intro w'
              go_simp
              with_reducible rfl
            rotate_left
            · simp only [Act.put, List.setIfInBounds_toArray, List.set_cons_zero, List.set_cons_succ, i64_w, i32_w]
              rfl
            refine pure_ (i := 4) (N := some 15) (v := ?_) (a' := ?_) #[true, true, true, true, true, false, false, false, false, false, false, false, false, false, false] rfl rfl (any_of HT_.out (by kernel_rfl)) (fun _ _ _ h => h) (Or.inl ⟨by rfl, ?_⟩) ?_ ?_
            rotate_left
            · intro w'
              go_simp
              with_reducible rfl
            rotate_left
            · simp only [Act.put, List.setIfInBounds_toArray, List.set_cons_zero, List.set_cons_succ, i64_w, i32_w]
              rfl
            refine pure_ (i := 6) (N := some 17) (v := ?_) (a' := ?_) #[true, true, true, true, true, false, true, false, false, false, false, false, false, false, false] rfl rfl (any_of HT_.out (by kernel_rfl)) (fun _ _ _ h => h) (Or.inl ⟨by rfl, ?_⟩) ?_ ?_
            rotate_left
            · intro w'
              go_simp
              with_reducible rfl
            rotate_left
            · simp only [Act.put, List.setIfInBounds_toArray, List.set_cons_zero, List.set_cons_succ, i64_w, i32_w]
              rfl
            refine pure_ (i := 7) (N := some 18) (v := ?_) (a' := ?_) #[true, true, true, true, true, false, true, true, false, false, false, false, false, false, false] rfl rfl (any_of HT_.out (by kernel_rfl)) (fun _ _ _ h => h) (Or.inl ⟨by rfl, ?_⟩) ?_ ?_
            rotate_left
            · intro w'
              go_simp
              with_reducible rfl
            rotate_left
            · simp only [Act.put, List.setIfInBounds_toArray, List.set_cons_zero, List.set_cons_succ, i64_w, i32_w]
              rfl
            refine pure_ (i := 8) (N := some 19) (v := ?_) (a' := ?_) #[true, true, true, true, true, false, true, true, true, false, false, false, false, false, false] rfl rfl (any_of HT_.out (by kernel_rfl)) (fun _ _ _ h => h) (Or.inl ⟨by rfl, ?_⟩) ?_ ?_
            rotate_left
            · intro w'
              go_simp
              with_reducible rfl
            rotate_left
            · simp only [Act.put, List.setIfInBounds_toArray, List.set_cons_zero, List.set_cons_succ, i64_w, i32_w]
              rfl
            refine pure_ (i := 9) (N := some 20) (v := ?_) (a' := ?_) #[true, true, true, true, true, false, true, true, true, true, false, false, false, false, false] rfl rfl (any_of HT_.out (by kernel_rfl)) (fun _ _ _ h => h) (Or.inl ⟨by rfl, ?_⟩) ?_ ?_
            rotate_left
            · intro w'
              go_simp
              with_reducible rfl
            rotate_left
            · simp only [Act.put, List.setIfInBounds_toArray, List.set_cons_zero, List.set_cons_succ, i64_w, i32_w]
              rfl
            refine take_ (i := 5) (N := some 16) (v := ?_) (a' := ?_) #[true, true, true, true, true, true, true, true, true, true, false, false, false, false, false] rfl rfl (take_ofW HT_.out HW_.out (by kernel_rfl)) (fun _ _ _ h => h) (Or.inl ⟨by rfl, ?_⟩) hHeld ?_ ?_
            rotate_left
            · rintro w' ⟨s0, s1, s2, s3⟩
              go_simp
              with_reducible rfl
            rotate_left
            · simp only [Act.put, List.setIfInBounds_toArray, List.set_cons_zero, List.set_cons_succ, i64_w, i32_w]
              rfl
            refine take_ (i := 10) (N := some 21) (v := ?_) (a' := ?_) #[true, true, true, true, true, true, true, true, true, true, true, false, false, false, false] rfl rfl (take_ofW HT_.out HW_.out (by kernel_rfl)) (fun _ _ _ h => h) (Or.inl ⟨by rfl, ?_⟩) hHeld ?_ ?_
            rotate_left
            · rintro w' ⟨s0, s1, s2, s3⟩
              go_simp
              with_reducible rfl
            rotate_left
            · simp only [Act.put, List.setIfInBounds_toArray, List.set_cons_zero, List.set_cons_succ, i64_w, i32_w]
              rfl
            refine pure_ (i := 11) (N := some 22) (v := ?_) (a' := ?_) #[true, true, true, true, true, true, true, true, true, true, true, true, false, false, false] rfl rfl (any_of HT_.out (by kernel_rfl)) (fun _ _ _ h => h) (Or.inl ⟨by rfl, ?_⟩) ?_ ?_
            rotate_left
            · intro w'
              go_simp
              with_reducible rfl
            rotate_left
            · simp only [Act.put, List.setIfInBounds_toArray, List.set_cons_zero, List.set_cons_succ, i64_w, i32_w]
              rfl
            refine one_ (i := 12) (N := some 23) #[true, true, true, true, true, true, true, true, true, true, true, true, true, false, false] rfl rfl (one_of HT_.out (by kernel_rfl)) (by decide) (fun K hK => ?_)
            refine value_ (w1 := ?_) (v := ?_) (by rfl) rfl ?_ ?_
            rotate_left 2
            · go_simp
              constructor
              · rfl
              · rfl
            refine hK.out _ _ ⟨(World.cell?_alloc_lt _ _ _ (World.block_lt_of_cell? _ _ (((HB.out.cell (World.block_lt_of_cell? w _ hw620_0)).trans hw620_0)))).trans (((HB.out.cell (World.block_lt_of_cell? w _ hw620_0)).trans hw620_0)), (World.cell?_alloc_lt _ _ _ (World.block_lt_of_cell? _ _ (((HB.out.cell (World.block_lt_of_cell? w _ hw620_1)).trans hw620_1)))).trans (((HB.out.cell (World.block_lt_of_cell? w _ hw620_1)).trans hw620_1)), (World.cell?_alloc_lt _ _ _ (World.block_lt_of_cell? _ _ (((HB.out.cell (World.block_lt_of_cell? w _ hw621_0)).trans hw621_0)))).trans (((HB.out.cell (World.block_lt_of_cell? w _ hw621_0)).trans hw621_0)), (World.cell?_alloc_lt _ _ _ (World.block_lt_of_cell? _ _ (((HB.out.cell (World.block_lt_of_cell? w _ hw621_1)).trans hw621_1)))).trans (((HB.out.cell (World.block_lt_of_cell? w _ hw621_1)).trans hw621_1))⟩ (fun hHeld => ?_)
            clear hK K
            refine norm_ (a' := ?_) ?_ ?_
            rotate_left
            · show Act.put _ (some 23) _ = _
              simp only [Act.put, List.setIfInBounds_toArray, List.set_cons_zero, List.set_cons_succ, i64_w, i32_w]
              rfl
            refine one_ (i := 13) (N := some 24) #[true, true, true, true, true, true, true, true, true, true, true, true, true, true, false] rfl rfl (one_of HT_.out (by kernel_rfl)) (by decide) (fun K hK => ?_)
            refine Kd.R_append_step k65 (w0 := w) w.heap.size (by rfl) (.tmp 11) (.tmp 23) 61 65 (.agg #[(.int .i64 0), (.int .i64 0)]) 16 rfl Try.underlying61 info65 rfl (by decide) (by omega) u3 x3_1 (⟨(rd_T89 l0 x4_1).f0, (rd_T89 l0 x4_1).f1⟩ : S65) [.int .i64 ((rd_T89 l0 x4_1).f0), .int .i64 ((rd_T89 l0 x4_1).f1)] (fun _ => True) (fun _ => False) rfl rfl ?aP (fun _ hk => hk.elim) ?aF ?aO ?aB ?aS ?aL ?_
            (case aP => exact k65_mkM _ _ _ (⟨(rd_T89 l0 x4_1).f0, (rd_T89 l0 x4_1).f1⟩ : S65))
            (case aB => exact (by repeat (first | (with_reducible first | exact HB.out | apply below_alloc | apply pw_below_drewN | apply below_drew1) | exact HB.out)))
            (case aF => exact (fun _ _ => trivial))
            (case aO => exact (by (with_reducible repeat (first | apply Kd.R_alloc | apply Kd.R_drewN | apply Kd.R_drew)); exact HO_3.out))
            (case aS => exact (below_size (by repeat (first | (with_reducible first | exact HB.out | apply below_alloc | apply pw_below_drewN | apply below_drew1) | exact HB.out))))
            (case aL => have := LMc4.out; omega)
            intro v623 w6 ho hb hg hat
            rw [← Ny622.out] at ho
            have n0_ := Aside0.mk (hb)
            have n1_ := Aside0.mk (ho)
            clear HB
            clear HO_3
            have HB := n0_
            have HO624 := n1_
            clear n0_ n1_
            clear ho hb hg hat
            refine hK.out _ _ ⟨((HB.out.cell (World.block_lt_of_cell? w _ hw620_0)).trans hw620_0), ((HB.out.cell (World.block_lt_of_cell? w _ hw620_1)).trans hw620_1), ((HB.out.cell (World.block_lt_of_cell? w _ hw621_0)).trans hw621_0), ((HB.out.cell (World.block_lt_of_cell? w _ hw621_1)).trans hw621_1)⟩ (fun hHeld => ?_)
            clear hK K
            refine norm_ (a' := ?_) ?_ ?_
            rotate_left
            · show Act.put _ (some 24) _ = _
              simp only [Act.put, List.setIfInBounds_toArray, List.set_cons_zero, List.set_cons_succ, i64_w, i32_w]
              rfl
            refine pure_ (i := 14) (N := some 3) (v := ?_) (a' := ?_) #[true, true, true, true, true, true, true, true, true, true, true, true, true, true, true] rfl rfl (any_of HT_.out (by kernel_rfl)) (fun _ _ _ h => h) (Or.inl ⟨by rfl, ?_⟩) ?_ ?_
            rotate_left
            · intro w'
              go_simp
              with_reducible rfl
            rotate_left
            · simp only [Act.put, List.setIfInBounds_toArray, List.set_cons_zero, List.set_cons_succ, i64_w, i32_w]
              rfl
            refine done_ (done_of HT_.out (by kernel_rfl)) ?_
            try go_wp2
            go_roundg k1
            case measure => have := HK1.out; omega
            case rel => exact ⟨(y622), (wrap64 (x4_1 + 1)), (by first | rfl | (simp; done) | (simp [*]; done)), H', ⟨by have := HK1.out; omega⟩, ⟨by (with_reducible repeat (first | apply Kd.R_alloc | apply Kd.R_drewN | apply Kd.R_drew)); exact HO624.out⟩, ⟨by repeat (first | (with_reducible first | exact HB.out | apply below_alloc | apply pw_below_drewN | apply below_drew1) | exact HB.out)⟩⟩
          · rw [if_neg c4] at H
            exact absurd H (by simp)
        · rw [if_neg c3] at H
          exact absurd H (by simp)
      · rw [if_neg c2] at H
        have c2b0 : decide (x4_1 < (l0.length : Int)) = false := decide_eq_false c2
        clear c2
        obtain rfl := Option.some.inj H
        go_wp2
        go_ret
        exact ⟨_, by first | rfl | (simp [errW_none, errW_some] <;> rfl) | (simp [*, errW_none, errW_some] <;> rfl), by (with_reducible repeat (first | apply Kd.R_alloc | apply Kd.R_drewN | apply Kd.R_drew)); exact HO_3.out, by repeat (first | (with_reducible first | exact HB.out | apply below_alloc | apply pw_below_drewN | apply below_drew1) | exact HB.out)⟩
end Go.Proofs.Ytdnjmhhjjbdieaa.Q
end
section
namespace Go.Proofs.Ytdnjmhhjjbdieaa.Q
open Go.RowKit Go.Proofs.YtdnjmhhjjbdieaaW.PrintWords Go.Proofs.YtdnjmhhjjbdieaaW.PrintLast Go.Proofs.YtdnjmhhjjbdieaaW.PrintMore
set_option linter.unusedVariables false
set_option linter.unusedSimpArgs false
def palantypelaw02_Back.l0 : Nat → List (S65) → List (S89) → Int → Option ((List (S89)))
  | 0, _, _, _ => none
  | k + 1, x0, x3, x4 => if x4 < (x0.length : Int) then (if 0 ≤ x4 then (if x3.length < 8796093022208 then (palantypelaw02_Back.l0 k x0 (x3 ++ [(⟨(rd_T65 x0 x4).f0, (rd_T65 x0 x4).f1⟩ : S89)]) (wrap64 (x4 + 1))) else (none)) else (none)) else (some x3)
def palantypelaw02_Back.f (k : Nat) (l0 : List (S65)) : Option ((List (S89))) := palantypelaw02_Back.l0 k l0 ([] : List (S89)) 0
theorem palantypelaw02_Back.mono_l : ∀ k, (∀ y0 y1 y2, LeO (palantypelaw02_Back.l0 k y0 y1 y2) (palantypelaw02_Back.l0 (k + 1) y0 y1 y2))
  | 0 => fun _ _ _ r h => by simp [palantypelaw02_Back.l0] at h
  | k + 1 => by
    have ih0 := palantypelaw02_Back.mono_l k
    · intro y0 y1 y2
      unfold palantypelaw02_Back.l0
      repeat' first
      | (with_reducible exact ih0 _ _ _)
      | (with_reducible exact LeO.refl _)
      | (with_reducible exact LeO.none _)
      | (with_reducible refine LeO.ite ?_ ?_)
      | (with_reducible refine LeO.bind ?_ (fun _ => ?_))
      | exact ih0 _ _ _
      | exact LeO.none _
      | refine LeO.ite ?_ ?_
      | refine LeO.bind ?_ (fun _ => ?_)
theorem palantypelaw02_Back.mono : ∀ a0 k, LeO (palantypelaw02_Back.f k a0) (palantypelaw02_Back.f (k + 1) a0) := by
  intro a0 k
  have ih0 := palantypelaw02_Back.mono_l k
  unfold palantypelaw02_Back.f
  repeat' first
      | (with_reducible exact ih0 _ _ _)
      | (with_reducible exact LeO.refl _)
      | (with_reducible exact LeO.none _)
      | (with_reducible refine LeO.ite ?_ ?_)
      | (with_reducible refine LeO.bind ?_ (fun _ => ?_))
      | exact ih0 _ _ _
      | exact LeO.none _
      | refine LeO.ite ?_ ?_
      | refine LeO.bind ?_ (fun _ => ?_)
def palantypelaw02_Back.T5 : Bool × List (List Nat × List Nat) := (true, [([], []), ([], []), ([], []), ([1, 2], [1, 2]), ([3], [3]), ([4], [4]), ([], []), ([], []), ([6, 7], [6, 7]), ([8], [8]), ([9], [9]), ([5, 10], [5, 10]), ([11], [11]), ([0, 12], [0, 12]), ([13, 13, 0, 1, 2, 3, 4, 5, 6, 7, 8, 9, 10, 11, 12, 13], [0, 13])])
def palantypelaw02_Back.B5 : List Nat := [0, 0, 0, 6, 14, 30, 0, 0, 192, 448, 960, 2046, 4094, 8191, 16383]
theorem palantypelaw02_Back.tab5 : rtab .any (opsOf Try.f43 5) = palantypelaw02_Back.T5 := by kernel_rfl
theorem palantypelaw02_Back.bits5 : waitsOk palantypelaw02_Back.T5.2 palantypelaw02_Back.B5 = true := by kernel_rfl
set_option maxHeartbeats 8000000 in
set_option maxRecDepth 100000 in
theorem palantypelaw02_Back.calls (k : Nat) (A0 : Option Addr) (c0 : Nat) (l0 : List (S65)) (r : List (S89)) (w : World) (hr0 : Kd.C k65 w A0 l0.length l0) (hc0 : l0.length ≤ c0) (h : palantypelaw02_Back.f k l0 = some r) :
    Calls Try.prog 43 #[.slice A0 l0.length c0] w fun e w' => ∃ v0_ : Value, e = .returned (v0_) ∧ Kd.R k89 89 w' w.heap.size (fun _ => True) v0_ r ∧ Below w.heap.size w w' := by
  have hu89 := Try.underlying89
  have HR0 := Aside0.mk hr0
  have HC0 := Aside0.mk hc0
  clear hr0 hc0
  have HB := Aside0.mk (Below.refl w.heap.size w)
  have H : (palantypelaw02_Back.l0 k l0 ([] : List (S89)) 0) = some r := h
  clear h
  have H' := Aside0.mk H
  clear H
  go_enter Try.func43, Try.ntmps43
  go_wp2
  go_loopg [3, 4] k (fun kq v3 v4 w' => ∃ (x3_1 : List (S89)) (x4_1 : Int), v4 = .int .i64 x4_1 ∧ Aside0 (palantypelaw02_Back.l0 kq l0 x3_1 x4_1 = some r) ∧ Aside0 (kq ≤ k) ∧ Aside0 (Kd.R k89 89 w' w.heap.size (fun _ => True) v3 x3_1) ∧ Aside0 (Below w.heap.size w w'))
  case atStart => exact ⟨(([] : List (S89))), (0), (by first | rfl | (simp; done) | (simp [*]; done)), H', ⟨Nat.le_refl _⟩, ⟨by first | exact Kd.R_nil _ _ _ _ _ | exact Kd.N_nil _ _ _ _ _ | exact Kd.V_nil _ _ _ _ _ | exact Kd.Q_nil _ _ _ _ _ | exact Kd.S_nil _ _ _ _ _⟩, ⟨by repeat (first | (with_reducible first | exact HB.out | apply below_alloc | apply pw_below_drewN | apply below_drew1) | exact HB.out)⟩⟩
  case round =>
    clear H'
    obtain ⟨x3_1, x4_1, rfl, HA, HK1, HO_3, HB⟩ := hrel
    cases gk with
    | zero => exact absurd HA.out (by simp [palantypelaw02_Back.l0])
    | succ k1 =>
      have H := HA.out
      clear HA
      simp only [palantypelaw02_Back.l0] at H
      by_cases c2 : x4_1 < (l0.length : Int)
      · rw [if_pos c2] at H
        have c2b0 : decide (x4_1 < (l0.length : Int)) = true := decide_eq_true c2
        clear c2
        by_cases c3 : 0 ≤ x4_1
        · rw [if_pos c3] at H
          have c3b0 : decide (0 ≤ x4_1) = true := decide_eq_true c3
          clear c3
          by_cases c4 : x3_1.length < 8796093022208
          · rw [if_pos c4] at H
            have LMc4 := Aside0.mk c4
            clear c4
            obtain ⟨y627, hy627⟩ : ∃ y_ : List (S89), y_ = (x3_1 ++ [(⟨(rd_T65 l0 x4_1).f0, (rd_T65 l0 x4_1).f1⟩ : S89)]) := ⟨_, rfl⟩
            replace H : (palantypelaw02_Back.l0 k1 l0 y627 (wrap64 (x4_1 + 1))) = some r := by first | (rw [hy627]; with_reducible exact H) | (have H2_ := (Option.bind_some _ _).symm.trans H; rw [hy627]; with_reducible exact H2_) | (have H2_ := (Option.bind_some _ _).symm.trans H; with_reducible exact H2_) | with_reducible exact H | (rw [hy627]; exact H) | exact H
            have Ny627 := Aside0.mk hy627
            clear hy627
            have H' := Aside0.mk H
            clear H
            try go_wp2
            have n0_ := Aside0.mk (Kd.R_drew HO_3.out)
            have n1_ := Aside0.mk (below_drew1 HB.out)
            clear HO_3
            clear HB
            have HO_3 := n0_
            have HB := n1_
            clear n0_ n1_
            have p625 : 0 ≤ (x4_1 : Int) := of_decide_eq_true (by first | (with_reducible assumption) | assumption)
            have q625 : x4_1 < (l0.length : Int) := of_decide_eq_true (by first | (with_reducible assumption) | assumption)
            obtain ⟨ad625, e625, hx625_0, hx625_1⟩ := at_T65 HR0.out x4_1 p625 q625
            have hw625_1 := hx625_1
            have hw625_0 := hx625_0
            cases e625
            replace hx625_0 := (HB.out.cell (World.block_lt_of_cell? w _ hx625_0)).trans hx625_0
            replace hx625_1 := (HB.out.cell (World.block_lt_of_cell? w _ hx625_1)).trans hx625_1
            replace p625 := eq_true p625
            replace q625 := eq_true q625
            have p626 : 0 ≤ (x4_1 : Int) := of_decide_eq_true (by first | (with_reducible assumption) | assumption)
            have q626 : x4_1 < (l0.length : Int) := of_decide_eq_true (by first | (with_reducible assumption) | assumption)
            obtain ⟨ad626, e626, hx626_0, hx626_1⟩ := at_T65 HR0.out x4_1 p626 q626
            have hw626_1 := hx626_1
            have hw626_0 := hx626_0
            obtain rfl : ad625 = ad626 := (by injection e626)
            replace hx626_0 := (HB.out.cell (World.block_lt_of_cell? w _ hx626_0)).trans hx626_0
            replace hx626_1 := (HB.out.cell (World.block_lt_of_cell? w _ hx626_1)).trans hx626_1
            replace p626 := eq_true p626
            replace q626 := eq_true q626
            refine start_ (n := 15) (S := fun w' => w'.cell? (ad625.add ((x4_1).toNat * 2)) = some (.int .i64 ((rd_T65 l0 x4_1).f0)) ∧ w'.cell? ⟨(ad625.add ((x4_1).toNat * 2)).block, (ad625.add ((x4_1).toNat * 2)).off + 1, none⟩ = some (.int .i64 ((rd_T65 l0 x4_1).f1)) ∧ w'.cell? (ad625.add ((x4_1).toNat * 2)) = some (.int .i64 ((rd_T65 l0 x4_1).f0)) ∧ w'.cell? ⟨(ad625.add ((x4_1).toNat * 2)).block, (ad625.add ((x4_1).toNat * 2)).off + 1, none⟩ = some (.int .i64 ((rd_T65 l0 x4_1).f1))) (ds := []) #[false, false, false, false, false, false, false, false, false, false, false, false, false, false, false] (by kernel_rfl) rfl rfl ⟨((HB.out.cell (World.block_lt_of_cell? w _ hw625_0)).trans hw625_0), ((HB.out.cell (World.block_lt_of_cell? w _ hw625_1)).trans hw625_1), ((HB.out.cell (World.block_lt_of_cell? w _ hw626_0)).trans hw626_0), ((HB.out.cell (World.block_lt_of_cell? w _ hw626_1)).trans hw626_1)⟩ (fun hHeld => ?_); refine with_tabW palantypelaw02_Back.tab5 palantypelaw02_Back.bits5 (fun HT_ HW_ => ?_)
            generalize wr.drew = w5 at HO_3 HB hx625_0 hx625_1 hx626_0 hx626_1 hHeld ⊢
            refine pure_ (i := 0) (N := some 11) (v := ?_) (a' := ?_) #[true, false, false, false, false, false, false, false, false, false, false, false, false, false, false] rfl rfl (any_of HT_.out (by kernel_rfl)) (fun _ _ _ h => h) (Or.inl ⟨by rfl, ?_⟩) ?_ ?_
            rotate_left
            · intro w'
              go_simp
              with_reducible rfl
            rotate_left
            · simp only [Act.put, List.setIfInBounds_toArray, List.set_cons_zero, List.set_cons_succ, i64_w, i32_w]
              rfl
            refine pure_ (i := 1) (N := some 12) (v := ?_) (a' := ?_) #[true, true, false, false, false, false, false, false, false, false, false, false, false, false, false] rfl rfl (any_of HT_.out (by kernel_rfl)) (fun _ _ _ h => h) (Or.inl ⟨by rfl, ?_⟩) ?_ ?_
            rotate_left
            · intro w'
              go_simp
              with_reducible rfl
            rotate_left
            · simp only [Act.put, List.setIfInBounds_toArray, List.set_cons_zero, List.set_cons_succ, i64_w, i32_w]
              rfl
            refine pure_ (i := 2) (N := some 13) (v := ?_) (a' := ?_) #[true, true, true, false, false, false, false, false, false, false, false, false, false, false, false] rfl rfl (any_of HT_.out (by kernel_rfl)) (fun _ _ _ h => h) (Or.inl ⟨by rfl, ?_⟩) ?_ ?_
            rotate_left
            · intro w'
              go_simp
              with_reducible rfl
            rotate_left
            · simp only [Act.put, List.setIfInBounds_toArray, List.set_cons_zero, List.set_cons_succ, i64_w, i32_w]
              rfl
            refine pure_ (i := 3) (N := some 14) (v := ?_) (a' := ?_) #[true, true, true, true, false, false, false, false, false, false, false, false, false, false, false] rfl rfl (any_of HT_.out (by kernel_rfl)) (fun _ _ _ h => h) (Or.inl ⟨by rfl, ?_⟩) ?_ ?_
            rotate_left
            · intro w'
              go_simp
              with_reducible rfl
            rotate_left
            · simp only [Act.put, List.setIfInBounds_toArray, List.set_cons_zero, List.set_cons_succ, i64_w, i32_w]
              rfl
            refine pure_ (i := 4) (N := some 15) (v := ?_) (a' := ?_) #[true, true, true, true, true, false, false, false, false, false, false, false, false, false, false] rfl rfl (any_of HT_.out (by kernel_rfl)) (fun _ _ _ h => h) (Or.inl ⟨by rfl, ?_⟩) ?_ ?_
            rotate_left
            · intro w'
              go_simp
              with_reducible rfl
            rotate_left
            · simp only [Act.put, List.setIfInBounds_toArray, List.set_cons_zero, List.set_cons_succ, i64_w, i32_w]
              rfl
            refine pure_ (i := 6) (N := some 17) (v := ?_) (a' := ?_) #[true, true, true, true, true, false, true, false, false, false, false, false, false, false, false] rfl rfl (any_of HT_.out (by kernel_rfl)) (fun _ _ _ h => h) (Or.inl ⟨by rfl, ?_⟩) ?_ ?_
            rotate_left
            · intro w'
              go_simp
              with_reducible rfl
            rotate_left
            · simp only [Act.put, List.setIfInBounds_toArray, List.set_cons_zero, List.set_cons_succ, i64_w, i32_w]
              rfl
            refine pure_ (i := 7) (N := some 18) (v := ?_) (a' := ?_) #[true, true, true, true, true, false, true, true, false, false, false, false, false, false, false] rfl rfl (any_of HT_.out (by kernel_rfl)) (fun _ _ _ h => h) (Or.inl ⟨by rfl, ?_⟩) ?_ ?_
            rotate_left
            · intro w'
              go_simp
              with_reducible rfl
            rotate_left
            · simp only [Act.put, List.setIfInBounds_toArray, List.set_cons_zero, List.set_cons_succ, i64_w, i32_w]
              rfl
            refine pure_ (i := 8) (N := some 19) (v := ?_) (a' := ?_) #[true, true, true, true, true, false, true, true, true, false, false, false, false, false, false] rfl rfl (any_of HT_.out (by kernel_rfl)) (fun _ _ _ h => h) (Or.inl ⟨by rfl, ?_⟩) ?_ ?_
            rotate_left
            · intro w'
              go_simp
              with_reducible rfl
            rotate_left
            · simp only [Act.put, List.setIfInBounds_toArray, List.set_cons_zero, List.set_cons_succ, i64_w, i32_w]
              rfl
            refine pure_ (i := 9) (N := some 20) (v := ?_) (a' := ?_) #[true, true, true, true, true, false, true, true, true, true, false, false, false, false, false] rfl rfl (any_of HT_.out (by kernel_rfl)) (fun _ _ _ h => h) (Or.inl ⟨by rfl, ?_⟩) ?_ ?_
            rotate_left
            · intro w'
              go_simp
              with_reducible rfl
            rotate_left
            · simp only [Act.put, List.setIfInBounds_toArray, List.set_cons_zero, List.set_cons_succ, i64_w, i32_w]
              rfl
            refine take_ (i := 5) (N := some 16) (v := ?_) (a' := ?_) #[true, true, true, true, true, true, true, true, true, true, false, false, false, false, false] rfl rfl (take_ofW HT_.out HW_.out (by kernel_rfl)) (fun _ _ _ h => h) (Or.inl ⟨by rfl, ?_⟩) hHeld ?_ ?_
            rotate_left
            · rintro w' ⟨s0, s1, s2, s3⟩
              go_simp
              with_reducible rfl
            rotate_left
            · simp only [Act.put, List.setIfInBounds_toArray, List.set_cons_zero, List.set_cons_succ, i64_w, i32_w]
              rfl
            refine take_ (i := 10) (N := some 21) (v := ?_) (a' := ?_) #[true, true, true, true, true, true, true, true, true, true, true, false, false, false, false] rfl rfl (take_ofW HT_.out HW_.out (by kernel_rfl)) (fun _ _ _ h => h) (Or.inl ⟨by rfl, ?_⟩) hHeld ?_ ?_
            rotate_left
            · rintro w' ⟨s0, s1, s2, s3⟩
              go_simp
              with_reducible rfl
            rotate_left
            · simp only [Act.put, List.setIfInBounds_toArray, List.set_cons_zero, List.set_cons_succ, i64_w, i32_w]
              rfl
            refine pure_ (i := 11) (N := some 22) (v := ?_) (a' := ?_) #[true, true, true, true, true, true, true, true, true, true, true, true, false, false, false] rfl rfl (any_of HT_.out (by kernel_rfl)) (fun _ _ _ h => h) (Or.inl ⟨by rfl, ?_⟩) ?_ ?_
            rotate_left
            · intro w'
              go_simp
              with_reducible rfl
            rotate_left
            · simp only [Act.put, List.setIfInBounds_toArray, List.set_cons_zero, List.set_cons_succ, i64_w, i32_w]
              rfl
            refine one_ (i := 12) (N := some 23) #[true, true, true, true, true, true, true, true, true, true, true, true, true, false, false] rfl rfl (one_of HT_.out (by kernel_rfl)) (by decide) (fun K hK => ?_)
            refine value_ (w1 := ?_) (v := ?_) (by rfl) rfl ?_ ?_
            rotate_left 2
            · go_simp
              constructor
              · rfl
              · rfl
            refine hK.out _ _ ⟨(World.cell?_alloc_lt _ _ _ (World.block_lt_of_cell? _ _ (((HB.out.cell (World.block_lt_of_cell? w _ hw625_0)).trans hw625_0)))).trans (((HB.out.cell (World.block_lt_of_cell? w _ hw625_0)).trans hw625_0)), (World.cell?_alloc_lt _ _ _ (World.block_lt_of_cell? _ _ (((HB.out.cell (World.block_lt_of_cell? w _ hw625_1)).trans hw625_1)))).trans (((HB.out.cell (World.block_lt_of_cell? w _ hw625_1)).trans hw625_1)), (World.cell?_alloc_lt _ _ _ (World.block_lt_of_cell? _ _ (((HB.out.cell (World.block_lt_of_cell? w _ hw626_0)).trans hw626_0)))).trans (((HB.out.cell (World.block_lt_of_cell? w _ hw626_0)).trans hw626_0)), (World.cell?_alloc_lt _ _ _ (World.block_lt_of_cell? _ _ (((HB.out.cell (World.block_lt_of_cell? w _ hw626_1)).trans hw626_1)))).trans (((HB.out.cell (World.block_lt_of_cell? w _ hw626_1)).trans hw626_1))⟩ (fun hHeld => ?_)
            clear hK K
            refine norm_ (a' := ?_) ?_ ?_
            rotate_left
            · show Act.put _ (some 23) _ = _
              simp only [Act.put, List.setIfInBounds_toArray, List.set_cons_zero, List.set_cons_succ, i64_w, i32_w]
              rfl
            refine one_ (i := 13) (N := some 24) #[true, true, true, true, true, true, true, true, true, true, true, true, true, true, false] rfl rfl (one_of HT_.out (by kernel_rfl)) (by decide) (fun K hK => ?_)
            refine Kd.R_append_step k89 (w0 := w) w.heap.size (by rfl) (.tmp 11) (.tmp 23) 84 89 (.agg #[(.int .i64 0), (.int .i64 0)]) 16 rfl Try.underlying84 info89 rfl (by decide) (by omega) u3 x3_1 (⟨(rd_T65 l0 x4_1).f0, (rd_T65 l0 x4_1).f1⟩ : S89) [.int .i64 ((rd_T65 l0 x4_1).f0), .int .i64 ((rd_T65 l0 x4_1).f1)] (fun _ => True) (fun _ => False) rfl rfl ?aP (fun _ hk => hk.elim) ?aF ?aO ?aB ?aS ?aL ?_
            (case aP => exact k89_mkM _ _ _ (⟨(rd_T65 l0 x4_1).f0, (rd_T65 l0 x4_1).f1⟩ : S89))
            (case aB => exact (by repeat (first | (with_reducible first | exact HB.out | apply below_alloc | apply pw_below_drewN | apply below_drew1) | exact HB.out)))
            (case aF => exact (fun _ _ => trivial))
            (case aO => exact (by (with_reducible repeat (first | apply Kd.R_alloc | apply Kd.R_drewN | apply Kd.R_drew)); exact HO_3.out))
            (case aS => exact (below_size (by repeat (first | (with_reducible first | exact HB.out | apply below_alloc | apply pw_below_drewN | apply below_drew1) | exact HB.out))))
            (case aL => have := LMc4.out; omega)
            intro v628 w6 ho hb hg hat
            rw [← Ny627.out] at ho
            have n0_ := Aside0.mk (hb)
            have n1_ := Aside0.mk (ho)
            clear HB
            clear HO_3
            have HB := n0_
            have HO629 := n1_
            clear n0_ n1_
            clear ho hb hg hat
            refine hK.out _ _ ⟨((HB.out.cell (World.block_lt_of_cell? w _ hw625_0)).trans hw625_0), ((HB.out.cell (World.block_lt_of_cell? w _ hw625_1)).trans hw625_1), ((HB.out.cell (World.block_lt_of_cell? w _ hw626_0)).trans hw626_0), ((HB.out.cell (World.block_lt_of_cell? w _ hw626_1)).trans hw626_1)⟩ (fun hHeld => ?_)
            clear hK K
            refine norm_ (a' := ?_) ?_ ?_
            rotate_left
            · show Act.put _ (some 24) _ = _
              simp only [Act.put, List.setIfInBounds_toArray, List.set_cons_zero, List.set_cons_succ, i64_w, i32_w]
              rfl
            refine pure_ (i := 14) (N := some 3) (v := ?_) (a' := ?_) #[true, true, true, true, true, true, true, true, true, true, true, true, true, true, true] rfl rfl (any_of HT_.out (by kernel_rfl)) (fun _ _ _ h => h) (Or.inl ⟨by rfl, ?_⟩) ?_ ?_
            rotate_left
            · intro w'
              go_simp
              with_reducible rfl
            rotate_left
            · simp only [Act.put, List.setIfInBounds_toArray, List.set_cons_zero, List.set_cons_succ, i64_w, i32_w]
              rfl
            refine done_ (done_of HT_.out (by kernel_rfl)) ?_
            try go_wp2
            go_roundg k1
            case measure => have := HK1.out; omega
            case rel => exact ⟨(y627), (wrap64 (x4_1 + 1)), (by first | rfl | (simp; done) | (simp [*]; done)), H', ⟨by have := HK1.out; omega⟩, ⟨by (with_reducible repeat (first | apply Kd.R_alloc | apply Kd.R_drewN | apply Kd.R_drew)); exact HO629.out⟩, ⟨by repeat (first | (with_reducible first | exact HB.out | apply below_alloc | apply pw_below_drewN | apply below_drew1) | exact HB.out)⟩⟩
          · rw [if_neg c4] at H
            exact absurd H (by simp)
        · rw [if_neg c3] at H
          exact absurd H (by simp)
      · rw [if_neg c2] at H
        have c2b0 : decide (x4_1 < (l0.length : Int)) = false := decide_eq_false c2
        clear c2
        obtain rfl := Option.some.inj H
        go_wp2
        go_ret
        exact ⟨_, by first | rfl | (simp [errW_none, errW_some] <;> rfl) | (simp [*, errW_none, errW_some] <;> rfl), by (with_reducible repeat (first | apply Kd.R_alloc | apply Kd.R_drewN | apply Kd.R_drew)); exact HO_3.out, by repeat (first | (with_reducible first | exact HB.out | apply below_alloc | apply pw_below_drewN | apply below_drew1) | exact HB.out)⟩
end Go.Proofs.Ytdnjmhhjjbdieaa.Q
end
section
namespace Go.Proofs.Ytdnjmhhjjbdieaa.Q
open Go.RowKit Go.Proofs.YtdnjmhhjjbdieaaW.PrintWords Go.Proofs.YtdnjmhhjjbdieaaW.PrintLast
set_option linter.unusedVariables false
set_option linter.unusedSimpArgs false
def palantyperef02_Floor.l0 : Nat → List (S89) → Int → Int → Int → Option (Int)
  | 0, _, _, _, _ => none
  | k + 1, x0, x1, x5, x6 => if x6 < (x0.length : Int) then (if 0 ≤ x6 then (if ((rd_T89 x0 x6).f0) = x1 then (palantyperef02_Floor.l0 k x0 x1 (wrap64 (x5 + 1)) (wrap64 (x6 + 1))) else (palantyperef02_Floor.l0 k x0 x1 x5 (wrap64 (x6 + 1)))) else (none)) else (some x5)
def palantyperef02_Floor.f (k : Nat) (l0 : List (S89)) (a1 : Int) : Option (Int) := palantyperef02_Floor.l0 k l0 a1 0 0
theorem palantyperef02_Floor.mono_l : ∀ k, (∀ y0 y1 y2 y3, LeO (palantyperef02_Floor.l0 k y0 y1 y2 y3) (palantyperef02_Floor.l0 (k + 1) y0 y1 y2 y3))
  | 0 => fun _ _ _ _ r h => by simp [palantyperef02_Floor.l0] at h
  | k + 1 => by
    have ih0 := palantyperef02_Floor.mono_l k
    · intro y0 y1 y2 y3
      unfold palantyperef02_Floor.l0
      repeat' first
      | (with_reducible exact ih0 _ _ _ _)
      | (with_reducible exact LeO.refl _)
      | (with_reducible exact LeO.none _)
      | (with_reducible refine LeO.ite ?_ ?_)
      | (with_reducible refine LeO.bind ?_ (fun _ => ?_))
      | exact ih0 _ _ _ _
      | exact LeO.none _
      | refine LeO.ite ?_ ?_
      | refine LeO.bind ?_ (fun _ => ?_)
theorem palantyperef02_Floor.mono : ∀ a0 a1 k, LeO (palantyperef02_Floor.f k a0 a1) (palantyperef02_Floor.f (k + 1) a0 a1) := by
  intro a0 a1 k
  have ih0 := palantyperef02_Floor.mono_l k
  unfold palantyperef02_Floor.f
  repeat' first
      | (with_reducible exact ih0 _ _ _ _)
      | (with_reducible exact LeO.refl _)
      | (with_reducible exact LeO.none _)
      | (with_reducible refine LeO.ite ?_ ?_)
      | (with_reducible refine LeO.bind ?_ (fun _ => ?_))
      | exact ih0 _ _ _ _
      | exact LeO.none _
      | refine LeO.ite ?_ ?_
      | refine LeO.bind ?_ (fun _ => ?_)
set_option maxHeartbeats 8000000 in
set_option maxRecDepth 100000 in
theorem palantyperef02_Floor.calls (k : Nat) (A0 : Option Addr) (c0 : Nat) (l0 : List (S89)) (a1 : Int) (r : Int) (w : World) (hr0 : Kd.C k89 w A0 l0.length l0) (hc0 : l0.length ≤ c0) (h : palantyperef02_Floor.f k l0 a1 = some r) :
    Calls Try.prog 46 #[.slice A0 l0.length c0, .int .i64 a1] w fun e w' => e = .returned (.int .i64 r) ∧ Drawn0 w w' := by
  have HR0 := Aside0.mk hr0
  have HC0 := Aside0.mk hc0
  clear hr0 hc0
  have H : (palantyperef02_Floor.l0 k l0 a1 0 0) = some r := h
  clear h
  have H' := Aside0.mk H
  clear H
  go_enter Try.func46, Try.ntmps46
  go_wp2
  go_loopg [5, 6] k (fun kq v5 v6 w' => ∃ (x5_1 : Int) (x6_1 : Int), v5 = .int .i64 x5_1 ∧ v6 = .int .i64 x6_1 ∧ Aside0 (palantyperef02_Floor.l0 kq l0 a1 x5_1 x6_1 = some r) ∧ Aside0 (kq ≤ k) ∧ Drawn0 w w')
  case atStart => exact ⟨(0), (0), (by first | rfl | (simp; done) | (simp [*]; done)), (by first | rfl | (simp; done) | (simp [*]; done)), H', ⟨Nat.le_refl _⟩, by repeat (first | exact Drawn0.refl _ | apply Drawn0.step)⟩
  case round =>
    clear H'
    try clear p2
    obtain ⟨x5_1, x6_1, rfl, rfl, HA, HK1, ⟨m1, rfl⟩⟩ := hrel
    cases gk with
    | zero => exact absurd HA.out (by simp [palantyperef02_Floor.l0])
    | succ k1 =>
      have H := HA.out
      clear HA
      simp only [palantyperef02_Floor.l0] at H
      by_cases c3 : x6_1 < (l0.length : Int)
      · rw [if_pos c3] at H
        have c3b0 : decide (x6_1 < (l0.length : Int)) = true := decide_eq_true c3
        clear c3
        by_cases c4 : 0 ≤ x6_1
        · rw [if_pos c4] at H
          have c4b0 : decide (0 ≤ x6_1) = true := decide_eq_true c4
          clear c4
          by_cases c5 : ((rd_T89 l0 x6_1).f0) = a1
          · rw [if_pos c5] at H
            have c5b0 : (((rd_T89 l0 x6_1).f0) == a1) = true := beq_iff_eq.mpr c5
            have c5b1 : (((rd_T89 l0 x6_1).f0) != a1) = false := bne_eq_false_iff_eq.mpr c5
            clear c5
            have H' := Aside0.mk H
            clear H
            have p222 : 0 ≤ (x6_1 : Int) := of_decide_eq_true (by first | (with_reducible assumption) | assumption)
            have q222 : x6_1 < (l0.length : Int) := of_decide_eq_true (by first | (with_reducible assumption) | assumption)
            obtain ⟨ad222, e222, hx222_0, hx222_1⟩ := at_T89 HR0.out x6_1 p222 q222
            cases e222
            replace p222 := eq_true p222
            replace q222 := eq_true q222
            go_wp2
            go_roundg k1
            case measure => have := HK1.out; omega
            case rel => exact ⟨(wrap64 (x5_1 + 1)), (wrap64 (x6_1 + 1)), (by first | rfl | (simp; done) | (simp [*]; done)), (by first | rfl | (simp; done) | (simp [*]; done)), H', ⟨by have := HK1.out; omega⟩, by repeat (first | exact Drawn0.refl _ | apply Drawn0.step)⟩
          · rw [if_neg c5] at H
            have c5b0 : (((rd_T89 l0 x6_1).f0) == a1) = false := beq_eq_false_iff_ne.mpr c5
            have c5b1 : (((rd_T89 l0 x6_1).f0) != a1) = true := bne_iff_ne.mpr c5
            have H' := Aside0.mk H
            clear H
            have p222 : 0 ≤ (x6_1 : Int) := of_decide_eq_true (by first | (with_reducible assumption) | assumption)
            have q222 : x6_1 < (l0.length : Int) := of_decide_eq_true (by first | (with_reducible assumption) | assumption)
            obtain ⟨ad222, e222, hx222_0, hx222_1⟩ := at_T89 HR0.out x6_1 p222 q222
            cases e222
            replace p222 := eq_true p222
            replace q222 := eq_true q222
            go_wp2
            go_roundg k1
            case measure => have := HK1.out; omega
            case rel => exact ⟨(x5_1), (wrap64 (x6_1 + 1)), (by first | rfl | (simp; done) | (simp [*]; done)), (by first | rfl | (simp; done) | (simp [*]; done)), H', ⟨by have := HK1.out; omega⟩, by repeat (first | exact Drawn0.refl _ | apply Drawn0.step)⟩
        · rw [if_neg c4] at H
          exact absurd H (by simp)
      · rw [if_neg c3] at H
        have c3b0 : decide (x6_1 < (l0.length : Int)) = false := decide_eq_false c3
        clear c3
        obtain rfl := Option.some.inj H
        go_wp2
        go_ret
        exact ⟨by first | rfl | (simp; done) | (simp [*]; done), by repeat (first | exact Drawn0.refl _ | apply Drawn0.step)⟩
end Go.Proofs.Ytdnjmhhjjbdieaa.Q
end
section
namespace Go.Proofs.Ytdnjmhhjjbdieaa.Q
open Go.RowKit Go.Proofs.YtdnjmhhjjbdieaaW.PrintWords Go.Proofs.YtdnjmhhjjbdieaaW.PrintLast
set_option linter.unusedVariables false
set_option linter.unusedSimpArgs false
def palantypelaw02_house.f  : Option (Int × Int × Int × Int × (List (S52))) := some (3, 2, 3, 1, (([(⟨3, 3⟩ : S52), (⟨3, 4⟩ : S52), (⟨3, 1⟩ : S52), (⟨Go.bits .or .u16 2 32768, Go.bits .or .u16 2 32768⟩ : S52), (⟨2, 6⟩ : S52)] : List (S52))))
set_option maxHeartbeats 8000000 in
set_option maxRecDepth 100000 in
theorem palantypelaw02_house.calls  (r1 : Int) (r2 : Int) (r3 : Int) (r4 : Int) (r5 : List (S52)) (w : World) (h : palantypelaw02_house.f  = some (r1, r2, r3, r4, r5)) :
    Calls Try.prog 49 #[] w fun e w' => ∃ v4_ : Value, e = .returned (.agg #[.int .i64 r1, .int .i64 r2, .int .i64 r3, .int .i64 r4, v4_]) ∧ Kd.R k52 52 w' w.heap.size (fun _ => True) v4_ r5 ∧ Below w.heap.size w w' := by
  have hu33 := Try.underlying33
  have hu52 := Try.underlying52
  have HB := Aside0.mk (Below.refl w.heap.size w)
  have H : (some (3, 2, 3, 1, (([(⟨3, 3⟩ : S52), (⟨3, 4⟩ : S52), (⟨3, 1⟩ : S52), (⟨Go.bits .or .u16 2 32768, Go.bits .or .u16 2 32768⟩ : S52), (⟨2, 6⟩ : S52)] : List (S52))))) = some (r1, r2, r3, r4, r5) := h
  clear h
  obtain ⟨y122, hy122⟩ : ∃ y_ : List (S52), y_ = (([(⟨3, 3⟩ : S52), (⟨3, 4⟩ : S52), (⟨3, 1⟩ : S52), (⟨Go.bits .or .u16 2 32768, Go.bits .or .u16 2 32768⟩ : S52), (⟨2, 6⟩ : S52)] : List (S52))) := ⟨_, rfl⟩
  replace H : (some (3, 2, 3, 1, y122)) = some (r1, r2, r3, r4, r5) := by first | (rw [hy122]; with_reducible exact H) | (have H2_ := (Option.bind_some _ _).symm.trans H; rw [hy122]; with_reducible exact H2_) | (have H2_ := (Option.bind_some _ _).symm.trans H; with_reducible exact H2_) | with_reducible exact H | (rw [hy122]; exact H) | exact H
  have Ny122 := Aside0.mk hy122
  clear hy122
  simp only [Option.some.injEq, Prod.mk.injEq] at H
  obtain ⟨rfl, rfl, rfl, rfl, rfl⟩ := H
  go_enter Try.func49, Try.ntmps49
  go_wp2_with (first | ((with_reducible refine gate_dst (N := 0) rfl ?_); refine box_event ?hg (N := 0) ?hd (cs := #[.int .i64 0, .int .i64 0, .int .i64 0, .int .i64 0, .slice none 0 0]) (t := 33) ?hr ?_; (case hd => rfl); (case hg => rfl); (case hr => first | (go_simp; done) | (go_simp; rfl)); intro gb121 hg w1 hbox hb; have n0_ := Aside0.mk (below_step (by repeat (first | (with_reducible first | exact HB.out | apply below_alloc | apply pw_below_drewN | apply below_drew1) | exact HB.out)) hb); have n1_ := Aside0.mk (hbox); have n2_ := Aside0.mk ((by rw [hg]; exact (below_size (by repeat (first | (with_reducible first | exact HB.out | apply below_alloc | apply pw_below_drewN | apply below_drew1) | exact HB.out))) : w.heap.size ≤ gb121)); have n3_ := Aside0.mk ((by rw [hg]; exact (below_size (by repeat (first | (with_reducible first | exact HB.out | apply below_alloc | apply pw_below_drewN | apply below_drew1) | exact HB.out))) : w.heap.size ≤ gb121)); clear HB; have HB := n0_; have BK121 := n1_; have GW121 := n2_; have GE121 := n3_; clear n0_ n1_ n2_ n3_; clear hb hbox hg) | ((with_reducible refine gate_dst (N := 11) rfl ?_); refine Kd.R_lit k52 _ 52 ?hg (N := 11) ?hd (xs := ([(⟨3, 3⟩ : S52), (⟨3, 4⟩ : S52), (⟨3, 1⟩ : S52), (⟨Go.bits .or .u16 2 32768, Go.bits .or .u16 2 32768⟩ : S52), (⟨2, 6⟩ : S52)] : List (S52))) (inner := [.int .u16 3, .int .u16 3, .int .u16 3, .int .u16 4, .int .u16 3, .int .u16 1, .int .u16 (Go.bits .or .u16 2 32768), .int .u16 (Go.bits .or .u16 2 32768), .int .u16 2, .int .u16 6]) (ok := fun _ => True) (okp := fun _ => True) ?hr ?hp (fun _ hk => hk) trivial (Below.refl _ _) (Nat.le_refl _) (by simp) ?_; (case hd => rfl); (case hg => rfl); (case hr => first | (go_simp; done) | (go_simp; rfl)); (case hp => exact (Reps.c2 (show Kd.M k52 _ _ _ (⟨3, 3⟩ : S52) [.int .u16 3, .int .u16 3] from (k52_mkM _ _ _ (⟨3, 3⟩ : S52) )) (Reps.c2 (show Kd.M k52 _ _ _ (⟨3, 4⟩ : S52) [.int .u16 3, .int .u16 4] from (k52_mkM _ _ _ (⟨3, 4⟩ : S52) )) (Reps.c2 (show Kd.M k52 _ _ _ (⟨3, 1⟩ : S52) [.int .u16 3, .int .u16 1] from (k52_mkM _ _ _ (⟨3, 1⟩ : S52) )) (Reps.c2 (show Kd.M k52 _ _ _ (⟨Go.bits .or .u16 2 32768, Go.bits .or .u16 2 32768⟩ : S52) [.int .u16 (Go.bits .or .u16 2 32768), .int .u16 (Go.bits .or .u16 2 32768)] from (k52_mkM _ _ _ (⟨Go.bits .or .u16 2 32768, Go.bits .or .u16 2 32768⟩ : S52) )) (Reps.c2 (show Kd.M k52 _ _ _ (⟨2, 6⟩ : S52) [.int .u16 2, .int .u16 6] from (k52_mkM _ _ _ (⟨2, 6⟩ : S52) )) (Reps.none _ _))))))); intro v123 w2 ho3 hb hg_ hnew_; clear hg_ hnew_; (first | rw [← Ny122.out] at ho3 | (simp only [Int.reduceToNat] at ho3; rw [← Ny122.out] at ho3)); have n0_ := Aside0.mk (Kd.R_lower ho3 (below_size (by repeat (first | (with_reducible first | exact HB.out | apply below_alloc | apply pw_below_drewN | apply below_drew1 | refine below_set ?_ GE121.out) | exact HB.out)))); have n1_ := Aside0.mk (blk_below (g := gb121) (o := .cells #[.int .i64 0, .int .i64 0, .int .i64 0, .int .i64 0, .slice none 0 0] 33 (0, 0)) (by (with_reducible repeat (first | refine blk_drewN ?_ _ | refine blk_drew ?_ | refine blk_alloc ?_ _)); exact BK121.out) hb); have n2_ := Aside0.mk (below_step (by repeat (first | (with_reducible first | exact HB.out | apply below_alloc | apply pw_below_drewN | apply below_drew1 | refine below_set ?_ GE121.out) | exact HB.out)) hb); clear BK121; clear HB; have HO124 := n0_; have BK121 := n1_; have HB := n2_; clear n0_ n1_ n2_; clear hb ho3; obtain ⟨Ao4, co4, eo4⟩ := Kd.R_slice HO124.out; subst eo4; have hcz5_0 : w2.cell? ⟨gb121, 0, none⟩ = some (.int .i64 0) := (blk_cell BK121.out 0).trans rfl; have hcz5_1 : w2.cell? ⟨gb121, 1, none⟩ = some (.int .i64 0) := (blk_cell BK121.out 1).trans rfl; have hcz5_2 : w2.cell? ⟨gb121, 2, none⟩ = some (.int .i64 0) := (blk_cell BK121.out 2).trans rfl; have hcz5_3 : w2.cell? ⟨gb121, 3, none⟩ = some (.int .i64 0) := (blk_cell BK121.out 3).trans rfl; have hcz5_4 : w2.cell? ⟨gb121, 4, none⟩ = some (.slice none 0 0) := (blk_cell BK121.out 4).trans rfl; have hfz5_0 := blk_frozen BK121.out 0; have hfz5_1 := blk_frozen BK121.out 1; have hfz5_2 := blk_frozen BK121.out 2; have hfz5_3 := blk_frozen BK121.out 3; have hfz5_4 := blk_frozen BK121.out 4))
  refine bodyPost_ret (results_cell_row rfl _ _ gb121 33 #[.int .i64 3, .int .i64 2, .int .i64 3, .int .i64 1, .slice Ao4 y122.length co4] (0, 0) _ rfl (by (with_reducible repeat (first | refine blk_drewN ?_ _ | refine blk_drew ?_ | refine blk_alloc ?_ _)); refine blk_put (cs := #[.int .i64 3, .int .i64 2, .int .i64 3, .int .i64 1, .slice none 0 0]) ?_ 4 _ rfl; (with_reducible repeat (first | refine blk_drewN ?_ _ | refine blk_drew ?_ | refine blk_alloc ?_ _)); refine blk_put (cs := #[.int .i64 3, .int .i64 2, .int .i64 3, .int .i64 0, .slice none 0 0]) ?_ 3 _ rfl; (with_reducible repeat (first | refine blk_drewN ?_ _ | refine blk_drew ?_ | refine blk_alloc ?_ _)); refine blk_put (cs := #[.int .i64 3, .int .i64 2, .int .i64 0, .int .i64 0, .slice none 0 0]) ?_ 2 _ rfl; (with_reducible repeat (first | refine blk_drewN ?_ _ | refine blk_drew ?_ | refine blk_alloc ?_ _)); refine blk_put (cs := #[.int .i64 3, .int .i64 0, .int .i64 0, .int .i64 0, .slice none 0 0]) ?_ 1 _ rfl; (with_reducible repeat (first | refine blk_drewN ?_ _ | refine blk_drew ?_ | refine blk_alloc ?_ _)); refine blk_put (cs := #[.int .i64 0, .int .i64 0, .int .i64 0, .int .i64 0, .slice none 0 0]) ?_ 0 _ rfl; (with_reducible repeat (first | refine blk_drewN ?_ _ | refine blk_drew ?_ | refine blk_alloc ?_ _)); exact BK121.out) Try.underlying33 rfl (by kernel_rfl)) rfl ?_
  exact ⟨_, by first | rfl | (simp [errW_none, errW_some] <;> rfl) | (simp [*, errW_none, errW_some] <;> rfl), by (with_reducible repeat (first | apply Kd.R_alloc | apply Kd.R_drewN | apply Kd.R_drew)); exact Kd.R_mono (Kd.R_far (p := ⟨gb121, 4, none⟩) (Kd.R_far (p := ⟨gb121, 3, none⟩) (Kd.R_far (p := ⟨gb121, 2, none⟩) (Kd.R_far (p := ⟨gb121, 1, none⟩) (Kd.R_far (p := ⟨gb121, 0, none⟩) (Kd.R_types HO124.out BK121.out (by decide)) (fun _ hk => hk.2) (.int .i64 3)) (fun _ hk => hk.2) (.int .i64 2)) (fun _ hk => hk.2) (.int .i64 3)) (fun _ hk => hk.2) (.int .i64 1)) (fun _ hk => hk.2) (.slice Ao4 y122.length co4)) (fun _ hk => trivial), by repeat (first | (with_reducible first | exact HB.out | apply below_alloc | apply pw_below_drewN | apply below_drew1 | refine below_set ?_ GE121.out) | exact HB.out)⟩
end Go.Proofs.Ytdnjmhhjjbdieaa.Q
end
section
namespace Go.Proofs.Ytdnjmhhjjbdieaa.Q
open Go.RowKit Go.Shelf Go.Proofs.YtdnjmhhjjbdieaaW.PrintWords Go.Proofs.YtdnjmhhjjbdieaaW.PrintLast
set_option linter.unusedVariables false
set_option linter.unusedSimpArgs false
attribute [local go_sem] Oper.semAt_some
theorem infoTold : (Try.prog.info? 54).map (fun i => (i.zero, i.size, i.bytes)) = some (some (.agg #[(.int .u16 0), (.int .u16 0)]), 2, 4) := by kernel_rfl
theorem made_zero (m k : Nat) (h : k < m) : (madeCells #[Value.int .u16 0, .int .u16 0] m)[k]? = some (.int .u16 0) := by
  unfold madeCells
  rw [Array.getElem?_map, Array.getElem?_range, if_pos h]
  simp only [Option.map_some]
  have : k % 2 = 0 ∨ k % 2 = 1 := by omega
  rcases this with e | e <;> simp [e]
theorem made_told (m : Nat) (hm : m ≤ 40) (W : World) : (Instr.makeSlice 27 (.int .i64 m) (.int .i64 m)).run Try.prog W = .ok (.slice (some ⟨W.heap.size, 0, none⟩) m m) (W.alloc (.cells (madeCells #[Value.int .u16 0, .int .u16 0] (m * 2)) 54)) := by
  obtain ⟨inf, hinf, hif⟩ : ∃ i, Try.prog.info? 54 = some i ∧ (i.zero, i.size, i.bytes) = (some (.agg #[(.int .u16 0), (.int .u16 0)]), 2, 4) := by
    have h := infoTold
    cases h2 : Try.prog.info? 54 with
    | none => rw [h2] at h; cases h
    | some i => rw [h2] at h; exact ⟨i, rfl, Option.some.inj h⟩
  simp only [Prod.mk.injEq] at hif
  have := run_makeSlice (P := Try.prog) W 27 54 inf (.agg #[(.int .u16 0), (.int .u16 0)]) Try.underlying27 hinf hif.1 .i64 .i64 m m (by omega) (Int.le_refl _) (by rw [hif.2.1]; omega) (by rw [hif.2.2]; omega) (by omega)
  rw [hif.2.1] at this
  exact this
set_option maxRecDepth 100000 in
set_option maxHeartbeats 4000000 in
theorem floor_Who.calls (a0_0 a0_1 a0_2 a0_3 : Int) (A0_4 : Option Addr) (c0_4 : Nat) (l0_4 : List S52) (r1 : List S54) (r2 : Int) (w : World) (hr0_4 : Kd.C k52 w A0_4 l0_4.length l0_4) (hc0_4 : l0_4.length ≤ c0_4)
    (h : floor_Who.f a0_0 a0_1 a0_2 a0_3 l0_4 = some (r1, r2)) :
    Calls Try.prog 18 #[.agg #[.int .i64 a0_0, .int .i64 a0_1, .int .i64 a0_2, .int .i64 a0_3, .slice A0_4 l0_4.length c0_4]] w fun e w' => ∃ v0_ : Value, e = .returned (.tuple #[v0_, .int .i64 r2]) ∧ Kd.R k54 54 w' w.heap.size (fun _ => True) v0_ r1 ∧ Below w.heap.size w w' := by
  have hu := Try.underlying33
  refine (callsIn_wide (n := 0)).1 ?_
  refine callsIn_of_wp_marks Try.func18 rfl trivial ?_ rfl
  simp only [Try.ntmps18, List.size_toArray, List.length_cons, List.length_nil, Nat.reduceAdd, Nat.reduceSub, Array.replicate_succ, Array.replicate_zero, List.push_toArray, List.append_toArray, List.nil_append, List.cons_append]
  unfold floor_Who.f at h
  obtain ⟨W0, hW0⟩ : ∃ W0, w.alloc (.cells #[.int .i64 a0_0, .int .i64 a0_1, .int .i64 a0_2, .int .i64 a0_3, .slice A0_4 l0_4.length c0_4] 33) = W0 := ⟨_, rfl⟩
  have hs0 : W0.heap.size = w.heap.size + 1 := by rw [← hW0]; simp
  have hsc0 : W0.heap[w.heap.size]? = some (.cells #[.int .i64 a0_0, .int .i64 a0_1, .int .i64 a0_2, .int .i64 a0_3, .slice A0_4 l0_4.length c0_4] 33 (0, 0)) := by rw [← hW0]; exact heap_new rfl
  have hb0 : Below w.heap.size w W0 := by rw [← hW0]; exact (Below.refl _ w).alloc (Nat.le_refl _) _
  have e0 := cell_of hsc0 (i := 0) rfl
  have e1 := cell_of hsc0 (i := 1) rfl
  have e2 := cell_of hsc0 (i := 2) rfl
  have e3 := cell_of hsc0 (i := 3) rfl
  have e4 := cell_of hsc0 (i := 4) rfl
  simp only [List.getElem_toArray, List.getElem_cons_zero, List.getElem_cons_succ] at e0 e1 e2 e3 e4
  have HS0 := Lib.hid hs0
  have HSC0 := Lib.hid hsc0
  have HB0 := Lib.hid hb0
  have HR := Lib.hid (Kd.C_below hr0_4 hb0)
  have HR' := Lib.hid hr0_4
  clear hs0 hsc0 hb0 hr0_4
  gi_wp2
  clear hW0
  cases hck : floor_Scene_check.f a0_0 a0_1 a0_2 a0_3 l0_4 with
  | none => rw [hck] at h; cases h
  | some r =>
    rw [hck] at h
    simp only [] at h
    have HCK := Lib.hid hck
    have HH := Lib.hid h
    clear hck h
    by_cases hr : r = 0
    · subst hr
      obtain ⟨hl, ⟨n, rfl, hn1, hn⟩, _⟩ := check_ok HCK.out
      have hnn : (n : Int).toNat = n := Int.toNat_natCast n
      refine ⟨trivial, rfl, (callsIn_wide.2 (checked.good n a0_1 a0_2 a0_3 A0_4 c0_4 l0_4 W0 HR.out hc0_4 HCK.out)).mono ?_⟩
      rintro e W1 ⟨g, i, rfl, hb1, hL⟩
      obtain ⟨sb, cS, bs, hne, hcase⟩ := hL
      have h' := HH.out
      rw [if_pos rfl, hnn] at h'
      have HB1 := Lib.hid hb1
      have HNE := Lib.hid hne
      clear hb1 hne HH
      by_cases hi : i = l0_4.length
      · rcases hcase with ⟨_, hSe⟩ | ⟨hi', _⟩
        · subst hi
          have hem : ¬ (fwdL a0_1 a0_2 a0_3 n l0_4 l0_4.length).isEmpty = true := fun hc => by
            obtain ⟨x, hx⟩ := HNE.out _ (Nat.le_refl _)
            exact fwdL_empty.1 hc x hx
          rw [if_neg hem] at h'
          obtain ⟨rfl, rfl⟩ := Prod.mk.inj (Option.some.inj h')
          rw [if_pos rfl]
          have hz1 := HB1.out.size
          have hz0 := HS0.out
          obtain ⟨Wx, hWx⟩ : ∃ Wx, W1.alloc (.cells #[.pointer (some ⟨g, 0, none⟩)] 101) = Wx := ⟨_, rfl⟩
          have hzx : Wx.heap.size = W1.heap.size + 1 := by rw [← hWx]; simp
          have hmk := made_told l0_4.length hl (W1.alloc (.cells #[.pointer (some ⟨g, 0, none⟩)] 101))
          rw [World.size_alloc] at hmk
          have f4 : W1.cell? ⟨w.heap.size, 4, none⟩ = _ := (HB1.out.cell (p := ⟨w.heap.size, 4, none⟩) (by show w.heap.size < W0.heap.size; omega)).trans e4
          have q0 : w.heap.size < W1.heap.size := by omega
          have q1 : w.heap.size < W1.heap.size + 1 := by omega
          have q2 : w.heap.size < W1.heap.size + 1 + 1 := by omega
          have q3 : w.heap.size < W1.heap.size + 1 + 1 + 1 := by omega
          have HSE := Lib.hid hSe
          have HZ1 := Lib.hid hz1
          have HZ0 := Lib.hid hz0
          clear h' hem e0 e1 e2 e3 e4 hSe hz1 hz0 hzx hWx Wx
          gi_wp2
          obtain ⟨Wz, hWz⟩ : ∃ Wz, ((W1.alloc (.cells #[.pointer (some ⟨g, 0, none⟩)] 101)).alloc (.cells (madeCells #[Value.int .u16 0, .int .u16 0] (l0_4.length * 2)) 54)).alloc (.cells #[.slice (some ⟨W1.heap.size + 1, 0, none⟩) l0_4.length l0_4.length] 27) = Wz := ⟨_, rfl⟩
          rw [hWz]
          have hz1 := HZ1.out
          have hz0 := HZ0.out
          have hbz : Below W1.heap.size W1 Wz := by rw [← hWz]; exact (((Below.refl _ W1).alloc (Nat.le_refl _) _).alloc (by simp) _).alloc (by simp; omega) _
          have hzz : Wz.heap.size = W1.heap.size + 3 := by rw [← hWz]; simp
          have hxc : Wz.heap[W1.heap.size]? = some (.cells #[.pointer (some ⟨g, 0, none⟩)] 101 (0, 0)) := by rw [← hWz]; exact heap_old (heap_old (heap_new rfl))
          have hob : Wz.heap[W1.heap.size + 1]? = some (.cells (madeCells #[Value.int .u16 0, .int .u16 0] (l0_4.length * 2)) 54 (0, 0)) := by rw [← hWz]; exact heap_old (heap_new (by simp))
          have hoc : Wz.heap[W1.heap.size + 1 + 1]? = some (.cells #[.slice (some ⟨W1.heap.size + 1, 0, none⟩) l0_4.length l0_4.length] 27 (0, 0)) := by rw [← hWz]; exact heap_new (by simp)
          have hb0z : Below W0.heap.size W0 Wz := HB1.out.trans (hbz.mono hz1)
          have hout : Out (W1.heap.size + 1) l0_4.length (fun _ => (0, 0)) Wz := ⟨_, hob, by simp [size_madeCells], fun j hj => ⟨made_zero _ _ (by omega), made_zero _ _ (by omega)⟩⟩
          refine who.rounds n hn a0_1 a0_2 a0_3 A0_4 c0_4 l0_4 hl w.heap.size W1.heap.size (W1.heap.size + 1 + 1) g sb cS (W1.heap.size + 1) W0.heap.size bs _ _ _ _ _ _ _ _ _ _ _ _ _ _ _ _ _ _ _ _ _ _ _ _ _ _ _ _ _ _ _ _ _ _ _ _ _ _ _ _ _ _ _ _ _ _ _ _ _ _ _ _ _ _ _ _ _ _ _ _ _ _ _ _ _ _ _ _ _ _ _ _ _ _ _ _ _ _ _ Wz
            (Kd.C_below HR.out hb0z) (fun ad had hlen => by
              subst had
              obtain ⟨ad', e, m0, _⟩ := at_T52 HR'.out 0 (by omega) (by omega)
              cases e
              have := World.block_lt_of_cell? w _ m0
              have hbl : (ad.add 0).block = ad.block := by unfold Addr.add; split <;> rfl
              simp at this
              omega)
            ((hb0z.block _ (by omega)).trans HSC0.out) hxc hoc (HSE.out.below hbz) hout (by omega) ?_
          rintro ds3 a7 a8 a9 a10 a11 a27 a28 a29 a30 a31 a32 a33 a34 a35 a36 a37 a38 a39 a40 a41 a42 a43 a44 a45 a46 a47 a50 a51 a52 a53 a54 a55 a56 a57 a58 a59 a60 a61 a62 a63 a64 a65 a66 a67 a68 a69 a70 a71 a72 a73 a74 a75 a76 a77 a78 a79 a80 a81 a82 F W2 hF hO2 hfd hC
          have hoc2 := (hF.same _ (by omega) (by omega)).trans hoc
          have eo := cell_of hoc2 (i := 0) rfl
          simp only [List.getElem_toArray, List.getElem_cons_zero] at eo
          have HF := Lib.hid hF
          have HO2 := Lib.hid hO2
          have HFD := Lib.hid hfd
          have HC := Lib.hid hC
          have HBZ := Lib.hid hb0z
          have HZZ := Lib.hid hzz
          clear hF hO2 hfd hC hoc2 hbz hb0z hzz hxc hob hoc hout hWz
          gi_wp2
          have hzz := HZZ.out
          refine leave_marks _ _ HC.out (fun W4 hF4 => ⟨_, results_tmp2 rfl _ _ _, _, rfl, ?_, ?_⟩)
          · have hts : ((List.range l0_4.length).map (toldOf a0_1 a0_2 a0_3 n l0_4)).length = l0_4.length := by simp
            have hO4 : Out (W1.heap.size + 1) l0_4.length F W4 := HO2.out.same (hF4.same _ HO2.out.lt (fun h => by
              obtain ⟨cs, q, _⟩ := HO2.out
              rw [q] at h; cases h.2.2))
            have := Out.told (ob := W1.heap.size + 1) (F := F) (ts := (List.range l0_4.length).map (toldOf a0_1 a0_2 a0_3 n l0_4)) (w := W4) (base := w.heap.size) (by rw [hts]; exact hO4) (by omega) (fun j t hj => by
              obtain ⟨hj1, hj2⟩ := List.getElem?_eq_some_iff.1 hj
              have hjl : j < l0_4.length := by simpa using hj1
              simp at hj2
              rw [← hj2]
              exact found_told hn hjl (HFD.out j hjl)) (by rw [hts]; exact hl)
            rw [hts] at this
            exact this
          · have h02 : Below w.heap.size w Wz := HB0.out.trans (HBZ.out.mono HB0.out.size)
            exact (h02.trans ((HF.out.below (n := w.heap.size) (by omega) (fun k hk => by omega)))).trans (hF4.below (n := w.heap.size) (by have := HF.out.size; omega) (fun k hk h => by omega))
        · omega
      · rcases hcase with ⟨hi', _⟩ | ⟨hi', hno, _⟩
        · exact absurd hi' hi
        · have hem : (fwdL a0_1 a0_2 a0_3 n l0_4 l0_4.length).isEmpty = true := fwdL_empty.2 (fun x => by
            have := fwd_later hno (l0_4.length - (i + 1)) x
            rwa [show i + 1 + (l0_4.length - (i + 1)) = l0_4.length by omega] at this)
          rw [if_pos hem] at h'
          obtain ⟨rfl, rfl⟩ := Prod.mk.inj (Option.some.inj h')
          rw [if_neg hi]
          clear h' hem hno
          gi_wp2
          refine ⟨_, results_tmp2 rfl _ _ _, _, rfl, Kd.R_nil _ _ _ _ _, ?_⟩
          exact (HB0.out.trans (HB1.out.mono HB0.out.size)).alloc (Nat.le_trans HB0.out.size HB1.out.size) _
    · have h' := HH.out
      rw [if_neg hr] at h'
      obtain ⟨rfl, rfl⟩ := Prod.mk.inj (Option.some.inj h')
      have hr2 : (r == 0) = false := by simpa using hr
      clear h' HH
      refine ⟨trivial, rfl, (callsIn_wide.2 (checked.bad a0_0 a0_1 a0_2 a0_3 A0_4 c0_4 l0_4 r W0 HR.out hc0_4 HCK.out hr)).mono ?_⟩
      rintro e W1 ⟨rfl, hb1⟩
      have HB1 := Lib.hid hb1
      clear hb1
      gi_wp2
      refine ⟨_, results_tmp2 rfl _ _ _, _, rfl, Kd.R_nil _ _ _ _ _, ?_⟩
      exact (HB0.out.trans (HB1.out.mono HB0.out.size)).alloc (Nat.le_trans HB0.out.size HB1.out.size) _
end Go.Proofs.Ytdnjmhhjjbdieaa.Q
end
section
namespace Go.Proofs.Ytdnjmhhjjbdieaa.Q
open Go.RowKit Go.Shelf Go.Proofs.YtdnjmhhjjbdieaaW.PrintWords Go.Proofs.YtdnjmhhjjbdieaaW.PrintLast
set_option linter.unusedVariables false
set_option linter.unusedSimpArgs false
def houseL : List S52 := [⟨3, 3⟩, ⟨3, 4⟩, ⟨3, 1⟩, ⟨Go.bits .or .u16 2 32768, Go.bits .or .u16 2 32768⟩, ⟨2, 6⟩]
def houseW : List S54 := [⟨1, 1⟩, ⟨1, 4⟩, ⟨1, 1⟩, ⟨32770, 32770⟩, ⟨2, 6⟩]
def houseR : List S100 := [⟨1, 1⟩, ⟨1, 4⟩, ⟨1, 1⟩, ⟨Go.bits .or .u16 2 32768, Go.bits .or .u16 2 32768⟩, ⟨2, 6⟩]
theorem house_who : floor_Who.f 3 2 3 1 houseL = some (houseW, 0) := by kernel_rfl
theorem house_held : floor_Held.f 3 2 3 1 houseL 1 = some (1, 2, 0) := by kernel_rfl
theorem house_told : palantypelaw02_told.f 10 houseW houseR = some true := by kernel_rfl
def palantypelaw02_awake.f : Option Bool := some true
theorem pairs_at (ps : List S100) : ∀ (j i : Nat) (p : S100) (u : Value), ps[j]? = some p → ([Value.int .u16 p.f0, .int .u16 p.f1] : List Value)[i]? = some u → (ps.flatMap fun p => [Value.int .u16 p.f0, .int .u16 p.f1])[j * 2 + i]? = some u := by
  induction ps with
  | nil => intro j i p u h; simp at h
  | cons q ps ih =>
    intro j i p u h hu
    rw [List.flatMap_cons]
    cases j with
    | zero =>
      obtain rfl : q = p := by simpa using h
      have hi : i < 2 := (List.getElem?_eq_some_iff.1 hu).1
      rw [List.getElem?_append_left (by simp; omega), Nat.zero_mul, Nat.zero_add]
      exact hu
    | succ j =>
      rw [List.getElem?_append_right (by simp; omega)]
      have := ih j i p u (by simpa using h) hu
      rw [show (j + 1) * 2 + i - ([Value.int .u16 q.f0, .int .u16 q.f1] : List Value).length = j * 2 + i by simp; omega]
      exact this
theorem pairs_C {W : World} {b : Nat} {t : TypeId} {ps : List S100} {cs : Array Value} (h : W.heap[b]? = some (.cells cs t (0, 0))) (hcs : cs = (ps.flatMap fun p => [Value.int .u16 p.f0, .int .u16 p.f1]).toArray) (hl : ps.length ≤ 1000) : Kd.C k100 W (some ⟨b, 0, none⟩) ps.length ps := by
  subst hcs
  refine ⟨rfl, by omega, fun _ => ⟨⟨b, 0, none⟩, rfl, fun j p hj => ⟨[.int .u16 p.f0, .int .u16 p.f1], rfl, k100_mk W p, fun i u hu => ?_⟩⟩⟩
  have h2 := pairs_at ps j i p u hj hu
  have h3 : W.cell? ⟨b, j * 2 + i, none⟩ = some u := cell_of h (by simpa using h2)
  show W.cell? (Addr.add ⟨b, 0, none⟩ (j * 2 + i)) = some u
  generalize j * 2 + i = m at h3
  rcases m with _ | m <;> simpa [Addr.add] using h3
set_option maxRecDepth 100000 in
set_option maxHeartbeats 4000000 in
theorem palantypelaw02_awake.calls (r : Bool) (w : World) (h : palantypelaw02_awake.f = some r) :
    Calls Try.prog 17 #[] w fun e w' => e = .returned (.bool r) ∧ Below w.heap.size w w' := by
  obtain rfl : true = r := Option.some.inj h
  clear h
  have hu := Try.underlying100
  have hu1 := Try.underlying42
  go_enter Try.func17, Try.ntmps17
  go_wp2_with fail
  refine (palantypelaw02_house.calls 3 2 3 1 houseL _ rfl).mono ?_
  rintro e w1 ⟨v, rfl, hR1, hb1⟩
  obtain ⟨A1, c1, rfl, hc1, hC1⟩ := Kd.R_reads hR1
  have HB1 := Lib.hid hb1
  clear hR1 hb1
  go_wp2_with fail
  refine (floor_Who.calls 3 2 3 1 A1 c1 houseL houseW 0 w1 hC1 hc1 house_who).mono ?_
  rintro e w2 ⟨v, rfl, hR2, hb2⟩
  obtain ⟨A2, c2, rfl, hc2, hC2⟩ := Kd.R_reads hR2
  have HB2 := Lib.hid (below_then HB1.out (HB1.out.size) hb2)
  have HC2 := Lib.hid hC2
  clear hR2 hb2 hC1 hC2
  go_wp2_with fail
  refine (palantypelaw02_house.calls 3 2 3 1 houseL _ rfl).mono ?_
  rintro e w3 ⟨v, rfl, hR3, hb3⟩
  obtain ⟨A3, c3, rfl, hc3, hC3⟩ := Kd.R_reads hR3
  have HB3 := Lib.hid (below_then HB2.out (HB2.out.size) hb3)
  have HC3 := Lib.hid (Kd.C_below HC2.out hb3)
  clear hR3 hb3 HC2
  go_wp2_with fail
  refine (floor_Held.calls 3 2 3 1 A3 c3 houseL 1 1 2 0 w3 hC3 hc3 house_held).mono ?_
  rintro e w4 ⟨rfl, hb4⟩
  have HB4 := Lib.hid (below_then HB3.out (HB3.out.size) hb4)
  have HC4 := Lib.hid (Kd.C_below HC3.out hb4)
  clear hb4 HC3 hC3
  go_wp2_with fail
  obtain ⟨W5, hW5⟩ : ∃ W5, (w4.alloc (.cells #[.int .i64 1, .int .i64 2] 42)).alloc (.cells #[.int .u16 1, .int .u16 1, .int .u16 1, .int .u16 4, .int .u16 1, .int .u16 1, .int .u16 (Go.bits .or .u16 2 32768), .int .u16 (Go.bits .or .u16 2 32768), .int .u16 2, .int .u16 6] 100) = W5 := ⟨_, rfl⟩
  have hb5 : Below w4.heap.size w4 W5 := by rw [← hW5]; exact ((Below.refl _ w4).alloc (Nat.le_refl _) _).alloc (by simp) _
  have hr5 : W5.heap[w4.heap.size]? = some (.cells #[.int .i64 1, .int .i64 2] 42 (0, 0)) := by rw [← hW5]; exact heap_old (heap_new rfl)
  have ht5 : W5.heap[w4.heap.size + 1]? = some (.cells #[.int .u16 1, .int .u16 1, .int .u16 1, .int .u16 4, .int .u16 1, .int .u16 1, .int .u16 (Go.bits .or .u16 2 32768), .int .u16 (Go.bits .or .u16 2 32768), .int .u16 2, .int .u16 6] 100 (0, 0)) := by rw [← hW5]; exact heap_new (by simp)
  rw [hW5]
  have hC5 : Kd.C k100 W5 (some ⟨w4.heap.size + 1, 0, none⟩) houseR.length houseR := pairs_C ht5 rfl (by decide)
  have f0 := cell_of hr5 (i := 0) rfl
  have f1 := cell_of hr5 (i := 1) rfl
  simp only [List.getElem_toArray, List.getElem_cons_zero, List.getElem_cons_succ] at f0 f1
  have HB5 := Lib.hid (below_then HB4.out (HB4.out.size) hb5)
  refine (palantypelaw02_told.calls 10 A2 c2 houseW (some ⟨w4.heap.size + 1, 0, none⟩) 5 houseR true W5 (Kd.C_below HC4.out hb5) hc2 hC5 (by decide) house_told).mono ?_
  rintro e w6 ⟨rfl, ⟨nd, rfl⟩⟩
  clear hb5 hr5 ht5 hC5 hW5
  go_wp2_with fail
  go_ret
  exact ⟨rfl, pw_below_drewN HB5.out nd⟩
end Go.Proofs.Ytdnjmhhjjbdieaa.Q
end
section
namespace Go.Proofs.Ytdnjmhhjjbdieaa.Q
open Go.RowKit Go.Shelf Go.Proofs.YtdnjmhhjjbdieaaW.PrintWords Go.Proofs.YtdnjmhhjjbdieaaW.PrintLast
set_option linter.unusedVariables false
theorem drawn_below {w w' : World} (h : Drawn0 w w') : Below w.heap.size w w' := by
  obtain ⟨n, rfl⟩ := h
  exact pw_below_drewN (Below.refl _ _) n
theorem agg5 {W : World} {b : Nat} {v0 v1 v2 v3 v4 : Value} {t : TypeId} (h : W.heap[b]? = some (.cells #[v0, v1, v2, v3, v4] t (0, 0))) :
    W.cell? ⟨b, 0, none⟩ = some v0 ∧ W.cell? ⟨b, 1, none⟩ = some v1 ∧ W.cell? ⟨b, 2, none⟩ = some v2 ∧ W.cell? ⟨b, 3, none⟩ = some v3 ∧ W.cell? ⟨b, 4, none⟩ = some v4 :=
  ⟨cell_of h (i := 0) rfl, cell_of h (i := 1) rfl, cell_of h (i := 2) rfl, cell_of h (i := 3) rfl, cell_of h (i := 4) rfl⟩
theorem blkBel {W W' : World} {b : Nat} {o : Obj} (h : W.heap[b]? = some o) (hb : Below W.heap.size W W') : W'.heap[b]? = some o := (hb.block b (Array.getElem?_eq_some_iff.1 h).1).trans h
theorem ready.W {a0 a1 a2 a3 : Int} {A : Option Addr} {c : Nat} {l : List RM} {b : Bool} (w : World) (hr : Kd.C k59 w A l.length l) (hc : l.length ≤ c) (h : Ev (fun k => palantypelaw02_ready.f k a0 a1 a2 a3 l) b) :
    Calls Try.prog 27 #[.agg #[.int .i64 a0, .int .i64 a1, .int .i64 a2, .int .i64 a3, .slice A l.length c]] w fun e w' => e = .returned (.bool b) ∧ Below w.heap.size w w' := by
  obtain ⟨k, hk⟩ := h.rounds
  exact palantypelaw02_ready.calls k a0 a1 a2 a3 A c l b w hr hc hk
theorem Scene.W {a0 a1 a2 a3 : Int} {A : Option Addr} {c : Nat} {l : List RM} {L : List FM} (hL : l.map mo = L) (w : World) (hr : Kd.C k59 w A l.length l) (hc : l.length ≤ c) (hl : l.length ≤ 35184372088831) :
    Calls Try.prog 19 #[.agg #[.int .i64 a0, .int .i64 a1, .int .i64 a2, .int .i64 a3, .slice A l.length c]] w fun e w' =>
      ∃ (A' : Option Addr) (c' : Nat), e = .returned (.agg #[.int .i64 a0, .int .i64 a1, .int .i64 a2, .int .i64 a3, .slice A' L.length c']) ∧ L.length ≤ c' ∧ Kd.C k52 w' A' L.length L ∧ Below w.heap.size w w' := by
  subst hL
  obtain ⟨k, hk⟩ := (Scene_ev a0 a1 a2 a3 l hl).rounds
  refine (palantypelaw02_Scene.calls k a0 a1 a2 a3 A c l _ _ _ _ _ w hr hc hk).mono ?_
  rintro e w' ⟨v, rfl, hR, hb⟩
  obtain ⟨A', c', rfl, h1, h2⟩ := Kd.R_reads hR
  exact ⟨A', c', rfl, h1, h2, hb⟩
theorem Who.W {a0 a1 a2 a3 : Int} {A : Option Addr} {c : Nat} {l : List FM} {r1 : List S54} {r2 : Int} (w : World) (hr : Kd.C k52 w A l.length l) (hc : l.length ≤ c) (h : floor_Who.f a0 a1 a2 a3 l = some (r1, r2)) :
    Calls Try.prog 18 #[.agg #[.int .i64 a0, .int .i64 a1, .int .i64 a2, .int .i64 a3, .slice A l.length c]] w fun e w' =>
      ∃ (A' : Option Addr) (c' : Nat), e = .returned (.tuple #[.slice A' r1.length c', .int .i64 r2]) ∧ r1.length ≤ c' ∧ Kd.C k54 w' A' r1.length r1 ∧ Below w.heap.size w w' := by
  refine (floor_Who.calls a0 a1 a2 a3 A c l r1 r2 w hr hc h).mono ?_
  rintro e w' ⟨v, rfl, hR, hb⟩
  obtain ⟨A', c', rfl, h1, h2⟩ := Kd.R_reads hR
  exact ⟨A', c', rfl, h1, h2, hb⟩
theorem Tell.W {a0 a1 a2 a3 : Int} {A : Option Addr} {c : Nat} {l : List FM} {r1 : List FP} {r2 : Int} (w : World) (hr : Kd.C k52 w A l.length l) (hc : l.length ≤ c) (h : floor_Tell.f a0 a1 a2 a3 l = some (r1, r2)) :
    Calls Try.prog 31 #[.agg #[.int .i64 a0, .int .i64 a1, .int .i64 a2, .int .i64 a3, .slice A l.length c]] w fun e w' =>
      ∃ (A' : Option Addr) (c' : Nat), e = .returned (.tuple #[.slice A' r1.length c', .int .i64 r2]) ∧ r1.length ≤ c' ∧ Kd.C k65 w' A' r1.length r1 ∧ Below w.heap.size w w' := by
  refine (floor_Tell.calls a0 a1 a2 a3 A c l r1 r2 w hr hc h).mono ?_
  rintro e w' ⟨v, rfl, hR, hb⟩
  obtain ⟨A', c', rfl, h1, h2⟩ := Kd.R_reads hR
  exact ⟨A', c', rfl, h1, h2, hb⟩
theorem rd65 {l : List FP} {i : Nat} (h : i < l.length) : rd_T65 l (i : Int) = l[i] := by simp [rd_T65, List.getD, h]
theorem rd54 {l : List S54} {i : Nat} (h : i < l.length) : rd_T54 l (i : Int) = l[i] := by simp [rd_T54, List.getD, h]
theorem rd52 {l : List FM} {i : Nat} (h : i < l.length) : rd_T52 l (i : Int) = l[i] := by simp [rd_T52, List.getD, h]
theorem telling_ev (t : List RP) (ht : t.length ≤ 1000000) : ∀ (d i : Nat) (acc : List FP), i + d = t.length → acc.length = i →
    Ev (fun k => palantypelaw02_Telling.l0 k t acc i) (acc ++ (t.drop i).map po)
  | 0, i, acc, h, ha => by
    refine Ev.step (f := fun k => some acc) (fun k => ?_) ?_
    · simp only [palantypelaw02_Telling.l0]; rw [if_neg (by omega)]
    · rw [List.drop_eq_nil_of_le (by omega)]; simp; exact Ev.now _
  | d + 1, i, acc, h, ha => by
    have hi : i < t.length := by omega
    refine Ev.step (f := fun k => palantypelaw02_Telling.l0 k t (acc ++ [po t[i]]) ((i + 1 : Nat) : Int)) (fun k => ?_) ?_
    · simp only [palantypelaw02_Telling.l0]
      rw [if_pos (by omega), if_pos (by omega), if_pos (by omega), wrap_id (by omega) (by omega), rd89 hi]
      rfl
    · have := telling_ev t ht d (i + 1) (acc ++ [po t[i]]) (by omega) (by simp [ha])
      rw [List.drop_eq_getElem_cons hi, List.map_cons]
      rwa [List.append_assoc, List.singleton_append] at this
theorem Telling.W {A : Option Addr} {c : Nat} {t : List RP} {T : List FP} (hT : t.map po = T) (w : World) (hr : Kd.C k89 w A t.length t) (hc : t.length ≤ c) (ht : t.length ≤ 1000000) :
    Calls Try.prog 42 #[.slice A t.length c] w fun e w' =>
      ∃ (A' : Option Addr) (c' : Nat), e = .returned (.slice A' T.length c') ∧ T.length ≤ c' ∧ Kd.C k65 w' A' T.length T ∧ Below w.heap.size w w' := by
  subst hT
  have he : Ev (fun k => palantypelaw02_Telling.f k t) (t.map po) := by
    have := telling_ev t ht t.length 0 [] (by omega) rfl
    simpa [palantypelaw02_Telling.f] using this
  obtain ⟨k, hk⟩ := he.rounds
  refine (palantypelaw02_Telling.calls k A c t _ w hr hc hk).mono ?_
  rintro e w' ⟨v, rfl, hR, hb⟩
  obtain ⟨A', c', rfl, h1, h2⟩ := Kd.R_reads hR
  exact ⟨A', c', rfl, h1, h2, hb⟩
theorem back_ev (t : List FP) (ht : t.length ≤ 1000000) : ∀ (d i : Nat) (acc : List RP), i + d = t.length → acc.length = i →
    Ev (fun k => palantypelaw02_Back.l0 k t acc i) (acc ++ (t.drop i).map op)
  | 0, i, acc, h, ha => by
    refine Ev.step (f := fun k => some acc) (fun k => ?_) ?_
    · simp only [palantypelaw02_Back.l0]; rw [if_neg (by omega)]
    · rw [List.drop_eq_nil_of_le (by omega)]; simp; exact Ev.now _
  | d + 1, i, acc, h, ha => by
    have hi : i < t.length := by omega
    refine Ev.step (f := fun k => palantypelaw02_Back.l0 k t (acc ++ [op t[i]]) ((i + 1 : Nat) : Int)) (fun k => ?_) ?_
    · simp only [palantypelaw02_Back.l0]
      rw [if_pos (by omega), if_pos (by omega), if_pos (by omega), wrap_id (by omega) (by omega), rd65 hi]
      rfl
    · have := back_ev t ht d (i + 1) (acc ++ [op t[i]]) (by omega) (by simp [ha])
      rw [List.drop_eq_getElem_cons hi, List.map_cons]
      rwa [List.append_assoc, List.singleton_append] at this
theorem Back_ev (t : List FP) (ht : t.length ≤ 1000000) : Ev (fun k => palantypelaw02_Back.f k t) (t.map op) := by
  have := back_ev t ht t.length 0 [] (by omega) rfl
  simpa [palantypelaw02_Back.f] using this
theorem Back.W {A : Option Addr} {c : Nat} {t : List FP} {T : List RP} (hT : t.map op = T) (w : World) (hr : Kd.C k65 w A t.length t) (hc : t.length ≤ c) (ht : t.length ≤ 1000000) :
    Calls Try.prog 43 #[.slice A t.length c] w fun e w' =>
      ∃ (A' : Option Addr) (c' : Nat), e = .returned (.slice A' T.length c') ∧ T.length ≤ c' ∧ Kd.C k89 w' A' T.length T ∧ Below w.heap.size w w' := by
  subst hT
  obtain ⟨k, hk⟩ := (Back_ev t ht).rounds
  refine (palantypelaw02_Back.calls k A c t _ w hr hc hk).mono ?_
  rintro e w' ⟨v, rfl, hR, hb⟩
  obtain ⟨A', c', rfl, h1, h2⟩ := Kd.R_reads hR
  exact ⟨A', c', rfl, h1, h2, hb⟩
theorem one.W (x : Int) (w : World) : Calls Try.prog 45 #[.int .u16 x] w fun e w' => e = .returned (.bool (oneB x)) ∧ Below w.heap.size w w' :=
  (palantypelaw02_one.calls x _ w (one_f x)).mono fun e w' ⟨h1, h2⟩ => ⟨h1, drawn_below h2⟩
theorem has.W (x : Int) {p : Int} (h1 : -1 ≤ p) (h2 : p ≤ 14) (w : World) : Calls Try.prog 32 #[.int .u16 x, .int .i64 p] w fun e w' => e = .returned (.bool (inSet x p)) ∧ Below w.heap.size w w' :=
  (palantyperef02_Has.calls x p _ w (has_at x h1 h2)).mono fun e w' ⟨h1, h2⟩ => ⟨h1, drawn_below h2⟩
theorem has.Q {x p : Int} {b : Bool} (h1 : -1 ≤ p) (h2 : p ≤ 14) (hb : inSet x p = b) (w : World) (n : Nat) : Calls Try.prog 32 #[.int .u16 x, .int .i64 p] (w.drewN n) fun e w' => e = .returned (.bool b) ∧ ∃ m, w' = w.drewN m := by
  subst hb
  refine Calls.quiet_of ((palantyperef02_Has.calls x p _ _ (has_at x h1 h2)).mono ?_)
  rintro e w' ⟨h1, m, h2⟩
  exact ⟨h1, m, h2⟩
theorem prove.W {a0 a1 a2 a3 : Int} {A : Option Addr} {c : Nat} {l : List FM} {A1 : Option Addr} {c1 : Nat} {t : List FP} {r : Bool} (w : World) (hr : Kd.C k52 w A l.length l) (hc : l.length ≤ c) (hr1 : Kd.C k65 w A1 t.length t) (hc1 : t.length ≤ c1) (h : floor_ProveTelling.f a0 a1 a2 a3 l t = some r) :
    Calls Try.prog 41 #[.agg #[.int .i64 a0, .int .i64 a1, .int .i64 a2, .int .i64 a3, .slice A l.length c], .slice A1 t.length c1] w fun e w' => e = .returned (.bool r) ∧ Below w.heap.size w w' :=
  floor_ProveTelling.calls a0 a1 a2 a3 A c l A1 c1 t r w hr hc hr1 hc1 h
theorem held.W {a0 a1 a2 a3 : Int} {A : Option Addr} {c : Nat} {l : List FM} {p r1 r2 r3 : Int} (w : World) (hr : Kd.C k52 w A l.length l) (hc : l.length ≤ c) (h : floor_Held.f a0 a1 a2 a3 l p = some (r1, r2, r3)) :
    Calls Try.prog 24 #[.agg #[.int .i64 a0, .int .i64 a1, .int .i64 a2, .int .i64 a3, .slice A l.length c], .int .i64 p] w fun e w' => e = .returned (.tuple #[.agg #[.int .i64 r1, .int .i64 r2], .int .i64 r3]) ∧ Below w.heap.size w w' :=
  floor_Held.calls a0 a1 a2 a3 A c l p r1 r2 r3 w hr hc h
theorem awake.W (w : World) : Calls Try.prog 17 #[] w fun e w' => e = .returned (.bool true) ∧ Below w.heap.size w w' := palantypelaw02_awake.calls true w rfl
theorem ready_cases {a0 a1 a2 a3 : Int} {l : List RM} (hm : ∀ y ∈ l, (Lit.int .u16 y.f0).wf = true ∧ (Lit.int .u16 y.f1).wf = true) :
    Ev (fun k => palantypelaw02_ready.f k a0 a1 a2 a3 l) false ∨ (Ev (fun k => palantypelaw02_ready.f k a0 a1 a2 a3 l) true ∧ ∃ n : Nat, a0 = n ∧ 1 ≤ n ∧ n ≤ 12 ∧ l.length ≤ 40 ∧ floor_Scene_check.f n a1 a2 a3 (l.map mo) = some 0 ∧ (1 ≤ a2 ∧ a2 ≤ 20) ∧ (1 ≤ a1 ∧ a1 ≤ a2) ∧ (0 ≤ a3 ∧ a3 ≤ 20)) := by
  obtain ⟨r, hck, hft⟩ := Fault_ev a0 a1 a2 a3 l (wf_moments hm)
  have he := ready_ev hft
  by_cases h0 : r = 0
  · subst h0
    obtain ⟨h1, ⟨n, rfl, h2, h2'⟩, h3, h4, h5, h6⟩ := check_ok hck
    rw [List.length_map] at h1
    rw [show (decide (l.length ≤ 45) && ((0 : Int) == 0)) = true by simp; omega] at he
    exact .inr ⟨he, n, rfl, h2, h2', h1, hck, h3, h4, h5⟩
  · rw [show (decide (l.length ≤ 45) && (r == 0)) = false by simp [h0]] at he
    exact .inl he
theorem gap_or {least most short : Int} {n : Nat} {l : List FM} : (∀ x, ¬ fwd least most short n l l.length x) ∨ ∃ x, fwd least most short n l l.length x := by
  rcases Classical.em (∃ x, fwd least most short n l l.length x) with h | h
  · exact .inr h
  · exact .inl (fun x hx => h ⟨x, hx⟩)
end Go.Proofs.Ytdnjmhhjjbdieaa.Q
end
