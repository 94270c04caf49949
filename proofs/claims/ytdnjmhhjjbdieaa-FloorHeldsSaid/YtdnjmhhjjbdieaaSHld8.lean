/- Texts of a proof, joined: see the last one. -/
import Derived.Test.YtdnjmhhjjbdieaaSHld1
import Derived.Test.YtdnjmhhjjbdieaaSHld6
import Derived.Test.YtdnjmhhjjbdieaaSHld7
import Derived.WalkMore
import Derived.Deep.QuietTactic
import Derived.BigQuiet
import Derived.Deep.LoopGhost
namespace Go.Proofs.YtdnjmhhjjbdieaaW.PrintLast
end Go.Proofs.YtdnjmhhjjbdieaaW.PrintLast
namespace Go.Proofs.YtdnjmhhjjbdieaaW.PrintWords
end Go.Proofs.YtdnjmhhjjbdieaaW.PrintWords
section
namespace Go.Proofs.Ytdnjmhhjjbdieaa.Q
open Go.RowKit Go.Shelf Go.Proofs.YtdnjmhhjjbdieaaW.PrintWords Go.Proofs.YtdnjmhhjjbdieaaW.PrintLast
set_option linter.unusedVariables false
set_option linter.unusedSimpArgs false
attribute [local go_sem] Oper.semAt_some
def partOk (least most short n : Int) (m : S52) (x : St) (p : S65) : Bool :=
  win p.f0 (-1) (n - 1) && win p.f1 (-1) (n - 1) && (stepF least most short x p.f0 p.f1).2 && inSet m.f0 p.f0 && inSet m.f1 p.f1
theorem Fr.drewN {X : Nat → Prop} (W : World) (n : Nat) : Fr X W (W.drewN n) := ⟨rfl, rfl, rfl, Nat.le_refl _, fun _ _ _ => rfl⟩
end Go.Proofs.Ytdnjmhhjjbdieaa.Q
end
section
namespace Go.Proofs.Ytdnjmhhjjbdieaa.Q
open Go.RowKit Go.Proofs.YtdnjmhhjjbdieaaW.PrintWords
set_option linter.unusedVariables false
abbrev RP := S89
abbrev FP := S65
abbrev RM := S59
abbrev FM := S52
def po (p : RP) : FP := ⟨p.f0, p.f1⟩
def op (p : FP) : RP := ⟨p.f0, p.f1⟩
def pathB (least most short n : Int) : List FM → List RP → St → Bool
  | _, [], _ => true
  | [], _ :: _, _ => false
  | m :: l, p :: t, x => partOk least most short n m x (po p) && pathB least most short n l t (stepF least most short x p.f0 p.f1).1
theorem rd89 {l : List RP} {i : Nat} (h : i < l.length) : rd_T89 l (i : Int) = l[i] := by simp [rd_T89, List.getD, h]
theorem begins_zero (t : List RP) : palantyperef02_begins.f t 0 = some true := by simp [palantyperef02_begins.f]
theorem begins_succ {t : List RP} {i : Nat} (h : i + 1 < t.length) (hb : t.length ≤ 1000000) : palantyperef02_begins.f t ((i + 1 : Nat) : Int) = some (t[i].f0 != t[i + 1].f0) := by
  unfold palantyperef02_begins.f
  rw [if_neg (by omega), wrap_id (by omega) (by omega), show ((i + 1 : Nat) : Int) - 1 = (i : Int) by omega, if_pos (by omega), if_pos (by omega), if_pos (by omega), if_pos (by omega), rd89 (by omega), rd89 h]
theorem ends_last {t : List RP} {i : Nat} (h : t.length ≤ i + 1) (hb : i ≤ 1000000) : palantyperef02_ends.f t (i : Int) = some false := by
  unfold palantyperef02_ends.f
  rw [wrap_id (by omega) (by omega), if_neg (by omega)]
theorem ends_at {t : List RP} {i : Nat} (h : i + 1 < t.length) (hb : t.length ≤ 1000000) : palantyperef02_ends.f t (i : Int) = some (t[i + 1].f0 != t[i].f0) := by
  unfold palantyperef02_ends.f
  rw [wrap_id (by omega) (by omega), if_pos (by omega), if_pos (by omega), if_pos (by omega), if_pos (by omega), show (i : Int) + 1 = ((i + 1 : Nat) : Int) by omega, rd89 h, rd89 (by omega)]
structure Cnt (t : List RP) (i : Nat) (turn sh : Int) (x : St) : Prop where
  zero : i = 0 → x = beginSt ∧ sh = 0
  prev : ∀ j, i = j + 1 → ∃ h : j < t.length, x.holder = t[j].f0 ∧ x.short = sh ∧ -1 ≤ t[j].f0 ∧ (0 ≤ t[j].f0 → x.turn = turn ∧ (x.own = true ↔ t[j].f1 = t[j].f0))
  t0 : 0 ≤ turn
  t1 : turn ≤ i
  s0 : 0 ≤ sh
  s1 : sh ≤ i
def Ended (least : Int) (t : List RP) (i : Nat) (x : St) : Prop := ∀ j, i = j + 1 → (h : j + 1 < t.length) → t[j].f0 ≠ t[j + 1].f0 → x.holder < 0 ∨ (least ≤ x.turn ∧ x.own = true)
theorem next_bad {least most short n : Int} {l : List FM} {t : List RP} {x : St} (ht : t ≠ []) (hd : ∀ p, t.head? = some p → p.f0 ≠ x.holder) (h0 : 0 ≤ x.holder) (hb : ¬ (least ≤ x.turn ∧ x.own = true)) : pathB least most short n l t x = false := by
  cases t with
  | nil => exact (ht rfl).elim
  | cons p t =>
    cases l with
    | nil => rfl
    | cons m l =>
      have hd := hd p rfl
      have : (stepF least most short x p.f0 p.f1).2 = false := by
        unfold stepF
        by_cases c : p.f0 = -1
        · rw [if_pos c]
          have e1 : decide (x.holder < 0) = false := by simp; omega
          have e2 : (decide (least ≤ x.turn) && x.own) = false := by
            cases ho : x.own
            · simp
            · have : ¬ least ≤ x.turn := fun h => hb ⟨h, ho⟩
              simp [this]
          simp only [e1, e2, Bool.or_false, Bool.false_and]
        · rw [if_neg c, if_neg hd]
          by_cases c2 : p.f1 ≠ p.f0
          · rw [if_pos c2]
          · have hq : x.turn < least ∨ x.own = false := by
              by_cases c3 : x.turn < least
              · exact .inl c3
              · refine .inr ?_
                cases ho : x.own
                · rfl
                · exact (hb ⟨by omega, ho⟩).elim
            rw [if_neg c2, if_pos ⟨h0, hq⟩]
      simp only [pathB, partOk, po, this, Bool.and_false, Bool.false_and]
theorem right_l0 (least most short : Int) (n : Nat) (hn : n ≤ 14) (hmost : 1 ≤ most) (hshort : 0 ≤ short) (l : List RM) (t : List RP) (ht : t.length ≤ 1000000) (hlen : t.length ≤ l.length) :
    ∀ (d i : Nat) (turn sh : Int) (x : St), i + d = t.length → Cnt t i turn sh x → Ended least t i x →
      Ev (fun k => palantyperef02_Right.l0 k t turn sh i n least most short l) (pathB least most short n ((l.drop i).map mo) (t.drop i) x)
  | 0, i, turn, sh, x, h, hc, he => by
    refine Ev.step (f := fun k => some true) (fun k => ?_) ?_
    · simp only [palantyperef02_Right.l0]; rw [if_neg (by omega)]
    · rw [show t.drop i = [] from List.drop_eq_nil_of_le (by omega)]
      have : pathB least most short n ((l.drop i).map mo) [] x = true := by cases h : (l.drop i).map mo <;> rfl
      rw [this]; exact Ev.now _
  | d + 1, i, turn, sh, x, h, hc, he => by
    have hi : i < t.length := by omega
    have hil : i < l.length := by omega
    obtain ⟨p, hp⟩ : ∃ p, t[i] = p := ⟨_, rfl⟩
    rw [List.drop_eq_getElem_cons hi, List.drop_eq_getElem_cons hil, List.map_cons, hp]
    simp only [pathB]
    have bad1 : ∀ (u v : Int) (a b : Int), Ev (fun k => palantyperef02_Right.j1 k t u v i true n least most short l a b) false := fun u v a b => Ev.step (f := fun k => some false) (fun k => by simp [palantyperef02_Right.j1]) (Ev.now _)
    suffices hmain : partOk least most short n (mo l[i]) x (po p) = (win p.f0 (-1) ((n : Int) - 1) && win p.f1 (-1) ((n : Int) - 1) && inSet l[i].f0 p.f0 && inSet l[i].f1 p.f1 && (stepF least most short x p.f0 p.f1).2) ∧
        (win p.f0 (-1) ((n : Int) - 1) = true → win p.f1 (-1) ((n : Int) - 1) = true → Ev (fun k => palantyperef02_Right.j1 k t turn sh i false n least most short l p.f0 p.f1)
          ((stepF least most short x p.f0 p.f1).2 && pathB least most short n ((l.drop (i + 1)).map mo) (t.drop (i + 1)) (stepF least most short x p.f0 p.f1).1)) by
      obtain ⟨e, hj⟩ := hmain
      rw [e]
      refine Ev.step (f := fun k => if win p.f0 (-1) ((n : Int) - 1) = true then (if win p.f1 (-1) ((n : Int) - 1) = true then ((palantyperef02_Has.f l[i].f0 p.f0).bind fun t170 => if t170 = true then ((palantyperef02_Has.f l[i].f1 p.f1).bind fun t172 => palantyperef02_Right.j1 k t turn sh i (!t172) n least most short l p.f0 p.f1) else palantyperef02_Right.j1 k t turn sh i true n least most short l p.f0 p.f1) else palantyperef02_Right.j1 k t turn sh i true n least most short l p.f0 p.f1) else palantyperef02_Right.j1 k t turn sh i true n least most short l p.f0 p.f1) (fun k => ?_) ?_
      · simp only [palantyperef02_Right.l0]
        rw [if_pos (by omega), if_pos (by omega), rd89 hi, rd59 hil, hp, wrap_id (by omega) (by omega), in_at, in_at, if_pos (by omega : (i : Int) < (l.length : Int))]
        simp only [Option.bind_some]
      · cases w0 : win p.f0 (-1) ((n : Int) - 1) with
        | false => exact Ev.congr (fun k => if_neg (by simp)) (by simpa using bad1 turn sh p.f0 p.f1)
        | true =>
          cases w1 : win p.f1 (-1) ((n : Int) - 1) with
          | false => exact Ev.congr (fun k => by rw [if_pos rfl, if_neg (by simp)]) (by simpa using bad1 turn sh p.f0 p.f1)
          | true =>
            have r0 : -1 ≤ p.f0 ∧ p.f0 ≤ (n : Int) - 1 := by simpa [win] using w0
            have r1 : -1 ≤ p.f1 ∧ p.f1 ≤ (n : Int) - 1 := by simpa [win] using w1
            rw [has_at _ (by omega) (by omega), has_at _ (by omega) (by omega)]
            cases s0 : inSet l[i].f0 p.f0 with
            | false => exact Ev.congr (fun k => by rw [if_pos rfl, if_pos rfl]; try rfl) (by simpa using bad1 turn sh p.f0 p.f1)
            | true =>
              cases s1 : inSet l[i].f1 p.f1 with
              | false => exact Ev.congr (fun k => by rw [if_pos rfl, if_pos rfl]; try rfl) (by simpa using bad1 turn sh p.f0 p.f1)
              | true => exact Ev.congr (fun k => by rw [if_pos rfl, if_pos rfl]; try rfl) (by simpa using hj w0 w1)
    refine ⟨?_, fun w0 w1 => ?_⟩
    · unfold partOk
      simp only [po, mo]
      cases win p.f0 (-1) ((n : Int) - 1) <;> cases win p.f1 (-1) ((n : Int) - 1) <;> cases (stepF least most short x p.f0 p.f1).2 <;> cases inSet l[i].f0 p.f0 <;> cases inSet l[i].f1 p.f1 <;> rfl
    have r0 : -1 ≤ p.f0 ∧ p.f0 ≤ (n : Int) - 1 := by simpa [win] using w0
    have r1 : -1 ≤ p.f1 ∧ p.f1 ≤ (n : Int) - 1 := by simpa [win] using w1
    have bad2 : ∀ (u v : Int) (a b : Int), Ev (fun k => palantyperef02_Right.j2 k t u v i true n least most short l a b) false := fun u v a b => Ev.step (f := fun k => some false) (fun k => by simp [palantyperef02_Right.j2]) (Ev.now _)
    have ht0 := hc.t0
    have ht1 := hc.t1
    have hs0 := hc.s0
    have hs1 := hc.s1
    obtain ⟨bg, hbg, hbx⟩ : ∃ bg, palantyperef02_begins.f t i = some bg ∧ (bg = true ↔ p.f0 ≠ x.holder) := by
      rcases i with _ | j
      · refine ⟨true, begins_zero t, ?_⟩
        rw [(hc.zero rfl).1]
        have : p.f0 ≠ beginSt.holder := by show p.f0 ≠ -2; omega
        simp [this]
      · obtain ⟨hj, hh, _⟩ := hc.prev j rfl
        refine ⟨_, begins_succ hi ht, ?_⟩
        rw [hp, hh, bne_iff_ne]
        exact ⟨fun h e => h e.symm, fun h e => h e.symm⟩
    obtain ⟨en, hen, hex⟩ : ∃ en, palantyperef02_ends.f t i = some en ∧ (en = true ↔ ∃ h : i + 1 < t.length, t[i + 1].f0 ≠ p.f0) := by
      by_cases hl : i + 1 < t.length
      · refine ⟨_, ends_at hl ht, ?_⟩
        rw [hp, bne_iff_ne]
        exact ⟨fun h => ⟨hl, h⟩, fun ⟨_, h⟩ => h⟩
      · exact ⟨false, ends_last (by omega) (by omega), by simp; intro h; omega⟩
    have hend : p.f0 ≠ x.holder → x.holder < 0 ∨ (least ≤ x.turn ∧ x.own = true) := fun hne => by
      rcases i with _ | j
      · left; rw [(hc.zero rfl).1]; show (-2 : Int) < 0; omega
      · obtain ⟨hj, hh, _⟩ := hc.prev j rfl
        exact he j rfl hi (by rw [hp, ← hh]; exact fun e => hne e.symm)
    have hshx : x.short = sh := by
      rcases i with _ | j
      · rw [(hc.zero rfl).1, (hc.zero rfl).2]; rfl
      · obtain ⟨_, _, hh, _⟩ := hc.prev j rfl
        exact hh
    have hi1 : ((i + 1 : Nat) : Int) = (i : Int) + 1 := by omega
    by_cases hneg : p.f0 < 0
    · have hm1 : p.f0 = -1 := by omega
      have hs2 : (stepF least most short x p.f0 p.f1).2 = decide (p.f1 = -1) := by
        unfold stepF
        rw [if_pos hm1]
        have : (decide (x.holder < 0) || (decide (least ≤ x.turn) && x.own)) = true := by
          by_cases e : p.f0 = x.holder
          · have : x.holder < 0 := by omega
            simp [this]
          · rcases hend e with h | ⟨h1, h2⟩
            · simp [h]
            · simp [h1, h2]
        rw [this, Bool.true_and]
      by_cases hv : p.f1 ≥ 0
      · rw [hs2]
        have : decide (p.f1 = -1) = false := by simp; omega
        rw [this, Bool.false_and]
        refine Ev.step (f := fun k => palantyperef02_Right.j2 k t turn sh i true n least most short l p.f0 p.f1) (fun k => ?_) (bad2 turn sh p.f0 p.f1)
        simp only [palantyperef02_Right.j1]
        rw [if_neg (by simp), if_pos hneg, decide_eq_true hv]
      · have hv1 : p.f1 = -1 := by omega
        rw [hs2, decide_eq_true hv1, Bool.true_and]
        have hst : (stepF least most short x p.f0 p.f1).1 = ⟨-1, 0, 0, false⟩ := by unfold stepF; rw [if_pos hm1]
        rw [hst]
        have next : ∀ tn : Int, 0 ≤ tn → tn ≤ i → Ev (fun k => palantyperef02_Right.j3 k t tn sh i n least most short l p.f0 p.f1) (pathB least most short n ((l.drop (i + 1)).map mo) (t.drop (i + 1)) ⟨-1, 0, 0, false⟩) := fun tn h1 h2 => by
          refine Ev.step (f := fun k => palantyperef02_Right.j4 k t (tn + 1) 0 i n least most short l p.f0 p.f1) (fun k => ?_) ?_
          · simp only [palantyperef02_Right.j3, palantyperef02_breaksIn.f]
            rw [if_neg hv, wrap_id (by omega) (by omega)]
            rfl
          refine Ev.step (f := fun k => palantyperef02_Right.l0 k t (tn + 1) 0 (i + 1 : Nat) n least most short l) (fun k => ?_) ?_
          · simp only [palantyperef02_Right.j4]
            rw [if_neg (by omega), if_pos hneg, wrap_id (by omega) (by omega), hi1]
          · refine right_l0 least most short n hn hmost hshort l t ht hlen d (i + 1) (tn + 1) 0 _ (by omega) ⟨fun h => by omega, fun j hj => ?_, by omega, by omega, by omega, by omega⟩ (fun j hj hjl hne => .inl (by show (-1 : Int) < 0; omega))
            obtain rfl : i = j := by omega
            exact ⟨hi, by rw [hp]; exact hm1.symm, rfl, by rw [hp]; omega, fun h => by rw [hp] at h; omega⟩
        refine Ev.step (f := fun k => palantyperef02_Right.j2 k t turn sh i false n least most short l p.f0 p.f1) (fun k => ?_) ?_
        · simp only [palantyperef02_Right.j1]
          rw [if_neg (by simp), if_pos hneg, decide_eq_false hv]
        refine Ev.step (f := fun k => if bg = true then palantyperef02_Right.j3 k t 0 sh i n least most short l p.f0 p.f1 else palantyperef02_Right.j3 k t turn sh i n least most short l p.f0 p.f1) (fun k => ?_) ?_
        · simp only [palantyperef02_Right.j2]
          rw [if_neg (by simp), hbg]
          rfl
        · cases bg
          · exact Ev.congr (fun k => if_neg (by simp)) (next turn ht0 ht1)
          · exact Ev.congr (fun k => if_pos rfl) (next 0 (by omega) (by omega))
    ·
      obtain ⟨tn, htn⟩ : ∃ tn, (if bg = true then 0 else turn) = tn := ⟨_, rfl⟩
      obtain ⟨sh', hsh'⟩ : ∃ s, (if p.f1 ≠ -1 ∧ p.f1 ≠ p.f0 then x.short + 1 else 0) = s := ⟨_, rfl⟩
      have htn0 : 0 ≤ tn ∧ tn ≤ i := by rw [← htn]; split <;> omega
      have hsh0 : 0 ≤ sh' ∧ sh' ≤ (i : Int) + 1 := by rw [← hsh']; split <;> omega
      have hstep : stepF least most short x p.f0 p.f1 = if bg = true ∧ p.f1 ≠ p.f0 then (⟨0, 0, 0, false⟩, false) else (⟨p.f0, tn + 1, sh', p.f1 == p.f0⟩, decide (tn + 1 ≤ most) && decide (sh' ≤ short)) := by
        have hstO : ∀ tt, stepOut most short x p.f0 p.f1 tt = (⟨p.f0, tt, sh', p.f1 == p.f0⟩, decide (tt ≤ most) && decide (sh' ≤ short)) := fun tt => by unfold stepOut; rw [hsh']
        unfold stepF
        rw [if_neg (by omega)]
        by_cases e : p.f0 = x.holder
        · have hb : bg = false := by cases bg with | false => rfl | true => exact ((hbx.1 rfl) e).elim
          rw [if_pos e, hstO]
          subst hb
          have : x.turn = turn := by
            rcases i with _ | j
            · rw [(hc.zero rfl).1] at e; exact absurd e (by show p.f0 ≠ -2; omega)
            · obtain ⟨_, hh, _, _, h5⟩ := hc.prev j rfl
              exact (h5 (by omega)).1
          rw [if_neg (by simp), this, ← htn, if_neg (by simp)]
        · have hb : bg = true := hbx.2 e
          subst hb
          rw [if_neg e]
          have ht0' : tn = 0 := by rw [← htn, if_pos rfl]
          by_cases ev : p.f1 ≠ p.f0
          · rw [if_pos ev, if_pos ⟨rfl, ev⟩]
          · have hnot : ¬ (0 ≤ x.holder ∧ (x.turn < least ∨ x.own = false)) := by
              rintro ⟨h1, h2⟩
              rcases hend e with h | ⟨h3, h4⟩
              · omega
              · rcases h2 with h2 | h2
                · omega
                · rw [h4] at h2; cases h2
            have hnot2 : ¬ (true = true ∧ p.f1 ≠ p.f0) := fun h => ev h.2
            rw [if_neg ev, if_neg hnot, hstO, ht0', if_neg hnot2]
            rfl
      have hnb : ∀ y : St, y.holder = p.f0 → en = true → ¬ (least ≤ y.turn ∧ y.own = true) → pathB least most short n ((l.drop (i + 1)).map mo) (t.drop (i + 1)) y = false := fun y hy he2 hb => by
        obtain ⟨hl1, hne⟩ := hex.1 he2
        have hne0 : t.drop (i + 1) ≠ [] := fun h => by rw [List.drop_eq_getElem_cons hl1] at h; cases h
        refine next_bad hne0 (fun q hq => ?_) (by omega) hb
        have hq' : t[i + 1] = q := by
          have h1 : (t.drop (i + 1)).head? = some t[i + 1] := by rw [List.drop_eq_getElem_cons hl1]; rfl
          exact Option.some.inj (h1.symm.trans hq)
        rw [← hq', hy]; exact hne
      have next : ¬ (bg = true ∧ p.f1 ≠ p.f0) → tn + 1 ≤ most → sh' ≤ short → (en = true → least ≤ tn + 1 ∧ p.f1 = p.f0) → Ev (fun k => palantyperef02_Right.l0 k t (tn + 1) sh' (wrap64 (i + 1)) n least most short l)
          ((stepF least most short x p.f0 p.f1).2 && pathB least most short n ((l.drop (i + 1)).map mo) (t.drop (i + 1)) (stepF least most short x p.f0 p.f1).1) := fun h1 h2 h3 h4 => by
        rw [hstep, if_neg h1]
        simp only [decide_eq_true h2, decide_eq_true h3, Bool.and_self, Bool.true_and]
        rw [wrap_id (by omega) (by omega), ← hi1]
        refine right_l0 least most short n hn hmost hshort l t ht hlen d (i + 1) (tn + 1) sh' _ (by omega) ⟨fun h => by omega, fun j hj => ?_, by omega, by omega, by omega, by omega⟩ (fun j hj hjl hne => ?_)
        · obtain rfl : i = j := by omega
          exact ⟨hi, by rw [hp], rfl, by rw [hp]; omega, fun h => ⟨rfl, by rw [hp]; simp⟩⟩
        · obtain rfl : i = j := by omega
          rw [hp] at hne
          obtain ⟨h5, h6⟩ := h4 (hex.2 ⟨hjl, fun e => hne e.symm⟩)
          exact .inr ⟨h5, by simpa using h6⟩
      have no : ∀ {b : Bool}, b = false → Ev (fun _ : Nat => some false) b := fun h => by rw [h]; exact Ev.now _
      have V : (stepF least most short x p.f0 p.f1).2 = false ∨ (en = true ∧ ¬ (bg = true ∧ p.f1 ≠ p.f0) ∧ ¬ (least ≤ tn + 1 ∧ p.f1 = p.f0)) → ((stepF least most short x p.f0 p.f1).2 && pathB least most short n ((l.drop (i + 1)).map mo) (t.drop (i + 1)) (stepF least most short x p.f0 p.f1).1) = false := fun h => by
        rcases h with h | ⟨h1, h2, h3⟩
        · rw [h, Bool.false_and]
        · rw [hstep, if_neg h2]
          rw [hnb _ rfl h1 (by simpa using h3), Bool.and_false]
      refine Ev.step (f := fun k => palantyperef02_Right.j2 k t turn sh i false n least most short l p.f0 p.f1) (fun k => ?_) ?_
      · simp only [palantyperef02_Right.j1]
        rw [if_neg (by simp), if_neg hneg]
      refine Ev.step (f := fun k => palantyperef02_Right.j3 k t tn sh i n least most short l p.f0 p.f1) (fun k => ?_) ?_
      · simp only [palantyperef02_Right.j2]
        rw [if_neg (by simp), hbg, ← htn]
        cases bg <;> rfl
      refine Ev.step (f := fun k => palantyperef02_Right.j4 k t (tn + 1) sh' i n least most short l p.f0 p.f1) (fun k => ?_) ?_
      · simp only [palantyperef02_Right.j3, palantyperef02_breaksIn.f]
        rw [wrap_id (n := tn + 1) (by omega) (by omega), wrap_id (n := sh + 1) (by omega) (by omega), ← hsh', hshx]
        by_cases hv : p.f1 ≥ 0
        · rw [if_pos hv]
          by_cases e : p.f1 = p.f0
          · simp [e]
          · have e1 : (p.f1 != p.f0) = true := by simpa using e
            rw [if_pos ⟨by omega, e⟩]
            simp [e1]
        · rw [if_neg hv, if_neg (fun h => h.1 (by omega))]
          rfl
      refine Ev.step (f := fun k => if sh' > short then some false else if tn + 1 > most then some false else (palantyperef02_Right.j4 (k + 1) t (tn + 1) sh' i n least most short l p.f0 p.f1)) (fun k => ?_) ?_
      · simp only [palantyperef02_Right.j4]
        rw [if_neg hneg]
        by_cases c1 : sh' > short
        · rw [if_pos c1, if_pos c1]
        · rw [if_neg c1, if_neg c1]
          by_cases c2 : tn + 1 > most
          · rw [if_pos c2, if_pos c2]
          · rw [if_neg c2, if_neg c2]
      by_cases c1 : sh' > short
      · refine Ev.congr (fun k => if_pos c1) (no (V (.inl ?_)))
        rw [hstep]
        split
        · rfl
        · simp only []; have : decide (sh' ≤ short) = false := by simp; omega
          rw [this, Bool.and_false]
      by_cases c2 : tn + 1 > most
      · refine Ev.congr (fun k => by rw [if_neg c1, if_pos c2]) (no (V (.inl ?_)))
        rw [hstep]
        split
        · rfl
        · simp only []; have : decide (tn + 1 ≤ most) = false := by simp; omega
          rw [this, Bool.false_and]
      refine Ev.congr (fun k => by rw [if_neg c1, if_neg c2]) ?_
      have hj4 : ∀ k, palantyperef02_Right.j4 (k + 1) t (tn + 1) sh' i n least most short l p.f0 p.f1 =
          if en = true then (if tn + 1 < least then some false else (if bg = true then (if p.f1 = p.f0 then palantyperef02_Right.l0 k t (tn + 1) sh' (wrap64 (i + 1)) n least most short l else some false) else (if p.f1 = p.f0 then palantyperef02_Right.l0 k t (tn + 1) sh' (wrap64 (i + 1)) n least most short l else some false)))
          else (if bg = true then (if p.f1 = p.f0 then palantyperef02_Right.l0 k t (tn + 1) sh' (wrap64 (i + 1)) n least most short l else some false) else palantyperef02_Right.l0 k t (tn + 1) sh' (wrap64 (i + 1)) n least most short l) := fun k => by
        simp only [palantyperef02_Right.j4]
        rw [if_neg c1, if_neg hneg, if_neg c2, hen, hbg]
        simp only [Option.bind_some]
        cases en <;> simp
      have sb : bg = true → p.f1 ≠ p.f0 → (stepF least most short x p.f0 p.f1).2 = false := fun h1 h2 => by rw [hstep, if_pos ⟨h1, h2⟩]
      cases hE : en with
      | true =>
        subst hE
        by_cases c3 : tn + 1 < least
        · by_cases hb : bg = true ∧ p.f1 ≠ p.f0
          · exact Ev.congr (fun k => by rw [hj4, if_pos rfl, if_pos c3]) (no (V (.inl (sb hb.1 hb.2))))
          · exact Ev.congr (fun k => by rw [hj4, if_pos rfl, if_pos c3]) (no (V (.inr ⟨rfl, hb, fun h => by omega⟩)))
        · by_cases ev : p.f1 = p.f0
          · refine Ev.congr (fun k => ?_) (next (fun h => h.2 ev) (by omega) (by omega) (fun _ => ⟨by omega, ev⟩))
            rw [hj4, if_pos rfl, if_neg c3, if_pos ev]; cases bg <;> rfl
          · by_cases hb : bg = true
            · exact Ev.congr (fun k => by rw [hj4, if_pos rfl, if_neg c3, if_pos hb, if_neg ev]) (no (V (.inl (sb hb ev))))
            · exact Ev.congr (fun k => by rw [hj4, if_pos rfl, if_neg c3, if_neg hb, if_neg ev]) (no (V (.inr ⟨rfl, fun h => hb h.1, fun h => ev h.2⟩)))
      | false =>
        subst hE
        by_cases hb : bg = true
        · by_cases ev : p.f1 = p.f0
          · exact Ev.congr (fun k => by rw [hj4, if_neg (by simp), if_pos hb, if_pos ev]) (next (fun h => h.2 ev) (by omega) (by omega) (fun h => by cases h))
          · exact Ev.congr (fun k => by rw [hj4, if_neg (by simp), if_pos hb, if_neg ev]) (no (V (.inl (sb hb ev))))
        · exact Ev.congr (fun k => by rw [hj4, if_neg (by simp), if_neg hb]) (next (fun h => hb h.1) (by omega) (by omega) (fun h => by cases h))
theorem Right_ev (least most short : Int) (n : Nat) (hn : n ≤ 14) (hmost : 1 ≤ most) (hshort : 0 ≤ short) (l : List RM) (t : List RP) (ht : t.length ≤ 1000000) (hlen : t.length ≤ l.length) :
    Ev (fun k => palantyperef02_Right.f k n least most short l t) (pathB least most short n (l.map mo) t beginSt) := by
  have := right_l0 least most short n hn hmost hshort l t ht hlen t.length 0 0 0 beginSt (by omega) ⟨fun _ => ⟨rfl, rfl⟩, fun j hj => by omega, by omega, by omega, by omega, by omega⟩ (fun j hj => by omega)
  simpa [palantyperef02_Right.f] using this
end Go.Proofs.Ytdnjmhhjjbdieaa.Q
end
section
namespace Go.Proofs.YtdnjmhhjjbdieaaW.PrintWords
open Go.RowKit
namespace Kd
def tag {α : Type} (f : Nat → Nat) (d : Kd α) : Kd (α × Nat) where
  sz := d.sz
  E := d.E
  K := fun w x cs => d.K w x.1 cs
  M := fun w base ok x cs => d.M w base (fun k => ok k ∧ f k = x.2) x.1 cs
  K_len := fun h => d.K_len h
  K_one := fun h => d.K_one h
  K_below := fun hb h => d.K_below hb h
  K_of_M := fun h => d.K_of_M h
  M_mono := fun hok h => d.M_mono (fun k hk => ⟨hok k hk.1, hk.2⟩) h
  M_bound := fun h => d.M_mono (fun _ hk => ⟨⟨hk.1.1, hk.2⟩, hk.1.2⟩) (d.M_bound h)
  M_move := fun hm h => d.M_move (fun k hk => hm k hk.1) h
  M_lower := fun hb h => d.M_lower hb h
def raw (sz : Nat) : Kd (List Value) where
  sz := sz
  E := []
  K := fun _ x cs => cs = x ∧ cs.length = sz ∧ ∀ u ∈ cs, u.oneCell' = true
  M := fun _ _ _ x cs => cs = x ∧ cs.length = sz ∧ ∀ u ∈ cs, u.oneCell' = true
  K_len := fun h => h.2.1
  K_one := fun h => h.2.2
  K_below := fun _ h => h
  K_of_M := fun h => h
  M_mono := fun _ h => h
  M_bound := fun h => h
  M_move := fun _ h => h
  M_lower := fun _ h => h
def S {α : Type} (d : Kd α) (e : Nat) (w : World) (base : Nat) (ok : Nat → Prop) (v : Value) (xs : List α) : Prop := ∃ f, (tag f d).R e w base ok v xs.zipIdx
section
variable {α β : Type} {d : Kd α} {d' : Kd β} {e e' : Nat} {w w1 W : World} {base b : Nat} {ok ok' okv oku : Nat → Prop} {u v : Value} {xs : List α} {ys : List β}
theorem R_tight (hE : d.E = []) (h : d.R e w base ok v xs) : d.R e w base (fun k => some k = v.ownBlock) v xs := by
  obtain ⟨h0, inner, ho, hr⟩ := h
  refine ⟨fun k hk => hk.symm, inner, ho, hr.imp_ (fun p c hp => d.M_mono (fun k hk => ?_) (d.M_bound hp))⟩
  obtain ⟨_, _, _, q, hq, _⟩ := hk
  rw [hE] at hq
  cases hq
theorem S_nil (d : Kd α) (e : Nat) (w : World) (base : Nat) (ok : Nat → Prop) : S d e w base ok (.slice none 0 0) [] := ⟨fun _ => 0, R_nil _ _ _ _ _⟩
end
def gap {α : Type} (f : Nat → Nat) (d : Kd α) (i : Nat) (c : List Value) : Kd (α × Nat) where
  sz := d.sz
  E := d.E
  K := fun w x cs => (x.2 = i → cs = c ∧ cs.length = d.sz ∧ ∀ u ∈ cs, u.oneCell' = true) ∧ (x.2 ≠ i → d.K w x.1 cs)
  M := fun w base ok x cs => (x.2 = i → cs = c ∧ cs.length = d.sz ∧ ∀ u ∈ cs, u.oneCell' = true) ∧ (x.2 ≠ i → d.M w base (fun k => ok k ∧ f k = x.2) x.1 cs)
  K_len := fun {w x cs} h => by
    by_cases hx : x.2 = i
    · exact (h.1 hx).2.1
    · exact d.K_len (h.2 hx)
  K_one := fun {w x cs} h => by
    by_cases hx : x.2 = i
    · exact (h.1 hx).2.2
    · exact d.K_one (h.2 hx)
  K_below := fun hb h => ⟨h.1, fun hx => d.K_below hb (h.2 hx)⟩
  K_of_M := fun h => ⟨h.1, fun hx => d.K_of_M (h.2 hx)⟩
  M_mono := fun hok h => ⟨h.1, fun hx => d.M_mono (fun k hk => ⟨hok k hk.1, hk.2⟩) (h.2 hx)⟩
  M_bound := fun h => ⟨h.1, fun hx => d.M_mono (fun _ hk => ⟨⟨hk.1.1, hk.2⟩, hk.1.2⟩) (d.M_bound (h.2 hx))⟩
  M_move := fun hm h => ⟨h.1, fun hx => d.M_move (fun k hk => hm k hk.1) (h.2 hx)⟩
  M_lower := fun hb h => ⟨h.1, fun hx => d.M_lower hb (h.2 hx)⟩
def H {α : Type} (d : Kd α) (e : Nat) (w : World) (base : Nat) (ok : Nat → Prop) (v : Value) (xs : List α) (i : Int) (oki : Nat → Prop) (c : List Value) : Prop :=
  (∀ k, oki k → ok k) ∧ ∃ f, (gap f d i.toNat c).R e w base (fun k => ok k ∧ ¬ oki k) v xs.zipIdx
end Kd
end Go.Proofs.YtdnjmhhjjbdieaaW.PrintWords
end
section
namespace Go.Proofs.YtdnjmhhjjbdieaaW.PrintWords
open Go.RowKit
def Foot (P : World → Prop) (W : World) (ok : Nat → Prop) : Prop := ∀ W' : World, (∀ k, ok k → k < W.heap.size → W'.heap[k]? = W.heap[k]?) → P W'
theorem heap_lt {W W1 : World} {k : Nat} (h : W1.heap[k]? = W.heap[k]?) (hlt : k < W.heap.size) : k < W1.heap.size := by
  rw [Array.getElem?_eq_getElem hlt] at h
  exact (Array.getElem?_eq_some_iff.1 h).1
namespace Foot
variable {P Q : World → Prop} {W W1 : World} {ok ok' : Nat → Prop}
theorem now (h : Foot P W ok) : P W := h W (fun _ _ _ => rfl)
theorem mono (h : Foot P W ok) (hok : ∀ k, ok k → ok' k) : Foot P W ok' := fun W' hW => h W' (fun k hk hlt => hW k (hok k hk) hlt)
theorem bound (h : Foot P W ok) : Foot P W (fun k => ok k ∧ k < W.heap.size) := fun W' hW => h W' (fun k hk hlt => hW k ⟨hk, hlt⟩ hlt)
theorem step (h : Foot P W ok) (hm : ∀ k, ok k → k < W.heap.size → W1.heap[k]? = W.heap[k]?) : Foot P W1 ok := fun W' hW => h W' (fun k hk hlt => (hW k hk (heap_lt (hm k hk hlt) hlt)).trans (hm k hk hlt))
end Foot
namespace Kd
def F {α : Type} (d : Kd α) (W : World) (ok : Nat → Prop) (A : Option Addr) (n : Nat) (xs : List α) : Prop := Foot (fun W => d.C W A n xs) W ok
def FK {α : Type} (d : Kd α) (W : World) (ok : Nat → Prop) (x : α) (c : List Value) : Prop := Foot (fun W => d.K W x c) W ok
section
variable {α β : Type} {d : Kd α} {e base n n' cc g N : Nat} {ok ok' okp S : Nat → Prop} {w w0 w1 W W1 : World} {A A' : Option Addr} {u v v1 : Value} {xs : List α} {xs' : List β} {d' : Kd β} {x : α} {c : List Value}
theorem F_now (h : F d W ok A n xs) : d.C W A n xs := Foot.now h
theorem F_nil (d : Kd α) (W : World) (ok : Nat → Prop) : F d W ok none ([] : List α).length [] := fun W' _ => C_nil d W'
theorem R_F (h : d.R e W base ok (.slice A n cc) xs) : F d W ok A n xs := fun W' hW => by
  have h2 := R_reads' (R_step h hW)
  rw [h2.1]
  exact h2.2.2
theorem FK_now (h : FK d W ok x c) : d.K W x c := Foot.now h
theorem FK_mono (h : FK d W ok x c) (hok : ∀ k, ok k → ok' k) : FK d W ok' x c := Foot.mono h hok
theorem FK_bound (h : FK d W ok x c) : FK d W (fun k => ok k ∧ k < W.heap.size) x c := Foot.bound h
theorem FK_step (h : FK d W ok x c) (hm : ∀ k, ok k → k < W.heap.size → W1.heap[k]? = W.heap[k]?) : FK d W1 ok x c := Foot.step h hm
theorem FK_of_M (h : d.M W base ok x c) : FK d W ok x c := fun _ hW => d.K_of_M (M_step h hW)
theorem emptied (W : World) (g : Nat) : ∃ W' : World, (∀ k, k ≠ g → W'.heap[k]? = W.heap[k]?) ∧ ∀ a : Addr, a.block = g → W'.cell? a = none := by
  refine ⟨{ W with heap := W.heap.setIfInBounds g (.cells #[] 0) }, fun k hk => by simp [Ne.symm hk], fun a ha => ?_⟩
  subst ha
  by_cases hlt : a.block < W.heap.size
  · simp [World.cell?, hlt]
  · simp [World.cell?, hlt]
end
end Kd
end Go.Proofs.YtdnjmhhjjbdieaaW.PrintWords
end
section
namespace Go.Proofs.YtdnjmhhjjbdieaaW.PrintWords
open Go.RowKit
namespace Kd
def chunks (sz : Nat) (n : Nat) (inner : List Value) : List (List Value) := (List.range n).map fun j => (inner.drop (j * sz)).take sz
theorem chunks_length (sz n : Nat) (inner : List Value) : (chunks sz n inner).length = n := by simp [chunks]
theorem chunks_at {sz n : Nat} {inner : List Value} {j : Nat} (hj : j < n) : (chunks sz n inner)[j]? = some ((inner.drop (j * sz)).take sz) := by simp [chunks, hj]
theorem chunks_get {sz n : Nat} {inner : List Value} {j : Nat} {c : List Value} (h : (chunks sz n inner)[j]? = some c) : c = (inner.drop (j * sz)).take sz := by
  have hj : j < n := by have := (List.getElem?_eq_some_iff.1 h).1; rwa [chunks_length] at this
  rw [chunks_at hj] at h
  injection h with h
  exact h.symm
theorem reps_raw {α : Type} {Rr : α → List Value → Prop} {sz : Nat} {xs : List α} {inner : List Value} (h : Reps Rr sz xs inner) (hR : ∀ x c, Rr x c → c.length = sz ∧ ∀ u ∈ c, u.oneCell' = true) : Reps (fun x cs => cs = x ∧ cs.length = sz ∧ ∀ u ∈ cs, u.oneCell' = true) sz (chunks sz xs.length inner) inner := by
  refine ⟨by rw [chunks_length]; exact h.1, fun j p hj => ?_⟩
  have hjl : j < xs.length := by have := (List.getElem?_eq_some_iff.1 hj).1; rwa [chunks_length] at this
  have hp := chunks_get hj
  exact ⟨hp.symm, hR _ _ (h.2 j _ (List.getElem?_eq_getElem hjl))⟩
section
variable {α : Type} {d : Kd α} {e base n cc g : Nat} {ok ok' okp S : Nat → Prop} {w w1 W W1 : World} {A : Option Addr} {u v v1 : Value} {xs : List α} {x : α} {c : List Value}
theorem F_get (h : F d W ok A n xs) (z : α) (i : Int) (h0 : 0 ≤ i) (h1 : i < n) :
    ∃ ad c, A = some ad ∧ c.length = d.sz ∧ FK d W ok (xs.getD i.toNat z) c ∧ (∀ j u, c[j]? = some u → W.cell? (ad.add (i.toNat * d.sz + j)) = some u) ∧ (0 < d.sz → ok ad.block) := by
  obtain ⟨ad, c, rfl, hcl, hK, hcc⟩ := C_get (F_now h) z i h0 h1
  have hin : 0 < d.sz → ok ad.block := by
    intro hs
    by_cases hk : ok ad.block
    · exact hk
    · obtain ⟨W', h2, h3⟩ := emptied W ad.block
      obtain ⟨ad', c', he, hcl', _, hcc'⟩ := C_get (h W' (fun k hk' _ => h2 k (fun e => hk (e ▸ hk')))) z i h0 h1
      injection he with he
      subst he
      have h4 := hcc' 0 _ (List.getElem?_eq_getElem (by omega))
      rw [h3 _ (add_block _ _)] at h4
      cases h4
  refine ⟨ad, c, rfl, hcl, fun W' hW => ?_, hcc, hin⟩
  obtain ⟨ad', c', he, hcl', hK', hcc'⟩ := C_get (h W' hW) z i h0 h1
  injection he with he
  subst he
  have hc : c = c' := by
    apply List.ext_getElem?
    intro j
    by_cases hj : j < d.sz
    · have hb : W'.heap[ad.block]? = W.heap[ad.block]? := by
        have h5 := hcc j _ (List.getElem?_eq_getElem (by omega))
        have h6 := World.block_lt_of_cell? W _ h5
        rw [add_block] at h6
        exact hW _ (hin (by omega)) h6
      have h5 := hcc j _ (List.getElem?_eq_getElem (by omega))
      have h6 := hcc' j _ (List.getElem?_eq_getElem (by omega))
      have h7 : W'.cell? (ad.add (i.toNat * d.sz + j)) = W.cell? (ad.add (i.toNat * d.sz + j)) := by simp [World.cell?, add_block, hb]
      rw [h7, h5] at h6
      rw [List.getElem?_eq_getElem (by omega), List.getElem?_eq_getElem (by omega)]
      exact h6
    · rw [List.getElem?_eq_none (by omega), List.getElem?_eq_none (by omega)]
  rw [hc]
  exact hK'
theorem F_rows (h : F d W ok A n xs) : ReadsRow (fun x c => FK d W ok x c) d.sz W A n xs := by
  obtain ⟨hl, hm, hn⟩ := F_now h
  refine ⟨hl, hm, fun hp => ?_⟩
  obtain ⟨ad, rfl, _⟩ := hn hp
  refine ⟨ad, rfl, fun j p hj => ?_⟩
  obtain ⟨hjl, hjp⟩ := List.getElem?_eq_some_iff.1 hj
  obtain ⟨ad', c, he, hcl, hK, hcc, _⟩ := F_get h p (j : Int) (by omega) (by omega)
  injection he with he
  subst he
  simp only [Int.toNat_natCast] at hK hcc
  rw [List.getD_eq_getElem?_getD, hj] at hK
  exact ⟨c, hcl, hK, hcc⟩
def N {α : Type} (d : Kd α) (e : Nat) (w : World) (base : Nat) (ok : Nat → Prop) (v : Value) (xs : List α) : Prop :=
  (∀ k, v.ownBlock = some k → ok k) ∧ ∃ rows : List (List Value), rows.length = xs.length ∧ (raw d.sz).R e w base (fun k => some k = v.ownBlock) v rows ∧ ∀ (j : Nat) (x : α) (c : List Value), xs[j]? = some x → rows[j]? = some c → FK d w (fun k => ok k ∧ some k ≠ v.ownBlock) x c
theorem raw_tight {sz : Nat} {rows : List (List Value)} (h : (raw sz).R e w base ok v rows) : (raw sz).R e w base (fun k => some k = v.ownBlock) v rows := R_tight rfl h
theorem raw_any {sz : Nat} {rows : List (List Value)} (h : (raw sz).R e w base ok v rows) : (raw sz).R e w base (fun _ => True) v rows := R_mono h (fun _ _ => trivial)
theorem R_N (h : d.R e w base ok v xs) : N d e w base ok v xs := by
  obtain ⟨h0, inner, ho, hr⟩ := h
  refine ⟨h0, chunks d.sz xs.length inner, chunks_length _ _ _, ⟨fun k hk => hk.symm, inner, by rw [chunks_length]; exact ho, reps_raw hr (fun x c hp => ⟨d.K_len (d.K_of_M hp), d.K_one (d.K_of_M hp)⟩)⟩, fun j x c hx hc => ?_⟩
  rw [chunks_get hc]
  exact FK_of_M (hr.2 j x hx)
theorem N_nil (d : Kd α) (e : Nat) (w : World) (base : Nat) (ok : Nat → Prop) : N d e w base ok (.slice none 0 0) [] := R_N (R_nil _ _ _ _ _)
theorem N_mono (h : N d e w base ok v xs) (hok : ∀ k, ok k → ok' k) : N d e w base ok' v xs := by
  obtain ⟨h0, rows, hl, hR, hf⟩ := h
  exact ⟨fun k hk => hok k (h0 k hk), rows, hl, hR, fun j x c hx hc => FK_mono (hf j x c hx hc) (fun k hk => ⟨hok k hk.1, hk.2⟩)⟩
theorem N_lt (h : N d e w base ok v xs) : ∀ k, v.ownBlock = some k → k < w.heap.size := by
  obtain ⟨_, rows, _, hR, _⟩ := h
  exact R_lt hR
theorem N_base (h : N d e w base ok v xs) : ∀ k, v.ownBlock = some k → base ≤ k := by
  obtain ⟨_, rows, _, hR, _⟩ := h
  exact R_base hR
theorem N_typed (h : N d e w base ok v xs) : ∀ k, v.ownBlock = some k → ∃ cells, w.heap[k]? = some (.cells cells e (0, 0)) := by
  obtain ⟨_, rows, _, hR, _⟩ := h
  exact R_typed hR
theorem N_ne (h : N d e w base ok v xs) {t : Nat} {cells : Array Value} (hb : w.heap[g]? = some (.cells cells t (0, 0))) (ht : e ≠ t) : some g ≠ v.ownBlock := by
  obtain ⟨_, rows, _, hR, _⟩ := h
  exact R_ne hR hb ht
theorem N_bound (h : N d e w base ok v xs) : N d e w base (fun k => ok k ∧ k < w.heap.size) v xs := by
  have hlt := N_lt h
  obtain ⟨h0, rows, hl, hR, hf⟩ := h
  exact ⟨fun k hk => ⟨h0 k hk, hlt k hk⟩, rows, hl, hR, fun j x c hx hc => FK_mono (FK_bound (hf j x c hx hc)) (fun k hk => ⟨⟨hk.1.1, hk.2⟩, hk.1.2⟩)⟩
theorem N_lower {base' : Nat} (h : N d e w base ok v xs) (hb : base' ≤ base) : N d e w base' ok v xs := by
  obtain ⟨h0, rows, hl, hR, hf⟩ := h
  exact ⟨h0, rows, hl, R_lower hR hb, hf⟩
theorem N_step (h : N d e w base ok v xs) (hm : ∀ k, ok k → k < w.heap.size → w1.heap[k]? = w.heap[k]?) : N d e w1 base ok v xs := by
  obtain ⟨h0, rows, hl, hR, hf⟩ := h
  exact ⟨h0, rows, hl, R_step hR (fun k hk hlt => hm k (h0 k hk.symm) hlt), fun j x c hx hc => FK_step (hf j x c hx hc) (fun k hk hlt => hm k hk.1 hlt)⟩
theorem N_below (h : N d e w base ok v xs) (hb : Below w.heap.size w w1) : N d e w1 base ok v xs := N_step h (fun k _ hk => hb.block k hk)
theorem N_alloc (h : N d e w base ok v xs) (o : Obj) : N d e (w.alloc o) base ok v xs := N_below h (below_alloc (Below.refl _ _) o)
theorem N_drew (h : N d e w base ok v xs) : N d e w.drew base ok v xs := N_below h (below_drew (Below.refl _ _))
theorem N_drewN (h : N d e w base ok v xs) (m : Nat) : N d e (w.drewN m) base ok v xs := N_below h (pw_below_drewN (Below.refl _ _) m)
theorem N_far (h : N d e w base ok v xs) {p : Addr} (hok : ∀ k, ok k → k ≠ p.block) (u : Value) : N d e (w.setCell p u) base ok v xs := N_step h (fun k ho _ => Below.heap_setCell w p u k (hok k ho))
theorem N_elder' (h : N d e W base ok v xs) (hbase : ∀ k, u.ownBlock = some k → W.heap.size ≤ k) (hb : Below W.heap.size W w1) : N d e w1 base (fun k => ok k ∧ some k ≠ u.ownBlock) v xs :=
  N_mono (N_below (N_bound h) hb) (fun k hk => ⟨hk.1, fun he => by have := hbase k he.symm; have := hk.2; omega⟩)
theorem N_elderB (h : N d e w base ok v xs) (a : Nat) (ha : w.heap.size ≤ a) : N d e w base (fun k => ok k ∧ k ≠ a) v xs := N_mono (N_bound h) (fun k hk => ⟨hk.1, by have := hk.2; omega⟩)
theorem N_after (h : N d e W base (fun k => ok k ∧ some k ≠ u.ownBlock) v xs) {u1 : Value} (hg : W.grownBy w1 u.ownBlock) (hat : u1.ownBlock = u.ownBlock ∨ ∃ b, u1.ownBlock = some b ∧ W.heap.size ≤ b) : N d e w1 base (fun k => ok k ∧ some k ≠ u1.ownBlock) v xs := by
  refine N_mono (N_step (N_bound h) (fun k hk hlt => hg.block k hlt hk.1.2)) (fun k hk => ⟨hk.1.1, ?_⟩)
  rcases hat with hat | ⟨b, hb, hle⟩
  · rw [hat]; exact hk.1.2
  · rw [hb]
    intro he
    injection he with he
    have := hk.2
    omega
theorem N_slice (h : N d e w base ok v xs) : ∃ A c, v = .slice A xs.length c := by
  obtain ⟨_, rows, hl, hR, _⟩ := h
  obtain ⟨A, c, he⟩ := R_slice hR
  exact ⟨A, c, by rw [he, hl]⟩
theorem N_reads' {n c : Nat} (h : N d e w base ok (.slice A n c) xs) : n = xs.length ∧ n ≤ c ∧ d.C w A xs.length xs := by
  obtain ⟨_, rows, hl, hR, hf⟩ := h
  obtain ⟨hn, hc, hC⟩ := R_reads' hR
  refine ⟨by omega, hc, ?_⟩
  rw [hl] at hC
  refine ⟨rfl, hC.2.1, fun hp => ?_⟩
  obtain ⟨ad, he, hcell⟩ := hC.2.2 hp
  refine ⟨ad, he, fun j p hj => ?_⟩
  have hjl : j < rows.length := by have := (List.getElem?_eq_some_iff.1 hj).1; omega
  obtain ⟨c', hcl, hK, hcc⟩ := hcell j _ (List.getElem?_eq_getElem hjl)
  have hk := FK_now (hf j p _ hj (List.getElem?_eq_getElem hjl))
  refine ⟨c', hcl, ?_, hcc⟩
  rw [show c' = rows[j] from hK.1]
  exact hk
theorem N_F {n : Nat} (h : N d e w base ok (.slice A n cc) xs) : F d w ok A n xs := fun W' hW => by
  have h2 := N_reads' (N_step h hW)
  rw [h2.1]
  exact h2.2.2
end
end Kd
end Go.Proofs.YtdnjmhhjjbdieaaW.PrintWords
end
section
namespace Go.Proofs.YtdnjmhhjjbdieaaW.PrintWords
open Go.RowKit
namespace Kd
section
variable {α : Type} {d : Kd α} {e base n cap g : Nat} {ok ok' okp : Nat → Prop} {w w1 W : World} {v v1 : Value} {xs ys : List α}
theorem N_appended {rows news : List (List Value)} (h0 : ∀ k, v.ownBlock = some k → ok k) (hl : rows.length = xs.length) (hf : ∀ (j : Nat) (x : α) (c : List Value), xs[j]? = some x → rows[j]? = some c → FK d W (fun k => ok k ∧ some k ≠ v.ownBlock) x c)
    (hl2 : news.length = ys.length) (hf2 : ∀ (j : Nat) (x : α) (c : List Value), ys[j]? = some x → news[j]? = some c → FK d W okp x c) (hokp : ∀ k, okp k → ok k ∧ some k ≠ v.ownBlock) (hfresh : ∀ k, W.heap.size ≤ k → ok k)
    (hR : (raw d.sz).R e w1 base (fun _ => True) v1 (rows ++ news)) (hg : W.grownBy w1 v.ownBlock) (hat : v1.ownBlock = v.ownBlock ∨ ∃ b, v1.ownBlock = some b ∧ W.heap.size ≤ b) : N d e w1 base ok v1 (xs ++ ys) := by
  have hne : ∀ k, some k ≠ v.ownBlock → k < W.heap.size → some k ≠ v1.ownBlock := by
    intro k hk hlt
    rcases hat with hat | ⟨b, hb, hle⟩
    · rw [hat]; exact hk
    · rw [hb]
      intro he
      injection he with he
      omega
  have step : ∀ {x : α} {c : List Value} {o : Nat → Prop}, FK d W o x c → (∀ k, o k → ok k ∧ some k ≠ v.ownBlock) → FK d w1 (fun k => ok k ∧ some k ≠ v1.ownBlock) x c := by
    intro x c o hq ho
    exact FK_mono (FK_step (FK_bound hq) (fun k hk hlt => hg.block k hlt (ho k hk.1).2)) (fun k hk => ⟨(ho k hk.1).1, hne k (ho k hk.1).2 hk.2⟩)
  refine ⟨fun k hk => ?_, rows ++ news, by rw [List.length_append, List.length_append, hl, hl2], raw_tight hR, fun j x c hx hc => ?_⟩
  · rcases hat with hat | ⟨b, hb, hle⟩
    · exact h0 k (hat ▸ hk)
    · rw [hb] at hk
      injection hk with hk
      exact hfresh k (by omega)
  · rcases Nat.lt_or_ge j xs.length with hlt | hge
    · rw [List.getElem?_append_left hlt] at hx
      rw [List.getElem?_append_left (by omega)] at hc
      exact step (hf j x c hx hc) (fun _ hk => hk)
    · rw [List.getElem?_append_right hge] at hx
      rw [List.getElem?_append_right (by omega), hl] at hc
      exact step (hf2 _ x c hx hc) hokp
theorem N_made {rows : List (List Value)} (hR : (raw d.sz).R e w1 base (fun k => k = W.heap.size) v1 rows) (hg : W.grownBy w1 none) (hat : ∃ b, v1.ownBlock = some b ∧ W.heap.size ≤ b) (hl : rows.length = xs.length) (hf : ∀ (j : Nat) (x : α) (c : List Value), xs[j]? = some x → rows[j]? = some c → FK d W okp x c)
    (hok : ∀ k, okp k → ok k) (hfresh : ok W.heap.size) : N d e w1 base ok v1 xs := by
  obtain ⟨b, hb, hle⟩ := hat
  refine ⟨fun k hk => by rw [hR.1 k hk]; exact hfresh, rows, hl, raw_tight hR, fun j x c hx hc => ?_⟩
  refine FK_mono (FK_step (FK_bound (hf j x c hx hc)) (fun k hk hlt => hg.block k hlt (by simp))) (fun k hk => ⟨hok k hk.1, fun he => ?_⟩)
  rw [hb] at he
  injection he with he
  have := hk.2
  omega
theorem reads_raw {Rr : α → List Value → Prop} {sz m : Nat} {A : Option Addr} (h : ReadsRow Rr sz W A m ys) (hR : ∀ x c, Rr x c → c.length = sz ∧ ∀ u ∈ c, u.oneCell' = true) :
    ∃ news : List (List Value), news.length = ys.length ∧ ReadsRow (fun x cs => cs = x ∧ cs.length = sz ∧ ∀ u ∈ cs, u.oneCell' = true) sz W A m news ∧ ∀ (j : Nat) (x : α) (c : List Value), ys[j]? = some x → news[j]? = some c → Rr x c := by
  rcases Nat.eq_zero_or_pos m with h0 | hp
  · have hy : ys = [] := List.eq_nil_of_length_eq_zero (h.1.trans h0)
    subst hy
    exact ⟨[], rfl, ⟨h0 ▸ rfl, h.2.1, fun hp => by omega⟩, fun j x c hx => by simp at hx⟩
  · obtain ⟨ad, rfl, _⟩ := h.2.2 hp
    obtain ⟨inner, hr, hc⟩ := ReadsRow.inner_ h
    refine ⟨chunks sz ys.length inner, chunks_length _ _ _, ⟨by rw [chunks_length]; exact h.1, h.2.1, fun _ => ⟨ad, rfl, fun j p hj => ?_⟩⟩, fun j x c hx hcc => ?_⟩
    · have hjl : j < ys.length := by have := (List.getElem?_eq_some_iff.1 hj).1; rwa [chunks_length] at this
      have hpe := chunks_get hj
      have hq := hR _ _ (hr.2 j _ (List.getElem?_eq_getElem hjl))
      rw [← hpe] at hq
      refine ⟨p, hq.1, ⟨rfl, hq⟩, fun i u hu => ?_⟩
      have hu2 : inner[j * sz + i]? = some u := by
        rw [hpe, List.getElem?_take] at hu
        split at hu
        · rw [List.getElem?_drop] at hu
          exact hu
        · cases hu
      exact hc _ u hu2
    · rw [chunks_get hcc]
      exact hr.2 j x hx
end
section
variable {P : Program} {ops : Array Oper} {rest : List Oper} {o : Oper} {a : Act} {Q : Exit → Act → World → Prop} {Kc : Act → World → Prop} {α : Type}
theorem N_append_rows_step (d : Kd α) {w0 W : World} (base : Nat) (hw : Region.wanted o (yielded ops a.tmps) = true) (s x : Operand) (t e : TypeId) (z : Value) (bytes : Nat)
    (ho : o.op = .call { callee := .builtin .append, args := #[s, x], argTypes := #[t, t] })
    (ht : P.underlying t = some (.slice e)) (hinfo : (P.info? e).map (fun i => (i.zero, i.size, i.bytes)) = some (some z, d.sz, bytes)) (hz : z.cells.size = d.sz) (hs0 : 0 < d.sz) (hb0 : 0 < bytes)
    (v : Value) (xs ys : List α) (A : Option Addr) (m c : Nat) (ok okp : Nat → Prop) (hs : a.eval s = v) (hx : a.eval x = .slice A m c)
    (HO : N d e W base ok v xs) (HR : F d W okp A m ys) (hokp : ∀ k, okp k → ok k ∧ some k ≠ v.ownBlock) (hfresh : ∀ k, W.heap.size ≤ k → ok k)
    (HB : Below base w0 W) (hbase : base ≤ W.heap.size) (hl : (xs.length + m) * bytes ≤ 140737488355328)
    (h : ∀ v1 w1, N d e w1 base ok v1 (xs ++ ys) → Below base w0 w1 → W.grownBy w1 v.ownBlock → (v1.ownBlock = v.ownBlock ∨ ∃ b, v1.ownBlock = some b ∧ W.heap.size ≤ b) → Kc (a.put o.dst v1) w1) :
    if Region.wanted o (yielded ops a.tmps) = true then Oper.wp P o a W Kc Q else Kc (a.put o.dst undef) W := by
  obtain ⟨h0, rows, hlr, hR, hf⟩ := HO
  obtain ⟨news, hnl, hnr, hnf⟩ := reads_raw (F_rows HR) (fun y c hk => ⟨d.K_len (FK_now hk), d.K_one (FK_now hk)⟩)
  refine R_append_rows_step (raw d.sz) base hw s x t e z bytes ho ht hinfo hz hs0 hb0 v rows news A m c (fun _ => True) (fun _ => False) hs hx (raw_any hR) hnr (fun _ _ hk => hk) (fun _ hk => hk.elim) (fun _ _ => trivial) HB hbase (by rw [hlr]; exact hl) ?_
  intro v1 w1 hr hb hg hat
  exact h v1 w1 (N_appended h0 hlr hf hnl hnf hokp hfresh hr hg hat) hb hg hat
theorem N_lit (d : Kd α) {w0 W : World} (base e : Nat) (hgd : o.guard = none) {N' : Tmp} (_hd : o.dst = some N') {xs : List α} {inner : List Value} {ok okp : Nat → Prop}
    (hrun : (execOp a.eval o).run P W = .ok (.value (.slice (some ⟨W.heap.size, 0, none⟩) xs.length xs.length)) (W.alloc (.cells inner.toArray e)))
    (hrep : Reps (FK d W okp) d.sz xs inner) (hok : ∀ k, okp k → ok k) (hfresh : ok W.heap.size) (HB : Below base w0 W) (hbase : base ≤ W.heap.size) (hm : xs.length ≤ 9223372036854775807)
    (h : ∀ v1 w1, N d e w1 base ok v1 xs → Below base w0 w1 → W.grownBy w1 none → (∃ b, v1.ownBlock = some b ∧ W.heap.size ≤ b) → wpList P ops Q rest (a.put o.dst v1) w1) :
    wpList P ops Q (o :: rest) a W := by
  refine R_lit (raw d.sz) base e hgd _hd (xs := chunks d.sz xs.length inner) (inner := inner) (ok := fun k => k = W.heap.size) (okp := fun _ => False) (by rw [chunks_length]; exact hrun) (reps_raw hrep (fun y c hk => ⟨d.K_len (FK_now hk), d.K_one (FK_now hk)⟩)) (fun _ hk => hk.elim) rfl HB hbase (by rw [chunks_length]; exact hm) ?_
  intro v1 w1 hr hb hg hat
  exact h v1 w1 (N_made hr hg hat (chunks_length _ _ _) (fun j y c hy hc => by rw [chunks_get hc]; exact hrep.2 j y hy) hok hfresh) hb hg hat
end
end Kd
end Go.Proofs.YtdnjmhhjjbdieaaW.PrintWords
end
section
namespace Go.Proofs.YtdnjmhhjjbdieaaW.PrintWords
open Go.RowKit
section
variable {P : Program} {ops : Array Oper} {rest : List Oper} {o : Oper} {a : Act} {Q : Exit → Act → World → Prop} {W : World}
theorem gate_callee {f : FuncId} {asx : Array Operand} {ts : Array TypeId} (_ho : o.op = .call { callee := .value (.func f), args := asx, argTypes := ts }) (h : wpList P ops Q (o :: rest) a W) : wpList P ops Q (o :: rest) a W := h
theorem gate_builtin {b : Builtin} {xs : Array Operand} {ts : Array TypeId} (_ho : o.op = .call { callee := .builtin b, args := xs, argTypes := ts }) (h : wpList P ops Q (o :: rest) a W) : wpList P ops Q (o :: rest) a W := h
end
def mx (a b : Int) : Int := if a < b then b else a
def mn (a b : Int) : Int := if b < a then b else a
def shl (k : IntKind) (x y : Int) : Int := k.wrap (x * 2 ^ min y.toNat k.bits)
theorem shl_small {k : IntKind} {x y j : Int} (h : shl k x y = j) (hy : y ≤ k.bits) : k.wrap (x * 2 ^ y.toNat) = j := by rw [← h]; unfold shl; rw [Nat.min_eq_left (by omega)]
theorem drewN_self (w : World) (n : Nat) : w.drewN n = w.drewN n := rfl
end Go.Proofs.YtdnjmhhjjbdieaaW.PrintWords
namespace Go.Proofs.YtdnjmhhjjbdieaaW.PrintWords
open Go.RowKit
namespace Kd
def V {α : Type} (d : Kd α) (_e : Nat) (W : World) (_base : Nat) (ok : Nat → Prop) (v : Value) (xs : List α) : Prop := ∃ A c, v = .slice A xs.length c ∧ xs.length ≤ c ∧ F d W ok A xs.length xs
section
variable {α β : Type} {d : Kd α} {e base base' n m c g N' lo hi : Nat} {ok ok' S : Nat → Prop} {w W w1 : World} {A : Option Addr} {ad : Addr} {u v v1 : Value} {xs : List α}
theorem V_nil (d : Kd α) (e : Nat) (W : World) (base : Nat) (ok : Nat → Prop) : V d e W base ok (.slice none 0 0) [] := ⟨none, 0, rfl, Nat.le_refl _, F_nil d W ok⟩
theorem N_afterv (h : N d e W base (fun k => ok k ∧ some k ≠ v.ownBlock) u xs) (hg : W.grownBy w1 v.ownBlock) (hat : v1.ownBlock = v.ownBlock ∨ ∃ b, v1.ownBlock = some b ∧ W.heap.size ≤ b) : N d e w1 base (fun k => ok k ∧ some k ≠ v1.ownBlock) u xs := N_after h hg hat
theorem FK_slice_mk {l : List α} (hl : l.length ≤ c) (hf : F d W ok A l.length l) : FK (Kd.slice e d) W ok l [.slice A l.length c] := fun W' hW => ⟨A, c, rfl, hl, hf W' hW⟩
theorem R_newM {M : Nat → Prop} (h : d.R e w1 W.heap.size ok v xs) (hle : w.heap.size ≤ W.heap.size) (hM : ∀ k, w.heap.size ≤ k → M k) : d.R e w1 W.heap.size (fun k => M k ∧ ok k) v xs := R_mono (R_bound h) (fun k hk => ⟨hM k (Nat.le_trans hle hk.2.1), hk.1⟩)
end
end Kd
end Go.Proofs.YtdnjmhhjjbdieaaW.PrintWords
end
section
namespace Go.Proofs.YtdnjmhhjjbdieaaW.PrintWords
theorem Reps.one {α : Type} {R : α → List Value → Prop} {ps : List α} {cs : List Value} {p : α} {v : Value} (hp : R p [v]) (h : Reps R 1 ps cs) : Reps R 1 (p :: ps) (v :: cs) := by
  refine ⟨by simp [h.1], fun j q hq => ?_⟩
  cases j with
  | zero =>
    simp only [List.getElem?_cons_zero, Option.some.injEq] at hq
    subst hq
    simpa using hp
  | succ j =>
    simp only [List.getElem?_cons_succ] at hq
    have h1 := h.2 j q hq
    simpa [Nat.mul_one] using h1
theorem Reps.front {α : Type} {R : α → List Value → Prop} {size : Nat} {ps : List α} {cs c all : List Value} {p : α} (hp : R p c) (hc : c.length = size) (h : Reps R size ps cs) (ha : c ++ cs = all) : Reps R size (p :: ps) all := by
  subst ha
  refine ⟨by rw [List.length_append, hc, h.1, List.length_cons, Nat.succ_mul, Nat.add_comm], fun j q hq => ?_⟩
  cases j with
  | zero =>
    simp only [List.getElem?_cons_zero, Option.some.injEq] at hq
    subst hq
    rw [Nat.zero_mul, List.drop_zero, List.take_append_of_le_length (by omega), List.take_of_length_le (by omega)]
    exact hp
  | succ j =>
    simp only [List.getElem?_cons_succ] at hq
    have h1 := h.2 j q hq
    rw [Nat.succ_mul, List.drop_append, List.drop_of_length_le (by rw [hc]; exact Nat.le_add_left _ _), List.nil_append, hc, Nat.add_sub_cancel]
    exact h1
theorem Reps.c2 {α : Type} {R : α → List Value → Prop} {ps : List α} {cs : List Value} {p : α} {va vb : Value} (hp : R p [va, vb]) (h : Reps R 2 ps cs) : Reps R 2 (p :: ps) (va :: vb :: cs) := Reps.front hp rfl h rfl
theorem Reps.c3 {α : Type} {R : α → List Value → Prop} {ps : List α} {cs : List Value} {p : α} {va vb vc : Value} (hp : R p [va, vb, vc]) (h : Reps R 3 ps cs) : Reps R 3 (p :: ps) (va :: vb :: vc :: cs) := Reps.front hp rfl h rfl
theorem Reps.c4 {α : Type} {R : α → List Value → Prop} {ps : List α} {cs : List Value} {p : α} {va vb vc vd : Value} (hp : R p [va, vb, vc, vd]) (h : Reps R 4 ps cs) : Reps R 4 (p :: ps) (va :: vb :: vc :: vd :: cs) := Reps.front hp rfl h rfl
theorem Reps.c5 {α : Type} {R : α → List Value → Prop} {ps : List α} {cs : List Value} {p : α} {va vb vc vd ve : Value} (hp : R p [va, vb, vc, vd, ve]) (h : Reps R 5 ps cs) : Reps R 5 (p :: ps) (va :: vb :: vc :: vd :: ve :: cs) := Reps.front hp rfl h rfl
theorem Reps.c6 {α : Type} {R : α → List Value → Prop} {ps : List α} {cs : List Value} {p : α} {va vb vc vd ve vf : Value} (hp : R p [va, vb, vc, vd, ve, vf]) (h : Reps R 6 ps cs) : Reps R 6 (p :: ps) (va :: vb :: vc :: vd :: ve :: vf :: cs) := Reps.front hp rfl h rfl
theorem Reps.c7 {α : Type} {R : α → List Value → Prop} {ps : List α} {cs : List Value} {p : α} {va vb vc vd ve vf vg : Value} (hp : R p [va, vb, vc, vd, ve, vf, vg]) (h : Reps R 7 ps cs) : Reps R 7 (p :: ps) (va :: vb :: vc :: vd :: ve :: vf :: vg :: cs) := Reps.front hp rfl h rfl
theorem Reps.c8 {α : Type} {R : α → List Value → Prop} {ps : List α} {cs : List Value} {p : α} {va vb vc vd ve vf vg vh : Value} (hp : R p [va, vb, vc, vd, ve, vf, vg, vh]) (h : Reps R 8 ps cs) : Reps R 8 (p :: ps) (va :: vb :: vc :: vd :: ve :: vf :: vg :: vh :: cs) := Reps.front hp rfl h rfl
theorem Reps.c9 {α : Type} {R : α → List Value → Prop} {ps : List α} {cs : List Value} {p : α} {va vb vc vd ve vf vg vh vi : Value} (hp : R p [va, vb, vc, vd, ve, vf, vg, vh, vi]) (h : Reps R 9 ps cs) : Reps R 9 (p :: ps) (va :: vb :: vc :: vd :: ve :: vf :: vg :: vh :: vi :: cs) := Reps.front hp rfl h rfl
theorem Reps.c10 {α : Type} {R : α → List Value → Prop} {ps : List α} {cs : List Value} {p : α} {va vb vc vd ve vf vg vh vi vj : Value} (hp : R p [va, vb, vc, vd, ve, vf, vg, vh, vi, vj]) (h : Reps R 10 ps cs) : Reps R 10 (p :: ps) (va :: vb :: vc :: vd :: ve :: vf :: vg :: vh :: vi :: vj :: cs) := Reps.front hp rfl h rfl
end Go.Proofs.YtdnjmhhjjbdieaaW.PrintWords
end
