/- Texts of a proof, joined: see the last one. -/
import Derived.Test.YtdnjmhhjjbdieaaSHld2
import Derived.Test.YtdnjmhhjjbdieaaSHld5
import Derived.Test.YtdnjmhhjjbdieaaSHld6
import Derived.Test.YtdnjmhhjjbdieaaSHld8
import Derived.Test.YtdnjmhhjjbdieaaSHld9
import Derived.LoopTactic
import Derived.Lib.Hide
namespace Go.Proofs.YtdnjmhhjjbdieaaW.PrintLast
end Go.Proofs.YtdnjmhhjjbdieaaW.PrintLast
namespace Go.Proofs.YtdnjmhhjjbdieaaW.PrintWords
end Go.Proofs.YtdnjmhhjjbdieaaW.PrintWords
section
namespace Go.Proofs.Ytdnjmhhjjbdieaa.Q
open Go.RowKit Go.Proofs.YtdnjmhhjjbdieaaW.PrintWords
set_option linter.unusedVariables false
def runS (least most short : Int) (x : St) (t : List RP) : St := t.foldl (fun x p => (stepF least most short x p.f0 p.f1).1) x
theorem pathB_append (least most short n : Int) : ∀ (t : List RP) (l : List FM) (u : List RP) (x : St), pathB least most short n l (t ++ u) x = (pathB least most short n l t x && pathB least most short n (l.drop t.length) u (runS least most short x t))
  | [], l, u, x => by
    have : pathB least most short n l [] x = true := by cases l <;> rfl
    simp [this, runS]
  | p :: t, [], u, x => by simp [pathB]
  | p :: t, m :: l, u, x => by
    simp only [List.cons_append, pathB, List.length_cons, List.drop_succ_cons]
    rw [pathB_append least most short n t l u _, Bool.and_assoc]
    rfl
theorem pathB_nil (least most short n : Int) (l : List FM) (x : St) : pathB least most short n l [] x = true := by cases l <;> rfl
theorem runS_append (least most short : Int) (x : St) (t u : List RP) : runS least most short x (t ++ u) = runS least most short (runS least most short x t) u := by simp [runS]
theorem partOk_iff {least most short : Int} {n : Nat} {m : FM} {x : St} {p : FP} : partOk least most short n m x p = true ↔ ∃ y, ((p.f0, p.f1), y) ∈ partsOf least most short x m.f0 m.f1 n ∧ y = (stepF least most short x p.f0 p.f1).1 := by
  simp only [partOk, win, Bool.and_eq_true, decide_eq_true_eq, mem_partsOf, mem_upTo]
  constructor
  · rintro ⟨⟨⟨⟨⟨h1, h2⟩, h3, h4⟩, h5⟩, h6⟩, h7⟩
    exact ⟨_, ⟨⟨h1, by omega, h6⟩, ⟨h3, by omega, h7⟩, Prod.ext rfl h5⟩, rfl⟩
  · rintro ⟨y, ⟨⟨h1, h2, h6⟩, ⟨h3, h4, h7⟩, h5⟩, rfl⟩
    exact ⟨⟨⟨⟨⟨h1, by omega⟩, h3, by omega⟩, by rw [h5]⟩, h6⟩, h7⟩
theorem fwd_path {least most short : Int} {n : Nat} {l : List FM} : ∀ (j : Nat) (y : St), fwd least most short n l j y ↔ ∃ t : List RP, t.length = j ∧ pathB least most short n l t beginSt = true ∧ runS least most short beginSt t = y
  | 0, y => by
    constructor
    · intro h
      obtain rfl : y = beginSt := h
      exact ⟨[], rfl, pathB_nil _ _ _ _ _ _, rfl⟩
    · rintro ⟨t, h1, _, h3⟩
      obtain rfl := List.length_eq_zero_iff.1 h1
      exact h3.symm
  | j + 1, y => by
    cases hm : l[j]? with
    | none =>
      simp only [fwd, hm, false_iff]
      rintro ⟨t, h1, h2, _⟩
      have hj : l.length ≤ j := List.getElem?_eq_none_iff.1 hm
      obtain ⟨t', p, rfl⟩ : ∃ t' p, t = t' ++ [p] := ⟨t.dropLast, t.getLast (by intro e; simp [e] at h1), (List.dropLast_concat_getLast _).symm⟩
      rw [pathB_append, Bool.and_eq_true] at h2
      simp at h1
      rw [List.drop_eq_nil_of_le (by omega)] at h2
      exact absurd h2.2 (by simp [pathB])
    | some m =>
      simp only [fwd, hm]
      unfold nexts
      constructor
      · rintro ⟨x, hx, p, hp, rfl⟩
        obtain ⟨t, h1, h2, h3⟩ := (fwd_path j x).1 hx
        obtain ⟨hj, hmj⟩ := List.getElem?_eq_some_iff.1 hm
        have hst := (mem_partsOf.1 hp).2.2
        have hok : partOk least most short n m x ⟨p.1.1, p.1.2⟩ = true := partOk_iff.2 ⟨p.2, hp, by simp only [hst]⟩
        refine ⟨t ++ [⟨p.1.1, p.1.2⟩], by simp [h1], ?_, ?_⟩
        · rw [pathB_append, h2, h1, List.drop_eq_getElem_cons hj, hmj, h3, Bool.true_and]
          simp only [pathB, po, hok, pathB_nil, Bool.and_self]
        · rw [runS_append, h3]
          simp only [runS, List.foldl_cons, List.foldl_nil, hst]
      · rintro ⟨t, h1, h2, h3⟩
        obtain ⟨hj, hmj⟩ := List.getElem?_eq_some_iff.1 hm
        obtain ⟨t', p, rfl⟩ : ∃ t' p, t = t' ++ [p] := ⟨t.dropLast, t.getLast (by intro e; simp [e] at h1), (List.dropLast_concat_getLast _).symm⟩
        have h1' : t'.length = j := by simpa using h1
        rw [pathB_append, Bool.and_eq_true, h1', List.drop_eq_getElem_cons hj, hmj] at h2
        obtain ⟨h2a, h2b⟩ := h2
        simp only [pathB, Bool.and_eq_true] at h2b
        obtain ⟨z, hz, hze⟩ := partOk_iff.1 h2b.1
        refine ⟨runS least most short beginSt t', (fwd_path j _).2 ⟨t', h1', h2a, rfl⟩, _, hz, ?_⟩
        rw [← h3, runS_append, hze]
        rfl
def Told (least most short n : Int) (l : List FM) (s : List RP) : Prop := s.length = l.length ∧ pathB least most short n l s beginSt = true
theorem told_iff_fwd {least most short : Int} {n : Nat} {l : List FM} : (fwdL least most short n l l.length).isEmpty = true ↔ ∀ s, ¬ Told least most short n l s := by
  rw [fwdL_empty]
  constructor
  · intro h s hs
    exact h _ ((fwd_path _ _).2 ⟨s, hs.1, hs.2, rfl⟩)
  · intro h x hx
    obtain ⟨t, h1, h2, _⟩ := (fwd_path _ _).1 hx
    exact h t ⟨h1, h2⟩
def prs (n : Nat) : List RP := (List.range (n + 1)).flatMap fun (i : Nat) => (List.range (n + 1)).map fun (j : Nat) => (⟨(i : Int) - 1, (j : Int) - 1⟩ : RP)
theorem mem_prs {n : Nat} {p : RP} : p ∈ prs n ↔ (-1 ≤ p.f0 ∧ p.f0 < n) ∧ (-1 ≤ p.f1 ∧ p.f1 < n) := by
  unfold prs
  simp only [List.mem_flatMap, List.mem_map, List.mem_range]
  constructor
  · rintro ⟨i, hi, j, hj, rfl⟩
    simp only []
    omega
  · rintro ⟨⟨h1, h2⟩, h3, h4⟩
    refine ⟨(p.f0 + 1).toNat, by omega, (p.f1 + 1).toNat, by omega, ?_⟩
    obtain ⟨a, b⟩ := p
    simp only [S89.mk.injEq]
    simp only [] at h1 h2 h3 h4
    omega
def tels (least most short : Int) (n : Nat) (l : List FM) : Nat → List RP → List (List RP)
  | 0, t => if pathB least most short n l t beginSt = true then [t] else []
  | d + 1, t => if pathB least most short n l t beginSt = true then (prs n).flatMap (fun p => tels least most short n l d (t ++ [p])) else []
theorem length_flatMap_le {α β : Type} (f : α → List β) (b : Nat) : ∀ (xs : List α), (∀ x ∈ xs, (f x).length ≤ b) → (xs.flatMap f).length ≤ xs.length * b
  | [], _ => by simp
  | x :: xs, h => by
    rw [List.flatMap_cons, List.length_append, List.length_cons, Nat.succ_mul]
    have := length_flatMap_le f b xs (fun y hy => h y (by simp [hy]))
    have := h x (by simp)
    omega
theorem length_prs (n : Nat) : (prs n).length = (n + 1) * (n + 1) := by
  unfold prs
  rw [List.length_flatMap]
  simp [List.map_const', List.sum_replicate_nat]
theorem length_tels (least most short : Int) (n : Nat) (l : List FM) : ∀ (d : Nat) (t : List RP), (tels least most short n l d t).length ≤ ((n + 1) * (n + 1)) ^ d
  | 0, t => by simp only [tels]; split <;> simp
  | d + 1, t => by
    simp only [tels]
    split
    · have := length_flatMap_le (fun p => tels least most short n l d (t ++ [p])) (((n + 1) * (n + 1)) ^ d) (prs n) (fun p _ => length_tels least most short n l d _)
      rw [length_prs] at this
      rw [Nat.pow_succ, Nat.mul_comm]
      exact this
    · simp
theorem mem_tels {least most short : Int} {n : Nat} {l : List FM} : ∀ (d : Nat) (t s : List RP), s ∈ tels least most short n l d t ↔ (∃ u, s = t ++ u ∧ u.length = d) ∧ pathB least most short n l s beginSt = true
  | 0, t, s => by
    simp only [tels]
    split
    · rename_i h
      rw [List.mem_singleton]
      constructor
      · rintro rfl; exact ⟨⟨[], by simp, rfl⟩, h⟩
      · rintro ⟨⟨u, rfl, hu⟩, _⟩
        rw [List.length_eq_zero_iff.1 hu]; simp
    · rename_i h
      constructor
      · intro h; cases h
      · rintro ⟨⟨u, rfl, hu⟩, h2⟩
        rw [List.length_eq_zero_iff.1 hu, List.append_nil] at h2
        exact (h h2).elim
  | d + 1, t, s => by
    have hpre : pathB least most short n l s beginSt = true → ∀ u, s = t ++ u → pathB least most short n l t beginSt = true := fun h u e => by
      rw [e, pathB_append, Bool.and_eq_true] at h; exact h.1
    simp only [tels]
    split
    · rename_i h
      rw [List.mem_flatMap]
      constructor
      · rintro ⟨p, hp, hs⟩
        obtain ⟨⟨u, rfl, hu⟩, h2⟩ := (mem_tels d _ _).1 hs
        exact ⟨⟨p :: u, by simp, by simp [hu]⟩, h2⟩
      · rintro ⟨⟨u, rfl, hu⟩, h2⟩
        cases u with
        | nil => simp at hu
        | cons p u =>
          have hp : p ∈ prs n := by
            have h3 := h2
            rw [pathB_append, Bool.and_eq_true] at h3
            have h4 := h3.2
            cases hl : l.drop t.length with
            | nil => rw [hl] at h4; simp [pathB] at h4
            | cons m l' =>
              rw [hl] at h4
              simp only [pathB, Bool.and_eq_true] at h4
              obtain ⟨z, hz, _⟩ := partOk_iff.1 h4.1
              have a := mem_upTo.1 (mem_partsOf.1 hz).1
              have b := mem_upTo.1 (mem_partsOf.1 hz).2.1
              simp only [po] at a b
              rw [mem_prs]; omega
          exact ⟨p, hp, (mem_tels d _ _).2 ⟨⟨u, by simp, by simpa using hu⟩, h2⟩⟩
    · rename_i h
      constructor
      · intro h; cases h
      · rintro ⟨⟨u, e, hu⟩, h2⟩
        exact (h (hpre h2 u e)).elim
theorem mem_tels_told {least most short : Int} {n : Nat} {l : List FM} {s : List RP} : s ∈ tels least most short n l l.length [] ↔ Told least most short n l s := by
  rw [mem_tels]
  constructor
  · rintro ⟨⟨u, rfl, hu⟩, h⟩
    exact ⟨by simpa using hu, h⟩
  · rintro ⟨h1, h2⟩
    exact ⟨⟨s, by simp, h1⟩, h2⟩
theorem tel_l1 {n : Nat} {a1 a2 a3 : Int} {l : List RM} {t : List RP} {F : RP → List (List RP)} {R : List (List RP)} (ht : t.length ≤ 1000000) (hn : n ≤ 14) (i : Nat) (hi : i ≤ n) (hF : ∀ p, p ∈ prs n → Ev (fun k => palantyperef02_Tellings.f k n a1 a2 a3 l (t ++ [p])) (F p)) :
    ∀ (e j : Nat) (out : List (List RP)), j + e = n + 1 → (out ++ (List.range' j e).flatMap (fun (j : Nat) => F ⟨(i : Int) - 1, (j : Int) - 1⟩)).length ≤ 100000000 →
      Ev (fun k => palantyperef02_Tellings.l0 k t (out ++ (List.range' j e).flatMap (fun (j : Nat) => F ⟨(i : Int) - 1, (j : Int) - 1⟩)) ((i + 1 : Nat) - 1 : Int) n a1 a2 a3 l) R →
      Ev (fun k => palantyperef02_Tellings.l1 k t out ((i : Int) - 1) ((j : Int) - 1) n a1 a2 a3 l) R
  | 0, j, out, h, hb, hR => by
    refine Ev.step (f := fun k => palantyperef02_Tellings.l0 k t out ((i + 1 : Nat) - 1 : Int) n a1 a2 a3 l) (fun k => ?_) (by simpa using hR)
    simp only [palantyperef02_Tellings.l1]
    rw [if_neg (by omega), wrap_id (by omega) (by omega), show (i : Int) - 1 + 1 = ((i + 1 : Nat) : Int) - 1 by omega]
  | e + 1, j, out, h, hb, hR => by
    rw [List.range'_succ, List.flatMap_cons, ← List.append_assoc] at hb hR
    have hlen : out.length + (F ⟨(i : Int) - 1, (j : Int) - 1⟩).length ≤ 100000000 := by
      rw [List.length_append, List.length_append] at hb; omega
    refine Ev.step (f := fun k => (palantyperef02_Tellings.f k n a1 a2 a3 l (t ++ [⟨(i : Int) - 1, (j : Int) - 1⟩])).bind fun r => if out.length + r.length < 5864062014805 then palantyperef02_Tellings.l1 k t (out ++ r) ((i : Int) - 1) ((j + 1 : Nat) - 1 : Int) n a1 a2 a3 l else none) (fun k => ?_) ?_
    · simp only [palantyperef02_Tellings.l1]
      rw [if_pos (by omega), wrap_id (by omega) (by omega), show (j : Int) - 1 + 1 = ((j + 1 : Nat) : Int) - 1 by omega]
      simp only [Option.bind_some, List.nil_append, List.length_nil, List.length_cons, Nat.zero_add]
      rw [if_pos (by omega), if_pos (by omega)]
    · refine Ev.bind (hF ⟨(i : Int) - 1, (j : Int) - 1⟩ (mem_prs.2 (by simp only []; omega))) ?_
      refine Ev.congr (fun k => if_pos (by omega)) ?_
      exact tel_l1 ht hn i hi hF e (j + 1) _ (by omega) hb hR
theorem tel_l0 {n : Nat} {a1 a2 a3 : Int} {l : List RM} {t : List RP} {F : RP → List (List RP)} (ht : t.length ≤ 1000000) (hn : n ≤ 14) (hF : ∀ p, p ∈ prs n → Ev (fun k => palantyperef02_Tellings.f k n a1 a2 a3 l (t ++ [p])) (F p)) :
    ∀ (e i : Nat) (out : List (List RP)), i + e = n + 1 → (out ++ (List.range' i e).flatMap (fun (i : Nat) => (List.range (n + 1)).flatMap (fun (j : Nat) => F ⟨(i : Int) - 1, (j : Int) - 1⟩))).length ≤ 100000000 →
      Ev (fun k => palantyperef02_Tellings.l0 k t out ((i : Int) - 1) n a1 a2 a3 l) (out ++ (List.range' i e).flatMap (fun (i : Nat) => (List.range (n + 1)).flatMap (fun (j : Nat) => F ⟨(i : Int) - 1, (j : Int) - 1⟩)))
  | 0, i, out, h, hb => by
    refine Ev.step (f := fun k => some out) (fun k => ?_) (by simp; exact Ev.now _)
    simp only [palantyperef02_Tellings.l0]
    rw [if_neg (by omega)]
  | e + 1, i, out, h, hb => by
    rw [List.range'_succ, List.flatMap_cons, ← List.append_assoc] at hb ⊢
    refine Ev.step (f := fun k => palantyperef02_Tellings.l1 k t out ((i : Int) - 1) ((0 : Nat) - 1 : Int) n a1 a2 a3 l) (fun k => ?_) ?_
    · simp only [palantyperef02_Tellings.l0]
      rw [if_pos (by omega)]
      rfl
    · have hr : List.range (n + 1) = List.range' 0 (n + 1) := List.range_eq_range'
      refine tel_l1 ht hn i (by omega) hF (n + 1) 0 out (by omega) (by rw [← hr]; rw [List.length_append] at hb; omega) ?_
      rw [← hr]
      exact tel_l0 ht hn hF e (i + 1) _ (by omega) hb
theorem Tellings_ev (least most short : Int) (n : Nat) (hn : n ≤ 14) (hmost : 1 ≤ most) (hshort : 0 ≤ short) (l : List RM) (hl : l.length ≤ 100) :
    ∀ (d : Nat) (t : List RP), t.length + d = l.length → ((n + 1) * (n + 1)) ^ d ≤ 100000000 → Ev (fun k => palantyperef02_Tellings.f k n least most short l t) (tels least most short n (l.map mo) d t)
  | 0, t, ht, hb => by
    refine Ev.step (f := fun k => (palantyperef02_Right.f k n least most short l t).bind fun r => if r = true then some [t] else some []) (fun k => ?_) ?_
    · simp only [palantyperef02_Tellings.f]
      rw [if_pos (by omega : (t.length : Int) = (l.length : Int))]
      simp only [Option.bind_some, List.nil_append, List.length_nil, Nat.zero_add]
      rw [if_pos (by omega)]
    · refine Ev.bind (Right_ev least most short n hn hmost hshort l t (by omega) (by omega)) ?_
      simp only [tels]
      split
      · exact Ev.now _
      · exact Ev.now _
  | d + 1, t, ht, hb => by
    refine Ev.step (f := fun k => (palantyperef02_Right.f k n least most short l t).bind fun r => if r = true then palantyperef02_Tellings.l0 k t [] ((0 : Nat) - 1 : Int) n least most short l else some []) (fun k => ?_) ?_
    · simp only [palantyperef02_Tellings.f]
      rw [if_neg (by omega : ¬ (t.length : Int) = (l.length : Int))]
      rfl
    · refine Ev.bind (Right_ev least most short n hn hmost hshort l t (by omega) (by omega)) ?_
      simp only [tels]
      split
      · have hb' : ((n + 1) * (n + 1)) ^ d ≤ 100000000 := Nat.le_trans (Nat.pow_le_pow_right (Nat.mul_pos (by omega) (by omega)) (by omega)) hb
        have key := tel_l0 (F := fun p => tels least most short n (l.map mo) d (t ++ [p])) (t := t) (a1 := least) (a2 := most) (a3 := short) (l := l) (by omega) hn (fun p hp => Tellings_ev least most short n hn hmost hshort l hl d (t ++ [p]) (by simp; omega) hb') (n + 1) 0 [] (by omega)
        have e : (prs n).flatMap (fun p => tels least most short n (l.map mo) d (t ++ [p])) = [] ++ (List.range' 0 (n + 1)).flatMap (fun (i : Nat) => (List.range (n + 1)).flatMap (fun (j : Nat) => tels least most short n (l.map mo) d (t ++ [(⟨(i : Int) - 1, (j : Int) - 1⟩ : RP)]))) := by
          rw [List.nil_append, ← List.range_eq_range']
          unfold prs
          rw [List.flatMap_assoc]
          simp only [List.flatMap_map]
        rw [e]
        refine key ?_
        rw [← e]
        have := length_flatMap_le (fun p => tels least most short n (l.map mo) d (t ++ [p])) (((n + 1) * (n + 1)) ^ d) (prs n) (fun p _ => length_tels least most short n (l.map mo) d _)
        rw [length_prs] at this
        rw [Nat.pow_succ, Nat.mul_comm] at hb
        omega
      · exact Ev.now _
end Go.Proofs.Ytdnjmhhjjbdieaa.Q
end
section
namespace Go.Proofs.Ytdnjmhhjjbdieaa.Q
open Go.RowKit Go.Proofs.YtdnjmhhjjbdieaaW.PrintWords Go.Proofs.YtdnjmhhjjbdieaaW.PrintLast
set_option linter.unusedVariables false
set_option linter.unusedSimpArgs false
def palantypelaw02_told.l0 : Nat → List (S54) → List (S100) → Int → Option (Bool)
  | 0, _, _, _ => none
  | k + 1, x0, x1, x5 => if x5 < (x0.length : Int) then (if 0 ≤ x5 then (if x5 < (x1.length : Int) then (if ((rd_T54 x0 x5).f0) = ((rd_T100 x1 x5).f0) then (if ((rd_T54 x0 x5).f1) = ((rd_T100 x1 x5).f1) then (palantypelaw02_told.l0 k x0 x1 (wrap64 (x5 + 1))) else (some false)) else (some false)) else (none)) else (none)) else (some true)
def palantypelaw02_told.f (k : Nat) (l0 : List (S54)) (l1 : List (S100)) : Option (Bool) := if (l0.length : Int) = (l1.length : Int) then (palantypelaw02_told.l0 k l0 l1 0) else (some false)
theorem palantypelaw02_told.mono_l : ∀ k, (∀ y0 y1 y2, LeO (palantypelaw02_told.l0 k y0 y1 y2) (palantypelaw02_told.l0 (k + 1) y0 y1 y2))
  | 0 => fun _ _ _ r h => by simp [palantypelaw02_told.l0] at h
  | k + 1 => by
    have ih0 := palantypelaw02_told.mono_l k
    · intro y0 y1 y2
      unfold palantypelaw02_told.l0
      repeat' first
      | (with_reducible exact ih0 _ _ _)
      | (with_reducible exact LeO.refl _)
      | (with_reducible exact LeO.none _)
      | (with_reducible refine LeO.ite ?_ ?_)
      | (with_reducible refine LeO.bind ?_ (fun _ => ?_))
      | exact ih0 _ _ _
      | exact LeO.none _
      | refine LeO.ite ?_ ?_
      | refine LeO.bind ?_ (fun _ => ?_)
theorem palantypelaw02_told.mono : ∀ a0 a1 k, LeO (palantypelaw02_told.f k a0 a1) (palantypelaw02_told.f (k + 1) a0 a1) := by
  intro a0 a1 k
  have ih0 := palantypelaw02_told.mono_l k
  unfold palantypelaw02_told.f
  repeat' first
      | (with_reducible exact ih0 _ _ _)
      | (with_reducible exact LeO.refl _)
      | (with_reducible exact LeO.none _)
      | (with_reducible refine LeO.ite ?_ ?_)
      | (with_reducible refine LeO.bind ?_ (fun _ => ?_))
      | exact ih0 _ _ _
      | exact LeO.none _
      | refine LeO.ite ?_ ?_
      | refine LeO.bind ?_ (fun _ => ?_)
set_option maxHeartbeats 8000000 in
set_option maxRecDepth 100000 in
theorem palantypelaw02_told.calls (k : Nat) (A0 : Option Addr) (c0 : Nat) (l0 : List (S54)) (A1 : Option Addr) (c1 : Nat) (l1 : List (S100)) (r : Bool) (w : World) (hr0 : Kd.C k54 w A0 l0.length l0) (hc0 : l0.length ≤ c0) (hr1 : Kd.C k100 w A1 l1.length l1) (hc1 : l1.length ≤ c1) (h : palantypelaw02_told.f k l0 l1 = some r) :
    Calls Try.prog 22 #[.slice A0 l0.length c0, .slice A1 l1.length c1] w fun e w' => e = .returned (.bool r) ∧ Drawn0 w w' := by
  have HR0 := Aside0.mk hr0
  have HC0 := Aside0.mk hc0
  clear hr0 hc0
  have HR1 := Aside0.mk hr1
  have HC1 := Aside0.mk hc1
  clear hr1 hc1
  have H : (if (l0.length : Int) = (l1.length : Int) then (palantypelaw02_told.l0 k l0 l1 0) else (some false)) = some r := h
  clear h
  by_cases c3 : (l0.length : Int) = (l1.length : Int)
  · rw [if_pos c3] at H
    have c3b0 : ((l0.length : Int) == (l1.length : Int)) = true := beq_iff_eq.mpr c3
    have c3b1 : ((l0.length : Int) != (l1.length : Int)) = false := bne_eq_false_iff_eq.mpr c3
    have c3b2 : (l0.length == l1.length) = true := by first | simpa using c3 | (simp at c3 ⊢; omega)
    clear c3
    have H' := Aside0.mk H
    clear H
    go_enter Try.func22, Try.ntmps22
    go_wp2
    repeat (go_quiet (fail); try go_wp2)
    go_loopg [5] k (fun kq v5 w' => ∃ (x5_1 : Int), v5 = .int .i64 x5_1 ∧ Aside0 (palantypelaw02_told.l0 kq l0 l1 x5_1 = some r) ∧ Aside0 (kq ≤ k) ∧ Drawn0 w w')
    case atStart => exact ⟨(0), (by first | rfl | (simp; done) | (simp [*]; done)), H', ⟨Nat.le_refl _⟩, by repeat (first | exact Drawn0.refl _ | apply Drawn0.step)⟩
    case round =>
      clear H'
      try clear c1
      try clear c2
      try clear p2
      try clear c3
      try clear c3b0
      try clear c3b1
      try clear c3b2
      obtain ⟨x5_1, rfl, HA, HK1, ⟨m1, rfl⟩⟩ := hrel
      cases gk with
      | zero => exact absurd HA.out (by simp [palantypelaw02_told.l0])
      | succ k1 =>
        have H := HA.out
        clear HA
        simp only [palantypelaw02_told.l0] at H
        by_cases c4 : x5_1 < (l0.length : Int)
        · rw [if_pos c4] at H
          have c4b0 : decide (x5_1 < (l0.length : Int)) = true := decide_eq_true c4
          clear c4
          by_cases c5 : 0 ≤ x5_1
          · rw [if_pos c5] at H
            have c5b0 : decide (0 ≤ x5_1) = true := decide_eq_true c5
            clear c5
            by_cases c6 : x5_1 < (l1.length : Int)
            · rw [if_pos c6] at H
              have c6b0 : decide (x5_1 < (l1.length : Int)) = true := decide_eq_true c6
              clear c6
              by_cases c7 : ((rd_T54 l0 x5_1).f0) = ((rd_T100 l1 x5_1).f0)
              · rw [if_pos c7] at H
                have c7b0 : (((rd_T54 l0 x5_1).f0) == ((rd_T100 l1 x5_1).f0)) = true := beq_iff_eq.mpr c7
                have c7b1 : (((rd_T54 l0 x5_1).f0) != ((rd_T100 l1 x5_1).f0)) = false := bne_eq_false_iff_eq.mpr c7
                clear c7
                by_cases c8 : ((rd_T54 l0 x5_1).f1) = ((rd_T100 l1 x5_1).f1)
                · rw [if_pos c8] at H
                  have c8b0 : (((rd_T54 l0 x5_1).f1) == ((rd_T100 l1 x5_1).f1)) = true := beq_iff_eq.mpr c8
                  have c8b1 : (((rd_T54 l0 x5_1).f1) != ((rd_T100 l1 x5_1).f1)) = false := bne_eq_false_iff_eq.mpr c8
                  clear c8
                  have H' := Aside0.mk H
                  clear H
                  have p117 : 0 ≤ (x5_1 : Int) := of_decide_eq_true (by first | (with_reducible assumption) | assumption)
                  have q117 : x5_1 < (l0.length : Int) := of_decide_eq_true (by first | (with_reducible assumption) | assumption)
                  obtain ⟨ad117, e117, hx117_0, hx117_1⟩ := at_T54 HR0.out x5_1 p117 q117
                  cases e117
                  replace p117 := eq_true p117
                  replace q117 := eq_true q117
                  have p118 : 0 ≤ (x5_1 : Int) := of_decide_eq_true (by first | (with_reducible assumption) | assumption)
                  have q118 : x5_1 < (l1.length : Int) := of_decide_eq_true (by first | (with_reducible assumption) | assumption)
                  obtain ⟨ad118, e118, hx118_0, hx118_1⟩ := at_T100 HR1.out x5_1 p118 q118
                  cases e118
                  replace p118 := eq_true p118
                  replace q118 := eq_true q118
                  have p119 : 0 ≤ (x5_1 : Int) := of_decide_eq_true (by first | (with_reducible assumption) | assumption)
                  have q119 : x5_1 < (l0.length : Int) := of_decide_eq_true (by first | (with_reducible assumption) | assumption)
                  obtain ⟨ad119, e119, hx119_0, hx119_1⟩ := at_T54 HR0.out x5_1 p119 q119
                  obtain rfl : ad117 = ad119 := (by injection e119)
                  replace p119 := eq_true p119
                  replace q119 := eq_true q119
                  have p120 : 0 ≤ (x5_1 : Int) := of_decide_eq_true (by first | (with_reducible assumption) | assumption)
                  have q120 : x5_1 < (l1.length : Int) := of_decide_eq_true (by first | (with_reducible assumption) | assumption)
                  obtain ⟨ad120, e120, hx120_0, hx120_1⟩ := at_T100 HR1.out x5_1 p120 q120
                  obtain rfl : ad118 = ad120 := (by injection e120)
                  replace p120 := eq_true p120
                  replace q120 := eq_true q120
                  go_wp2
                  repeat (go_quiet (fail); try go_wp2)
                  go_roundg k1
                  case measure => have := HK1.out; omega
                  case rel => exact ⟨(wrap64 (x5_1 + 1)), (by first | rfl | (simp; done) | (simp [*]; done)), H', ⟨by have := HK1.out; omega⟩, by repeat (first | exact Drawn0.refl _ | apply Drawn0.step)⟩
                · rw [if_neg c8] at H
                  have c8b0 : (((rd_T54 l0 x5_1).f1) == ((rd_T100 l1 x5_1).f1)) = false := beq_eq_false_iff_ne.mpr c8
                  have c8b1 : (((rd_T54 l0 x5_1).f1) != ((rd_T100 l1 x5_1).f1)) = true := bne_iff_ne.mpr c8
                  obtain rfl := Option.some.inj H
                  have p117 : 0 ≤ (x5_1 : Int) := of_decide_eq_true (by first | (with_reducible assumption) | assumption)
                  have q117 : x5_1 < (l0.length : Int) := of_decide_eq_true (by first | (with_reducible assumption) | assumption)
                  obtain ⟨ad117, e117, hx117_0, hx117_1⟩ := at_T54 HR0.out x5_1 p117 q117
                  cases e117
                  replace p117 := eq_true p117
                  replace q117 := eq_true q117
                  have p118 : 0 ≤ (x5_1 : Int) := of_decide_eq_true (by first | (with_reducible assumption) | assumption)
                  have q118 : x5_1 < (l1.length : Int) := of_decide_eq_true (by first | (with_reducible assumption) | assumption)
                  obtain ⟨ad118, e118, hx118_0, hx118_1⟩ := at_T100 HR1.out x5_1 p118 q118
                  cases e118
                  replace p118 := eq_true p118
                  replace q118 := eq_true q118
                  have p119 : 0 ≤ (x5_1 : Int) := of_decide_eq_true (by first | (with_reducible assumption) | assumption)
                  have q119 : x5_1 < (l0.length : Int) := of_decide_eq_true (by first | (with_reducible assumption) | assumption)
                  obtain ⟨ad119, e119, hx119_0, hx119_1⟩ := at_T54 HR0.out x5_1 p119 q119
                  obtain rfl : ad117 = ad119 := (by injection e119)
                  replace p119 := eq_true p119
                  replace q119 := eq_true q119
                  have p120 : 0 ≤ (x5_1 : Int) := of_decide_eq_true (by first | (with_reducible assumption) | assumption)
                  have q120 : x5_1 < (l1.length : Int) := of_decide_eq_true (by first | (with_reducible assumption) | assumption)
                  obtain ⟨ad120, e120, hx120_0, hx120_1⟩ := at_T100 HR1.out x5_1 p120 q120
                  obtain rfl : ad118 = ad120 := (by injection e120)
                  replace p120 := eq_true p120
                  replace q120 := eq_true q120
                  go_wp2
                  repeat (go_quiet (fail); try go_wp2)
                  go_ret
                  exact ⟨by first | rfl | (simp; done) | (simp [*]; done), by repeat (first | exact Drawn0.refl _ | apply Drawn0.step)⟩
              · rw [if_neg c7] at H
                have c7b0 : (((rd_T54 l0 x5_1).f0) == ((rd_T100 l1 x5_1).f0)) = false := beq_eq_false_iff_ne.mpr c7
                have c7b1 : (((rd_T54 l0 x5_1).f0) != ((rd_T100 l1 x5_1).f0)) = true := bne_iff_ne.mpr c7
                obtain rfl := Option.some.inj H
                have p117 : 0 ≤ (x5_1 : Int) := of_decide_eq_true (by first | (with_reducible assumption) | assumption)
                have q117 : x5_1 < (l0.length : Int) := of_decide_eq_true (by first | (with_reducible assumption) | assumption)
                obtain ⟨ad117, e117, hx117_0, hx117_1⟩ := at_T54 HR0.out x5_1 p117 q117
                cases e117
                replace p117 := eq_true p117
                replace q117 := eq_true q117
                have p118 : 0 ≤ (x5_1 : Int) := of_decide_eq_true (by first | (with_reducible assumption) | assumption)
                have q118 : x5_1 < (l1.length : Int) := of_decide_eq_true (by first | (with_reducible assumption) | assumption)
                obtain ⟨ad118, e118, hx118_0, hx118_1⟩ := at_T100 HR1.out x5_1 p118 q118
                cases e118
                replace p118 := eq_true p118
                replace q118 := eq_true q118
                go_wp2
                repeat (go_quiet (fail); try go_wp2)
                go_ret
                exact ⟨by first | rfl | (simp; done) | (simp [*]; done), by repeat (first | exact Drawn0.refl _ | apply Drawn0.step)⟩
            · rw [if_neg c6] at H
              exact absurd H (by simp)
          · rw [if_neg c5] at H
            exact absurd H (by simp)
        · rw [if_neg c4] at H
          have c4b0 : decide (x5_1 < (l0.length : Int)) = false := decide_eq_false c4
          clear c4
          obtain rfl := Option.some.inj H
          go_wp2
          repeat (go_quiet (fail); try go_wp2)
          go_ret
          exact ⟨by first | rfl | (simp; done) | (simp [*]; done), by repeat (first | exact Drawn0.refl _ | apply Drawn0.step)⟩
  · rw [if_neg c3] at H
    have c3b0 : ((l0.length : Int) == (l1.length : Int)) = false := beq_eq_false_iff_ne.mpr c3
    have c3b1 : ((l0.length : Int) != (l1.length : Int)) = true := bne_iff_ne.mpr c3
    have c3b2 : (l0.length == l1.length) = false := by first | simpa using c3 | (simp at c3 ⊢; omega)
    obtain rfl := Option.some.inj H
    go_enter Try.func22, Try.ntmps22
    go_wp2
    repeat (go_quiet (fail); try go_wp2)
    go_ret
    exact ⟨by first | rfl | (simp; done) | (simp [*]; done), by repeat (first | exact Drawn0.refl _ | apply Drawn0.step)⟩
end Go.Proofs.Ytdnjmhhjjbdieaa.Q
end
section
namespace Go.Proofs.Ytdnjmhhjjbdieaa.Q
open Go.RowKit Go.Proofs.YtdnjmhhjjbdieaaW.PrintWords
set_option linter.unusedVariables false
theorem rdL {l : List (List RP)} {i : Nat} (h : i < l.length) : rd_L11 l (i : Int) = l[i] := by simp [rd_L11, List.getD, h]
end Go.Proofs.Ytdnjmhhjjbdieaa.Q
end
section
namespace Go.Proofs.Ytdnjmhhjjbdieaa.Q
open Go.RowKit Go.Proofs.YtdnjmhhjjbdieaaW.PrintWords Go.Proofs.YtdnjmhhjjbdieaaW.PrintLast
set_option linter.unusedVariables false
set_option linter.unusedSimpArgs false
def palantypelaw02_Thin.f (a0_0 : Int) (a0_1 : Int) (a0_2 : Int) (a0_3 : Int) (l0_4 : List (S59)) : Option (Bool) := some (decide ((l0_4.length : Int) ≤ 45))
set_option maxHeartbeats 8000000 in
set_option maxRecDepth 100000 in
theorem palantypelaw02_Thin.calls (a0_0 : Int) (a0_1 : Int) (a0_2 : Int) (a0_3 : Int) (A0_4 : Option Addr) (c0_4 : Nat) (l0_4 : List (S59)) (r : Bool) (w : World) (hr0_4 : Kd.C k59 w A0_4 l0_4.length l0_4) (hc0_4 : l0_4.length ≤ c0_4) (h : palantypelaw02_Thin.f a0_0 a0_1 a0_2 a0_3 l0_4 = some r) :
    Calls Try.prog 33 #[.agg #[.int .i64 a0_0, .int .i64 a0_1, .int .i64 a0_2, .int .i64 a0_3, .slice A0_4 l0_4.length c0_4]] w fun e w' => e = .returned (.bool r) ∧ Below w.heap.size w w' := by
  have hu24 := Try.underlying24
  have HR0_4 := Aside0.mk hr0_4
  have HC0_4 := Aside0.mk hc0_4
  clear hr0_4 hc0_4
  have HB := Aside0.mk (Below.refl w.heap.size w)
  have H : (some (decide ((l0_4.length : Int) ≤ 45))) = some r := h
  clear h
  obtain rfl := Option.some.inj H
  go_enter Try.func33, Try.ntmps33
  go_wp2_with (first | ((with_reducible refine gate_dst (N := 1) rfl ?_); refine box_event ?hg (N := 1) ?hd (cs := #[.int .i64 a0_0, .int .i64 a0_1, .int .i64 a0_2, .int .i64 a0_3, .slice A0_4 l0_4.length c0_4]) (t := 24) ?hr ?_; (case hd => rfl); (case hg => rfl); (case hr => first | (go_simp; done) | (go_simp; rfl)); intro gb112 hg w2 hbox hb; have n0_ := Aside0.mk (below_step (by repeat (first | (with_reducible first | exact HB.out | apply below_alloc | apply pw_below_drewN | apply below_drew1) | exact HB.out)) hb); have n1_ := Aside0.mk (hbox); have n2_ := Aside0.mk ((by rw [hg]; exact (below_size (by repeat (first | (with_reducible first | exact HB.out | apply below_alloc | apply pw_below_drewN | apply below_drew1) | exact HB.out))) : w.heap.size ≤ gb112)); have n3_ := Aside0.mk ((by rw [hg]; exact (below_size (by repeat (first | (with_reducible first | exact HB.out | apply below_alloc | apply pw_below_drewN | apply below_drew1) | exact HB.out))) : w.heap.size ≤ gb112)); clear HB; have HB := n0_; have BK112 := n1_; have GW112 := n2_; have GE112 := n3_; clear n0_ n1_ n2_ n3_; clear hb hbox hg; have hcz3_0 : w2.cell? ⟨gb112, 0, none⟩ = some (.int .i64 a0_0) := (blk_cell BK112.out 0).trans rfl; have hcz3_1 : w2.cell? ⟨gb112, 1, none⟩ = some (.int .i64 a0_1) := (blk_cell BK112.out 1).trans rfl; have hcz3_2 : w2.cell? ⟨gb112, 2, none⟩ = some (.int .i64 a0_2) := (blk_cell BK112.out 2).trans rfl; have hcz3_3 : w2.cell? ⟨gb112, 3, none⟩ = some (.int .i64 a0_3) := (blk_cell BK112.out 3).trans rfl; have hcz3_4 : w2.cell? ⟨gb112, 4, none⟩ = some (.slice A0_4 l0_4.length c0_4) := (blk_cell BK112.out 4).trans rfl; have hfz3_0 := blk_frozen BK112.out 0; have hfz3_1 := blk_frozen BK112.out 1; have hfz3_2 := blk_frozen BK112.out 2; have hfz3_3 := blk_frozen BK112.out 3; have hfz3_4 := blk_frozen BK112.out 4))
  go_ret
  exact ⟨by first | rfl | (simp [errW_none, errW_some] <;> rfl) | (simp [*, errW_none, errW_some] <;> rfl), by repeat (first | (with_reducible first | exact HB.out | apply below_alloc | apply pw_below_drewN | apply below_drew1 | refine below_set ?_ GE112.out) | exact HB.out)⟩
end Go.Proofs.Ytdnjmhhjjbdieaa.Q
end
section
namespace Go.Proofs.Ytdnjmhhjjbdieaa.Q
open Go.RowKit Go.Shelf Go.Proofs.YtdnjmhhjjbdieaaW.PrintWords Go.Proofs.YtdnjmhhjjbdieaaW.PrintLast
set_option linter.unusedVariables false
set_option linter.unusedSimpArgs false
attribute [local go_sem] Oper.semAt_some
def reachL (least most short : Int) (n : Nat) (l : List S52) : Nat := ((List.range l.length).filter fun j => !(fwdL least most short n l (j + 1)).isEmpty).length
theorem filter_below (p : Nat → Bool) (i : Nat) : ∀ n, i ≤ n → (∀ j, j < i → p j = true) → (∀ j, i ≤ j → j < n → p j = false) → ((List.range n).filter p).length = i := by
  intro n
  induction n with
  | zero => intro h _ _; obtain rfl : i = 0 := by omega
            rfl
  | succ n ih =>
    intro h h1 h2
    rw [List.range_succ, List.filter_append, List.length_append]
    by_cases e : i = n + 1
    · subst e
      have : (List.range n).filter p = List.range n := List.filter_eq_self.2 (fun j hj => h1 j (by have := List.mem_range.1 hj; omega))
      rw [this]
      simp [h1 n (by omega)]
    · rw [ih (by omega) h1 (fun j a b => h2 j a (by omega))]
      simp [h2 n (by omega) (by omega)]
theorem reach_eq {least most short : Int} {n : Nat} {l : List S52} {i : Nat} (hi : i ≤ l.length) (hne : ∀ j, j ≤ i → ∃ x, fwd least most short n l j x) (hno : i < l.length → ∀ x, ¬ fwd least most short n l (i + 1) x) : reachL least most short n l = i := by
  refine filter_below _ i _ hi (fun j hj => ?_) (fun j h1 h2 => ?_)
  · obtain ⟨x, hx⟩ := hne (j + 1) (by omega)
    cases h : (fwdL least most short n l (j + 1)).isEmpty
    · rfl
    · exact absurd hx (fwdL_empty.1 h x)
  · have : (fwdL least most short n l (j + 1)).isEmpty = true := fwdL_empty.2 (fun x => by
      have := fwd_later (hno (by omega)) (j - i) x
      rwa [show i + 1 + (j - i) = j + 1 by omega] at this)
    simp [this]
end Go.Proofs.Ytdnjmhhjjbdieaa.Q
end
section
namespace Go.Proofs.Ytdnjmhhjjbdieaa.Q
open Go.RowKit Go.Proofs.YtdnjmhhjjbdieaaW.PrintWords
set_option linter.unusedVariables false
theorem wf_moments {l : List S59} (h : ∀ y ∈ l, (Lit.int .u16 y.f0).wf = true ∧ (Lit.int .u16 y.f1).wf = true) : ∀ y ∈ l, (0 ≤ y.f0 ∧ y.f0 < 65536) ∧ (0 ≤ y.f1 ∧ y.f1 < 65536) := fun y hy => ⟨wf_u16 (h y hy).1, wf_u16 (h y hy).2⟩
theorem fwd_take {least most short : Int} {n : Nat} {l : List S52} {m : Nat} : ∀ (j : Nat) (y : St), j ≤ m → (fwd least most short n (l.take m) j y ↔ fwd least most short n l j y)
  | 0, y, _ => Iff.rfl
  | j + 1, y, h => by
    have e : (l.take m)[j]? = l[j]? := by rw [List.getElem?_take, if_pos (by omega)]
    simp only [fwd, e]
    cases hm : l[j]? with
    | none => rfl
    | some x =>
      simp only []
      unfold nexts
      exact exists_congr (fun x => and_congr (fwd_take j x (by omega)) Iff.rfl)
end Go.Proofs.Ytdnjmhhjjbdieaa.Q
end
section
namespace Go.Proofs.Ytdnjmhhjjbdieaa.Q
open Go.RowKit Go.Proofs.YtdnjmhhjjbdieaaW.PrintWords Go.Proofs.YtdnjmhhjjbdieaaW.PrintLast
set_option linter.unusedVariables false
set_option linter.unusedSimpArgs false
def palantypelaw02_few.f (k : Nat) (a0_0 : Int) (a0_1 : Int) (a0_2 : Int) (a0_3 : Int) (l0_4 : List (S59)) : Option (Bool) := (palantypelaw02_Thin.f a0_0 a0_1 a0_2 a0_3 l0_4).bind fun t114 => (if t114 = true then ((palantyperef02_Fault.f k a0_0 a0_1 a0_2 a0_3 l0_4).bind fun t115 => (if t115 = 0 then (if a0_0 ≤ 3 then (if (l0_4.length : Int) ≤ 5 then (some true) else (if a0_0 ≤ 2 then (some (decide ((l0_4.length : Int) ≤ 6))) else (some false))) else (if a0_0 ≤ 2 then (some (decide ((l0_4.length : Int) ≤ 6))) else (some false))) else (some true))) else (some false))
theorem palantypelaw02_few.mono : ∀ a0 a1 a2 a3 a4 k, LeO (palantypelaw02_few.f k a0 a1 a2 a3 a4) (palantypelaw02_few.f (k + 1) a0 a1 a2 a3 a4) := by
  intro a0 a1 a2 a3 a4 k
  unfold palantypelaw02_few.f
  repeat' first
      | (with_reducible exact palantyperef02_Fault.mono _ _ _ _ _ _)
      | (with_reducible exact LeO.refl _)
      | (with_reducible exact LeO.none _)
      | (with_reducible refine LeO.ite ?_ ?_)
      | (with_reducible refine LeO.bind ?_ (fun _ => ?_))
      | exact palantyperef02_Fault.mono _ _ _ _ _ _
      | exact LeO.none _
      | refine LeO.ite ?_ ?_
      | refine LeO.bind ?_ (fun _ => ?_)
set_option maxHeartbeats 8000000 in
set_option maxRecDepth 100000 in
theorem palantypelaw02_few.calls (k : Nat) (a0_0 : Int) (a0_1 : Int) (a0_2 : Int) (a0_3 : Int) (A0_4 : Option Addr) (c0_4 : Nat) (l0_4 : List (S59)) (r : Bool) (w : World) (hr0_4 : Kd.C k59 w A0_4 l0_4.length l0_4) (hc0_4 : l0_4.length ≤ c0_4) (h : palantypelaw02_few.f k a0_0 a0_1 a0_2 a0_3 l0_4 = some r) :
    Calls Try.prog 16 #[.agg #[.int .i64 a0_0, .int .i64 a0_1, .int .i64 a0_2, .int .i64 a0_3, .slice A0_4 l0_4.length c0_4]] w fun e w' => e = .returned (.bool r) ∧ Below w.heap.size w w' := by
  have hu24 := Try.underlying24
  have HR0_4 := Aside0.mk hr0_4
  have HC0_4 := Aside0.mk hc0_4
  clear hr0_4 hc0_4
  have HB := Aside0.mk (Below.refl w.heap.size w)
  have H : ((palantypelaw02_Thin.f a0_0 a0_1 a0_2 a0_3 l0_4).bind fun t114 => (if t114 = true then ((palantyperef02_Fault.f k a0_0 a0_1 a0_2 a0_3 l0_4).bind fun t115 => (if t115 = 0 then (if a0_0 ≤ 3 then (if (l0_4.length : Int) ≤ 5 then (some true) else (if a0_0 ≤ 2 then (some (decide ((l0_4.length : Int) ≤ 6))) else (some false))) else (if a0_0 ≤ 2 then (some (decide ((l0_4.length : Int) ≤ 6))) else (some false))) else (some true))) else (some false))) = some r := h
  clear h
  replace H := Option.bind_eq_some_iff.mp H
  obtain ⟨t114, A20, H⟩ := H
  replace H : (if t114 = true then ((palantyperef02_Fault.f k a0_0 a0_1 a0_2 a0_3 l0_4).bind fun t115 => (if t115 = 0 then (if a0_0 ≤ 3 then (if (l0_4.length : Int) ≤ 5 then (some true) else (if a0_0 ≤ 2 then (some (decide ((l0_4.length : Int) ≤ 6))) else (some false))) else (if a0_0 ≤ 2 then (some (decide ((l0_4.length : Int) ≤ 6))) else (some false))) else (some true))) else (some false)) = some r := H
  have A2 := Aside0.mk A20
  clear A20
  by_cases c3 : t114 = true
  · subst c3
    have H1 : ((palantyperef02_Fault.f k a0_0 a0_1 a0_2 a0_3 l0_4).bind fun t115 => (if t115 = 0 then (if a0_0 ≤ 3 then (if (l0_4.length : Int) ≤ 5 then (some true) else (if a0_0 ≤ 2 then (some (decide ((l0_4.length : Int) ≤ 6))) else (some false))) else (if a0_0 ≤ 2 then (some (decide ((l0_4.length : Int) ≤ 6))) else (some false))) else (some true))) = some r := by rw [if_pos rfl] at H; exact H
    clear H
    have H := H1
    clear H1
    replace H := Option.bind_eq_some_iff.mp H
    obtain ⟨t115, A40, H⟩ := H
    replace H : (if t115 = 0 then (if a0_0 ≤ 3 then (if (l0_4.length : Int) ≤ 5 then (some true) else (if a0_0 ≤ 2 then (some (decide ((l0_4.length : Int) ≤ 6))) else (some false))) else (if a0_0 ≤ 2 then (some (decide ((l0_4.length : Int) ≤ 6))) else (some false))) else (some true)) = some r := H
    have A4 := Aside0.mk A40
    clear A40
    by_cases c5 : t115 = 0
    · rw [if_pos c5] at H
      have c5b0 : (t115 == 0) = true := beq_iff_eq.mpr c5
      have c5b1 : (t115 != 0) = false := bne_eq_false_iff_eq.mpr c5
      clear c5
      by_cases c6 : a0_0 ≤ 3
      · rw [if_pos c6] at H
        have c6b0 : decide (a0_0 ≤ 3) = true := decide_eq_true c6
        clear c6
        by_cases c7 : (l0_4.length : Int) ≤ 5
        · rw [if_pos c7] at H
          have c7b0 : decide ((l0_4.length : Int) ≤ 5) = true := decide_eq_true c7
          have c7b1 : decide (l0_4.length ≤ 5) = true := decide_eq_true (by omega)
          clear c7
          obtain rfl := Option.some.inj H
          go_enter Try.func16, Try.ntmps16
          go_wp2_with (first | ((with_reducible refine gate_dst (N := 1) rfl ?_); refine box_event ?hg (N := 1) ?hd (cs := #[.int .i64 a0_0, .int .i64 a0_1, .int .i64 a0_2, .int .i64 a0_3, .slice A0_4 l0_4.length c0_4]) (t := 24) ?hr ?_; (case hd => rfl); (case hg => rfl); (case hr => first | (go_simp; done) | (go_simp; rfl)); intro gb113 hg w8 hbox hb; have n0_ := Aside0.mk (below_step (by repeat (first | (with_reducible first | exact HB.out | apply below_alloc | apply pw_below_drewN | apply below_drew1) | exact HB.out)) hb); have n1_ := Aside0.mk (hbox); have n2_ := Aside0.mk ((by rw [hg]; exact (below_size (by repeat (first | (with_reducible first | exact HB.out | apply below_alloc | apply pw_below_drewN | apply below_drew1) | exact HB.out))) : w.heap.size ≤ gb113)); have n3_ := Aside0.mk ((by rw [hg]; exact (below_size (by repeat (first | (with_reducible first | exact HB.out | apply below_alloc | apply pw_below_drewN | apply below_drew1) | exact HB.out))) : w.heap.size ≤ gb113)); clear HB; have HB := n0_; have BK113 := n1_; have GW113 := n2_; have GE113 := n3_; clear n0_ n1_ n2_ n3_; clear hb hbox hg; have hcz9_0 : w8.cell? ⟨gb113, 0, none⟩ = some (.int .i64 a0_0) := (blk_cell BK113.out 0).trans rfl; have hcz9_1 : w8.cell? ⟨gb113, 1, none⟩ = some (.int .i64 a0_1) := (blk_cell BK113.out 1).trans rfl; have hcz9_2 : w8.cell? ⟨gb113, 2, none⟩ = some (.int .i64 a0_2) := (blk_cell BK113.out 2).trans rfl; have hcz9_3 : w8.cell? ⟨gb113, 3, none⟩ = some (.int .i64 a0_3) := (blk_cell BK113.out 3).trans rfl; have hcz9_4 : w8.cell? ⟨gb113, 4, none⟩ = some (.slice A0_4 l0_4.length c0_4) := (blk_cell BK113.out 4).trans rfl; have hfz9_0 := blk_frozen BK113.out 0; have hfz9_1 := blk_frozen BK113.out 1; have hfz9_2 := blk_frozen BK113.out 2; have hfz9_3 := blk_frozen BK113.out 3; have hfz9_4 := blk_frozen BK113.out 4) | ((with_reducible refine gate_callee (f := 33) rfl ?_); refine goesL_ (some 4) rfl rfl Try.func33 (by kernel_rfl) rfl #[.agg #[.int .i64 a0_0, .int .i64 a0_1, .int .i64 a0_2, .int .i64 a0_3, .slice A0_4 l0_4.length c0_4]] rfl (by (try simp only [List.map_toArray, List.map_cons, List.map_nil]); first | done | rfl | (simp only [List.length_drop, List.length_take]; rfl)) ?_; (with_reducible refine (palantypelaw02_Thin.calls a0_0 a0_1 a0_2 a0_3 _ _ l0_4 true _ ?side1 ?side2 A2.out).mono ?_); (case side1 => repeat (first | exact (Kd.C_below HR0_4.out HB.out) | (with_reducible refine Kd.C_alloc ?_ _) | (with_reducible refine Kd.C_drewN ?_ _) | (with_reducible refine Kd.C_drew ?_))); (case side2 => exact HC0_4.out); rintro e w10 ⟨rfl, hb⟩; refine ⟨_, rfl, ?_⟩; have n0_ := Aside0.mk (blk_below (g := gb113) (o := .cells #[.int .i64 a0_0, .int .i64 a0_1, .int .i64 a0_2, .int .i64 a0_3, .slice A0_4 l0_4.length c0_4] 24 (0, 0)) (by (with_reducible repeat (first | refine blk_drewN ?_ _ | refine blk_drew ?_ | refine blk_alloc ?_ _)); exact BK113.out) hb); have n1_ := Aside0.mk (below_step (by repeat (first | (with_reducible first | exact HB.out | apply below_alloc | apply pw_below_drewN | apply below_drew1 | refine below_set ?_ GE113.out) | exact HB.out)) hb); clear BK113; clear HB; have BK113 := n0_; have HB := n1_; clear n0_ n1_; (try clear hb); (try clear hb2); (try clear hk); (try clear hi); have hcz11_0 : w10.cell? ⟨gb113, 0, none⟩ = some (.int .i64 a0_0) := (blk_cell BK113.out 0).trans rfl; have hcz11_1 : w10.cell? ⟨gb113, 1, none⟩ = some (.int .i64 a0_1) := (blk_cell BK113.out 1).trans rfl; have hcz11_2 : w10.cell? ⟨gb113, 2, none⟩ = some (.int .i64 a0_2) := (blk_cell BK113.out 2).trans rfl; have hcz11_3 : w10.cell? ⟨gb113, 3, none⟩ = some (.int .i64 a0_3) := (blk_cell BK113.out 3).trans rfl; have hcz11_4 : w10.cell? ⟨gb113, 4, none⟩ = some (.slice A0_4 l0_4.length c0_4) := (blk_cell BK113.out 4).trans rfl; have hfz11_0 := blk_frozen BK113.out 0; have hfz11_1 := blk_frozen BK113.out 1; have hfz11_2 := blk_frozen BK113.out 2; have hfz11_3 := blk_frozen BK113.out 3; have hfz11_4 := blk_frozen BK113.out 4) | (go_at_call 20; (with_reducible refine (palantyperef02_Fault.calls k a0_0 a0_1 a0_2 a0_3 _ _ l0_4 t115 _ ?side1 ?side2 A4.out).mono ?_); (case side1 => repeat (first | exact (Kd.C_below HR0_4.out HB.out) | (with_reducible refine Kd.C_alloc ?_ _) | (with_reducible refine Kd.C_drewN ?_ _) | (with_reducible refine Kd.C_drew ?_))); (case side2 => exact HC0_4.out); rintro e w12 ⟨rfl, hb⟩; have n0_ := Aside0.mk (blk_below (g := gb113) (o := .cells #[.int .i64 a0_0, .int .i64 a0_1, .int .i64 a0_2, .int .i64 a0_3, .slice A0_4 l0_4.length c0_4] 24 (0, 0)) (by (with_reducible repeat (first | refine blk_drewN ?_ _ | refine blk_drew ?_ | refine blk_alloc ?_ _)); exact BK113.out) hb); have n1_ := Aside0.mk (below_step (by repeat (first | (with_reducible first | exact HB.out | apply below_alloc | apply pw_below_drewN | apply below_drew1 | refine below_set ?_ GE113.out) | exact HB.out)) hb); clear BK113; clear HB; have BK113 := n0_; have HB := n1_; clear n0_ n1_; (try clear hb); (try clear hb2); (try clear hk); (try clear hi); have hcz13_0 : w12.cell? ⟨gb113, 0, none⟩ = some (.int .i64 a0_0) := (blk_cell BK113.out 0).trans rfl; have hcz13_1 : w12.cell? ⟨gb113, 1, none⟩ = some (.int .i64 a0_1) := (blk_cell BK113.out 1).trans rfl; have hcz13_2 : w12.cell? ⟨gb113, 2, none⟩ = some (.int .i64 a0_2) := (blk_cell BK113.out 2).trans rfl; have hcz13_3 : w12.cell? ⟨gb113, 3, none⟩ = some (.int .i64 a0_3) := (blk_cell BK113.out 3).trans rfl; have hcz13_4 : w12.cell? ⟨gb113, 4, none⟩ = some (.slice A0_4 l0_4.length c0_4) := (blk_cell BK113.out 4).trans rfl; have hfz13_0 := blk_frozen BK113.out 0; have hfz13_1 := blk_frozen BK113.out 1; have hfz13_2 := blk_frozen BK113.out 2; have hfz13_3 := blk_frozen BK113.out 3; have hfz13_4 := blk_frozen BK113.out 4))
          go_ret
          exact ⟨by first | rfl | (simp [errW_none, errW_some] <;> rfl) | (simp [*, errW_none, errW_some] <;> rfl), by repeat (first | (with_reducible first | exact HB.out | apply below_alloc | apply pw_below_drewN | apply below_drew1 | refine below_set ?_ GE113.out) | exact HB.out)⟩
        · rw [if_neg c7] at H
          have c7b0 : decide ((l0_4.length : Int) ≤ 5) = false := decide_eq_false c7
          have c7b1 : decide (l0_4.length ≤ 5) = false := decide_eq_false (by omega)
          clear c7
          by_cases c14 : a0_0 ≤ 2
          · rw [if_pos c14] at H
            have c14b0 : decide (a0_0 ≤ 2) = true := decide_eq_true c14
            clear c14
            obtain rfl := Option.some.inj H
            go_enter Try.func16, Try.ntmps16
            go_wp2_with (first | ((with_reducible refine gate_dst (N := 1) rfl ?_); refine box_event ?hg (N := 1) ?hd (cs := #[.int .i64 a0_0, .int .i64 a0_1, .int .i64 a0_2, .int .i64 a0_3, .slice A0_4 l0_4.length c0_4]) (t := 24) ?hr ?_; (case hd => rfl); (case hg => rfl); (case hr => first | (go_simp; done) | (go_simp; rfl)); intro gb113 hg w15 hbox hb; have n0_ := Aside0.mk (below_step (by repeat (first | (with_reducible first | exact HB.out | apply below_alloc | apply pw_below_drewN | apply below_drew1) | exact HB.out)) hb); have n1_ := Aside0.mk (hbox); have n2_ := Aside0.mk ((by rw [hg]; exact (below_size (by repeat (first | (with_reducible first | exact HB.out | apply below_alloc | apply pw_below_drewN | apply below_drew1) | exact HB.out))) : w.heap.size ≤ gb113)); have n3_ := Aside0.mk ((by rw [hg]; exact (below_size (by repeat (first | (with_reducible first | exact HB.out | apply below_alloc | apply pw_below_drewN | apply below_drew1) | exact HB.out))) : w.heap.size ≤ gb113)); clear HB; have HB := n0_; have BK113 := n1_; have GW113 := n2_; have GE113 := n3_; clear n0_ n1_ n2_ n3_; clear hb hbox hg; have hcz16_0 : w15.cell? ⟨gb113, 0, none⟩ = some (.int .i64 a0_0) := (blk_cell BK113.out 0).trans rfl; have hcz16_1 : w15.cell? ⟨gb113, 1, none⟩ = some (.int .i64 a0_1) := (blk_cell BK113.out 1).trans rfl; have hcz16_2 : w15.cell? ⟨gb113, 2, none⟩ = some (.int .i64 a0_2) := (blk_cell BK113.out 2).trans rfl; have hcz16_3 : w15.cell? ⟨gb113, 3, none⟩ = some (.int .i64 a0_3) := (blk_cell BK113.out 3).trans rfl; have hcz16_4 : w15.cell? ⟨gb113, 4, none⟩ = some (.slice A0_4 l0_4.length c0_4) := (blk_cell BK113.out 4).trans rfl; have hfz16_0 := blk_frozen BK113.out 0; have hfz16_1 := blk_frozen BK113.out 1; have hfz16_2 := blk_frozen BK113.out 2; have hfz16_3 := blk_frozen BK113.out 3; have hfz16_4 := blk_frozen BK113.out 4) | ((with_reducible refine gate_callee (f := 33) rfl ?_); refine goesL_ (some 4) rfl rfl Try.func33 (by kernel_rfl) rfl #[.agg #[.int .i64 a0_0, .int .i64 a0_1, .int .i64 a0_2, .int .i64 a0_3, .slice A0_4 l0_4.length c0_4]] rfl (by (try simp only [List.map_toArray, List.map_cons, List.map_nil]); first | done | rfl | (simp only [List.length_drop, List.length_take]; rfl)) ?_; (with_reducible refine (palantypelaw02_Thin.calls a0_0 a0_1 a0_2 a0_3 _ _ l0_4 true _ ?side1 ?side2 A2.out).mono ?_); (case side1 => repeat (first | exact (Kd.C_below HR0_4.out HB.out) | (with_reducible refine Kd.C_alloc ?_ _) | (with_reducible refine Kd.C_drewN ?_ _) | (with_reducible refine Kd.C_drew ?_))); (case side2 => exact HC0_4.out); rintro e w17 ⟨rfl, hb⟩; refine ⟨_, rfl, ?_⟩; have n0_ := Aside0.mk (blk_below (g := gb113) (o := .cells #[.int .i64 a0_0, .int .i64 a0_1, .int .i64 a0_2, .int .i64 a0_3, .slice A0_4 l0_4.length c0_4] 24 (0, 0)) (by (with_reducible repeat (first | refine blk_drewN ?_ _ | refine blk_drew ?_ | refine blk_alloc ?_ _)); exact BK113.out) hb); have n1_ := Aside0.mk (below_step (by repeat (first | (with_reducible first | exact HB.out | apply below_alloc | apply pw_below_drewN | apply below_drew1 | refine below_set ?_ GE113.out) | exact HB.out)) hb); clear BK113; clear HB; have BK113 := n0_; have HB := n1_; clear n0_ n1_; (try clear hb); (try clear hb2); (try clear hk); (try clear hi); have hcz18_0 : w17.cell? ⟨gb113, 0, none⟩ = some (.int .i64 a0_0) := (blk_cell BK113.out 0).trans rfl; have hcz18_1 : w17.cell? ⟨gb113, 1, none⟩ = some (.int .i64 a0_1) := (blk_cell BK113.out 1).trans rfl; have hcz18_2 : w17.cell? ⟨gb113, 2, none⟩ = some (.int .i64 a0_2) := (blk_cell BK113.out 2).trans rfl; have hcz18_3 : w17.cell? ⟨gb113, 3, none⟩ = some (.int .i64 a0_3) := (blk_cell BK113.out 3).trans rfl; have hcz18_4 : w17.cell? ⟨gb113, 4, none⟩ = some (.slice A0_4 l0_4.length c0_4) := (blk_cell BK113.out 4).trans rfl; have hfz18_0 := blk_frozen BK113.out 0; have hfz18_1 := blk_frozen BK113.out 1; have hfz18_2 := blk_frozen BK113.out 2; have hfz18_3 := blk_frozen BK113.out 3; have hfz18_4 := blk_frozen BK113.out 4) | (go_at_call 20; (with_reducible refine (palantyperef02_Fault.calls k a0_0 a0_1 a0_2 a0_3 _ _ l0_4 t115 _ ?side1 ?side2 A4.out).mono ?_); (case side1 => repeat (first | exact (Kd.C_below HR0_4.out HB.out) | (with_reducible refine Kd.C_alloc ?_ _) | (with_reducible refine Kd.C_drewN ?_ _) | (with_reducible refine Kd.C_drew ?_))); (case side2 => exact HC0_4.out); rintro e w19 ⟨rfl, hb⟩; have n0_ := Aside0.mk (blk_below (g := gb113) (o := .cells #[.int .i64 a0_0, .int .i64 a0_1, .int .i64 a0_2, .int .i64 a0_3, .slice A0_4 l0_4.length c0_4] 24 (0, 0)) (by (with_reducible repeat (first | refine blk_drewN ?_ _ | refine blk_drew ?_ | refine blk_alloc ?_ _)); exact BK113.out) hb); have n1_ := Aside0.mk (below_step (by repeat (first | (with_reducible first | exact HB.out | apply below_alloc | apply pw_below_drewN | apply below_drew1 | refine below_set ?_ GE113.out) | exact HB.out)) hb); clear BK113; clear HB; have BK113 := n0_; have HB := n1_; clear n0_ n1_; (try clear hb); (try clear hb2); (try clear hk); (try clear hi); have hcz20_0 : w19.cell? ⟨gb113, 0, none⟩ = some (.int .i64 a0_0) := (blk_cell BK113.out 0).trans rfl; have hcz20_1 : w19.cell? ⟨gb113, 1, none⟩ = some (.int .i64 a0_1) := (blk_cell BK113.out 1).trans rfl; have hcz20_2 : w19.cell? ⟨gb113, 2, none⟩ = some (.int .i64 a0_2) := (blk_cell BK113.out 2).trans rfl; have hcz20_3 : w19.cell? ⟨gb113, 3, none⟩ = some (.int .i64 a0_3) := (blk_cell BK113.out 3).trans rfl; have hcz20_4 : w19.cell? ⟨gb113, 4, none⟩ = some (.slice A0_4 l0_4.length c0_4) := (blk_cell BK113.out 4).trans rfl; have hfz20_0 := blk_frozen BK113.out 0; have hfz20_1 := blk_frozen BK113.out 1; have hfz20_2 := blk_frozen BK113.out 2; have hfz20_3 := blk_frozen BK113.out 3; have hfz20_4 := blk_frozen BK113.out 4))
            go_ret
            exact ⟨by first | rfl | (simp [errW_none, errW_some] <;> rfl) | (simp [*, errW_none, errW_some] <;> rfl), by repeat (first | (with_reducible first | exact HB.out | apply below_alloc | apply pw_below_drewN | apply below_drew1 | refine below_set ?_ GE113.out) | exact HB.out)⟩
          · rw [if_neg c14] at H
            have c14b0 : decide (a0_0 ≤ 2) = false := decide_eq_false c14
            clear c14
            obtain rfl := Option.some.inj H
            go_enter Try.func16, Try.ntmps16
            go_wp2_with (first | ((with_reducible refine gate_dst (N := 1) rfl ?_); refine box_event ?hg (N := 1) ?hd (cs := #[.int .i64 a0_0, .int .i64 a0_1, .int .i64 a0_2, .int .i64 a0_3, .slice A0_4 l0_4.length c0_4]) (t := 24) ?hr ?_; (case hd => rfl); (case hg => rfl); (case hr => first | (go_simp; done) | (go_simp; rfl)); intro gb113 hg w21 hbox hb; have n0_ := Aside0.mk (below_step (by repeat (first | (with_reducible first | exact HB.out | apply below_alloc | apply pw_below_drewN | apply below_drew1) | exact HB.out)) hb); have n1_ := Aside0.mk (hbox); have n2_ := Aside0.mk ((by rw [hg]; exact (below_size (by repeat (first | (with_reducible first | exact HB.out | apply below_alloc | apply pw_below_drewN | apply below_drew1) | exact HB.out))) : w.heap.size ≤ gb113)); have n3_ := Aside0.mk ((by rw [hg]; exact (below_size (by repeat (first | (with_reducible first | exact HB.out | apply below_alloc | apply pw_below_drewN | apply below_drew1) | exact HB.out))) : w.heap.size ≤ gb113)); clear HB; have HB := n0_; have BK113 := n1_; have GW113 := n2_; have GE113 := n3_; clear n0_ n1_ n2_ n3_; clear hb hbox hg; have hcz22_0 : w21.cell? ⟨gb113, 0, none⟩ = some (.int .i64 a0_0) := (blk_cell BK113.out 0).trans rfl; have hcz22_1 : w21.cell? ⟨gb113, 1, none⟩ = some (.int .i64 a0_1) := (blk_cell BK113.out 1).trans rfl; have hcz22_2 : w21.cell? ⟨gb113, 2, none⟩ = some (.int .i64 a0_2) := (blk_cell BK113.out 2).trans rfl; have hcz22_3 : w21.cell? ⟨gb113, 3, none⟩ = some (.int .i64 a0_3) := (blk_cell BK113.out 3).trans rfl; have hcz22_4 : w21.cell? ⟨gb113, 4, none⟩ = some (.slice A0_4 l0_4.length c0_4) := (blk_cell BK113.out 4).trans rfl; have hfz22_0 := blk_frozen BK113.out 0; have hfz22_1 := blk_frozen BK113.out 1; have hfz22_2 := blk_frozen BK113.out 2; have hfz22_3 := blk_frozen BK113.out 3; have hfz22_4 := blk_frozen BK113.out 4) | ((with_reducible refine gate_callee (f := 33) rfl ?_); refine goesL_ (some 4) rfl rfl Try.func33 (by kernel_rfl) rfl #[.agg #[.int .i64 a0_0, .int .i64 a0_1, .int .i64 a0_2, .int .i64 a0_3, .slice A0_4 l0_4.length c0_4]] rfl (by (try simp only [List.map_toArray, List.map_cons, List.map_nil]); first | done | rfl | (simp only [List.length_drop, List.length_take]; rfl)) ?_; (with_reducible refine (palantypelaw02_Thin.calls a0_0 a0_1 a0_2 a0_3 _ _ l0_4 true _ ?side1 ?side2 A2.out).mono ?_); (case side1 => repeat (first | exact (Kd.C_below HR0_4.out HB.out) | (with_reducible refine Kd.C_alloc ?_ _) | (with_reducible refine Kd.C_drewN ?_ _) | (with_reducible refine Kd.C_drew ?_))); (case side2 => exact HC0_4.out); rintro e w23 ⟨rfl, hb⟩; refine ⟨_, rfl, ?_⟩; have n0_ := Aside0.mk (blk_below (g := gb113) (o := .cells #[.int .i64 a0_0, .int .i64 a0_1, .int .i64 a0_2, .int .i64 a0_3, .slice A0_4 l0_4.length c0_4] 24 (0, 0)) (by (with_reducible repeat (first | refine blk_drewN ?_ _ | refine blk_drew ?_ | refine blk_alloc ?_ _)); exact BK113.out) hb); have n1_ := Aside0.mk (below_step (by repeat (first | (with_reducible first | exact HB.out | apply below_alloc | apply pw_below_drewN | apply below_drew1 | refine below_set ?_ GE113.out) | exact HB.out)) hb); clear BK113; clear HB; have BK113 := n0_; have HB := n1_; clear n0_ n1_; (try clear hb); (try clear hb2); (try clear hk); (try clear hi); have hcz24_0 : w23.cell? ⟨gb113, 0, none⟩ = some (.int .i64 a0_0) := (blk_cell BK113.out 0).trans rfl; have hcz24_1 : w23.cell? ⟨gb113, 1, none⟩ = some (.int .i64 a0_1) := (blk_cell BK113.out 1).trans rfl; have hcz24_2 : w23.cell? ⟨gb113, 2, none⟩ = some (.int .i64 a0_2) := (blk_cell BK113.out 2).trans rfl; have hcz24_3 : w23.cell? ⟨gb113, 3, none⟩ = some (.int .i64 a0_3) := (blk_cell BK113.out 3).trans rfl; have hcz24_4 : w23.cell? ⟨gb113, 4, none⟩ = some (.slice A0_4 l0_4.length c0_4) := (blk_cell BK113.out 4).trans rfl; have hfz24_0 := blk_frozen BK113.out 0; have hfz24_1 := blk_frozen BK113.out 1; have hfz24_2 := blk_frozen BK113.out 2; have hfz24_3 := blk_frozen BK113.out 3; have hfz24_4 := blk_frozen BK113.out 4) | (go_at_call 20; (with_reducible refine (palantyperef02_Fault.calls k a0_0 a0_1 a0_2 a0_3 _ _ l0_4 t115 _ ?side1 ?side2 A4.out).mono ?_); (case side1 => repeat (first | exact (Kd.C_below HR0_4.out HB.out) | (with_reducible refine Kd.C_alloc ?_ _) | (with_reducible refine Kd.C_drewN ?_ _) | (with_reducible refine Kd.C_drew ?_))); (case side2 => exact HC0_4.out); rintro e w25 ⟨rfl, hb⟩; have n0_ := Aside0.mk (blk_below (g := gb113) (o := .cells #[.int .i64 a0_0, .int .i64 a0_1, .int .i64 a0_2, .int .i64 a0_3, .slice A0_4 l0_4.length c0_4] 24 (0, 0)) (by (with_reducible repeat (first | refine blk_drewN ?_ _ | refine blk_drew ?_ | refine blk_alloc ?_ _)); exact BK113.out) hb); have n1_ := Aside0.mk (below_step (by repeat (first | (with_reducible first | exact HB.out | apply below_alloc | apply pw_below_drewN | apply below_drew1 | refine below_set ?_ GE113.out) | exact HB.out)) hb); clear BK113; clear HB; have BK113 := n0_; have HB := n1_; clear n0_ n1_; (try clear hb); (try clear hb2); (try clear hk); (try clear hi); have hcz26_0 : w25.cell? ⟨gb113, 0, none⟩ = some (.int .i64 a0_0) := (blk_cell BK113.out 0).trans rfl; have hcz26_1 : w25.cell? ⟨gb113, 1, none⟩ = some (.int .i64 a0_1) := (blk_cell BK113.out 1).trans rfl; have hcz26_2 : w25.cell? ⟨gb113, 2, none⟩ = some (.int .i64 a0_2) := (blk_cell BK113.out 2).trans rfl; have hcz26_3 : w25.cell? ⟨gb113, 3, none⟩ = some (.int .i64 a0_3) := (blk_cell BK113.out 3).trans rfl; have hcz26_4 : w25.cell? ⟨gb113, 4, none⟩ = some (.slice A0_4 l0_4.length c0_4) := (blk_cell BK113.out 4).trans rfl; have hfz26_0 := blk_frozen BK113.out 0; have hfz26_1 := blk_frozen BK113.out 1; have hfz26_2 := blk_frozen BK113.out 2; have hfz26_3 := blk_frozen BK113.out 3; have hfz26_4 := blk_frozen BK113.out 4))
            go_ret
            exact ⟨by first | rfl | (simp [errW_none, errW_some] <;> rfl) | (simp [*, errW_none, errW_some] <;> rfl), by repeat (first | (with_reducible first | exact HB.out | apply below_alloc | apply pw_below_drewN | apply below_drew1 | refine below_set ?_ GE113.out) | exact HB.out)⟩
      · rw [if_neg c6] at H
        have c6b0 : decide (a0_0 ≤ 3) = false := decide_eq_false c6
        clear c6
        by_cases c27 : a0_0 ≤ 2
        · rw [if_pos c27] at H
          have c27b0 : decide (a0_0 ≤ 2) = true := decide_eq_true c27
          clear c27
          obtain rfl := Option.some.inj H
          go_enter Try.func16, Try.ntmps16
          go_wp2_with (first | ((with_reducible refine gate_dst (N := 1) rfl ?_); refine box_event ?hg (N := 1) ?hd (cs := #[.int .i64 a0_0, .int .i64 a0_1, .int .i64 a0_2, .int .i64 a0_3, .slice A0_4 l0_4.length c0_4]) (t := 24) ?hr ?_; (case hd => rfl); (case hg => rfl); (case hr => first | (go_simp; done) | (go_simp; rfl)); intro gb113 hg w28 hbox hb; have n0_ := Aside0.mk (below_step (by repeat (first | (with_reducible first | exact HB.out | apply below_alloc | apply pw_below_drewN | apply below_drew1) | exact HB.out)) hb); have n1_ := Aside0.mk (hbox); have n2_ := Aside0.mk ((by rw [hg]; exact (below_size (by repeat (first | (with_reducible first | exact HB.out | apply below_alloc | apply pw_below_drewN | apply below_drew1) | exact HB.out))) : w.heap.size ≤ gb113)); have n3_ := Aside0.mk ((by rw [hg]; exact (below_size (by repeat (first | (with_reducible first | exact HB.out | apply below_alloc | apply pw_below_drewN | apply below_drew1) | exact HB.out))) : w.heap.size ≤ gb113)); clear HB; have HB := n0_; have BK113 := n1_; have GW113 := n2_; have GE113 := n3_; clear n0_ n1_ n2_ n3_; clear hb hbox hg; have hcz29_0 : w28.cell? ⟨gb113, 0, none⟩ = some (.int .i64 a0_0) := (blk_cell BK113.out 0).trans rfl; have hcz29_1 : w28.cell? ⟨gb113, 1, none⟩ = some (.int .i64 a0_1) := (blk_cell BK113.out 1).trans rfl; have hcz29_2 : w28.cell? ⟨gb113, 2, none⟩ = some (.int .i64 a0_2) := (blk_cell BK113.out 2).trans rfl; have hcz29_3 : w28.cell? ⟨gb113, 3, none⟩ = some (.int .i64 a0_3) := (blk_cell BK113.out 3).trans rfl; have hcz29_4 : w28.cell? ⟨gb113, 4, none⟩ = some (.slice A0_4 l0_4.length c0_4) := (blk_cell BK113.out 4).trans rfl; have hfz29_0 := blk_frozen BK113.out 0; have hfz29_1 := blk_frozen BK113.out 1; have hfz29_2 := blk_frozen BK113.out 2; have hfz29_3 := blk_frozen BK113.out 3; have hfz29_4 := blk_frozen BK113.out 4) | ((with_reducible refine gate_callee (f := 33) rfl ?_); refine goesL_ (some 4) rfl rfl Try.func33 (by kernel_rfl) rfl #[.agg #[.int .i64 a0_0, .int .i64 a0_1, .int .i64 a0_2, .int .i64 a0_3, .slice A0_4 l0_4.length c0_4]] rfl (by (try simp only [List.map_toArray, List.map_cons, List.map_nil]); first | done | rfl | (simp only [List.length_drop, List.length_take]; rfl)) ?_; (with_reducible refine (palantypelaw02_Thin.calls a0_0 a0_1 a0_2 a0_3 _ _ l0_4 true _ ?side1 ?side2 A2.out).mono ?_); (case side1 => repeat (first | exact (Kd.C_below HR0_4.out HB.out) | (with_reducible refine Kd.C_alloc ?_ _) | (with_reducible refine Kd.C_drewN ?_ _) | (with_reducible refine Kd.C_drew ?_))); (case side2 => exact HC0_4.out); rintro e w30 ⟨rfl, hb⟩; refine ⟨_, rfl, ?_⟩; have n0_ := Aside0.mk (blk_below (g := gb113) (o := .cells #[.int .i64 a0_0, .int .i64 a0_1, .int .i64 a0_2, .int .i64 a0_3, .slice A0_4 l0_4.length c0_4] 24 (0, 0)) (by (with_reducible repeat (first | refine blk_drewN ?_ _ | refine blk_drew ?_ | refine blk_alloc ?_ _)); exact BK113.out) hb); have n1_ := Aside0.mk (below_step (by repeat (first | (with_reducible first | exact HB.out | apply below_alloc | apply pw_below_drewN | apply below_drew1 | refine below_set ?_ GE113.out) | exact HB.out)) hb); clear BK113; clear HB; have BK113 := n0_; have HB := n1_; clear n0_ n1_; (try clear hb); (try clear hb2); (try clear hk); (try clear hi); have hcz31_0 : w30.cell? ⟨gb113, 0, none⟩ = some (.int .i64 a0_0) := (blk_cell BK113.out 0).trans rfl; have hcz31_1 : w30.cell? ⟨gb113, 1, none⟩ = some (.int .i64 a0_1) := (blk_cell BK113.out 1).trans rfl; have hcz31_2 : w30.cell? ⟨gb113, 2, none⟩ = some (.int .i64 a0_2) := (blk_cell BK113.out 2).trans rfl; have hcz31_3 : w30.cell? ⟨gb113, 3, none⟩ = some (.int .i64 a0_3) := (blk_cell BK113.out 3).trans rfl; have hcz31_4 : w30.cell? ⟨gb113, 4, none⟩ = some (.slice A0_4 l0_4.length c0_4) := (blk_cell BK113.out 4).trans rfl; have hfz31_0 := blk_frozen BK113.out 0; have hfz31_1 := blk_frozen BK113.out 1; have hfz31_2 := blk_frozen BK113.out 2; have hfz31_3 := blk_frozen BK113.out 3; have hfz31_4 := blk_frozen BK113.out 4) | (go_at_call 20; (with_reducible refine (palantyperef02_Fault.calls k a0_0 a0_1 a0_2 a0_3 _ _ l0_4 t115 _ ?side1 ?side2 A4.out).mono ?_); (case side1 => repeat (first | exact (Kd.C_below HR0_4.out HB.out) | (with_reducible refine Kd.C_alloc ?_ _) | (with_reducible refine Kd.C_drewN ?_ _) | (with_reducible refine Kd.C_drew ?_))); (case side2 => exact HC0_4.out); rintro e w32 ⟨rfl, hb⟩; have n0_ := Aside0.mk (blk_below (g := gb113) (o := .cells #[.int .i64 a0_0, .int .i64 a0_1, .int .i64 a0_2, .int .i64 a0_3, .slice A0_4 l0_4.length c0_4] 24 (0, 0)) (by (with_reducible repeat (first | refine blk_drewN ?_ _ | refine blk_drew ?_ | refine blk_alloc ?_ _)); exact BK113.out) hb); have n1_ := Aside0.mk (below_step (by repeat (first | (with_reducible first | exact HB.out | apply below_alloc | apply pw_below_drewN | apply below_drew1 | refine below_set ?_ GE113.out) | exact HB.out)) hb); clear BK113; clear HB; have BK113 := n0_; have HB := n1_; clear n0_ n1_; (try clear hb); (try clear hb2); (try clear hk); (try clear hi); have hcz33_0 : w32.cell? ⟨gb113, 0, none⟩ = some (.int .i64 a0_0) := (blk_cell BK113.out 0).trans rfl; have hcz33_1 : w32.cell? ⟨gb113, 1, none⟩ = some (.int .i64 a0_1) := (blk_cell BK113.out 1).trans rfl; have hcz33_2 : w32.cell? ⟨gb113, 2, none⟩ = some (.int .i64 a0_2) := (blk_cell BK113.out 2).trans rfl; have hcz33_3 : w32.cell? ⟨gb113, 3, none⟩ = some (.int .i64 a0_3) := (blk_cell BK113.out 3).trans rfl; have hcz33_4 : w32.cell? ⟨gb113, 4, none⟩ = some (.slice A0_4 l0_4.length c0_4) := (blk_cell BK113.out 4).trans rfl; have hfz33_0 := blk_frozen BK113.out 0; have hfz33_1 := blk_frozen BK113.out 1; have hfz33_2 := blk_frozen BK113.out 2; have hfz33_3 := blk_frozen BK113.out 3; have hfz33_4 := blk_frozen BK113.out 4))
          go_ret
          exact ⟨by first | rfl | (simp [errW_none, errW_some] <;> rfl) | (simp [*, errW_none, errW_some] <;> rfl), by repeat (first | (with_reducible first | exact HB.out | apply below_alloc | apply pw_below_drewN | apply below_drew1 | refine below_set ?_ GE113.out) | exact HB.out)⟩
        · rw [if_neg c27] at H
          have c27b0 : decide (a0_0 ≤ 2) = false := decide_eq_false c27
          clear c27
          obtain rfl := Option.some.inj H
          go_enter Try.func16, Try.ntmps16
          go_wp2_with (first | ((with_reducible refine gate_dst (N := 1) rfl ?_); refine box_event ?hg (N := 1) ?hd (cs := #[.int .i64 a0_0, .int .i64 a0_1, .int .i64 a0_2, .int .i64 a0_3, .slice A0_4 l0_4.length c0_4]) (t := 24) ?hr ?_; (case hd => rfl); (case hg => rfl); (case hr => first | (go_simp; done) | (go_simp; rfl)); intro gb113 hg w34 hbox hb; have n0_ := Aside0.mk (below_step (by repeat (first | (with_reducible first | exact HB.out | apply below_alloc | apply pw_below_drewN | apply below_drew1) | exact HB.out)) hb); have n1_ := Aside0.mk (hbox); have n2_ := Aside0.mk ((by rw [hg]; exact (below_size (by repeat (first | (with_reducible first | exact HB.out | apply below_alloc | apply pw_below_drewN | apply below_drew1) | exact HB.out))) : w.heap.size ≤ gb113)); have n3_ := Aside0.mk ((by rw [hg]; exact (below_size (by repeat (first | (with_reducible first | exact HB.out | apply below_alloc | apply pw_below_drewN | apply below_drew1) | exact HB.out))) : w.heap.size ≤ gb113)); clear HB; have HB := n0_; have BK113 := n1_; have GW113 := n2_; have GE113 := n3_; clear n0_ n1_ n2_ n3_; clear hb hbox hg; have hcz35_0 : w34.cell? ⟨gb113, 0, none⟩ = some (.int .i64 a0_0) := (blk_cell BK113.out 0).trans rfl; have hcz35_1 : w34.cell? ⟨gb113, 1, none⟩ = some (.int .i64 a0_1) := (blk_cell BK113.out 1).trans rfl; have hcz35_2 : w34.cell? ⟨gb113, 2, none⟩ = some (.int .i64 a0_2) := (blk_cell BK113.out 2).trans rfl; have hcz35_3 : w34.cell? ⟨gb113, 3, none⟩ = some (.int .i64 a0_3) := (blk_cell BK113.out 3).trans rfl; have hcz35_4 : w34.cell? ⟨gb113, 4, none⟩ = some (.slice A0_4 l0_4.length c0_4) := (blk_cell BK113.out 4).trans rfl; have hfz35_0 := blk_frozen BK113.out 0; have hfz35_1 := blk_frozen BK113.out 1; have hfz35_2 := blk_frozen BK113.out 2; have hfz35_3 := blk_frozen BK113.out 3; have hfz35_4 := blk_frozen BK113.out 4) | ((with_reducible refine gate_callee (f := 33) rfl ?_); refine goesL_ (some 4) rfl rfl Try.func33 (by kernel_rfl) rfl #[.agg #[.int .i64 a0_0, .int .i64 a0_1, .int .i64 a0_2, .int .i64 a0_3, .slice A0_4 l0_4.length c0_4]] rfl (by (try simp only [List.map_toArray, List.map_cons, List.map_nil]); first | done | rfl | (simp only [List.length_drop, List.length_take]; rfl)) ?_; (with_reducible refine (palantypelaw02_Thin.calls a0_0 a0_1 a0_2 a0_3 _ _ l0_4 true _ ?side1 ?side2 A2.out).mono ?_); (case side1 => repeat (first | exact (Kd.C_below HR0_4.out HB.out) | (with_reducible refine Kd.C_alloc ?_ _) | (with_reducible refine Kd.C_drewN ?_ _) | (with_reducible refine Kd.C_drew ?_))); (case side2 => exact HC0_4.out); rintro e w36 ⟨rfl, hb⟩; refine ⟨_, rfl, ?_⟩; have n0_ := Aside0.mk (blk_below (g := gb113) (o := .cells #[.int .i64 a0_0, .int .i64 a0_1, .int .i64 a0_2, .int .i64 a0_3, .slice A0_4 l0_4.length c0_4] 24 (0, 0)) (by (with_reducible repeat (first | refine blk_drewN ?_ _ | refine blk_drew ?_ | refine blk_alloc ?_ _)); exact BK113.out) hb); have n1_ := Aside0.mk (below_step (by repeat (first | (with_reducible first | exact HB.out | apply below_alloc | apply pw_below_drewN | apply below_drew1 | refine below_set ?_ GE113.out) | exact HB.out)) hb); clear BK113; clear HB; have BK113 := n0_; have HB := n1_; clear n0_ n1_; (try clear hb); (try clear hb2); (try clear hk); (try clear hi); have hcz37_0 : w36.cell? ⟨gb113, 0, none⟩ = some (.int .i64 a0_0) := (blk_cell BK113.out 0).trans rfl; have hcz37_1 : w36.cell? ⟨gb113, 1, none⟩ = some (.int .i64 a0_1) := (blk_cell BK113.out 1).trans rfl; have hcz37_2 : w36.cell? ⟨gb113, 2, none⟩ = some (.int .i64 a0_2) := (blk_cell BK113.out 2).trans rfl; have hcz37_3 : w36.cell? ⟨gb113, 3, none⟩ = some (.int .i64 a0_3) := (blk_cell BK113.out 3).trans rfl; have hcz37_4 : w36.cell? ⟨gb113, 4, none⟩ = some (.slice A0_4 l0_4.length c0_4) := (blk_cell BK113.out 4).trans rfl; have hfz37_0 := blk_frozen BK113.out 0; have hfz37_1 := blk_frozen BK113.out 1; have hfz37_2 := blk_frozen BK113.out 2; have hfz37_3 := blk_frozen BK113.out 3; have hfz37_4 := blk_frozen BK113.out 4) | (go_at_call 20; (with_reducible refine (palantyperef02_Fault.calls k a0_0 a0_1 a0_2 a0_3 _ _ l0_4 t115 _ ?side1 ?side2 A4.out).mono ?_); (case side1 => repeat (first | exact (Kd.C_below HR0_4.out HB.out) | (with_reducible refine Kd.C_alloc ?_ _) | (with_reducible refine Kd.C_drewN ?_ _) | (with_reducible refine Kd.C_drew ?_))); (case side2 => exact HC0_4.out); rintro e w38 ⟨rfl, hb⟩; have n0_ := Aside0.mk (blk_below (g := gb113) (o := .cells #[.int .i64 a0_0, .int .i64 a0_1, .int .i64 a0_2, .int .i64 a0_3, .slice A0_4 l0_4.length c0_4] 24 (0, 0)) (by (with_reducible repeat (first | refine blk_drewN ?_ _ | refine blk_drew ?_ | refine blk_alloc ?_ _)); exact BK113.out) hb); have n1_ := Aside0.mk (below_step (by repeat (first | (with_reducible first | exact HB.out | apply below_alloc | apply pw_below_drewN | apply below_drew1 | refine below_set ?_ GE113.out) | exact HB.out)) hb); clear BK113; clear HB; have BK113 := n0_; have HB := n1_; clear n0_ n1_; (try clear hb); (try clear hb2); (try clear hk); (try clear hi); have hcz39_0 : w38.cell? ⟨gb113, 0, none⟩ = some (.int .i64 a0_0) := (blk_cell BK113.out 0).trans rfl; have hcz39_1 : w38.cell? ⟨gb113, 1, none⟩ = some (.int .i64 a0_1) := (blk_cell BK113.out 1).trans rfl; have hcz39_2 : w38.cell? ⟨gb113, 2, none⟩ = some (.int .i64 a0_2) := (blk_cell BK113.out 2).trans rfl; have hcz39_3 : w38.cell? ⟨gb113, 3, none⟩ = some (.int .i64 a0_3) := (blk_cell BK113.out 3).trans rfl; have hcz39_4 : w38.cell? ⟨gb113, 4, none⟩ = some (.slice A0_4 l0_4.length c0_4) := (blk_cell BK113.out 4).trans rfl; have hfz39_0 := blk_frozen BK113.out 0; have hfz39_1 := blk_frozen BK113.out 1; have hfz39_2 := blk_frozen BK113.out 2; have hfz39_3 := blk_frozen BK113.out 3; have hfz39_4 := blk_frozen BK113.out 4))
          go_ret
          exact ⟨by first | rfl | (simp [errW_none, errW_some] <;> rfl) | (simp [*, errW_none, errW_some] <;> rfl), by repeat (first | (with_reducible first | exact HB.out | apply below_alloc | apply pw_below_drewN | apply below_drew1 | refine below_set ?_ GE113.out) | exact HB.out)⟩
    · rw [if_neg c5] at H
      have c5b0 : (t115 == 0) = false := beq_eq_false_iff_ne.mpr c5
      have c5b1 : (t115 != 0) = true := bne_iff_ne.mpr c5
      obtain rfl := Option.some.inj H
      go_enter Try.func16, Try.ntmps16
      go_wp2_with (first | ((with_reducible refine gate_dst (N := 1) rfl ?_); refine box_event ?hg (N := 1) ?hd (cs := #[.int .i64 a0_0, .int .i64 a0_1, .int .i64 a0_2, .int .i64 a0_3, .slice A0_4 l0_4.length c0_4]) (t := 24) ?hr ?_; (case hd => rfl); (case hg => rfl); (case hr => first | (go_simp; done) | (go_simp; rfl)); intro gb113 hg w40 hbox hb; have n0_ := Aside0.mk (below_step (by repeat (first | (with_reducible first | exact HB.out | apply below_alloc | apply pw_below_drewN | apply below_drew1) | exact HB.out)) hb); have n1_ := Aside0.mk (hbox); have n2_ := Aside0.mk ((by rw [hg]; exact (below_size (by repeat (first | (with_reducible first | exact HB.out | apply below_alloc | apply pw_below_drewN | apply below_drew1) | exact HB.out))) : w.heap.size ≤ gb113)); have n3_ := Aside0.mk ((by rw [hg]; exact (below_size (by repeat (first | (with_reducible first | exact HB.out | apply below_alloc | apply pw_below_drewN | apply below_drew1) | exact HB.out))) : w.heap.size ≤ gb113)); clear HB; have HB := n0_; have BK113 := n1_; have GW113 := n2_; have GE113 := n3_; clear n0_ n1_ n2_ n3_; clear hb hbox hg; have hcz41_0 : w40.cell? ⟨gb113, 0, none⟩ = some (.int .i64 a0_0) := (blk_cell BK113.out 0).trans rfl; have hcz41_1 : w40.cell? ⟨gb113, 1, none⟩ = some (.int .i64 a0_1) := (blk_cell BK113.out 1).trans rfl; have hcz41_2 : w40.cell? ⟨gb113, 2, none⟩ = some (.int .i64 a0_2) := (blk_cell BK113.out 2).trans rfl; have hcz41_3 : w40.cell? ⟨gb113, 3, none⟩ = some (.int .i64 a0_3) := (blk_cell BK113.out 3).trans rfl; have hcz41_4 : w40.cell? ⟨gb113, 4, none⟩ = some (.slice A0_4 l0_4.length c0_4) := (blk_cell BK113.out 4).trans rfl; have hfz41_0 := blk_frozen BK113.out 0; have hfz41_1 := blk_frozen BK113.out 1; have hfz41_2 := blk_frozen BK113.out 2; have hfz41_3 := blk_frozen BK113.out 3; have hfz41_4 := blk_frozen BK113.out 4) | ((with_reducible refine gate_callee (f := 33) rfl ?_); refine goesL_ (some 4) rfl rfl Try.func33 (by kernel_rfl) rfl #[.agg #[.int .i64 a0_0, .int .i64 a0_1, .int .i64 a0_2, .int .i64 a0_3, .slice A0_4 l0_4.length c0_4]] rfl (by (try simp only [List.map_toArray, List.map_cons, List.map_nil]); first | done | rfl | (simp only [List.length_drop, List.length_take]; rfl)) ?_; (with_reducible refine (palantypelaw02_Thin.calls a0_0 a0_1 a0_2 a0_3 _ _ l0_4 true _ ?side1 ?side2 A2.out).mono ?_); (case side1 => repeat (first | exact (Kd.C_below HR0_4.out HB.out) | (with_reducible refine Kd.C_alloc ?_ _) | (with_reducible refine Kd.C_drewN ?_ _) | (with_reducible refine Kd.C_drew ?_))); (case side2 => exact HC0_4.out); rintro e w42 ⟨rfl, hb⟩; refine ⟨_, rfl, ?_⟩; have n0_ := Aside0.mk (blk_below (g := gb113) (o := .cells #[.int .i64 a0_0, .int .i64 a0_1, .int .i64 a0_2, .int .i64 a0_3, .slice A0_4 l0_4.length c0_4] 24 (0, 0)) (by (with_reducible repeat (first | refine blk_drewN ?_ _ | refine blk_drew ?_ | refine blk_alloc ?_ _)); exact BK113.out) hb); have n1_ := Aside0.mk (below_step (by repeat (first | (with_reducible first | exact HB.out | apply below_alloc | apply pw_below_drewN | apply below_drew1 | refine below_set ?_ GE113.out) | exact HB.out)) hb); clear BK113; clear HB; have BK113 := n0_; have HB := n1_; clear n0_ n1_; (try clear hb); (try clear hb2); (try clear hk); (try clear hi); have hcz43_0 : w42.cell? ⟨gb113, 0, none⟩ = some (.int .i64 a0_0) := (blk_cell BK113.out 0).trans rfl; have hcz43_1 : w42.cell? ⟨gb113, 1, none⟩ = some (.int .i64 a0_1) := (blk_cell BK113.out 1).trans rfl; have hcz43_2 : w42.cell? ⟨gb113, 2, none⟩ = some (.int .i64 a0_2) := (blk_cell BK113.out 2).trans rfl; have hcz43_3 : w42.cell? ⟨gb113, 3, none⟩ = some (.int .i64 a0_3) := (blk_cell BK113.out 3).trans rfl; have hcz43_4 : w42.cell? ⟨gb113, 4, none⟩ = some (.slice A0_4 l0_4.length c0_4) := (blk_cell BK113.out 4).trans rfl; have hfz43_0 := blk_frozen BK113.out 0; have hfz43_1 := blk_frozen BK113.out 1; have hfz43_2 := blk_frozen BK113.out 2; have hfz43_3 := blk_frozen BK113.out 3; have hfz43_4 := blk_frozen BK113.out 4) | (go_at_call 20; (with_reducible refine (palantyperef02_Fault.calls k a0_0 a0_1 a0_2 a0_3 _ _ l0_4 t115 _ ?side1 ?side2 A4.out).mono ?_); (case side1 => repeat (first | exact (Kd.C_below HR0_4.out HB.out) | (with_reducible refine Kd.C_alloc ?_ _) | (with_reducible refine Kd.C_drewN ?_ _) | (with_reducible refine Kd.C_drew ?_))); (case side2 => exact HC0_4.out); rintro e w44 ⟨rfl, hb⟩; have n0_ := Aside0.mk (blk_below (g := gb113) (o := .cells #[.int .i64 a0_0, .int .i64 a0_1, .int .i64 a0_2, .int .i64 a0_3, .slice A0_4 l0_4.length c0_4] 24 (0, 0)) (by (with_reducible repeat (first | refine blk_drewN ?_ _ | refine blk_drew ?_ | refine blk_alloc ?_ _)); exact BK113.out) hb); have n1_ := Aside0.mk (below_step (by repeat (first | (with_reducible first | exact HB.out | apply below_alloc | apply pw_below_drewN | apply below_drew1 | refine below_set ?_ GE113.out) | exact HB.out)) hb); clear BK113; clear HB; have BK113 := n0_; have HB := n1_; clear n0_ n1_; (try clear hb); (try clear hb2); (try clear hk); (try clear hi)))
      go_ret
      exact ⟨by first | rfl | (simp [errW_none, errW_some] <;> rfl) | (simp [*, errW_none, errW_some] <;> rfl), by repeat (first | (with_reducible first | exact HB.out | apply below_alloc | apply pw_below_drewN | apply below_drew1 | refine below_set ?_ GE113.out) | exact HB.out)⟩
  · replace c3 := Bool.eq_false_iff.mpr c3
    subst c3
    have H1 : (some false) = some r := by rw [if_neg (show ¬ (false = true) by decide)] at H; exact H
    clear H
    have H := H1
    clear H1
    obtain rfl := Option.some.inj H
    go_enter Try.func16, Try.ntmps16
    go_wp2_with (first | ((with_reducible refine gate_dst (N := 1) rfl ?_); refine box_event ?hg (N := 1) ?hd (cs := #[.int .i64 a0_0, .int .i64 a0_1, .int .i64 a0_2, .int .i64 a0_3, .slice A0_4 l0_4.length c0_4]) (t := 24) ?hr ?_; (case hd => rfl); (case hg => rfl); (case hr => first | (go_simp; done) | (go_simp; rfl)); intro gb113 hg w45 hbox hb; have n0_ := Aside0.mk (below_step (by repeat (first | (with_reducible first | exact HB.out | apply below_alloc | apply pw_below_drewN | apply below_drew1) | exact HB.out)) hb); have n1_ := Aside0.mk (hbox); have n2_ := Aside0.mk ((by rw [hg]; exact (below_size (by repeat (first | (with_reducible first | exact HB.out | apply below_alloc | apply pw_below_drewN | apply below_drew1) | exact HB.out))) : w.heap.size ≤ gb113)); have n3_ := Aside0.mk ((by rw [hg]; exact (below_size (by repeat (first | (with_reducible first | exact HB.out | apply below_alloc | apply pw_below_drewN | apply below_drew1) | exact HB.out))) : w.heap.size ≤ gb113)); clear HB; have HB := n0_; have BK113 := n1_; have GW113 := n2_; have GE113 := n3_; clear n0_ n1_ n2_ n3_; clear hb hbox hg; have hcz46_0 : w45.cell? ⟨gb113, 0, none⟩ = some (.int .i64 a0_0) := (blk_cell BK113.out 0).trans rfl; have hcz46_1 : w45.cell? ⟨gb113, 1, none⟩ = some (.int .i64 a0_1) := (blk_cell BK113.out 1).trans rfl; have hcz46_2 : w45.cell? ⟨gb113, 2, none⟩ = some (.int .i64 a0_2) := (blk_cell BK113.out 2).trans rfl; have hcz46_3 : w45.cell? ⟨gb113, 3, none⟩ = some (.int .i64 a0_3) := (blk_cell BK113.out 3).trans rfl; have hcz46_4 : w45.cell? ⟨gb113, 4, none⟩ = some (.slice A0_4 l0_4.length c0_4) := (blk_cell BK113.out 4).trans rfl; have hfz46_0 := blk_frozen BK113.out 0; have hfz46_1 := blk_frozen BK113.out 1; have hfz46_2 := blk_frozen BK113.out 2; have hfz46_3 := blk_frozen BK113.out 3; have hfz46_4 := blk_frozen BK113.out 4) | ((with_reducible refine gate_callee (f := 33) rfl ?_); refine goesL_ (some 4) rfl rfl Try.func33 (by kernel_rfl) rfl #[.agg #[.int .i64 a0_0, .int .i64 a0_1, .int .i64 a0_2, .int .i64 a0_3, .slice A0_4 l0_4.length c0_4]] rfl (by (try simp only [List.map_toArray, List.map_cons, List.map_nil]); first | done | rfl | (simp only [List.length_drop, List.length_take]; rfl)) ?_; (with_reducible refine (palantypelaw02_Thin.calls a0_0 a0_1 a0_2 a0_3 _ _ l0_4 false _ ?side1 ?side2 A2.out).mono ?_); (case side1 => repeat (first | exact (Kd.C_below HR0_4.out HB.out) | (with_reducible refine Kd.C_alloc ?_ _) | (with_reducible refine Kd.C_drewN ?_ _) | (with_reducible refine Kd.C_drew ?_))); (case side2 => exact HC0_4.out); rintro e w47 ⟨rfl, hb⟩; refine ⟨_, rfl, ?_⟩; have n0_ := Aside0.mk (blk_below (g := gb113) (o := .cells #[.int .i64 a0_0, .int .i64 a0_1, .int .i64 a0_2, .int .i64 a0_3, .slice A0_4 l0_4.length c0_4] 24 (0, 0)) (by (with_reducible repeat (first | refine blk_drewN ?_ _ | refine blk_drew ?_ | refine blk_alloc ?_ _)); exact BK113.out) hb); have n1_ := Aside0.mk (below_step (by repeat (first | (with_reducible first | exact HB.out | apply below_alloc | apply pw_below_drewN | apply below_drew1 | refine below_set ?_ GE113.out) | exact HB.out)) hb); clear BK113; clear HB; have BK113 := n0_; have HB := n1_; clear n0_ n1_; (try clear hb); (try clear hb2); (try clear hk); (try clear hi)))
    go_ret
    exact ⟨by first | rfl | (simp [errW_none, errW_some] <;> rfl) | (simp [*, errW_none, errW_some] <;> rfl), by repeat (first | (with_reducible first | exact HB.out | apply below_alloc | apply pw_below_drewN | apply below_drew1 | refine below_set ?_ GE113.out) | exact HB.out)⟩
end Go.Proofs.Ytdnjmhhjjbdieaa.Q
end
section
namespace Go.Proofs.Ytdnjmhhjjbdieaa.Q
open Go.RowKit Go.Proofs.YtdnjmhhjjbdieaaW.PrintWords
set_option linter.unusedVariables false
theorem few_ev {a0 a1 a2 a3 : Int} {l : List RM} {r : Int} (hr : Ev (fun k => palantyperef02_Fault.f k a0 a1 a2 a3 l) r) :
    Ev (fun k => palantypelaw02_few.f k a0 a1 a2 a3 l) (decide (l.length ≤ 45) && (decide (r ≠ 0) || (decide (a0 ≤ 3) && decide (l.length ≤ 5)) || (decide (a0 ≤ 2) && decide (l.length ≤ 6)))) := by
  unfold palantypelaw02_few.f palantypelaw02_Thin.f
  by_cases h45 : (l.length : Int) ≤ 45
  · have e : decide (l.length ≤ 45) = true := decide_eq_true (by omega)
    rw [e, Bool.true_and]
    simp only [Option.bind_some, decide_eq_true h45, if_true]
    refine Ev.bind hr ?_
    by_cases h0 : r = 0
    · subst h0
      simp only [if_true, ne_eq, not_true_eq_false, decide_false, Bool.false_or]
      by_cases h3 : a0 ≤ 3
      · by_cases h5 : (l.length : Int) ≤ 5
        · have : decide (l.length ≤ 5) = true := decide_eq_true (by omega)
          simp only [h3, h5, if_true, this, decide_true, Bool.and_self, Bool.true_or]; exact Ev.now _
        · have e5 : decide (l.length ≤ 5) = false := decide_eq_false (by omega)
          by_cases h2 : a0 ≤ 2
          · have e6 : decide ((l.length : Int) ≤ 6) = decide (l.length ≤ 6) := decide_eq_decide.2 (by omega)
            simp only [h3, h5, h2, if_true, if_false, e5, e6, decide_true, Bool.and_false, Bool.false_or, Bool.true_and]; exact Ev.now _
          · simp only [h3, h5, h2, if_true, if_false, e5, decide_true, decide_false, Bool.and_false, Bool.false_or, Bool.false_and]; exact Ev.now _
      · have h2 : ¬ a0 ≤ 2 := by omega
        simp only [h3, h2, if_false, decide_false, Bool.false_and, Bool.or_self]; exact Ev.now _
    · simp only [h0, if_false, ne_eq, not_false_eq_true, decide_true, Bool.true_or]; exact Ev.now _
  · have e : decide (l.length ≤ 45) = false := decide_eq_false (by omega)
    rw [e, Bool.false_and]
    simp only [Option.bind_some, decide_eq_false h45, Bool.false_eq_true, if_false]; exact Ev.now _
theorem few_small {n : Nat} {len : Nat} (h : (decide (len ≤ 45) && (decide ((0 : Int) ≠ 0) || (decide ((n : Int) ≤ 3) && decide (len ≤ 5)) || (decide ((n : Int) ≤ 2) && decide (len ≤ 6)))) = true) : len ≤ 6 ∧ ((n + 1) * (n + 1)) ^ len ≤ 100000000 := by
  have h1 : (n ≤ 3 ∧ len ≤ 5) ∨ (n ≤ 2 ∧ len ≤ 6) := by
    simp at h
    omega
  rcases h1 with ⟨h1, h2⟩ | ⟨h1, h2⟩
  · refine ⟨by omega, Nat.le_trans (Nat.pow_le_pow_left (Nat.mul_le_mul (by omega : n + 1 ≤ 4) (by omega : n + 1 ≤ 4)) len) (Nat.le_trans (Nat.pow_le_pow_right (by decide) h2) (by decide))⟩
  · refine ⟨by omega, Nat.le_trans (Nat.pow_le_pow_left (Nat.mul_le_mul (by omega : n + 1 ≤ 3) (by omega : n + 1 ≤ 3)) len) (Nat.le_trans (Nat.pow_le_pow_right (by decide) h2) (by decide))⟩
theorem tels_take {a1 a2 a3 : Int} {n : Nat} (hn : n ≤ 12) (h20 : 1 ≤ a2) (hs20 : 0 ≤ a3) {l : List RM} (hl : l.length ≤ 6) (hpow : ((n + 1) * (n + 1)) ^ l.length ≤ 100000000) {m : Nat} (hm : m ≤ l.length) :
    ∃ all, Ev (fun k => palantyperef02_Tellings.f k n a1 a2 a3 (l.take m) []) all ∧ (all = [] ↔ ∀ x, ¬ fwd a1 a2 a3 n (l.map mo) m x) ∧ all.length ≤ 100000000 ∧ ∀ s, s ∈ all ↔ Told a1 a2 a3 n ((l.take m).map mo) s := by
  have hlt : (l.take m).length = m := by rw [List.length_take]; omega
  have hlm : ((l.take m).map mo).length = m := by rw [List.length_map, hlt]
  have hpow' : ((n + 1) * (n + 1)) ^ (l.take m).length ≤ 100000000 := by
    rw [hlt]
    exact Nat.le_trans (Nat.pow_le_pow_right (Nat.mul_pos (by omega) (by omega)) hm) hpow
  have htel := Tellings_ev a1 a2 a3 n (by omega) h20 hs20 (l.take m) (by omega) (l.take m).length [] (by simp) hpow'
  have hmem : ∀ s, s ∈ tels a1 a2 a3 n ((l.take m).map mo) (l.take m).length [] ↔ Told a1 a2 a3 n ((l.take m).map mo) s := fun s => by
    have := @mem_tels_told a1 a2 a3 n ((l.take m).map mo) s
    rwa [List.length_map] at this
  have hlen := Nat.le_trans (length_tels a1 a2 a3 n ((l.take m).map mo) (l.take m).length []) hpow'
  obtain ⟨all, hall⟩ : ∃ all, tels a1 a2 a3 n ((l.take m).map mo) (l.take m).length [] = all := ⟨_, rfl⟩
  rw [hall] at htel hmem hlen
  refine ⟨all, htel, ?_, hlen, hmem⟩
  have h1 : all = [] ↔ ∀ s, ¬ Told a1 a2 a3 n ((l.take m).map mo) s := by
    constructor
    · rintro h s hs
      have := (hmem s).2 hs
      rw [h] at this; cases this
    · intro h
      cases all with
      | nil => rfl
      | cons s _ => exact (h s ((hmem s).1 (by simp))).elim
  rw [h1, ← told_iff_fwd, fwdL_empty, hlm]
  exact forall_congr' (fun x => not_congr (by rw [List.map_take]; exact fwd_take m x (Nat.le_refl _)))
end Go.Proofs.Ytdnjmhhjjbdieaa.Q
end
section
namespace Go.Proofs.Ytdnjmhhjjbdieaa.Q
open Go.RowKit Go.Proofs.YtdnjmhhjjbdieaaW.PrintWords Go.Proofs.YtdnjmhhjjbdieaaW.PrintLast
theorem max_of_ints (k k' : IntKind) (x y : Int) : Builtin.max2 (.int k x) (.int k' y) = pure (.int k (if x < y then y else x)) := by simp only [Builtin.max2, gt_iff_lt]
theorem min_of_ints (k k' : IntKind) (x y : Int) : Builtin.min2 (.int k x) (.int k' y) = pure (.int k (if y < x then y else x)) := by simp only [Builtin.min2]
attribute [local go_sem] max_of_ints min_of_ints
attribute [local go_sem] Oper.semAt_some
set_option linter.unusedVariables false
set_option linter.unusedSimpArgs false
def accMin (xs : List Int) : Nat → Int
  | 0 => xs.getD 0 0
  | k + 1 => if xs.getD k 0 < accMin xs k then xs.getD k 0 else accMin xs k
set_option maxRecDepth 100000 in
set_option maxHeartbeats 1000000 in
theorem slmin.calls (b c : Nat) (xs : List Int) (h0 : 0 < xs.length) (hb : xs.length ≤ 1000000000) (w : World) (hc : ∀ j, j < xs.length → w.cell? ⟨b, j, none⟩ = some (.int .i64 (xs.getD j 0))) :
    Calls Try.prog 77 #[.slice (some ⟨b, 0, none⟩) xs.length c] w fun e w' => e = .returned (.int .i64 (accMin xs xs.length)) ∧ w' = w := by
  have c0 := hc 0 h0
  have h1 : ¬ ((xs.length : Int) < 1) := by omega
  have h2 : (0 : Int) < xs.length := by omega
  go_enter Try.func77, Try.ntmps77
  go_wp2
  go_loop [3, 4] (fun m i => ∃ k : Nat, 1 ≤ k ∧ k ≤ xs.length ∧ i = .int .i64 k ∧ m = .int .i64 (accMin xs k)) (fun m i => xs.length - (intOf i).toNat)
  case atStart =>
    exact ⟨1, Nat.le_refl _, h0, rfl, by simp [accMin, List.getD, h0]⟩
  case round =>
    obtain ⟨k, hk1, hk2, rfl, rfl⟩ := hrel
    by_cases hlt : k < xs.length
    · have ck := hc k hlt
      have hk3 : (k : Int) < xs.length := by omega
      have hwr : IntKind.i64.wrap ((k : Int) + 1) = (k : Int) + 1 := by simp [IntKind.wrap, IntKind.bits, IntKind.signed]; omega
      clear hc c0
      go_wp2
      go_round
      case rel => exact ⟨k + 1, by omega, by omega, by simp, by simp [accMin, List.getD, hlt]⟩
      case measure => simp [intOf]; omega
    · obtain rfl : k = xs.length := by omega
      clear hc c0
      go_wp2
      go_ret
      exact ⟨rfl, rfl⟩
def accMax (xs : List Int) : Nat → Int
  | 0 => xs.getD 0 0
  | k + 1 => if accMax xs k < xs.getD k 0 then xs.getD k 0 else accMax xs k
set_option maxRecDepth 100000 in
set_option maxHeartbeats 1000000 in
theorem slmax.calls (b c : Nat) (xs : List Int) (h0 : 0 < xs.length) (hb : xs.length ≤ 1000000000) (w : World) (hc : ∀ j, j < xs.length → w.cell? ⟨b, j, none⟩ = some (.int .i64 (xs.getD j 0))) :
    Calls Try.prog 78 #[.slice (some ⟨b, 0, none⟩) xs.length c] w fun e w' => e = .returned (.int .i64 (accMax xs xs.length)) ∧ w' = w := by
  have c0 := hc 0 h0
  have h1 : ¬ ((xs.length : Int) < 1) := by omega
  have h2 : (0 : Int) < xs.length := by omega
  go_enter Try.func78, Try.ntmps78
  go_wp2
  go_loop [3, 4] (fun m i => ∃ k : Nat, 1 ≤ k ∧ k ≤ xs.length ∧ i = .int .i64 k ∧ m = .int .i64 (accMax xs k)) (fun m i => xs.length - (intOf i).toNat)
  case atStart =>
    exact ⟨1, Nat.le_refl _, h0, rfl, by simp [accMax, List.getD, h0]⟩
  case round =>
    obtain ⟨k, hk1, hk2, rfl, rfl⟩ := hrel
    by_cases hlt : k < xs.length
    · have ck := hc k hlt
      have hk3 : (k : Int) < xs.length := by omega
      have hwr : IntKind.i64.wrap ((k : Int) + 1) = (k : Int) + 1 := by simp [IntKind.wrap, IntKind.bits, IntKind.signed]; omega
      clear hc c0
      go_wp2
      go_round
      case rel => exact ⟨k + 1, by omega, by omega, by simp, by simp [accMax, List.getD, hlt]⟩
      case measure => simp [intOf]; omega
    · obtain rfl : k = xs.length := by omega
      clear hc c0
      go_wp2
      go_ret
      exact ⟨rfl, rfl⟩
end Go.Proofs.Ytdnjmhhjjbdieaa.Q
end
section
namespace Go.Proofs.Ytdnjmhhjjbdieaa.Q
open Go.RowKit Go.Shelf Go.Proofs.YtdnjmhhjjbdieaaW.PrintWords Go.Proofs.YtdnjmhhjjbdieaaW.PrintLast
set_option linter.unusedVariables false
set_option linter.unusedSimpArgs false
attribute [local go_sem] Oper.semAt_some
def endsOf (xs : List Int) : Int × Int := (accMin xs xs.length, accMax xs xs.length)
set_option maxRecDepth 100000 in
set_option maxHeartbeats 1000000 in
theorem ends.calls (b c : Nat) (xs : List Int) (h0 : 0 < xs.length) (hb : xs.length ≤ 1000000000) (w : World) (hc : ∀ j, j < xs.length → w.cell? ⟨b, j, none⟩ = some (.int .i64 (xs.getD j 0))) :
    Calls Try.prog 58 #[.slice (some ⟨b, 0, none⟩) xs.length c] w fun e w' => e = .returned (.agg #[.int .i64 (endsOf xs).1, .int .i64 (endsOf xs).2]) ∧ Below w.heap.size w w' := by
  have hu := Try.underlying115
  have kb : b < w.heap.size := World.block_lt_of_cell? w _ (hc 0 h0)
  have hc2 : ∀ (v : Obj) j, j < xs.length → (w.alloc v).cell? ⟨b, j, none⟩ = some (.int .i64 (xs.getD j 0)) := fun v j hj => (World.cell?_alloc_lt _ _ _ kb).trans (hc j hj)
  go_enter Try.func58, Try.ntmps58
  have HC := Lib.hid hc2
  clear hc hc2
  go_wp2_with fail
  refine (slmin.calls b c xs h0 hb _ (HC.out _)).mono ?_
  rintro e w' ⟨rfl, rfl⟩
  go_wp2_with fail
  refine (slmax.calls b c xs h0 hb _ (HC.out _)).mono ?_
  rintro e w' ⟨rfl, rfl⟩
  go_wp2_with fail
  refine bodyPost_ret (v := .agg #[.int .i64 (endsOf xs).1, .int .i64 (endsOf xs).2]) (by simp [results, Try.results58, go_sem, hu, endsOf]) rfl ⟨rfl, (Below.refl _ _).alloc (Nat.le_refl _) _⟩
def merge (was : Option (Int × Int)) (n : Int × Int) : Int × Int := match was with | none => n | some v => endsOf [n.1, n.2, v.1, v.2]
set_option maxRecDepth 100000 in
set_option maxHeartbeats 2000000 in
theorem join.calls (x : St) (hx : InBox x) (n : Int × Int) (cn bn : Nat) (M : St → Option (Int × Int)) (w : World) (hcn : w.heap[cn]? = some (.cells #[.map (some bn)] 116 (0, 0))) (hM : MapIs EP w bn M) :
    Calls Try.prog 57 #[.agg #[.int .i64 x.holder, .int .i64 x.turn, .int .i64 x.short, .bool x.own], .agg #[.int .i64 n.1, .int .i64 n.2], .pointer (some ⟨cn, 0, none⟩)] w fun e w' =>
      e = .returned (.tuple #[]) ∧ MapIs EP w' bn (fun y => if y = x then some (merge (M x) n) else M y) ∧ (w.heap.size ≤ w'.heap.size ∧ w'.os = w.os ∧ w'.tape = w.tape ∧ w'.output = w.output ∧ ∀ k, k < w.heap.size → k ≠ bn → w'.heap[k]? = w.heap[k]?) := by
  have hu := Try.underlying115
  have hu1 := Try.underlying109
  have hmn : cn ≠ bn := fun e => by
    subst e; obtain ⟨es, c, h⟩ := hM.isMap; rw [hcn] at h; cases h
  have kcn : cn < w.heap.size := (Array.getElem?_eq_some_iff.1 hcn).1
  have kcn1 : cn < w.heap.size + 1 := by omega
  have ecn := cell_of hcn (i := 0) rfl
  simp only [List.getElem_toArray, List.getElem_cons_zero] at ecn
  go_enter Try.func57, Try.ntmps57
  obtain ⟨W1, hW1⟩ : ∃ W1, (w.alloc (.cells #[.int .i64 x.holder, .int .i64 x.turn, .int .i64 x.short, .bool x.own] 109)).alloc (.cells #[.int .i64 n.1, .int .i64 n.2] 115) = W1 := ⟨_, rfl⟩
  have hb1 : Below w.heap.size w W1 := by rw [← hW1]; exact ((Below.refl _ w).alloc (Nat.le_refl _) _).alloc (by simp) _
  have hs1 : W1.heap.size = w.heap.size + 2 := by rw [← hW1]; simp
  have hx1 : W1.heap[w.heap.size]? = some (.cells #[.int .i64 x.holder, .int .i64 x.turn, .int .i64 x.short, .bool x.own] 109 (0, 0)) := by rw [← hW1]; exact heap_old (heap_new rfl)
  have hn1 : W1.heap[w.heap.size + 1]? = some (.cells #[.int .i64 n.1, .int .i64 n.2] 115 (0, 0)) := by rw [← hW1]; exact heap_new (by simp)
  have hM1 := hM.same (hb1.block _ hM.lt)
  have hlk0 := hM1.lookOk x hx
  have HM := Lib.hid hM
  have HM1 := Lib.hid hM1
  have HB1 := Lib.hid hb1
  have HX1 := Lib.hid hx1
  have HN1 := Lib.hid hn1
  have x0 := cell_of hx1 (i := 0) rfl
  have x1 := cell_of hx1 (i := 1) rfl
  have x2 := cell_of hx1 (i := 2) rfl
  have x3 := cell_of hx1 (i := 3) rfl
  have n0 := cell_of hn1 (i := 0) rfl
  have n1 := cell_of hn1 (i := 1) rfl
  have f0 := not_frozen (i := 0) hn1
  have f1 := not_frozen (i := 1) hn1
  have ecn1 := (hb1.cell (p := ⟨cn, 0, none⟩) kcn).trans ecn
  simp only [List.getElem_toArray, List.getElem_cons_zero, List.getElem_cons_succ] at x0 x1 x2 x3 n0 n1
  have q0 : cn < W1.heap.size := by omega
  have q1 : w.heap.size < W1.heap.size := by omega
  have q2 : w.heap.size + 1 < W1.heap.size := by omega
  have HS1 := Lib.hid hs1
  clear hM hM1 hb1 hx1 hn1 hcn ecn hs1
  cases hMx : M x with
  | none =>
    rw [hMx] at hlk0
    have hlk : (Instr.lookup 116 (.map (some bn)) (.agg #[.int .i64 x.holder, .int .i64 x.turn, .int .i64 x.short, .bool x.own]) true).run Try.prog W1 = .ok (.tuple #[.agg #[.int .i64 0, .int .i64 0], .bool false]) W1 := hlk0
    obtain ⟨W2, hup0, hM2, hg2, ht2, hs2⟩ := (HM1.out.same (w' := W1.alloc (.cells #[.int .i64 0, .int .i64 0] 115)) (Below.heap_alloc _ _ _ HM1.out.lt)).update x hx n
    have hup : (Instr.mapUpdate 116 (.map (some bn)) (.agg #[.int .i64 x.holder, .int .i64 x.turn, .int .i64 x.short, .bool x.own]) (.agg #[.int .i64 n.1, .int .i64 n.2])).run Try.prog (W1.alloc (.cells #[.int .i64 0, .int .i64 0] 115)) = .ok () W2 := hup0
    have HM2 := Lib.hid hM2
    have HG2 := Lib.hid hg2
    have HS2 := Lib.hid hs2
    clear hlk0 hup0 hM2 hg2 ht2 hs2
    go_wp2_with fail
    go_end0
    have hs1 := HS1.out
    have hg2 := HG2.out
    refine ⟨rfl, HM2.out, by have := HS2.out; simp at this; omega, hg2.os.trans HB1.out.os, hg2.tape.trans HB1.out.tape, hg2.output.trans HB1.out.output, fun k hk hne => ?_⟩
    exact (hg2.block k (by simp; omega) (fun e => hne (Option.some.inj e))).trans ((Below.heap_alloc _ _ _ (by omega)).trans (HB1.out.block k hk))
  | some v =>
    rw [hMx] at hlk0
    have hlk : (Instr.lookup 116 (.map (some bn)) (.agg #[.int .i64 x.holder, .int .i64 x.turn, .int .i64 x.short, .bool x.own]) true).run Try.prog W1 = .ok (.tuple #[.agg #[.int .i64 v.1, .int .i64 v.2], .bool true]) W1 := hlk0
    clear hlk0
    go_wp2_with fail
    obtain ⟨W3, hW3⟩ : ∃ W3, (W1.alloc (.cells #[.int .i64 v.1, .int .i64 v.2] 115)).alloc (.cells #[.int .i64 n.1, .int .i64 n.2, .int .i64 v.1, .int .i64 v.2] 3) = W3 := ⟨_, rfl⟩
    have hb3 : Below W1.heap.size W1 W3 := by rw [← hW3]; exact ((Below.refl _ W1).alloc (Nat.le_refl _) _).alloc (by simp) _
    have hs3 : W3.heap.size = W1.heap.size + 2 := by rw [← hW3]; simp
    have hl3 : W3.heap[W1.heap.size + 1]? = some (.cells #[.int .i64 n.1, .int .i64 n.2, .int .i64 v.1, .int .i64 v.2] 3 (0, 0)) := by rw [← hW3]; exact heap_new (by simp)
    rw [hW3]
    refine (ends.calls (W1.heap.size + 1) 4 [n.1, n.2, v.1, v.2] (by simp) (by simp) W3 (fun j hj => ?_)).mono ?_
    · have : j = 0 ∨ j = 1 ∨ j = 2 ∨ j = 3 := by simp at hj; omega
      rcases this with rfl | rfl | rfl | rfl <;> exact cell_of hl3 rfl
    rintro e W4 ⟨rfl, hb4⟩
    obtain ⟨d, hd⟩ : ∃ d, endsOf [n.1, n.2, v.1, v.2] = d := ⟨_, rfl⟩
    rw [hd]
    have hb14 : Below W1.heap.size W1 W4 := hb3.trans (hb4.mono (by omega))
    have hs4 : W1.heap.size + 2 ≤ W4.heap.size := by have := hb4.size; omega
    have hn4 := (hb14.block _ q2).trans HN1.out
    have n0' := cell_of hn4 (i := 0) rfl
    have n1' := cell_of hn4 (i := 1) rfl
    have f0' := not_frozen (i := 0) hn4
    have f1' := not_frozen (i := 1) hn4
    have x0' := (hb14.cell (p := ⟨w.heap.size, 0, none⟩) q1).trans x0
    have x1' := (hb14.cell (p := ⟨w.heap.size, 1, none⟩) q1).trans x1
    have x2' := (hb14.cell (p := ⟨w.heap.size, 2, none⟩) q1).trans x2
    have x3' := (hb14.cell (p := ⟨w.heap.size, 3, none⟩) q1).trans x3
    have ecn4 := (hb14.cell (p := ⟨cn, 0, none⟩) q0).trans ecn1
    simp only [List.getElem_toArray, List.getElem_cons_zero, List.getElem_cons_succ] at n0' n1'
    have hbn : bn < w.heap.size := HM.out.lt
    have hsame : ((W4.setCell ⟨w.heap.size + 1, 0, none⟩ (.int .i64 d.1)).setCell ⟨w.heap.size + 1, 1, none⟩ (.int .i64 d.2)).heap[bn]? = W1.heap[bn]? :=
      (Below.heap_setCell _ _ _ _ (by show bn ≠ w.heap.size + 1; omega)).trans ((Below.heap_setCell _ _ _ _ (by show bn ≠ w.heap.size + 1; omega)).trans (hb14.block bn (by omega)))
    obtain ⟨W5, hup0, hM5, hg5, ht5, hs5⟩ := (HM1.out.same hsame).update x hx d
    have hup : (Instr.mapUpdate 116 (.map (some bn)) (.agg #[.int .i64 x.holder, .int .i64 x.turn, .int .i64 x.short, .bool x.own]) (.agg #[.int .i64 d.1, .int .i64 d.2])).run Try.prog ((W4.setCell ⟨w.heap.size + 1, 0, none⟩ (.int .i64 d.1)).setCell ⟨w.heap.size + 1, 1, none⟩ (.int .i64 d.2)) = .ok () W5 := hup0
    have HB14 := Lib.hid hb14
    have HS4 := Lib.hid hs4
    have HN4 := Lib.hid hn4
    have HD := Lib.hid hd
    have HM5 := Lib.hid hM5
    have HG5 := Lib.hid hg5
    have HS5 := Lib.hid hs5
    clear hb14 hs4 hn4 hd hb3 hb4 hs3 hl3 hW3 hup0 hM5 hg5 ht5 hs5 hsame
    go_wp2_with fail
    go_end0
    have hs1 := HS1.out
    have hs4 := HS4.out
    have hs5 := HS5.out
    have hg5 := HG5.out
    have hb14 := HB14.out
    refine ⟨rfl, ?_, by simp [World.setCell] at hs5; omega, hg5.os.trans (hb14.os.trans HB1.out.os), hg5.tape.trans (hb14.tape.trans HB1.out.tape), hg5.output.trans (hb14.output.trans HB1.out.output), fun k hk hne => ?_⟩
    · have : merge (some v) n = d := HD.out
      rw [this]; exact HM5.out
    · refine (hg5.block k (by simp [World.setCell]; omega) (fun e => hne (Option.some.inj e))).trans ?_
      exact (Below.heap_setCell _ _ _ _ (by show k ≠ w.heap.size + 1; omega)).trans ((Below.heap_setCell _ _ _ _ (by show k ≠ w.heap.size + 1; omega)).trans ((hb14.block k (by omega)).trans (HB1.out.block k hk)))
end Go.Proofs.Ytdnjmhhjjbdieaa.Q
end
