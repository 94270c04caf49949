/- Texts of a proof, joined: see the last one. -/
import Derived.Test.YtdnjmhhjjbdieaaSWho2
import Derived.Test.YtdnjmhhjjbdieaaSWho8
import Derived.Test.YtdnjmhhjjbdieaaSWho9
namespace Go.Proofs.YtdnjmhhjjbdieaaW.PrintLast
end Go.Proofs.YtdnjmhhjjbdieaaW.PrintLast
namespace Go.Proofs.YtdnjmhhjjbdieaaW.PrintWords
end Go.Proofs.YtdnjmhhjjbdieaaW.PrintWords
section
namespace Go.Proofs.Ytdnjmhhjjbdieaa.Q
open Go.RowKit Go.Proofs.YtdnjmhhjjbdieaaW.PrintWords
set_option linter.unusedVariables false
def runS (least most short : Int) (x : St) (t : List RP) : St := t.foldl (fun x p => (stepF least most short x p.f0 p.f1).1) x
theorem pathB_append (least most short n : Int) : ∀ (t : List RP) (l : List FM) (u : List RP) (x : St), pathB least most short n l (t ++ u) x = (pathB least most short n l t x && pathB least most short n (l.drop t.length) u (runS least most short x t))
  | [], l, u, x => by
    have : pathB least most short n l [] x = true := by cases l <;> rfl
    simp [this, runS]
  | p :: t, [], u, x => by simp [pathB]
  | p :: t, m :: l, u, x => by
    simp only [List.cons_append, pathB, List.length_cons, List.drop_succ_cons]
    rw [pathB_append least most short n t l u _, Bool.and_assoc]
    rfl
theorem pathB_nil (least most short n : Int) (l : List FM) (x : St) : pathB least most short n l [] x = true := by cases l <;> rfl
theorem runS_append (least most short : Int) (x : St) (t u : List RP) : runS least most short x (t ++ u) = runS least most short (runS least most short x t) u := by simp [runS]
theorem partOk_iff {least most short : Int} {n : Nat} {m : FM} {x : St} {p : FP} : partOk least most short n m x p = true ↔ ∃ y, ((p.f0, p.f1), y) ∈ partsOf least most short x m.f0 m.f1 n ∧ y = (stepF least most short x p.f0 p.f1).1 := by
  simp only [partOk, win, Bool.and_eq_true, decide_eq_true_eq, mem_partsOf, mem_upTo]
  constructor
  · rintro ⟨⟨⟨⟨⟨h1, h2⟩, h3, h4⟩, h5⟩, h6⟩, h7⟩
    exact ⟨_, ⟨⟨h1, by omega, h6⟩, ⟨h3, by omega, h7⟩, Prod.ext rfl h5⟩, rfl⟩
  · rintro ⟨y, ⟨⟨h1, h2, h6⟩, ⟨h3, h4, h7⟩, h5⟩, rfl⟩
    exact ⟨⟨⟨⟨⟨h1, by omega⟩, h3, by omega⟩, by rw [h5]⟩, h6⟩, h7⟩
theorem fwd_path {least most short : Int} {n : Nat} {l : List FM} : ∀ (j : Nat) (y : St), fwd least most short n l j y ↔ ∃ t : List RP, t.length = j ∧ pathB least most short n l t beginSt = true ∧ runS least most short beginSt t = y
  | 0, y => by
    constructor
    · intro h
      obtain rfl : y = beginSt := h
      exact ⟨[], rfl, pathB_nil _ _ _ _ _ _, rfl⟩
    · rintro ⟨t, h1, _, h3⟩
      obtain rfl := List.length_eq_zero_iff.1 h1
      exact h3.symm
  | j + 1, y => by
    cases hm : l[j]? with
    | none =>
      simp only [fwd, hm, false_iff]
      rintro ⟨t, h1, h2, _⟩
      have hj : l.length ≤ j := List.getElem?_eq_none_iff.1 hm
      obtain ⟨t', p, rfl⟩ : ∃ t' p, t = t' ++ [p] := ⟨t.dropLast, t.getLast (by intro e; simp [e] at h1), (List.dropLast_concat_getLast _).symm⟩
      rw [pathB_append, Bool.and_eq_true] at h2
      simp at h1
      rw [List.drop_eq_nil_of_le (by omega)] at h2
      exact absurd h2.2 (by simp [pathB])
    | some m =>
      simp only [fwd, hm]
      unfold nexts
      constructor
      · rintro ⟨x, hx, p, hp, rfl⟩
        obtain ⟨t, h1, h2, h3⟩ := (fwd_path j x).1 hx
        obtain ⟨hj, hmj⟩ := List.getElem?_eq_some_iff.1 hm
        have hst := (mem_partsOf.1 hp).2.2
        have hok : partOk least most short n m x ⟨p.1.1, p.1.2⟩ = true := partOk_iff.2 ⟨p.2, hp, by simp only [hst]⟩
        refine ⟨t ++ [⟨p.1.1, p.1.2⟩], by simp [h1], ?_, ?_⟩
        · rw [pathB_append, h2, h1, List.drop_eq_getElem_cons hj, hmj, h3, Bool.true_and]
          simp only [pathB, po, hok, pathB_nil, Bool.and_self]
        · rw [runS_append, h3]
          simp only [runS, List.foldl_cons, List.foldl_nil, hst]
      · rintro ⟨t, h1, h2, h3⟩
        obtain ⟨hj, hmj⟩ := List.getElem?_eq_some_iff.1 hm
        obtain ⟨t', p, rfl⟩ : ∃ t' p, t = t' ++ [p] := ⟨t.dropLast, t.getLast (by intro e; simp [e] at h1), (List.dropLast_concat_getLast _).symm⟩
        have h1' : t'.length = j := by simpa using h1
        rw [pathB_append, Bool.and_eq_true, h1', List.drop_eq_getElem_cons hj, hmj] at h2
        obtain ⟨h2a, h2b⟩ := h2
        simp only [pathB, Bool.and_eq_true] at h2b
        obtain ⟨z, hz, hze⟩ := partOk_iff.1 h2b.1
        refine ⟨runS least most short beginSt t', (fwd_path j _).2 ⟨t', h1', h2a, rfl⟩, _, hz, ?_⟩
        rw [← h3, runS_append, hze]
        rfl
theorem tellable_path {least most short : Int} {n : Nat} : ∀ (l : List FM) (x : St), tellable least most short n l x ↔ ∃ u : List RP, u.length = l.length ∧ pathB least most short n l u x = true
  | [], x => by
    simp only [tellable, true_iff]
    exact ⟨[], rfl, rfl⟩
  | m :: l, x => by
    simp only [tellable]
    constructor
    · rintro ⟨p, hp, ht⟩
      obtain ⟨u, h1, h2⟩ := (tellable_path l p.2).1 ht
      have hst := (mem_partsOf.1 hp).2.2
      have hok : partOk least most short n m x ⟨p.1.1, p.1.2⟩ = true := partOk_iff.2 ⟨p.2, hp, by simp only [hst]⟩
      exact ⟨⟨p.1.1, p.1.2⟩ :: u, by simp [h1], by simp only [pathB, po, hok, hst, h2, Bool.and_self]⟩
    · rintro ⟨u, h1, h2⟩
      cases u with
      | nil => simp at h1
      | cons p u =>
        simp only [pathB, Bool.and_eq_true] at h2
        obtain ⟨z, hz, hze⟩ := partOk_iff.1 h2.1
        refine ⟨_, hz, (tellable_path l z).2 ⟨u, by simpa using h1, ?_⟩⟩
        rw [hze]; exact h2.2
def Told (least most short n : Int) (l : List FM) (s : List RP) : Prop := s.length = l.length ∧ pathB least most short n l s beginSt = true
theorem mem_good_told {least most short : Int} {n : Nat} {l : List FM} {j : Nat} (hj : j < l.length) {q : Int × Int} : q ∈ goodParts least most short n l j l[j] ↔ ∃ s, Told least most short n l s ∧ s[j]? = some ⟨q.1, q.2⟩ := by
  rw [mem_goodParts]
  constructor
  · rintro ⟨x, ⟨hx, _⟩, p, hp, ⟨_, hT⟩, rfl⟩
    obtain ⟨t, h1, h2, h3⟩ := (fwd_path j x).1 hx
    obtain ⟨u, h4, h5⟩ := (tellable_path _ _).1 (hT (Nat.zero_le _))
    have hst := (mem_partsOf.1 hp).2.2
    have hok : partOk least most short n l[j] x ⟨p.1.1, p.1.2⟩ = true := partOk_iff.2 ⟨p.2, hp, by simp only [hst]⟩
    refine ⟨t ++ (⟨p.1.1, p.1.2⟩ :: u), ⟨?_, ?_⟩, ?_⟩
    · simp only [List.length_append, List.length_cons, List.length_drop] at h4 ⊢; omega
    · rw [pathB_append, h2, h1, List.drop_eq_getElem_cons hj, h3, Bool.true_and]
      simp only [pathB, po, hok, hst, h5, Bool.and_self]
    · rw [List.getElem?_append_right (by omega), h1, Nat.sub_self]; rfl
  · rintro ⟨s, ⟨h1, h2⟩, h3⟩
    obtain ⟨hjs, hs⟩ := List.getElem?_eq_some_iff.1 h3
    have hsplit : s = s.take j ++ (⟨q.1, q.2⟩ :: s.drop (j + 1)) := by
      rw [← hs, List.getElem_cons_drop, List.take_append_drop]
    have hlt : (s.take j).length = j := by rw [List.length_take]; omega
    rw [hsplit, pathB_append, Bool.and_eq_true, hlt, List.drop_eq_getElem_cons hj] at h2
    obtain ⟨h2a, h2b⟩ := h2
    simp only [pathB, Bool.and_eq_true] at h2b
    obtain ⟨z, hz, hze⟩ := partOk_iff.1 h2b.1
    have hfx : fwd least most short n l j (runS least most short beginSt (s.take j)) := (fwd_path j _).2 ⟨_, hlt, h2a, rfl⟩
    have htz : tellable least most short n (l.drop (j + 1)) z := (tellable_path _ _).2 ⟨s.drop (j + 1), by simp only [List.length_drop]; omega, by rw [hze]; exact h2b.2⟩
    refine ⟨_, ⟨hfx, fun _ => ?_⟩, _, hz, ⟨?_, fun _ => htz⟩, rfl⟩
    · rw [List.drop_eq_getElem_cons hj]; exact ⟨_, hz, htz⟩
    · simp only [fwd, List.getElem?_eq_getElem hj]; exact ⟨_, hfx, _, hz, rfl⟩
theorem told_iff_fwd {least most short : Int} {n : Nat} {l : List FM} : (fwdL least most short n l l.length).isEmpty = true ↔ ∀ s, ¬ Told least most short n l s := by
  rw [fwdL_empty]
  constructor
  · intro h s hs
    exact h _ ((fwd_path _ _).2 ⟨s, hs.1, hs.2, rfl⟩)
  · intro h x hx
    obtain ⟨t, h1, h2, _⟩ := (fwd_path _ _).1 hx
    exact h t ⟨h1, h2⟩
def prs (n : Nat) : List RP := (List.range (n + 1)).flatMap fun (i : Nat) => (List.range (n + 1)).map fun (j : Nat) => (⟨(i : Int) - 1, (j : Int) - 1⟩ : RP)
theorem mem_prs {n : Nat} {p : RP} : p ∈ prs n ↔ (-1 ≤ p.f0 ∧ p.f0 < n) ∧ (-1 ≤ p.f1 ∧ p.f1 < n) := by
  unfold prs
  simp only [List.mem_flatMap, List.mem_map, List.mem_range]
  constructor
  · rintro ⟨i, hi, j, hj, rfl⟩
    simp only []
    omega
  · rintro ⟨⟨h1, h2⟩, h3, h4⟩
    refine ⟨(p.f0 + 1).toNat, by omega, (p.f1 + 1).toNat, by omega, ?_⟩
    obtain ⟨a, b⟩ := p
    simp only [S89.mk.injEq]
    simp only [] at h1 h2 h3 h4
    omega
def tels (least most short : Int) (n : Nat) (l : List FM) : Nat → List RP → List (List RP)
  | 0, t => if pathB least most short n l t beginSt = true then [t] else []
  | d + 1, t => if pathB least most short n l t beginSt = true then (prs n).flatMap (fun p => tels least most short n l d (t ++ [p])) else []
theorem length_flatMap_le {α β : Type} (f : α → List β) (b : Nat) : ∀ (xs : List α), (∀ x ∈ xs, (f x).length ≤ b) → (xs.flatMap f).length ≤ xs.length * b
  | [], _ => by simp
  | x :: xs, h => by
    rw [List.flatMap_cons, List.length_append, List.length_cons, Nat.succ_mul]
    have := length_flatMap_le f b xs (fun y hy => h y (by simp [hy]))
    have := h x (by simp)
    omega
theorem length_prs (n : Nat) : (prs n).length = (n + 1) * (n + 1) := by
  unfold prs
  rw [List.length_flatMap]
  simp [List.map_const', List.sum_replicate_nat]
theorem length_tels (least most short : Int) (n : Nat) (l : List FM) : ∀ (d : Nat) (t : List RP), (tels least most short n l d t).length ≤ ((n + 1) * (n + 1)) ^ d
  | 0, t => by simp only [tels]; split <;> simp
  | d + 1, t => by
    simp only [tels]
    split
    · have := length_flatMap_le (fun p => tels least most short n l d (t ++ [p])) (((n + 1) * (n + 1)) ^ d) (prs n) (fun p _ => length_tels least most short n l d _)
      rw [length_prs] at this
      rw [Nat.pow_succ, Nat.mul_comm]
      exact this
    · simp
theorem mem_tels {least most short : Int} {n : Nat} {l : List FM} : ∀ (d : Nat) (t s : List RP), s ∈ tels least most short n l d t ↔ (∃ u, s = t ++ u ∧ u.length = d) ∧ pathB least most short n l s beginSt = true
  | 0, t, s => by
    simp only [tels]
    split
    · rename_i h
      rw [List.mem_singleton]
      constructor
      · rintro rfl; exact ⟨⟨[], by simp, rfl⟩, h⟩
      · rintro ⟨⟨u, rfl, hu⟩, _⟩
        rw [List.length_eq_zero_iff.1 hu]; simp
    · rename_i h
      constructor
      · intro h; cases h
      · rintro ⟨⟨u, rfl, hu⟩, h2⟩
        rw [List.length_eq_zero_iff.1 hu, List.append_nil] at h2
        exact (h h2).elim
  | d + 1, t, s => by
    have hpre : pathB least most short n l s beginSt = true → ∀ u, s = t ++ u → pathB least most short n l t beginSt = true := fun h u e => by
      rw [e, pathB_append, Bool.and_eq_true] at h; exact h.1
    simp only [tels]
    split
    · rename_i h
      rw [List.mem_flatMap]
      constructor
      · rintro ⟨p, hp, hs⟩
        obtain ⟨⟨u, rfl, hu⟩, h2⟩ := (mem_tels d _ _).1 hs
        exact ⟨⟨p :: u, by simp, by simp [hu]⟩, h2⟩
      · rintro ⟨⟨u, rfl, hu⟩, h2⟩
        cases u with
        | nil => simp at hu
        | cons p u =>
          have hp : p ∈ prs n := by
            have h3 := h2
            rw [pathB_append, Bool.and_eq_true] at h3
            have h4 := h3.2
            cases hl : l.drop t.length with
            | nil => rw [hl] at h4; simp [pathB] at h4
            | cons m l' =>
              rw [hl] at h4
              simp only [pathB, Bool.and_eq_true] at h4
              obtain ⟨z, hz, _⟩ := partOk_iff.1 h4.1
              have a := mem_upTo.1 (mem_partsOf.1 hz).1
              have b := mem_upTo.1 (mem_partsOf.1 hz).2.1
              simp only [po] at a b
              rw [mem_prs]; omega
          exact ⟨p, hp, (mem_tels d _ _).2 ⟨⟨u, by simp, by simpa using hu⟩, h2⟩⟩
    · rename_i h
      constructor
      · intro h; cases h
      · rintro ⟨⟨u, e, hu⟩, h2⟩
        exact (h (hpre h2 u e)).elim
theorem mem_tels_told {least most short : Int} {n : Nat} {l : List FM} {s : List RP} : s ∈ tels least most short n l l.length [] ↔ Told least most short n l s := by
  rw [mem_tels]
  constructor
  · rintro ⟨⟨u, rfl, hu⟩, h⟩
    exact ⟨by simpa using hu, h⟩
  · rintro ⟨h1, h2⟩
    exact ⟨⟨s, by simp, h1⟩, h2⟩
theorem tel_l1 {n : Nat} {a1 a2 a3 : Int} {l : List RM} {t : List RP} {F : RP → List (List RP)} {R : List (List RP)} (ht : t.length ≤ 1000000) (hn : n ≤ 14) (i : Nat) (hi : i ≤ n) (hF : ∀ p, p ∈ prs n → Ev (fun k => palantyperef02_Tellings.f k n a1 a2 a3 l (t ++ [p])) (F p)) :
    ∀ (e j : Nat) (out : List (List RP)), j + e = n + 1 → (out ++ (List.range' j e).flatMap (fun (j : Nat) => F ⟨(i : Int) - 1, (j : Int) - 1⟩)).length ≤ 100000000 →
      Ev (fun k => palantyperef02_Tellings.l0 k t (out ++ (List.range' j e).flatMap (fun (j : Nat) => F ⟨(i : Int) - 1, (j : Int) - 1⟩)) ((i + 1 : Nat) - 1 : Int) n a1 a2 a3 l) R →
      Ev (fun k => palantyperef02_Tellings.l1 k t out ((i : Int) - 1) ((j : Int) - 1) n a1 a2 a3 l) R
  | 0, j, out, h, hb, hR => by
    refine Ev.step (f := fun k => palantyperef02_Tellings.l0 k t out ((i + 1 : Nat) - 1 : Int) n a1 a2 a3 l) (fun k => ?_) (by simpa using hR)
    simp only [palantyperef02_Tellings.l1]
    rw [if_neg (by omega), wrap_id (by omega) (by omega), show (i : Int) - 1 + 1 = ((i + 1 : Nat) : Int) - 1 by omega]
  | e + 1, j, out, h, hb, hR => by
    rw [List.range'_succ, List.flatMap_cons, ← List.append_assoc] at hb hR
    have hlen : out.length + (F ⟨(i : Int) - 1, (j : Int) - 1⟩).length ≤ 100000000 := by
      rw [List.length_append, List.length_append] at hb; omega
    refine Ev.step (f := fun k => (palantyperef02_Tellings.f k n a1 a2 a3 l (t ++ [⟨(i : Int) - 1, (j : Int) - 1⟩])).bind fun r => if out.length + r.length < 5864062014805 then palantyperef02_Tellings.l1 k t (out ++ r) ((i : Int) - 1) ((j + 1 : Nat) - 1 : Int) n a1 a2 a3 l else none) (fun k => ?_) ?_
    · simp only [palantyperef02_Tellings.l1]
      rw [if_pos (by omega), wrap_id (by omega) (by omega), show (j : Int) - 1 + 1 = ((j + 1 : Nat) : Int) - 1 by omega]
      simp only [Option.bind_some, List.nil_append, List.length_nil, List.length_cons, Nat.zero_add]
      rw [if_pos (by omega), if_pos (by omega)]
    · refine Ev.bind (hF ⟨(i : Int) - 1, (j : Int) - 1⟩ (mem_prs.2 (by simp only []; omega))) ?_
      refine Ev.congr (fun k => if_pos (by omega)) ?_
      exact tel_l1 ht hn i hi hF e (j + 1) _ (by omega) hb hR
theorem tel_l0 {n : Nat} {a1 a2 a3 : Int} {l : List RM} {t : List RP} {F : RP → List (List RP)} (ht : t.length ≤ 1000000) (hn : n ≤ 14) (hF : ∀ p, p ∈ prs n → Ev (fun k => palantyperef02_Tellings.f k n a1 a2 a3 l (t ++ [p])) (F p)) :
    ∀ (e i : Nat) (out : List (List RP)), i + e = n + 1 → (out ++ (List.range' i e).flatMap (fun (i : Nat) => (List.range (n + 1)).flatMap (fun (j : Nat) => F ⟨(i : Int) - 1, (j : Int) - 1⟩))).length ≤ 100000000 →
      Ev (fun k => palantyperef02_Tellings.l0 k t out ((i : Int) - 1) n a1 a2 a3 l) (out ++ (List.range' i e).flatMap (fun (i : Nat) => (List.range (n + 1)).flatMap (fun (j : Nat) => F ⟨(i : Int) - 1, (j : Int) - 1⟩)))
  | 0, i, out, h, hb => by
    refine Ev.step (f := fun k => some out) (fun k => ?_) (by simp; exact Ev.now _)
    simp only [palantyperef02_Tellings.l0]
    rw [if_neg (by omega)]
  | e + 1, i, out, h, hb => by
    rw [List.range'_succ, List.flatMap_cons, ← List.append_assoc] at hb ⊢
    refine Ev.step (f := fun k => palantyperef02_Tellings.l1 k t out ((i : Int) - 1) ((0 : Nat) - 1 : Int) n a1 a2 a3 l) (fun k => ?_) ?_
    · simp only [palantyperef02_Tellings.l0]
      rw [if_pos (by omega)]
      rfl
    · have hr : List.range (n + 1) = List.range' 0 (n + 1) := List.range_eq_range'
      refine tel_l1 ht hn i (by omega) hF (n + 1) 0 out (by omega) (by rw [← hr]; rw [List.length_append] at hb; omega) ?_
      rw [← hr]
      exact tel_l0 ht hn hF e (i + 1) _ (by omega) hb
theorem Tellings_ev (least most short : Int) (n : Nat) (hn : n ≤ 14) (hmost : 1 ≤ most) (hshort : 0 ≤ short) (l : List RM) (hl : l.length ≤ 100) :
    ∀ (d : Nat) (t : List RP), t.length + d = l.length → ((n + 1) * (n + 1)) ^ d ≤ 100000000 → Ev (fun k => palantyperef02_Tellings.f k n least most short l t) (tels least most short n (l.map mo) d t)
  | 0, t, ht, hb => by
    refine Ev.step (f := fun k => (palantyperef02_Right.f k n least most short l t).bind fun r => if r = true then some [t] else some []) (fun k => ?_) ?_
    · simp only [palantyperef02_Tellings.f]
      rw [if_pos (by omega : (t.length : Int) = (l.length : Int))]
      simp only [Option.bind_some, List.nil_append, List.length_nil, Nat.zero_add]
      rw [if_pos (by omega)]
    · refine Ev.bind (Right_ev least most short n hn hmost hshort l t (by omega) (by omega)) ?_
      simp only [tels]
      split
      · exact Ev.now _
      · exact Ev.now _
  | d + 1, t, ht, hb => by
    refine Ev.step (f := fun k => (palantyperef02_Right.f k n least most short l t).bind fun r => if r = true then palantyperef02_Tellings.l0 k t [] ((0 : Nat) - 1 : Int) n least most short l else some []) (fun k => ?_) ?_
    · simp only [palantyperef02_Tellings.f]
      rw [if_neg (by omega : ¬ (t.length : Int) = (l.length : Int))]
      rfl
    · refine Ev.bind (Right_ev least most short n hn hmost hshort l t (by omega) (by omega)) ?_
      simp only [tels]
      split
      · have hb' : ((n + 1) * (n + 1)) ^ d ≤ 100000000 := Nat.le_trans (Nat.pow_le_pow_right (Nat.mul_pos (by omega) (by omega)) (by omega)) hb
        have key := tel_l0 (F := fun p => tels least most short n (l.map mo) d (t ++ [p])) (t := t) (a1 := least) (a2 := most) (a3 := short) (l := l) (by omega) hn (fun p hp => Tellings_ev least most short n hn hmost hshort l hl d (t ++ [p]) (by simp; omega) hb') (n + 1) 0 [] (by omega)
        have e : (prs n).flatMap (fun p => tels least most short n (l.map mo) d (t ++ [p])) = [] ++ (List.range' 0 (n + 1)).flatMap (fun (i : Nat) => (List.range (n + 1)).flatMap (fun (j : Nat) => tels least most short n (l.map mo) d (t ++ [(⟨(i : Int) - 1, (j : Int) - 1⟩ : RP)]))) := by
          rw [List.nil_append, ← List.range_eq_range']
          unfold prs
          rw [List.flatMap_assoc]
          simp only [List.flatMap_map]
        rw [e]
        refine key ?_
        rw [← e]
        have := length_flatMap_le (fun p => tels least most short n (l.map mo) d (t ++ [p])) (((n + 1) * (n + 1)) ^ d) (prs n) (fun p _ => length_tels least most short n (l.map mo) d _)
        rw [length_prs] at this
        rw [Nat.pow_succ, Nat.mul_comm] at hb
        omega
      · exact Ev.now _
end Go.Proofs.Ytdnjmhhjjbdieaa.Q
end
section
namespace Go.Proofs.Ytdnjmhhjjbdieaa.Q
open Go.RowKit Go.Proofs.YtdnjmhhjjbdieaaW.PrintWords Go.Proofs.YtdnjmhhjjbdieaaW.PrintLast
set_option linter.unusedVariables false
set_option linter.unusedSimpArgs false
mutual
def palantyperef02_Who.l0 : Nat → List (List (S89)) → List (S100) → Int → Option ((List (S100)))
  | 0, _, _, _ => none
  | k + 1, x1, x5, x6 => if x6 < (x1.length : Int) then (palantyperef02_Who.l1 k x1 x5 x6 0) else (some x5)
def palantyperef02_Who.l1 : Nat → List (List (S89)) → List (S100) → Int → Int → Option ((List (S100)))
  | 0, _, _, _, _ => none
  | k + 1, x1, x5, x6, x7 => if x7 < (x5.length : Int) then (if 0 ≤ x7 then (if 0 ≤ x6 then (if x6 < (x1.length : Int) then (if x7 < ((rd_L11 x1 x6).length : Int) then ((palantyperef02_Bit.f ((rd_T89 (rd_L11 x1 x6) x7).f0)).bind fun t190 => ((some (x5.set (x7 : Int).toNat (⟨Go.bits .or .u16 ((rd_T100 x5 x7).f0) t190, (rd_T100 x5 x7).f1⟩ : S100) : List (S100))).bind fun y191 => ((palantyperef02_Bit.f ((rd_T89 (rd_L11 x1 x6) x7).f1)).bind fun t195 => (palantyperef02_Who.l1 k x1 (y191.set (x7 : Int).toNat (⟨(rd_T100 y191 x7).f0, Go.bits .or .u16 ((rd_T100 y191 x7).f1) t195⟩ : S100)) x6 (wrap64 (x7 + 1)))))) else (none)) else (none)) else (none)) else (none)) else (palantyperef02_Who.l0 k x1 x5 (wrap64 (x6 + 1)))
end
def palantyperef02_Who.f (k : Nat) (a0_0 : Int) (a0_1 : Int) (a0_2 : Int) (a0_3 : Int) (l0_4 : List (S59)) (l1 : List (List (S89))) : Option ((List (S100))) := if 0 ≤ (l0_4.length : Int) then (if ((l0_4.length : Int) : Int).toNat ≤ 70368744177664 then (palantyperef02_Who.l0 k l1 (List.replicate ((l0_4.length : Int) : Int).toNat z100) 0) else (none)) else (none)
theorem palantyperef02_Who.mono_l : ∀ k, (∀ y0 y1 y2, LeO (palantyperef02_Who.l0 k y0 y1 y2) (palantyperef02_Who.l0 (k + 1) y0 y1 y2)) ∧ (∀ y0 y1 y2 y3, LeO (palantyperef02_Who.l1 k y0 y1 y2 y3) (palantyperef02_Who.l1 (k + 1) y0 y1 y2 y3))
  | 0 => ⟨fun _ _ _ r h => by simp [palantyperef02_Who.l0] at h, fun _ _ _ _ r h => by simp [palantyperef02_Who.l1] at h⟩
  | k + 1 => by
    obtain ⟨ih0, ih1⟩ := palantyperef02_Who.mono_l k
    refine ⟨?_, ?_⟩
    · intro y0 y1 y2
      unfold palantyperef02_Who.l0
      repeat' first
      | (with_reducible exact ih0 _ _ _)
      | (with_reducible exact ih1 _ _ _ _)
      | (with_reducible exact LeO.refl _)
      | (with_reducible exact LeO.none _)
      | (with_reducible refine LeO.ite ?_ ?_)
      | (with_reducible refine LeO.bind ?_ (fun _ => ?_))
      | exact ih0 _ _ _
      | exact ih1 _ _ _ _
      | exact LeO.none _
      | refine LeO.ite ?_ ?_
      | refine LeO.bind ?_ (fun _ => ?_)
    · intro y0 y1 y2 y3
      unfold palantyperef02_Who.l1
      repeat' first
      | (with_reducible exact ih0 _ _ _)
      | (with_reducible exact ih1 _ _ _ _)
      | (with_reducible exact LeO.refl _)
      | (with_reducible exact LeO.none _)
      | (with_reducible refine LeO.ite ?_ ?_)
      | (with_reducible refine LeO.bind ?_ (fun _ => ?_))
      | exact ih0 _ _ _
      | exact ih1 _ _ _ _
      | exact LeO.none _
      | refine LeO.ite ?_ ?_
      | refine LeO.bind ?_ (fun _ => ?_)
theorem palantyperef02_Who.mono : ∀ a0 a1 a2 a3 a4 a5 k, LeO (palantyperef02_Who.f k a0 a1 a2 a3 a4 a5) (palantyperef02_Who.f (k + 1) a0 a1 a2 a3 a4 a5) := by
  intro a0 a1 a2 a3 a4 a5 k
  obtain ⟨ih0, ih1⟩ := palantyperef02_Who.mono_l k
  unfold palantyperef02_Who.f
  repeat' first
      | (with_reducible exact ih0 _ _ _)
      | (with_reducible exact ih1 _ _ _ _)
      | (with_reducible exact LeO.refl _)
      | (with_reducible exact LeO.none _)
      | (with_reducible refine LeO.ite ?_ ?_)
      | (with_reducible refine LeO.bind ?_ (fun _ => ?_))
      | exact ih0 _ _ _
      | exact ih1 _ _ _ _
      | exact LeO.none _
      | refine LeO.ite ?_ ?_
      | refine LeO.bind ?_ (fun _ => ?_)
def palantyperef02_Who.T8 : Bool × List (List Nat × List Nat) := (true, [([], []), ([], []), ([0, 1], [0, 1]), ([2], [2]), ([3], [3]), ([], []), ([], []), ([5, 6], [5, 6]), ([7], [7]), ([], []), ([8, 9], [8, 9]), ([10], [10]), ([11], [11]), ([12], [12]), ([4, 13], [4, 13]), ([0, 1, 0, 1, 2, 3, 4, 5, 6, 7, 8, 9, 10, 11, 12, 13, 14], [0, 1]), ([15, 0, 1, 2, 3, 4, 5, 6, 7, 8, 9, 10, 11, 12, 13, 14], [15]), ([16, 14, 13, 0, 1, 2, 3, 4, 5, 6, 7, 8, 9, 10, 11, 12, 13, 14], [14, 16])])
def palantyperef02_Who.B8 : List Nat := [0, 0, 3, 7, 15, 0, 0, 96, 224, 0, 992, 2016, 4064, 8160, 16383, 32767, 65535, 131071]
theorem palantyperef02_Who.tab8 : rtab .any (opsOf Try.f23 8) = palantyperef02_Who.T8 := by kernel_rfl
theorem palantyperef02_Who.bits8 : waitsOk palantyperef02_Who.T8.2 palantyperef02_Who.B8 = true := by kernel_rfl
def palantyperef02_Who.T9 : Bool × List (List Nat × List Nat) := (true, [([], []), ([], []), ([0, 1], [0, 1]), ([2], [2]), ([3], [3]), ([], []), ([], []), ([5, 6], [5, 6]), ([7], [7]), ([], []), ([8, 9], [8, 9]), ([10], [10]), ([11], [11]), ([12], [12]), ([4, 13], [4, 13]), ([0, 1, 0, 1, 2, 3, 4, 5, 6, 7, 8, 9, 10, 11, 12, 13, 14], [0, 1]), ([15, 0, 1, 2, 3, 4, 5, 6, 7, 8, 9, 10, 11, 12, 13, 14], [15]), ([16, 14, 13, 0, 1, 2, 3, 4, 5, 6, 7, 8, 9, 10, 11, 12, 13, 14], [14, 16])])
def palantyperef02_Who.B9 : List Nat := [0, 0, 3, 7, 15, 0, 0, 96, 224, 0, 992, 2016, 4064, 8160, 16383, 32767, 65535, 131071]
theorem palantyperef02_Who.tab9 : rtab .any (opsOf Try.f23 9) = palantyperef02_Who.T9 := by kernel_rfl
theorem palantyperef02_Who.bits9 : waitsOk palantyperef02_Who.T9.2 palantyperef02_Who.B9 = true := by kernel_rfl
set_option maxHeartbeats 8000000 in
set_option maxRecDepth 100000 in
theorem palantyperef02_Who.calls (k : Nat) (a0_0 : Int) (a0_1 : Int) (a0_2 : Int) (a0_3 : Int) (A0_4 : Option Addr) (c0_4 : Nat) (l0_4 : List (S59)) (A1 : Option Addr) (c1 : Nat) (l1 : List (List (S89))) (r : List (S100)) (w : World) (hr0_4 : Kd.C k59 w A0_4 l0_4.length l0_4) (hc0_4 : l0_4.length ≤ c0_4) (hr1 : Kd.C (Kd.slice 89 k89) w A1 l1.length l1) (hc1 : l1.length ≤ c1) (h : palantyperef02_Who.f k a0_0 a0_1 a0_2 a0_3 l0_4 l1 = some r) :
    Calls Try.prog 23 #[.agg #[.int .i64 a0_0, .int .i64 a0_1, .int .i64 a0_2, .int .i64 a0_3, .slice A0_4 l0_4.length c0_4], .slice A1 l1.length c1] w fun e w' => ∃ v0_ : Value, e = .returned (v0_) ∧ Kd.R k100 100 w' w.heap.size (fun _ => True) v0_ r ∧ Below w.heap.size w w' := by
  have hu24 := Try.underlying24
  have HR0_4 := Aside0.mk hr0_4
  have HC0_4 := Aside0.mk hc0_4
  clear hr0_4 hc0_4
  have HR1 := Aside0.mk hr1
  have HC1 := Aside0.mk hc1
  clear hr1 hc1
  have HB := Aside0.mk (Below.refl w.heap.size w)
  have H : (if 0 ≤ (l0_4.length : Int) then (if ((l0_4.length : Int) : Int).toNat ≤ 70368744177664 then (palantyperef02_Who.l0 k l1 (List.replicate ((l0_4.length : Int) : Int).toNat z100) 0) else (none)) else (none)) = some r := h
  clear h
  by_cases c3 : 0 ≤ (l0_4.length : Int)
  · rw [if_pos c3] at H
    have c3b0 := eq_true c3
    have c3b1 : decide (0 ≤ (l0_4.length : Int)) = true := decide_eq_true c3
    clear c3
    by_cases c4 : ((l0_4.length : Int) : Int).toNat ≤ 70368744177664
    · rw [if_pos c4] at H
      have c4b0 := eq_true c4
      have c4b1 : decide (((l0_4.length : Int) : Int).toNat ≤ 70368744177664) = true := decide_eq_true c4
      clear c4
      obtain ⟨y184, hy184⟩ : ∃ y_ : List (S100), y_ = (List.replicate ((l0_4.length : Int) : Int).toNat z100) := ⟨_, rfl⟩
      replace H : (palantyperef02_Who.l0 k l1 y184 0) = some r := by first | (rw [hy184]; with_reducible exact H) | (have H2_ := (Option.bind_some _ _).symm.trans H; rw [hy184]; with_reducible exact H2_) | (have H2_ := (Option.bind_some _ _).symm.trans H; with_reducible exact H2_) | with_reducible exact H | (rw [hy184]; exact H) | exact H
      have Ny184 := Aside0.mk hy184
      clear hy184
      have H' := Aside0.mk H
      clear H
      go_enter Try.func23, Try.ntmps23
      go_wp2_with (first | ((with_reducible refine gate_dst (N := 2) rfl ?_); refine box_event ?hg (N := 2) ?hd (cs := #[.int .i64 a0_0, .int .i64 a0_1, .int .i64 a0_2, .int .i64 a0_3, .slice A0_4 l0_4.length c0_4]) (t := 24) ?hr ?_; (case hd => rfl); (case hg => rfl); (case hr => first | (go_simp; done) | (go_simp; rfl)); intro gb183 hg w5 hbox hb; have n0_ := Aside0.mk (below_step (by repeat (first | (with_reducible first | exact HB.out | apply below_alloc | apply pw_below_drewN | apply below_drew1) | exact HB.out)) hb); have n1_ := Aside0.mk (hbox); have n2_ := Aside0.mk ((by rw [hg]; exact (below_size (by repeat (first | (with_reducible first | exact HB.out | apply below_alloc | apply pw_below_drewN | apply below_drew1) | exact HB.out))) : w.heap.size ≤ gb183)); have n3_ := Aside0.mk ((by rw [hg]; exact (below_size (by repeat (first | (with_reducible first | exact HB.out | apply below_alloc | apply pw_below_drewN | apply below_drew1) | exact HB.out))) : w.heap.size ≤ gb183)); clear HB; have HB := n0_; have BK183 := n1_; have GW183 := n2_; have GE183 := n3_; clear n0_ n1_ n2_ n3_; clear hb hbox hg; have hcz6_0 : w5.cell? ⟨gb183, 0, none⟩ = some (.int .i64 a0_0) := (blk_cell BK183.out 0).trans rfl; have hcz6_1 : w5.cell? ⟨gb183, 1, none⟩ = some (.int .i64 a0_1) := (blk_cell BK183.out 1).trans rfl; have hcz6_2 : w5.cell? ⟨gb183, 2, none⟩ = some (.int .i64 a0_2) := (blk_cell BK183.out 2).trans rfl; have hcz6_3 : w5.cell? ⟨gb183, 3, none⟩ = some (.int .i64 a0_3) := (blk_cell BK183.out 3).trans rfl; have hcz6_4 : w5.cell? ⟨gb183, 4, none⟩ = some (.slice A0_4 l0_4.length c0_4) := (blk_cell BK183.out 4).trans rfl; have hfz6_0 := blk_frozen BK183.out 0; have hfz6_1 := blk_frozen BK183.out 1; have hfz6_2 := blk_frozen BK183.out 2; have hfz6_3 := blk_frozen BK183.out 3; have hfz6_4 := blk_frozen BK183.out 4) | ((with_reducible refine gate_dst (N := 11) rfl ?_); refine Kd.R_make k100 _ 100 rfl (N := 11) rfl 39 _ _ rfl (l0_4.length : Int) rfl rfl Try.underlying39 (.agg #[(.int .u16 0), (.int .u16 0)]) 4 info100 rfl (by decide) (by omega) z100 (ok := fun _ => True) (okp := fun _ => True) (k100_mkM _ _ _ z100 ) (fun _ hk => hk) trivial (of_decide_eq_true (by first | (with_reducible assumption) | assumption)) (Nat.le_trans (Nat.mul_le_mul_right _ (of_decide_eq_true (by first | (with_reducible assumption) | assumption) : (l0_4.length : Int).toNat ≤ 70368744177664)) (by omega)) (Below.refl _ _) (Nat.le_refl _) ?_; intro v185 w7 ho8 hb hg_ hnew_; clear hg_ hnew_; (first | rw [← Ny184.out] at ho8 | (simp only [Int.reduceToNat] at ho8; rw [← Ny184.out] at ho8)); have n0_ := Aside0.mk (Kd.R_lower ho8 (below_size (by repeat (first | (with_reducible first | exact HB.out | apply below_alloc | apply pw_below_drewN | apply below_drew1 | refine below_set ?_ GE183.out) | exact HB.out)))); have n1_ := Aside0.mk (blk_below (g := gb183) (o := .cells #[.int .i64 a0_0, .int .i64 a0_1, .int .i64 a0_2, .int .i64 a0_3, .slice A0_4 l0_4.length c0_4] 24 (0, 0)) (by (with_reducible repeat (first | refine blk_drewN ?_ _ | refine blk_drew ?_ | refine blk_alloc ?_ _)); exact BK183.out) hb); have n2_ := Aside0.mk (below_step (by repeat (first | (with_reducible first | exact HB.out | apply below_alloc | apply pw_below_drewN | apply below_drew1 | refine below_set ?_ GE183.out) | exact HB.out)) hb); clear BK183; clear HB; have HO186 := n0_; have BK183 := n1_; have HB := n2_; clear n0_ n1_ n2_; clear hb ho8))
      go_loopg [6] k (fun kq v6 w' => ∃ (x5_1 : List (S100)) (x6_1 : Int), v6 = .int .i64 x6_1 ∧ Aside0 (palantyperef02_Who.l0 kq l1 x5_1 x6_1 = some r) ∧ Aside0 (kq ≤ k) ∧ Aside0 (Kd.R k100 100 w' w.heap.size (fun _ => True) v185 x5_1) ∧ Aside0 (w'.heap[gb183]? = some (.cells #[.int .i64 a0_0, .int .i64 a0_1, .int .i64 a0_2, .int .i64 a0_3, (.slice A0_4 l0_4.length c0_4)] 24 (0, 0))) ∧ Aside0 (Below w.heap.size w w'))
      case atStart => exact ⟨(y184), (0), (by first | rfl | (simp; done) | (simp [*]; done)), H', ⟨Nat.le_refl _⟩, ⟨by (with_reducible repeat (first | apply Kd.R_alloc | apply Kd.R_drewN | apply Kd.R_drew)); exact HO186.out⟩, ⟨by (with_reducible repeat (first | refine blk_drewN ?_ _ | refine blk_drew ?_ | refine blk_alloc ?_ _)); exact BK183.out⟩, ⟨by repeat (first | (with_reducible first | exact HB.out | apply below_alloc | apply pw_below_drewN | apply below_drew1 | refine below_set ?_ GE183.out) | exact HB.out)⟩⟩
      case round =>
        clear H'
        try clear c1
        try clear c2
        try clear p2
        try clear c3
        try clear c3b0
        try clear c3b1
        try clear c4
        try clear c4b0
        try clear c4b1
        try clear hcz6_0
        try clear hcz6_1
        try clear hcz6_2
        try clear hcz6_3
        try clear hcz6_4
        try clear hfz6_0
        try clear hfz6_1
        try clear hfz6_2
        try clear hfz6_3
        try clear hfz6_4
        obtain ⟨x5_1, x6_1, rfl, HA, HK1, HO_5, BK183, HB⟩ := hrel
        cases gk with
        | zero => exact absurd HA.out (by simp [palantyperef02_Who.l0])
        | succ k1 =>
          have H := HA.out
          clear HA
          simp only [palantyperef02_Who.l0] at H
          by_cases c9 : x6_1 < (l1.length : Int)
          · rw [if_pos c9] at H
            have c9b0 : decide (x6_1 < (l1.length : Int)) = true := decide_eq_true c9
            clear c9
            have H' := Aside0.mk H
            clear H
            go_wp2
            go_loopg [7] k1 (fun kq v7 w' => ∃ (x5_2 : List (S100)) (x7_2 : Int), v7 = .int .i64 x7_2 ∧ Aside0 (palantyperef02_Who.l1 kq l1 x5_2 x6_1 x7_2 = some r) ∧ Aside0 (kq ≤ k1) ∧ Aside0 (Kd.R k100 100 w' w.heap.size (fun _ => True) v185 x5_2) ∧ Aside0 (w'.heap[gb183]? = some (.cells #[.int .i64 a0_0, .int .i64 a0_1, .int .i64 a0_2, .int .i64 a0_3, (.slice A0_4 l0_4.length c0_4)] 24 (0, 0))) ∧ Aside0 (Below w.heap.size w w'))
            case atStart => exact ⟨(x5_1), (0), (by first | rfl | (simp; done) | (simp [*]; done)), H', ⟨Nat.le_refl _⟩, ⟨by (with_reducible repeat (first | apply Kd.R_alloc | apply Kd.R_drewN | apply Kd.R_drew)); exact HO_5.out⟩, ⟨by (with_reducible repeat (first | refine blk_drewN ?_ _ | refine blk_drew ?_ | refine blk_alloc ?_ _)); exact BK183.out⟩, ⟨by repeat (first | (with_reducible first | exact HB.out | apply below_alloc | apply pw_below_drewN | apply below_drew1 | refine below_set ?_ GE183.out) | exact HB.out)⟩⟩
            case round =>
              clear H'
              try clear c1
              try clear c2
              try clear p2
              try clear c3
              try clear c3b0
              try clear c3b1
              try clear c4
              try clear c4b0
              try clear c4b1
              try clear c9
              try clear c9b0
              try clear hcz6_0
              try clear hcz6_1
              try clear hcz6_2
              try clear hcz6_3
              try clear hcz6_4
              try clear hfz6_0
              try clear hfz6_1
              try clear hfz6_2
              try clear hfz6_3
              try clear hfz6_4
              try clear p2
              obtain ⟨x5_2, x7_2, rfl, HA, HK2, HO_5, BK183, HB⟩ := hrel
              cases gk with
              | zero => exact absurd HA.out (by simp [palantyperef02_Who.l1])
              | succ k2 =>
                have H := HA.out
                clear HA
                simp only [palantyperef02_Who.l1] at H
                by_cases c10 : x7_2 < (x5_2.length : Int)
                · rw [if_pos c10] at H
                  have c10b0 : decide (x7_2 < (x5_2.length : Int)) = true := decide_eq_true c10
                  clear c10
                  by_cases c11 : 0 ≤ x7_2
                  · rw [if_pos c11] at H
                    have c11b0 : decide (0 ≤ x7_2) = true := decide_eq_true c11
                    clear c11
                    by_cases c12 : 0 ≤ x6_1
                    · rw [if_pos c12] at H
                      have c12b0 : decide (0 ≤ x6_1) = true := decide_eq_true c12
                      clear c12
                      by_cases c13 : x6_1 < (l1.length : Int)
                      · rw [if_pos c13] at H
                        have c13b0 : decide (x6_1 < (l1.length : Int)) = true := decide_eq_true c13
                        clear c13
                        by_cases c14 : x7_2 < ((rd_L11 l1 x6_1).length : Int)
                        · rw [if_pos c14] at H
                          have c14b0 : decide (x7_2 < ((rd_L11 l1 x6_1).length : Int)) = true := decide_eq_true c14
                          clear c14
                          replace H := Option.bind_eq_some_iff.mp H
                          obtain ⟨t190, A150, H⟩ := H
                          replace H : ((some (x5_2.set (x7_2 : Int).toNat (⟨Go.bits .or .u16 ((rd_T100 x5_2 x7_2).f0) t190, (rd_T100 x5_2 x7_2).f1⟩ : S100) : List (S100))).bind fun y191 => ((palantyperef02_Bit.f ((rd_T89 (rd_L11 l1 x6_1) x7_2).f1)).bind fun t195 => (palantyperef02_Who.l1 k2 l1 (y191.set (x7_2 : Int).toNat (⟨(rd_T100 y191 x7_2).f0, Go.bits .or .u16 ((rd_T100 y191 x7_2).f1) t195⟩ : S100)) x6_1 (wrap64 (x7_2 + 1))))) = some r := H
                          have A15 := Aside0.mk A150
                          clear A150
                          obtain ⟨y191, hy191⟩ : ∃ y_ : List (S100), y_ = (x5_2.set (x7_2 : Int).toNat (⟨Go.bits .or .u16 ((rd_T100 x5_2 x7_2).f0) t190, (rd_T100 x5_2 x7_2).f1⟩ : S100)) := ⟨_, rfl⟩
                          replace H : ((palantyperef02_Bit.f ((rd_T89 (rd_L11 l1 x6_1) x7_2).f1)).bind fun t195 => (palantyperef02_Who.l1 k2 l1 (y191.set (x7_2 : Int).toNat (⟨(rd_T100 y191 x7_2).f0, Go.bits .or .u16 ((rd_T100 y191 x7_2).f1) t195⟩ : S100)) x6_1 (wrap64 (x7_2 + 1)))) = some r := by first | (rw [hy191]; with_reducible exact H) | (have H2_ := (Option.bind_some _ _).symm.trans H; rw [hy191]; with_reducible exact H2_) | (have H2_ := (Option.bind_some _ _).symm.trans H; with_reducible exact H2_) | with_reducible exact H | (rw [hy191]; exact H) | exact H
                          have Ny191 := Aside0.mk hy191
                          clear hy191
                          replace H := Option.bind_eq_some_iff.mp H
                          obtain ⟨t195, A170, H⟩ := H
                          replace H : (palantyperef02_Who.l1 k2 l1 (y191.set (x7_2 : Int).toNat (⟨(rd_T100 y191 x7_2).f0, Go.bits .or .u16 ((rd_T100 y191 x7_2).f1) t195⟩ : S100)) x6_1 (wrap64 (x7_2 + 1))) = some r := H
                          have A17 := Aside0.mk A170
                          clear A170
                          obtain ⟨y196, hy196⟩ : ∃ y_ : List (S100), y_ = (y191.set (x7_2 : Int).toNat (⟨(rd_T100 y191 x7_2).f0, Go.bits .or .u16 ((rd_T100 y191 x7_2).f1) t195⟩ : S100)) := ⟨_, rfl⟩
                          replace H : (palantyperef02_Who.l1 k2 l1 y196 x6_1 (wrap64 (x7_2 + 1))) = some r := by first | (rw [hy196]; with_reducible exact H) | (have H2_ := (Option.bind_some _ _).symm.trans H; rw [hy196]; with_reducible exact H2_) | (have H2_ := (Option.bind_some _ _).symm.trans H; with_reducible exact H2_) | with_reducible exact H | (rw [hy196]; exact H) | exact H
                          have Ny196 := Aside0.mk hy196
                          clear hy196
                          have H' := Aside0.mk H
                          clear H
                          obtain ⟨Ao19, co19, eo19⟩ := Kd.R_slice HO_5.out
                          subst eo19
                          try go_wp2
                          have n0_ := Aside0.mk (Kd.R_drew HO_5.out)
                          have n1_ := Aside0.mk (blk_drew BK183.out)
                          have n2_ := Aside0.mk (below_drew1 HB.out)
                          clear HO_5
                          clear BK183
                          clear HB
                          have HO_5 := n0_
                          have BK183 := n1_
                          have HB := n2_
                          clear n0_ n1_ n2_
                          have p187 : 0 ≤ (x7_2 : Int) := of_decide_eq_true (by first | (with_reducible assumption) | assumption)
                          have q187 : x7_2 < (x5_2.length : Int) := of_decide_eq_true (by first | (with_reducible assumption) | assumption)
                          obtain ⟨ad187, e187, hx187_0, hx187_1⟩ := at_T100 (Kd.R_reads' HO_5.out).2.2 x7_2 p187 q187
                          cases e187
                          replace p187 := eq_true p187
                          replace q187 := eq_true q187
                          have p188 : 0 ≤ (x6_1 : Int) := of_decide_eq_true (by first | (with_reducible assumption) | assumption)
                          have q188 : x6_1 < (l1.length : Int) := of_decide_eq_true (by first | (with_reducible assumption) | assumption)
                          obtain ⟨ad188, A188_0, c188_0, e188, hx188_0, hl188_0, hi188_0⟩ := at_L11 HR1.out x6_1 p188 q188
                          have hw188_0 := hx188_0
                          cases e188
                          replace hx188_0 := (HB.out.cell (World.block_lt_of_cell? w _ hx188_0)).trans hx188_0
                          have HR188_0 := Aside0.mk hi188_0
                          have HC188_0 := Aside0.mk hl188_0
                          clear hi188_0 hl188_0
                          replace p188 := eq_true p188
                          replace q188 := eq_true q188
                          have p189 : 0 ≤ (x7_2 : Int) := of_decide_eq_true (by first | (with_reducible assumption) | assumption)
                          have q189 : x7_2 < ((rd_L11 l1 x6_1).length : Int) := of_decide_eq_true (by first | (with_reducible assumption) | assumption)
                          obtain ⟨ad189, e189, hx189_0, hx189_1⟩ := at_T89 HR188_0.out x7_2 p189 q189
                          have hw189_1 := hx189_1
                          have hw189_0 := hx189_0
                          cases e189
                          replace hx189_0 := (HB.out.cell (World.block_lt_of_cell? w _ hx189_0)).trans hx189_0
                          replace hx189_1 := (HB.out.cell (World.block_lt_of_cell? w _ hx189_1)).trans hx189_1
                          replace p189 := eq_true p189
                          replace q189 := eq_true q189
                          refine start_ (n := 18) (S := fun w' => w'.cell? (ad187.add ((x7_2).toNat * 2)) = some (.int .u16 ((rd_T100 x5_2 x7_2).f0)) ∧ w'.cell? ⟨(ad187.add ((x7_2).toNat * 2)).block, (ad187.add ((x7_2).toNat * 2)).off + 1, none⟩ = some (.int .u16 ((rd_T100 x5_2 x7_2).f1)) ∧ w'.cell? (ad188.add (x6_1).toNat) = some (.slice (some ad189) (rd_L11 l1 x6_1).length c188_0) ∧ w'.cell? (ad189.add ((x7_2).toNat * 2)) = some (.int .i64 ((rd_T89 (rd_L11 l1 x6_1) x7_2).f0)) ∧ w'.cell? ⟨(ad189.add ((x7_2).toNat * 2)).block, (ad189.add ((x7_2).toNat * 2)).off + 1, none⟩ = some (.int .i64 ((rd_T89 (rd_L11 l1 x6_1) x7_2).f1))) (ds := [17]) #[false, false, false, false, false, false, false, false, false, false, false, false, false, false, false, false, false, false] (by kernel_rfl) rfl rfl ⟨hx187_0, hx187_1, ((HB.out.cell (World.block_lt_of_cell? w _ hw188_0)).trans hw188_0), ((HB.out.cell (World.block_lt_of_cell? w _ hw189_0)).trans hw189_0), ((HB.out.cell (World.block_lt_of_cell? w _ hw189_1)).trans hw189_1)⟩ (fun hHeld => ?_); refine with_tabW palantyperef02_Who.tab8 palantyperef02_Who.bits8 (fun HT_ HW_ => ?_)
                          generalize wr.drew = w20 at HO_5 BK183 HB HR188_0 hx187_0 hx187_1 hx188_0 hx189_0 hx189_1 hHeld ⊢
                          refine pure_ (i := 0) (N := some 24) (v := ?_) (a' := ?_) #[true, false, false, false, false, false, false, false, false, false, false, false, false, false, false, false, false, false] rfl rfl (any_of HT_.out (by kernel_rfl)) (fun _ _ _ h => h) (Or.inl ⟨by rfl, ?_⟩) ?_ ?_
                          rotate_left
                          · intro w'
                            go_simp
                            with_reducible rfl
                          rotate_left
                          · simp only [Act.put, List.setIfInBounds_toArray, List.set_cons_zero, List.set_cons_succ, i64_w, i32_w]
                            rfl
                          refine pure_ (i := 1) (N := some 25) (v := ?_) (a' := ?_) #[true, true, false, false, false, false, false, false, false, false, false, false, false, false, false, false, false, false] rfl rfl (any_of HT_.out (by kernel_rfl)) (fun _ _ _ h => h) (Or.inl ⟨by rfl, ?_⟩) ?_ ?_
                          rotate_left
                          · intro w'
                            go_simp
                            with_reducible rfl
                          rotate_left
                          · simp only [Act.put, List.setIfInBounds_toArray, List.set_cons_zero, List.set_cons_succ, i64_w, i32_w]
                            rfl
                          refine pure_ (i := 2) (N := some 26) (v := ?_) (a' := ?_) #[true, true, true, false, false, false, false, false, false, false, false, false, false, false, false, false, false, false] rfl rfl (any_of HT_.out (by kernel_rfl)) (fun _ _ _ h => h) (Or.inl ⟨by rfl, ?_⟩) ?_ ?_
                          rotate_left
                          · intro w'
                            go_simp
                            with_reducible rfl
                          rotate_left
                          · simp only [Act.put, List.setIfInBounds_toArray, List.set_cons_zero, List.set_cons_succ, i64_w, i32_w]
                            rfl
                          refine pure_ (i := 3) (N := some 27) (v := ?_) (a' := ?_) #[true, true, true, true, false, false, false, false, false, false, false, false, false, false, false, false, false, false] rfl rfl (any_of HT_.out (by kernel_rfl)) (fun _ _ _ h => h) (Or.inl ⟨by rfl, ?_⟩) ?_ ?_
                          rotate_left
                          · intro w'
                            go_simp
                            with_reducible rfl
                          rotate_left
                          · simp only [Act.put, List.setIfInBounds_toArray, List.set_cons_zero, List.set_cons_succ, i64_w, i32_w]
                            rfl
                          refine pure_ (i := 5) (N := some 29) (v := ?_) (a' := ?_) #[true, true, true, true, false, true, false, false, false, false, false, false, false, false, false, false, false, false] rfl rfl (any_of HT_.out (by kernel_rfl)) (fun _ _ _ h => h) (Or.inl ⟨by rfl, ?_⟩) ?_ ?_
                          rotate_left
                          · intro w'
                            go_simp
                            with_reducible rfl
                          rotate_left
                          · simp only [Act.put, List.setIfInBounds_toArray, List.set_cons_zero, List.set_cons_succ, i64_w, i32_w]
                            rfl
                          refine pure_ (i := 6) (N := some 30) (v := ?_) (a' := ?_) #[true, true, true, true, false, true, true, false, false, false, false, false, false, false, false, false, false, false] rfl rfl (any_of HT_.out (by kernel_rfl)) (fun _ _ _ h => h) (Or.inl ⟨by rfl, ?_⟩) ?_ ?_
                          rotate_left
                          · intro w'
                            go_simp
                            with_reducible rfl
                          rotate_left
                          · simp only [Act.put, List.setIfInBounds_toArray, List.set_cons_zero, List.set_cons_succ, i64_w, i32_w]
                            rfl
                          refine pure_ (i := 7) (N := some 31) (v := ?_) (a' := ?_) #[true, true, true, true, false, true, true, true, false, false, false, false, false, false, false, false, false, false] rfl rfl (any_of HT_.out (by kernel_rfl)) (fun _ _ _ h => h) (Or.inl ⟨by rfl, ?_⟩) ?_ ?_
                          rotate_left
                          · intro w'
                            go_simp
                            with_reducible rfl
                          rotate_left
                          · simp only [Act.put, List.setIfInBounds_toArray, List.set_cons_zero, List.set_cons_succ, i64_w, i32_w]
                            rfl
                          refine pure_ (i := 9) (N := some 33) (v := ?_) (a' := ?_) #[true, true, true, true, false, true, true, true, false, true, false, false, false, false, false, false, false, false] rfl rfl (any_of HT_.out (by kernel_rfl)) (fun _ _ _ h => h) (Or.inl ⟨by rfl, ?_⟩) ?_ ?_
                          rotate_left
                          · intro w'
                            go_simp
                            with_reducible rfl
                          rotate_left
                          · simp only [Act.put, List.setIfInBounds_toArray, List.set_cons_zero, List.set_cons_succ, i64_w, i32_w]
                            rfl
                          refine take_ (i := 4) (N := some 28) (v := ?_) (a' := ?_) #[true, true, true, true, true, true, true, true, false, true, false, false, false, false, false, false, false, false] rfl rfl (take_ofW HT_.out HW_.out (by kernel_rfl)) (fun _ _ _ h => h) (Or.inl ⟨by rfl, ?_⟩) hHeld ?_ ?_
                          rotate_left
                          · rintro w' ⟨s0, s1, s2, s3, s4⟩
                            go_simp
                            with_reducible rfl
                          rotate_left
                          · simp only [Act.put, List.setIfInBounds_toArray, List.set_cons_zero, List.set_cons_succ, i64_w, i32_w]
                            rfl
                          refine take_ (i := 8) (N := some 32) (v := ?_) (a' := ?_) #[true, true, true, true, true, true, true, true, true, true, false, false, false, false, false, false, false, false] rfl rfl (take_ofW HT_.out HW_.out (by kernel_rfl)) (fun _ _ _ h => h) (Or.inl ⟨by rfl, ?_⟩) hHeld ?_ ?_
                          rotate_left
                          · rintro w' ⟨s0, s1, s2, s3, s4⟩
                            go_simp
                            with_reducible rfl
                          rotate_left
                          · simp only [Act.put, List.setIfInBounds_toArray, List.set_cons_zero, List.set_cons_succ, i64_w, i32_w]
                            rfl
                          refine pure_ (i := 10) (N := some 34) (v := ?_) (a' := ?_) #[true, true, true, true, true, true, true, true, true, true, true, false, false, false, false, false, false, false] rfl rfl (any_of HT_.out (by kernel_rfl)) (fun _ _ _ h => h) (Or.inl ⟨by rfl, ?_⟩) ?_ ?_
                          rotate_left
                          · intro w'
                            go_simp
                            with_reducible rfl
                          rotate_left
                          · simp only [Act.put, List.setIfInBounds_toArray, List.set_cons_zero, List.set_cons_succ, i64_w, i32_w]
                            rfl
                          refine pure_ (i := 11) (N := some 35) (v := ?_) (a' := ?_) #[true, true, true, true, true, true, true, true, true, true, true, true, false, false, false, false, false, false] rfl rfl (any_of HT_.out (by kernel_rfl)) (fun _ _ _ h => h) (Or.inl ⟨by rfl, ?_⟩) ?_ ?_
                          rotate_left
                          · intro w'
                            go_simp
                            with_reducible rfl
                          rotate_left
                          · simp only [Act.put, List.setIfInBounds_toArray, List.set_cons_zero, List.set_cons_succ, i64_w, i32_w]
                            rfl
                          refine take_ (i := 12) (N := some 36) (v := ?_) (a' := ?_) #[true, true, true, true, true, true, true, true, true, true, true, true, true, false, false, false, false, false] rfl rfl (take_ofW HT_.out HW_.out (by kernel_rfl)) (fun _ _ _ h => h) (Or.inl ⟨by rfl, ?_⟩) hHeld ?_ ?_
                          rotate_left
                          · rintro w' ⟨s0, s1, s2, s3, s4⟩
                            go_simp
                            with_reducible rfl
                          rotate_left
                          · simp only [Act.put, List.setIfInBounds_toArray, List.set_cons_zero, List.set_cons_succ, i64_w, i32_w]
                            rfl
                          refine one_ (i := 13) (N := some 37) #[true, true, true, true, true, true, true, true, true, true, true, true, true, true, false, false, false, false] rfl rfl (one_of HT_.out (by kernel_rfl)) (by decide) (fun K hK => ?_)
                          refine goes_ Try.func44 (by kernel_rfl) rfl #[.int .i64 ((rd_T89 (rd_L11 l1 x6_1) x7_2).f0)] (by rfl) rfl rfl (by (try simp only [List.map_toArray, List.map_cons, List.map_nil]); first | done | rfl | (simp only [List.length_drop, List.length_take]; rfl)) ?_
                          with_reducible refine (palantyperef02_Bit.calls ((rd_T89 (rd_L11 l1 x6_1) x7_2).f0) t190 _ A15.out).mono ?_
                          rintro e w' ⟨rfl, ⟨nd, rfl⟩⟩
                          refine ⟨_, rfl, ?_⟩
                          have p16 : 0 ≤ (x7_2 : Int) := of_decide_eq_true (by first | (with_reducible assumption) | assumption)
                          have q16 : (x7_2 : Int) < ((x5_2.length : Int) : Int) := of_decide_eq_true (by first | (with_reducible assumption) | assumption)
                          obtain ⟨go16, co16, eo16, gb16, gl16, cl16, HG16⟩ := Kd.R_form HO_5.out (by omega)
                          (first | cases eo16 | (injection eo16 with ea_ en_ ec_; (first | subst ea_ | (injection ea_ with ea_; subst ea_)); subst ec_; clear en_))
                          have GB16 := Aside0.mk gb16
                          have GG16 := Aside0.mk HG16
                          clear gb16 gl16 HG16
                          (first | simp only [add_plain] at hx187_0 | skip)
                          (first | simp only [add_plain] at hx187_1 | skip)
                          obtain ⟨ce16, hcl16, hM16, hcc16, hfr16⟩ := Kd.R_elem HO_5.out z100 (x7_2 : Int) p16 q16
                          obtain rfl := k100_openM hM16
                          have hx16_0 : World.cell? _ ⟨go16, (x7_2 : Int).toNat * 2, none⟩ = some (.int .u16 ((rd_T100 x5_2 x7_2).f0)) := hcc16 0 _ rfl
                          have hx16_1 : World.cell? _ ⟨go16, (x7_2 : Int).toNat * 2 + 1, none⟩ = some (.int .u16 ((rd_T100 x5_2 x7_2).f1)) := hcc16 1 _ rfl
                          have hf16_0 : World.frozen? _ ⟨go16, (x7_2 : Int).toNat * 2, none⟩ = false := hfr16 0
                          have hf16_1 : World.frozen? _ ⟨go16, (x7_2 : Int).toNat * 2 + 1, none⟩ = false := hfr16 1
                          clear hcl16 hcc16 hfr16 hM16
                          replace p16 := eq_true p16
                          replace q16 := eq_true q16
                          obtain ⟨ce21, hcl21, hM21, hcc21, hfr21⟩ := Kd.R_elem HO_5.out z100 (x7_2 : Int) (of_decide_eq_true (by first | (with_reducible assumption) | assumption)) (by have h_ : (x7_2 : Int) < ((x5_2.length : Int) : Int) := of_decide_eq_true (by first | (with_reducible assumption) | assumption); first | exact h_ | (have e_ := (Kd.R_reads' HO_5.out).1; omega) | simpa using h_)
                          obtain rfl := k100_openM hM21
                          have HP21 := (Kd.R_seg HO_5.out (x7_2 : Int) (of_decide_eq_true (by first | (with_reducible assumption) | assumption)) (by have h_ : (x7_2 : Int) < ((x5_2.length : Int) : Int) := of_decide_eq_true (by first | (with_reducible assumption) | assumption); first | exact h_ | (have e_ := (Kd.R_reads' HO_5.out).1; omega) | simpa using h_) (seg := [.int .u16 (Go.bits .or .u16 ((rd_T100 x5_2 x7_2).f0) t190)]) (j := 0) hcl21 hcc21 (show 1 ≤ 2 from by decide) (x' := (⟨Go.bits .or .u16 ((rd_T100 x5_2 x7_2).f0) t190, (rd_T100 x5_2 x7_2).f1⟩ : S100)) (k100_mkM _ _ _ (⟨Go.bits .or .u16 ((rd_T100 x5_2 x7_2).f0) t190, (rd_T100 x5_2 x7_2).f1⟩ : S100) ) (fun _ hk => hk)).1
                          rw [← Ny191.out] at HP21
                          have HQ21 := Aside0.mk HP21
                          clear hcl21 hcc21 hfr21 hM21 HP21
                          refine hK.out _ _ ⟨hHeld.1, hHeld.2.1, ((HB.out.cell (World.block_lt_of_cell? w _ hw188_0)).trans hw188_0), ((HB.out.cell (World.block_lt_of_cell? w _ hw189_0)).trans hw189_0), ((HB.out.cell (World.block_lt_of_cell? w _ hw189_1)).trans hw189_1)⟩ (fun hHeld => ?_)
                          clear hK K
                          refine norm_ (a' := ?_) ?_ ?_
                          rotate_left
                          · show Act.put _ (some 37) _ = _
                            simp only [Act.put, List.setIfInBounds_toArray, List.set_cons_zero, List.set_cons_succ, i64_w, i32_w]
                            rfl
                          refine pure_ (i := 14) (N := some 38) (v := ?_) (a' := ?_) #[true, true, true, true, true, true, true, true, true, true, true, true, true, true, true, false, false, false] rfl rfl (any_of HT_.out (by kernel_rfl)) (fun _ _ _ h => h) (Or.inl ⟨by rfl, ?_⟩) ?_ ?_
                          rotate_left
                          · intro w'
                            go_simp
                            with_reducible rfl
                          rotate_left
                          · simp only [Act.put, List.setIfInBounds_toArray, List.set_cons_zero, List.set_cons_succ, i64_w, i32_w]
                            rfl
                          refine pure_ (i := 15) (N := some 39) (v := ?_) (a' := ?_) #[true, true, true, true, true, true, true, true, true, true, true, true, true, true, true, true, false, false] rfl rfl (any_of HT_.out (by kernel_rfl)) (fun _ _ _ h => h) (Or.inl ⟨by rfl, ?_⟩) ?_ ?_
                          rotate_left
                          · intro w'
                            go_simp
                            with_reducible rfl
                          rotate_left
                          · simp only [Act.put, List.setIfInBounds_toArray, List.set_cons_zero, List.set_cons_succ, i64_w, i32_w]
                            rfl
                          refine pure_ (i := 16) (N := some 40) (v := ?_) (a' := ?_) #[true, true, true, true, true, true, true, true, true, true, true, true, true, true, true, true, true, false] rfl rfl (any_of HT_.out (by kernel_rfl)) (fun _ _ _ h => h) (Or.inl ⟨by rfl, ?_⟩) ?_ ?_
                          rotate_left
                          · intro w'
                            go_simp
                            with_reducible rfl
                          rotate_left
                          · simp only [Act.put, List.setIfInBounds_toArray, List.set_cons_zero, List.set_cons_succ, i64_w, i32_w]
                            rfl
                          refine last_ (i := 17) (N := none) #[true, true, true, true, true, true, true, true, true, true, true, true, true, true, true, true, true, true] rfl rfl (one_of HT_.out (by kernel_rfl)) (by decide) (fun K hK => ?_)
                          refine skip_ (w1 := ?_) (by rfl) rfl ?_ ?_
                          rotate_left
                          · go_simp
                            rfl
                          refine hK.out _ _ ?_
                          clear hK K
                          refine done_ (done_of HT_.out (by kernel_rfl)) ?_
                          try go_wp2
                          have n0_ : Aside0 (Kd.R k100 100 (w20.setCell ⟨go16, (x7_2 : Int).toNat * 2, none⟩ (.int .u16 (Go.bits .or .u16 ((rd_T100 x5_2 x7_2).f0) t190))) w.heap.size (fun _ => True) (.slice (some ⟨go16, 0, none⟩) x5_2.length co19) y191) := ⟨by (with_reducible repeat (first | apply Kd.R_alloc | apply Kd.R_drewN | apply Kd.R_drew)); exact HQ21.out⟩
                          have n1_ : Aside0 ((w20.setCell ⟨go16, (x7_2 : Int).toNat * 2, none⟩ (.int .u16 (Go.bits .or .u16 ((rd_T100 x5_2 x7_2).f0) t190))).heap[gb183]? = some (.cells #[.int .i64 a0_0, .int .i64 a0_1, .int .i64 a0_2, .int .i64 a0_3, .slice A0_4 l0_4.length c0_4] 24 (0, 0))) := ⟨by (with_reducible repeat (first | refine blk_drewN ?_ _ | refine blk_drew ?_ | refine blk_alloc ?_ _)); refine blk_far ?_ (by have h_ := Kd.R_ne HO_5.out BK183.out (by decide); intro e_; exact h_ (by rw [e_]; rfl)) _; (with_reducible repeat (first | refine blk_drewN ?_ _ | refine blk_drew ?_ | refine blk_alloc ?_ _)); exact BK183.out⟩
                          have n2_ : Aside0 (Below w.heap.size w (w20.setCell ⟨go16, (x7_2 : Int).toNat * 2, none⟩ (.int .u16 (Go.bits .or .u16 ((rd_T100 x5_2 x7_2).f0) t190)))) := ⟨by repeat (first | (with_reducible first | exact HB.out | apply below_alloc | apply pw_below_drewN | apply below_drew1 | refine below_set ?_ GB16.out | refine below_set ?_ GE183.out) | exact HB.out)⟩
                          (try clear HO_5)
                          (try clear BK183)
                          (try clear HB)
                          (try rw [show ∀ (a : Addr) (v : Value), (w20.drewN nd).setCell a v = (w20.setCell a v).drewN nd from fun _ _ => rfl])
                          generalize (w20.setCell ⟨go16, (x7_2 : Int).toNat * 2, none⟩ (.int .u16 (Go.bits .or .u16 ((rd_T100 x5_2 x7_2).f0) t190))) = w22 at n0_ n1_ n2_ ⊢
                          have HO_5 := n0_
                          have BK183 := n1_
                          have HB := n2_
                          clear n0_ n1_ n2_
                          (try (rw [drewN_self w22]; generalize hq_ : World.drewN w22 _ = w22; have n0_ : Aside0 (Kd.R k100 100 w22 w.heap.size (fun _ => True) (.slice (some ⟨go16, 0, none⟩) x5_2.length co19) y191) := ⟨by rw [← hq_]; exact (by (with_reducible repeat (first | apply Kd.R_alloc | apply Kd.R_drewN | apply Kd.R_drew)); exact HO_5.out)⟩; have n1_ : Aside0 (w22.heap[gb183]? = some (.cells #[.int .i64 a0_0, .int .i64 a0_1, .int .i64 a0_2, .int .i64 a0_3, .slice A0_4 l0_4.length c0_4] 24 (0, 0))) := ⟨by rw [← hq_]; exact (by (with_reducible repeat (first | refine blk_drewN ?_ _ | refine blk_drew ?_ | refine blk_alloc ?_ _)); exact BK183.out)⟩; have n2_ : Aside0 (Below w.heap.size w w22) := ⟨by rw [← hq_]; exact (by repeat (first | (with_reducible first | exact HB.out | apply below_alloc | apply pw_below_drewN | apply below_drew1 | refine below_set ?_ GE183.out) | exact HB.out))⟩; clear HO_5 BK183 HB hq_; have HO_5 := n0_; have BK183 := n1_; have HB := n2_; clear n0_ n1_ n2_))
                          have n0_ := Aside0.mk (Kd.R_drew HO_5.out)
                          have n1_ := Aside0.mk (blk_drew BK183.out)
                          have n2_ := Aside0.mk (below_drew1 HB.out)
                          clear HO_5
                          clear BK183
                          clear HB
                          have HO_5 := n0_
                          have BK183 := n1_
                          have HB := n2_
                          clear n0_ n1_ n2_
                          have p192 : 0 ≤ (x7_2 : Int) := of_decide_eq_true (by first | (with_reducible assumption) | assumption)
                          have q192 : x7_2 < (y191.length : Int) := (by have h_ : (x7_2 : Int) < ((x5_2.length : Int) : Int) := of_decide_eq_true (by first | (with_reducible assumption) | assumption); first | (have e_ := (Kd.R_reads' HO_5.out).1; omega) | simpa only [Ny191.out, List.length_set] using h_)
                          have ql192 : ((x7_2 : Int) < ((x5_2.length : Int) : Int)) = True := eq_true (of_decide_eq_true (by first | (with_reducible assumption) | assumption))
                          obtain ⟨ad192, e192, hx192_0, hx192_1⟩ := at_T100 (Kd.R_reads' HO_5.out).2.2 x7_2 p192 q192
                          obtain rfl : (⟨go16, 0, none⟩ : Addr) = ad192 := (by injection e192)
                          (first | simp only [add_plain] at hx192_0 | simp only [add_at] at hx192_0 | simp only [Addr.add, Nat.zero_add] at hx192_0 | skip)
                          (first | simp only [add_plain] at hx192_1 | simp only [add_at] at hx192_1 | simp only [Addr.add, Nat.zero_add] at hx192_1 | skip)
                          replace p192 := eq_true p192
                          replace q192 := eq_true q192
                          have p193 : 0 ≤ (x6_1 : Int) := of_decide_eq_true (by first | (with_reducible assumption) | assumption)
                          have q193 : x6_1 < (l1.length : Int) := of_decide_eq_true (by first | (with_reducible assumption) | assumption)
                          obtain ⟨ad193, A193_0, c193_0, e193, hx193_0, hl193_0, hi193_0⟩ := at_L11 HR1.out x6_1 p193 q193
                          have hw193_0 := hx193_0
                          obtain rfl : ad188 = ad193 := (by injection e193)
                          replace hx193_0 := (HB.out.cell (World.block_lt_of_cell? w _ hx193_0)).trans hx193_0
                          have HR193_0 := Aside0.mk hi193_0
                          have HC193_0 := Aside0.mk hl193_0
                          clear hi193_0 hl193_0
                          replace p193 := eq_true p193
                          replace q193 := eq_true q193
                          have p194 : 0 ≤ (x7_2 : Int) := of_decide_eq_true (by first | (with_reducible assumption) | assumption)
                          have q194 : x7_2 < ((rd_L11 l1 x6_1).length : Int) := of_decide_eq_true (by first | (with_reducible assumption) | assumption)
                          obtain ⟨ad194, e194, hx194_0, hx194_1⟩ := at_T89 HR193_0.out x7_2 p194 q194
                          have hw194_1 := hx194_1
                          have hw194_0 := hx194_0
                          cases e194
                          replace hx194_0 := (HB.out.cell (World.block_lt_of_cell? w _ hx194_0)).trans hx194_0
                          replace hx194_1 := (HB.out.cell (World.block_lt_of_cell? w _ hx194_1)).trans hx194_1
                          replace p194 := eq_true p194
                          replace q194 := eq_true q194
                          refine start_ (n := 18) (S := fun w' => w'.cell? ⟨go16, (x7_2).toNat * 2, none⟩ = some (.int .u16 ((rd_T100 y191 x7_2).f0)) ∧ w'.cell? ⟨go16, (x7_2).toNat * 2 + 1, none⟩ = some (.int .u16 ((rd_T100 y191 x7_2).f1)) ∧ w'.cell? (ad188.add (x6_1).toNat) = some (.slice (some ad194) (rd_L11 l1 x6_1).length c193_0) ∧ w'.cell? (ad194.add ((x7_2).toNat * 2)) = some (.int .i64 ((rd_T89 (rd_L11 l1 x6_1) x7_2).f0)) ∧ w'.cell? ⟨(ad194.add ((x7_2).toNat * 2)).block, (ad194.add ((x7_2).toNat * 2)).off + 1, none⟩ = some (.int .i64 ((rd_T89 (rd_L11 l1 x6_1) x7_2).f1))) (ds := [17]) #[false, false, false, false, false, false, false, false, false, false, false, false, false, false, false, false, false, false] (by kernel_rfl) rfl rfl ⟨hx192_0, hx192_1, ((HB.out.cell (World.block_lt_of_cell? w _ hw193_0)).trans hw193_0), ((HB.out.cell (World.block_lt_of_cell? w _ hw194_0)).trans hw194_0), ((HB.out.cell (World.block_lt_of_cell? w _ hw194_1)).trans hw194_1)⟩ (fun hHeld => ?_); refine with_tabW palantyperef02_Who.tab9 palantyperef02_Who.bits9 (fun HT_ HW_ => ?_)
                          generalize w22.drew = w23 at HO_5 BK183 HB HQ21 HR193_0 hx192_0 hx192_1 hx193_0 hx194_0 hx194_1 hHeld ⊢
                          refine pure_ (i := 0) (N := some 41) (v := ?_) (a' := ?_) #[true, false, false, false, false, false, false, false, false, false, false, false, false, false, false, false, false, false] rfl rfl (any_of HT_.out (by kernel_rfl)) (fun _ _ _ h => h) (Or.inl ⟨by rfl, ?_⟩) ?_ ?_
                          rotate_left
                          · intro w'
                            go_simp
                            with_reducible rfl
                          rotate_left
                          · simp only [Act.put, List.setIfInBounds_toArray, List.set_cons_zero, List.set_cons_succ, i64_w, i32_w]
                            rfl
                          refine pure_ (i := 1) (N := some 42) (v := ?_) (a' := ?_) #[true, true, false, false, false, false, false, false, false, false, false, false, false, false, false, false, false, false] rfl rfl (any_of HT_.out (by kernel_rfl)) (fun _ _ _ h => h) (Or.inl ⟨by rfl, ?_⟩) ?_ ?_
                          rotate_left
                          · intro w'
                            go_simp
                            with_reducible rfl
                          rotate_left
                          · simp only [Act.put, List.setIfInBounds_toArray, List.set_cons_zero, List.set_cons_succ, i64_w, i32_w]
                            rfl
                          refine pure_ (i := 2) (N := some 43) (v := ?_) (a' := ?_) #[true, true, true, false, false, false, false, false, false, false, false, false, false, false, false, false, false, false] rfl rfl (any_of HT_.out (by kernel_rfl)) (fun _ _ _ h => h) (Or.inl ⟨by rfl, ?_⟩) ?_ ?_
                          rotate_left
                          · intro w'
                            go_simp
                            with_reducible rfl
                          rotate_left
                          · simp only [Act.put, List.setIfInBounds_toArray, List.set_cons_zero, List.set_cons_succ, i64_w, i32_w]
                            rfl
                          refine pure_ (i := 3) (N := some 44) (v := ?_) (a' := ?_) #[true, true, true, true, false, false, false, false, false, false, false, false, false, false, false, false, false, false] rfl rfl (any_of HT_.out (by kernel_rfl)) (fun _ _ _ h => h) (Or.inl ⟨by rfl, ?_⟩) ?_ ?_
                          rotate_left
                          · intro w'
                            go_simp
                            with_reducible rfl
                          rotate_left
                          · simp only [Act.put, List.setIfInBounds_toArray, List.set_cons_zero, List.set_cons_succ, i64_w, i32_w]
                            rfl
                          refine pure_ (i := 5) (N := some 46) (v := ?_) (a' := ?_) #[true, true, true, true, false, true, false, false, false, false, false, false, false, false, false, false, false, false] rfl rfl (any_of HT_.out (by kernel_rfl)) (fun _ _ _ h => h) (Or.inl ⟨by rfl, ?_⟩) ?_ ?_
                          rotate_left
                          · intro w'
                            go_simp
                            with_reducible rfl
                          rotate_left
                          · simp only [Act.put, List.setIfInBounds_toArray, List.set_cons_zero, List.set_cons_succ, i64_w, i32_w]
                            rfl
                          refine pure_ (i := 6) (N := some 47) (v := ?_) (a' := ?_) #[true, true, true, true, false, true, true, false, false, false, false, false, false, false, false, false, false, false] rfl rfl (any_of HT_.out (by kernel_rfl)) (fun _ _ _ h => h) (Or.inl ⟨by rfl, ?_⟩) ?_ ?_
                          rotate_left
                          · intro w'
                            go_simp
                            with_reducible rfl
                          rotate_left
                          · simp only [Act.put, List.setIfInBounds_toArray, List.set_cons_zero, List.set_cons_succ, i64_w, i32_w]
                            rfl
                          refine pure_ (i := 7) (N := some 48) (v := ?_) (a' := ?_) #[true, true, true, true, false, true, true, true, false, false, false, false, false, false, false, false, false, false] rfl rfl (any_of HT_.out (by kernel_rfl)) (fun _ _ _ h => h) (Or.inl ⟨by rfl, ?_⟩) ?_ ?_
                          rotate_left
                          · intro w'
                            go_simp
                            with_reducible rfl
                          rotate_left
                          · simp only [Act.put, List.setIfInBounds_toArray, List.set_cons_zero, List.set_cons_succ, i64_w, i32_w]
                            rfl
                          refine pure_ (i := 9) (N := some 50) (v := ?_) (a' := ?_) #[true, true, true, true, false, true, true, true, false, true, false, false, false, false, false, false, false, false] rfl rfl (any_of HT_.out (by kernel_rfl)) (fun _ _ _ h => h) (Or.inl ⟨by rfl, ?_⟩) ?_ ?_
                          rotate_left
                          · intro w'
                            go_simp
                            with_reducible rfl
                          rotate_left
                          · simp only [Act.put, List.setIfInBounds_toArray, List.set_cons_zero, List.set_cons_succ, i64_w, i32_w]
                            rfl
                          refine take_ (i := 4) (N := some 45) (v := ?_) (a' := ?_) #[true, true, true, true, true, true, true, true, false, true, false, false, false, false, false, false, false, false] rfl rfl (take_ofW HT_.out HW_.out (by kernel_rfl)) (fun _ _ _ h => h) (Or.inl ⟨by rfl, ?_⟩) hHeld ?_ ?_
                          rotate_left
                          · rintro w' ⟨s0, s1, s2, s3, s4⟩
                            go_simp
                            with_reducible rfl
                          rotate_left
                          · simp only [Act.put, List.setIfInBounds_toArray, List.set_cons_zero, List.set_cons_succ, i64_w, i32_w]
                            rfl
                          refine take_ (i := 8) (N := some 49) (v := ?_) (a' := ?_) #[true, true, true, true, true, true, true, true, true, true, false, false, false, false, false, false, false, false] rfl rfl (take_ofW HT_.out HW_.out (by kernel_rfl)) (fun _ _ _ h => h) (Or.inl ⟨by rfl, ?_⟩) hHeld ?_ ?_
                          rotate_left
                          · rintro w' ⟨s0, s1, s2, s3, s4⟩
                            go_simp
                            with_reducible rfl
                          rotate_left
                          · simp only [Act.put, List.setIfInBounds_toArray, List.set_cons_zero, List.set_cons_succ, i64_w, i32_w]
                            rfl
                          refine pure_ (i := 10) (N := some 51) (v := ?_) (a' := ?_) #[true, true, true, true, true, true, true, true, true, true, true, false, false, false, false, false, false, false] rfl rfl (any_of HT_.out (by kernel_rfl)) (fun _ _ _ h => h) (Or.inl ⟨by rfl, ?_⟩) ?_ ?_
                          rotate_left
                          · intro w'
                            go_simp
                            with_reducible rfl
                          rotate_left
                          · simp only [Act.put, List.setIfInBounds_toArray, List.set_cons_zero, List.set_cons_succ, i64_w, i32_w]
                            rfl
                          refine pure_ (i := 11) (N := some 52) (v := ?_) (a' := ?_) #[true, true, true, true, true, true, true, true, true, true, true, true, false, false, false, false, false, false] rfl rfl (any_of HT_.out (by kernel_rfl)) (fun _ _ _ h => h) (Or.inl ⟨by rfl, ?_⟩) ?_ ?_
                          rotate_left
                          · intro w'
                            go_simp
                            with_reducible rfl
                          rotate_left
                          · simp only [Act.put, List.setIfInBounds_toArray, List.set_cons_zero, List.set_cons_succ, i64_w, i32_w]
                            rfl
                          refine take_ (i := 12) (N := some 53) (v := ?_) (a' := ?_) #[true, true, true, true, true, true, true, true, true, true, true, true, true, false, false, false, false, false] rfl rfl (take_ofW HT_.out HW_.out (by kernel_rfl)) (fun _ _ _ h => h) (Or.inl ⟨by rfl, ?_⟩) hHeld ?_ ?_
                          rotate_left
                          · rintro w' ⟨s0, s1, s2, s3, s4⟩
                            go_simp
                            with_reducible rfl
                          rotate_left
                          · simp only [Act.put, List.setIfInBounds_toArray, List.set_cons_zero, List.set_cons_succ, i64_w, i32_w]
                            rfl
                          refine one_ (i := 13) (N := some 54) #[true, true, true, true, true, true, true, true, true, true, true, true, true, true, false, false, false, false] rfl rfl (one_of HT_.out (by kernel_rfl)) (by decide) (fun K hK => ?_)
                          refine goes_ Try.func44 (by kernel_rfl) rfl #[.int .i64 ((rd_T89 (rd_L11 l1 x6_1) x7_2).f1)] (by rfl) rfl rfl (by (try simp only [List.map_toArray, List.map_cons, List.map_nil]); first | done | rfl | (simp only [List.length_drop, List.length_take]; rfl)) ?_
                          with_reducible refine (palantyperef02_Bit.calls ((rd_T89 (rd_L11 l1 x6_1) x7_2).f1) t195 _ A17.out).mono ?_
                          rintro e w' ⟨rfl, ⟨nd, rfl⟩⟩
                          refine ⟨_, rfl, ?_⟩
                          have p18 : 0 ≤ (x7_2 : Int) := of_decide_eq_true (by first | (with_reducible assumption) | assumption)
                          have q18 : (x7_2 : Int) < ((x5_2.length : Int) : Int) := of_decide_eq_true (by first | (with_reducible assumption) | assumption)
                          obtain ⟨ce18, hcl18, hM18, hcc18, hfr18⟩ := Kd.R_elem HO_5.out z100 (x7_2 : Int) p18 q18
                          obtain rfl := k100_openM hM18
                          have hx18_0 : World.cell? _ ⟨go16, (x7_2 : Int).toNat * 2, none⟩ = some (.int .u16 ((rd_T100 y191 x7_2).f0)) := hcc18 0 _ rfl
                          have hx18_1 : World.cell? _ ⟨go16, (x7_2 : Int).toNat * 2 + 1, none⟩ = some (.int .u16 ((rd_T100 y191 x7_2).f1)) := hcc18 1 _ rfl
                          have hf18_0 : World.frozen? _ ⟨go16, (x7_2 : Int).toNat * 2, none⟩ = false := hfr18 0
                          have hf18_1 : World.frozen? _ ⟨go16, (x7_2 : Int).toNat * 2 + 1, none⟩ = false := hfr18 1
                          clear hcl18 hcc18 hfr18 hM18
                          replace p18 := eq_true p18
                          replace q18 := eq_true q18
                          obtain ⟨ce24, hcl24, hM24, hcc24, hfr24⟩ := Kd.R_elem HO_5.out z100 (x7_2 : Int) (of_decide_eq_true (by first | (with_reducible assumption) | assumption)) (by have h_ : (x7_2 : Int) < ((x5_2.length : Int) : Int) := of_decide_eq_true (by first | (with_reducible assumption) | assumption); first | exact h_ | (have e_ := (Kd.R_reads' HO_5.out).1; omega) | simpa using h_)
                          obtain rfl := k100_openM hM24
                          have HP24 := (Kd.R_seg HO_5.out (x7_2 : Int) (of_decide_eq_true (by first | (with_reducible assumption) | assumption)) (by have h_ : (x7_2 : Int) < ((x5_2.length : Int) : Int) := of_decide_eq_true (by first | (with_reducible assumption) | assumption); first | exact h_ | (have e_ := (Kd.R_reads' HO_5.out).1; omega) | simpa using h_) (seg := [.int .u16 (Go.bits .or .u16 ((rd_T100 y191 x7_2).f1) t195)]) (j := 1) hcl24 hcc24 (show 2 ≤ 2 from by decide) (x' := (⟨(rd_T100 y191 x7_2).f0, Go.bits .or .u16 ((rd_T100 y191 x7_2).f1) t195⟩ : S100)) (k100_mkM _ _ _ (⟨(rd_T100 y191 x7_2).f0, Go.bits .or .u16 ((rd_T100 y191 x7_2).f1) t195⟩ : S100) ) (fun _ hk => hk)).1
                          rw [← Ny196.out] at HP24
                          have HQ24 := Aside0.mk HP24
                          clear hcl24 hcc24 hfr24 hM24 HP24
                          refine hK.out _ _ ⟨hHeld.1, hHeld.2.1, ((HB.out.cell (World.block_lt_of_cell? w _ hw193_0)).trans hw193_0), ((HB.out.cell (World.block_lt_of_cell? w _ hw194_0)).trans hw194_0), ((HB.out.cell (World.block_lt_of_cell? w _ hw194_1)).trans hw194_1)⟩ (fun hHeld => ?_)
                          clear hK K
                          refine norm_ (a' := ?_) ?_ ?_
                          rotate_left
                          · show Act.put _ (some 54) _ = _
                            simp only [Act.put, List.setIfInBounds_toArray, List.set_cons_zero, List.set_cons_succ, i64_w, i32_w]
                            rfl
                          refine pure_ (i := 14) (N := some 55) (v := ?_) (a' := ?_) #[true, true, true, true, true, true, true, true, true, true, true, true, true, true, true, false, false, false] rfl rfl (any_of HT_.out (by kernel_rfl)) (fun _ _ _ h => h) (Or.inl ⟨by rfl, ?_⟩) ?_ ?_
                          rotate_left
                          · intro w'
                            go_simp
                            with_reducible rfl
                          rotate_left
                          · simp only [Act.put, List.setIfInBounds_toArray, List.set_cons_zero, List.set_cons_succ, i64_w, i32_w]
                            rfl
                          refine pure_ (i := 15) (N := some 56) (v := ?_) (a' := ?_) #[true, true, true, true, true, true, true, true, true, true, true, true, true, true, true, true, false, false] rfl rfl (any_of HT_.out (by kernel_rfl)) (fun _ _ _ h => h) (Or.inl ⟨by rfl, ?_⟩) ?_ ?_
                          rotate_left
                          · intro w'
                            go_simp
                            with_reducible rfl
                          rotate_left
                          · simp only [Act.put, List.setIfInBounds_toArray, List.set_cons_zero, List.set_cons_succ, i64_w, i32_w]
                            rfl
                          refine pure_ (i := 16) (N := some 57) (v := ?_) (a' := ?_) #[true, true, true, true, true, true, true, true, true, true, true, true, true, true, true, true, true, false] rfl rfl (any_of HT_.out (by kernel_rfl)) (fun _ _ _ h => h) (Or.inl ⟨by rfl, ?_⟩) ?_ ?_
                          rotate_left
                          · intro w'
                            go_simp
                            with_reducible rfl
                          rotate_left
                          · simp only [Act.put, List.setIfInBounds_toArray, List.set_cons_zero, List.set_cons_succ, i64_w, i32_w]
                            rfl
                          refine last_ (i := 17) (N := none) #[true, true, true, true, true, true, true, true, true, true, true, true, true, true, true, true, true, true] rfl rfl (one_of HT_.out (by kernel_rfl)) (by decide) (fun K hK => ?_)
                          refine skip_ (w1 := ?_) (by rfl) rfl ?_ ?_
                          rotate_left
                          · go_simp
                            rfl
                          refine hK.out _ _ ?_
                          clear hK K
                          refine done_ (done_of HT_.out (by kernel_rfl)) ?_
                          try go_wp2
                          go_roundg k2
                          case measure => have := HK1.out; have := HK2.out; omega
                          case rel => exact ⟨(y196), (wrap64 (x7_2 + 1)), (by first | rfl | (simp; done) | (simp [*]; done)), H', ⟨by have := HK1.out; have := HK2.out; omega⟩, ⟨by (with_reducible repeat (first | apply Kd.R_alloc | apply Kd.R_drewN | apply Kd.R_drew)); exact HQ24.out⟩, ⟨by (with_reducible repeat (first | refine blk_drewN ?_ _ | refine blk_drew ?_ | refine blk_alloc ?_ _)); refine blk_far ?_ (by have h_ := Kd.R_ne HO_5.out BK183.out (by decide); intro e_; exact h_ (by rw [e_]; rfl)) _; (with_reducible repeat (first | refine blk_drewN ?_ _ | refine blk_drew ?_ | refine blk_alloc ?_ _)); exact BK183.out⟩, ⟨by repeat (first | (with_reducible first | exact HB.out | apply below_alloc | apply pw_below_drewN | apply below_drew1 | refine below_set ?_ GB16.out | refine below_set ?_ GE183.out) | exact HB.out)⟩⟩
                        · rw [if_neg c14] at H
                          exact absurd H (by simp)
                      · rw [if_neg c13] at H
                        exact absurd H (by simp)
                    · rw [if_neg c12] at H
                      exact absurd H (by simp)
                  · rw [if_neg c11] at H
                    exact absurd H (by simp)
                · rw [if_neg c10] at H
                  have c10b0 : decide (x7_2 < (x5_2.length : Int)) = false := decide_eq_false c10
                  clear c10
                  have H' := Aside0.mk H
                  clear H
                  obtain ⟨Ao25, co25, eo25⟩ := Kd.R_slice HO_5.out
                  subst eo25
                  go_wp2
                  go_roundg k2
                  case measure => have := HK1.out; have := HK2.out; omega
                  case rel => exact ⟨(x5_2), (wrap64 (x6_1 + 1)), (by first | rfl | (simp; done) | (simp [*]; done)), H', ⟨by have := HK1.out; have := HK2.out; omega⟩, ⟨by (with_reducible repeat (first | apply Kd.R_alloc | apply Kd.R_drewN | apply Kd.R_drew)); exact HO_5.out⟩, ⟨by (with_reducible repeat (first | refine blk_drewN ?_ _ | refine blk_drew ?_ | refine blk_alloc ?_ _)); exact BK183.out⟩, ⟨by repeat (first | (with_reducible first | exact HB.out | apply below_alloc | apply pw_below_drewN | apply below_drew1 | refine below_set ?_ GE183.out) | exact HB.out)⟩⟩
          · rw [if_neg c9] at H
            have c9b0 : decide (x6_1 < (l1.length : Int)) = false := decide_eq_false c9
            clear c9
            obtain rfl := Option.some.inj H
            go_wp2
            go_ret
            exact ⟨_, by first | rfl | (simp [errW_none, errW_some] <;> rfl) | (simp [*, errW_none, errW_some] <;> rfl), by (with_reducible repeat (first | apply Kd.R_alloc | apply Kd.R_drewN | apply Kd.R_drew)); exact HO_5.out, by repeat (first | (with_reducible first | exact HB.out | apply below_alloc | apply pw_below_drewN | apply below_drew1 | refine below_set ?_ GE183.out) | exact HB.out)⟩
    · rw [if_neg c4] at H
      exact absurd H (by simp)
  · rw [if_neg c3] at H
    exact absurd H (by simp)
end Go.Proofs.Ytdnjmhhjjbdieaa.Q
end
section
namespace Go.Proofs.Ytdnjmhhjjbdieaa.Q
open Go.RowKit Go.Proofs.YtdnjmhhjjbdieaaW.PrintWords Go.Proofs.YtdnjmhhjjbdieaaW.PrintLast
set_option linter.unusedVariables false
set_option linter.unusedSimpArgs false
def palantypelaw02_told.l0 : Nat → List (S54) → List (S100) → Int → Option (Bool)
  | 0, _, _, _ => none
  | k + 1, x0, x1, x5 => if x5 < (x0.length : Int) then (if 0 ≤ x5 then (if x5 < (x1.length : Int) then (if ((rd_T54 x0 x5).f0) = ((rd_T100 x1 x5).f0) then (if ((rd_T54 x0 x5).f1) = ((rd_T100 x1 x5).f1) then (palantypelaw02_told.l0 k x0 x1 (wrap64 (x5 + 1))) else (some false)) else (some false)) else (none)) else (none)) else (some true)
def palantypelaw02_told.f (k : Nat) (l0 : List (S54)) (l1 : List (S100)) : Option (Bool) := if (l0.length : Int) = (l1.length : Int) then (palantypelaw02_told.l0 k l0 l1 0) else (some false)
theorem palantypelaw02_told.mono_l : ∀ k, (∀ y0 y1 y2, LeO (palantypelaw02_told.l0 k y0 y1 y2) (palantypelaw02_told.l0 (k + 1) y0 y1 y2))
  | 0 => fun _ _ _ r h => by simp [palantypelaw02_told.l0] at h
  | k + 1 => by
    have ih0 := palantypelaw02_told.mono_l k
    · intro y0 y1 y2
      unfold palantypelaw02_told.l0
      repeat' first
      | (with_reducible exact ih0 _ _ _)
      | (with_reducible exact LeO.refl _)
      | (with_reducible exact LeO.none _)
      | (with_reducible refine LeO.ite ?_ ?_)
      | (with_reducible refine LeO.bind ?_ (fun _ => ?_))
      | exact ih0 _ _ _
      | exact LeO.none _
      | refine LeO.ite ?_ ?_
      | refine LeO.bind ?_ (fun _ => ?_)
theorem palantypelaw02_told.mono : ∀ a0 a1 k, LeO (palantypelaw02_told.f k a0 a1) (palantypelaw02_told.f (k + 1) a0 a1) := by
  intro a0 a1 k
  have ih0 := palantypelaw02_told.mono_l k
  unfold palantypelaw02_told.f
  repeat' first
      | (with_reducible exact ih0 _ _ _)
      | (with_reducible exact LeO.refl _)
      | (with_reducible exact LeO.none _)
      | (with_reducible refine LeO.ite ?_ ?_)
      | (with_reducible refine LeO.bind ?_ (fun _ => ?_))
      | exact ih0 _ _ _
      | exact LeO.none _
      | refine LeO.ite ?_ ?_
      | refine LeO.bind ?_ (fun _ => ?_)
set_option maxHeartbeats 8000000 in
set_option maxRecDepth 100000 in
theorem palantypelaw02_told.calls (k : Nat) (A0 : Option Addr) (c0 : Nat) (l0 : List (S54)) (A1 : Option Addr) (c1 : Nat) (l1 : List (S100)) (r : Bool) (w : World) (hr0 : Kd.C k54 w A0 l0.length l0) (hc0 : l0.length ≤ c0) (hr1 : Kd.C k100 w A1 l1.length l1) (hc1 : l1.length ≤ c1) (h : palantypelaw02_told.f k l0 l1 = some r) :
    Calls Try.prog 22 #[.slice A0 l0.length c0, .slice A1 l1.length c1] w fun e w' => e = .returned (.bool r) ∧ Drawn0 w w' := by
  have HR0 := Aside0.mk hr0
  have HC0 := Aside0.mk hc0
  clear hr0 hc0
  have HR1 := Aside0.mk hr1
  have HC1 := Aside0.mk hc1
  clear hr1 hc1
  have H : (if (l0.length : Int) = (l1.length : Int) then (palantypelaw02_told.l0 k l0 l1 0) else (some false)) = some r := h
  clear h
  by_cases c3 : (l0.length : Int) = (l1.length : Int)
  · rw [if_pos c3] at H
    have c3b0 : ((l0.length : Int) == (l1.length : Int)) = true := beq_iff_eq.mpr c3
    have c3b1 : ((l0.length : Int) != (l1.length : Int)) = false := bne_eq_false_iff_eq.mpr c3
    have c3b2 : (l0.length == l1.length) = true := by first | simpa using c3 | (simp at c3 ⊢; omega)
    clear c3
    have H' := Aside0.mk H
    clear H
    go_enter Try.func22, Try.ntmps22
    go_wp2
    repeat (go_quiet (fail); try go_wp2)
    go_loopg [5] k (fun kq v5 w' => ∃ (x5_1 : Int), v5 = .int .i64 x5_1 ∧ Aside0 (palantypelaw02_told.l0 kq l0 l1 x5_1 = some r) ∧ Aside0 (kq ≤ k) ∧ Drawn0 w w')
    case atStart => exact ⟨(0), (by first | rfl | (simp; done) | (simp [*]; done)), H', ⟨Nat.le_refl _⟩, by repeat (first | exact Drawn0.refl _ | apply Drawn0.step)⟩
    case round =>
      clear H'
      try clear c1
      try clear c2
      try clear p2
      try clear c3
      try clear c3b0
      try clear c3b1
      try clear c3b2
      obtain ⟨x5_1, rfl, HA, HK1, ⟨m1, rfl⟩⟩ := hrel
      cases gk with
      | zero => exact absurd HA.out (by simp [palantypelaw02_told.l0])
      | succ k1 =>
        have H := HA.out
        clear HA
        simp only [palantypelaw02_told.l0] at H
        by_cases c4 : x5_1 < (l0.length : Int)
        · rw [if_pos c4] at H
          have c4b0 : decide (x5_1 < (l0.length : Int)) = true := decide_eq_true c4
          clear c4
          by_cases c5 : 0 ≤ x5_1
          · rw [if_pos c5] at H
            have c5b0 : decide (0 ≤ x5_1) = true := decide_eq_true c5
            clear c5
            by_cases c6 : x5_1 < (l1.length : Int)
            · rw [if_pos c6] at H
              have c6b0 : decide (x5_1 < (l1.length : Int)) = true := decide_eq_true c6
              clear c6
              by_cases c7 : ((rd_T54 l0 x5_1).f0) = ((rd_T100 l1 x5_1).f0)
              · rw [if_pos c7] at H
                have c7b0 : (((rd_T54 l0 x5_1).f0) == ((rd_T100 l1 x5_1).f0)) = true := beq_iff_eq.mpr c7
                have c7b1 : (((rd_T54 l0 x5_1).f0) != ((rd_T100 l1 x5_1).f0)) = false := bne_eq_false_iff_eq.mpr c7
                clear c7
                by_cases c8 : ((rd_T54 l0 x5_1).f1) = ((rd_T100 l1 x5_1).f1)
                · rw [if_pos c8] at H
                  have c8b0 : (((rd_T54 l0 x5_1).f1) == ((rd_T100 l1 x5_1).f1)) = true := beq_iff_eq.mpr c8
                  have c8b1 : (((rd_T54 l0 x5_1).f1) != ((rd_T100 l1 x5_1).f1)) = false := bne_eq_false_iff_eq.mpr c8
                  clear c8
                  have H' := Aside0.mk H
                  clear H
                  have p117 : 0 ≤ (x5_1 : Int) := of_decide_eq_true (by first | (with_reducible assumption) | assumption)
                  have q117 : x5_1 < (l0.length : Int) := of_decide_eq_true (by first | (with_reducible assumption) | assumption)
                  obtain ⟨ad117, e117, hx117_0, hx117_1⟩ := at_T54 HR0.out x5_1 p117 q117
                  cases e117
                  replace p117 := eq_true p117
                  replace q117 := eq_true q117
                  have p118 : 0 ≤ (x5_1 : Int) := of_decide_eq_true (by first | (with_reducible assumption) | assumption)
                  have q118 : x5_1 < (l1.length : Int) := of_decide_eq_true (by first | (with_reducible assumption) | assumption)
                  obtain ⟨ad118, e118, hx118_0, hx118_1⟩ := at_T100 HR1.out x5_1 p118 q118
                  cases e118
                  replace p118 := eq_true p118
                  replace q118 := eq_true q118
                  have p119 : 0 ≤ (x5_1 : Int) := of_decide_eq_true (by first | (with_reducible assumption) | assumption)
                  have q119 : x5_1 < (l0.length : Int) := of_decide_eq_true (by first | (with_reducible assumption) | assumption)
                  obtain ⟨ad119, e119, hx119_0, hx119_1⟩ := at_T54 HR0.out x5_1 p119 q119
                  obtain rfl : ad117 = ad119 := (by injection e119)
                  replace p119 := eq_true p119
                  replace q119 := eq_true q119
                  have p120 : 0 ≤ (x5_1 : Int) := of_decide_eq_true (by first | (with_reducible assumption) | assumption)
                  have q120 : x5_1 < (l1.length : Int) := of_decide_eq_true (by first | (with_reducible assumption) | assumption)
                  obtain ⟨ad120, e120, hx120_0, hx120_1⟩ := at_T100 HR1.out x5_1 p120 q120
                  obtain rfl : ad118 = ad120 := (by injection e120)
                  replace p120 := eq_true p120
                  replace q120 := eq_true q120
                  go_wp2
                  repeat (go_quiet (fail); try go_wp2)
                  go_roundg k1
                  case measure => have := HK1.out; omega
                  case rel => exact ⟨(wrap64 (x5_1 + 1)), (by first | rfl | (simp; done) | (simp [*]; done)), H', ⟨by have := HK1.out; omega⟩, by repeat (first | exact Drawn0.refl _ | apply Drawn0.step)⟩
                · rw [if_neg c8] at H
                  have c8b0 : (((rd_T54 l0 x5_1).f1) == ((rd_T100 l1 x5_1).f1)) = false := beq_eq_false_iff_ne.mpr c8
                  have c8b1 : (((rd_T54 l0 x5_1).f1) != ((rd_T100 l1 x5_1).f1)) = true := bne_iff_ne.mpr c8
                  obtain rfl := Option.some.inj H
                  have p117 : 0 ≤ (x5_1 : Int) := of_decide_eq_true (by first | (with_reducible assumption) | assumption)
                  have q117 : x5_1 < (l0.length : Int) := of_decide_eq_true (by first | (with_reducible assumption) | assumption)
                  obtain ⟨ad117, e117, hx117_0, hx117_1⟩ := at_T54 HR0.out x5_1 p117 q117
                  cases e117
                  replace p117 := eq_true p117
                  replace q117 := eq_true q117
                  have p118 : 0 ≤ (x5_1 : Int) := of_decide_eq_true (by first | (with_reducible assumption) | assumption)
                  have q118 : x5_1 < (l1.length : Int) := of_decide_eq_true (by first | (with_reducible assumption) | assumption)
                  obtain ⟨ad118, e118, hx118_0, hx118_1⟩ := at_T100 HR1.out x5_1 p118 q118
                  cases e118
                  replace p118 := eq_true p118
                  replace q118 := eq_true q118
                  have p119 : 0 ≤ (x5_1 : Int) := of_decide_eq_true (by first | (with_reducible assumption) | assumption)
                  have q119 : x5_1 < (l0.length : Int) := of_decide_eq_true (by first | (with_reducible assumption) | assumption)
                  obtain ⟨ad119, e119, hx119_0, hx119_1⟩ := at_T54 HR0.out x5_1 p119 q119
                  obtain rfl : ad117 = ad119 := (by injection e119)
                  replace p119 := eq_true p119
                  replace q119 := eq_true q119
                  have p120 : 0 ≤ (x5_1 : Int) := of_decide_eq_true (by first | (with_reducible assumption) | assumption)
                  have q120 : x5_1 < (l1.length : Int) := of_decide_eq_true (by first | (with_reducible assumption) | assumption)
                  obtain ⟨ad120, e120, hx120_0, hx120_1⟩ := at_T100 HR1.out x5_1 p120 q120
                  obtain rfl : ad118 = ad120 := (by injection e120)
                  replace p120 := eq_true p120
                  replace q120 := eq_true q120
                  go_wp2
                  repeat (go_quiet (fail); try go_wp2)
                  go_ret
                  exact ⟨by first | rfl | (simp; done) | (simp [*]; done), by repeat (first | exact Drawn0.refl _ | apply Drawn0.step)⟩
              · rw [if_neg c7] at H
                have c7b0 : (((rd_T54 l0 x5_1).f0) == ((rd_T100 l1 x5_1).f0)) = false := beq_eq_false_iff_ne.mpr c7
                have c7b1 : (((rd_T54 l0 x5_1).f0) != ((rd_T100 l1 x5_1).f0)) = true := bne_iff_ne.mpr c7
                obtain rfl := Option.some.inj H
                have p117 : 0 ≤ (x5_1 : Int) := of_decide_eq_true (by first | (with_reducible assumption) | assumption)
                have q117 : x5_1 < (l0.length : Int) := of_decide_eq_true (by first | (with_reducible assumption) | assumption)
                obtain ⟨ad117, e117, hx117_0, hx117_1⟩ := at_T54 HR0.out x5_1 p117 q117
                cases e117
                replace p117 := eq_true p117
                replace q117 := eq_true q117
                have p118 : 0 ≤ (x5_1 : Int) := of_decide_eq_true (by first | (with_reducible assumption) | assumption)
                have q118 : x5_1 < (l1.length : Int) := of_decide_eq_true (by first | (with_reducible assumption) | assumption)
                obtain ⟨ad118, e118, hx118_0, hx118_1⟩ := at_T100 HR1.out x5_1 p118 q118
                cases e118
                replace p118 := eq_true p118
                replace q118 := eq_true q118
                go_wp2
                repeat (go_quiet (fail); try go_wp2)
                go_ret
                exact ⟨by first | rfl | (simp; done) | (simp [*]; done), by repeat (first | exact Drawn0.refl _ | apply Drawn0.step)⟩
            · rw [if_neg c6] at H
              exact absurd H (by simp)
          · rw [if_neg c5] at H
            exact absurd H (by simp)
        · rw [if_neg c4] at H
          have c4b0 : decide (x5_1 < (l0.length : Int)) = false := decide_eq_false c4
          clear c4
          obtain rfl := Option.some.inj H
          go_wp2
          repeat (go_quiet (fail); try go_wp2)
          go_ret
          exact ⟨by first | rfl | (simp; done) | (simp [*]; done), by repeat (first | exact Drawn0.refl _ | apply Drawn0.step)⟩
  · rw [if_neg c3] at H
    have c3b0 : ((l0.length : Int) == (l1.length : Int)) = false := beq_eq_false_iff_ne.mpr c3
    have c3b1 : ((l0.length : Int) != (l1.length : Int)) = true := bne_iff_ne.mpr c3
    have c3b2 : (l0.length == l1.length) = false := by first | simpa using c3 | (simp at c3 ⊢; omega)
    obtain rfl := Option.some.inj H
    go_enter Try.func22, Try.ntmps22
    go_wp2
    repeat (go_quiet (fail); try go_wp2)
    go_ret
    exact ⟨by first | rfl | (simp; done) | (simp [*]; done), by repeat (first | exact Drawn0.refl _ | apply Drawn0.step)⟩
end Go.Proofs.Ytdnjmhhjjbdieaa.Q
end
section
namespace Go.Proofs.Ytdnjmhhjjbdieaa.Q
open Go.RowKit Go.Proofs.YtdnjmhhjjbdieaaW.PrintWords
set_option linter.unusedVariables false
abbrev RT := S100
abbrev FT := S54
theorem rdRT {l : List RT} {i : Nat} (h : i < l.length) : rd_T100 l (i : Int) = l[i] := by simp [rd_T100, List.getD, h]
theorem rdFT {l : List FT} {i : Nat} (h : i < l.length) : rd_T54 l (i : Int) = l[i] := by simp [rd_T54, List.getD, h]
theorem rdL {l : List (List RP)} {i : Nat} (h : i < l.length) : rd_L11 l (i : Int) = l[i] := by simp [rd_L11, List.getD, h]
def Sets (len : Nat) (A B : Nat → Int → Prop) (out : List RT) : Prop := out.length = len ∧ ∀ j (h : j < out.length), IsSet out[j].f0 (A j) ∧ IsSet out[j].f1 (B j)
theorem who_l1 {all : List (List RP)} {len : Nat} (hlen : len ≤ 1000) (hal : all.length ≤ 100000000) (c : Nat) (hc : c < all.length) (hs : all[c].length = len) (hr : ∀ p ∈ all[c], (-1 ≤ p.f0 ∧ p.f0 ≤ 14) ∧ (-1 ≤ p.f1 ∧ p.f1 ≤ 14)) (A B : Nat → Int → Prop) (Post : List RT → Prop)
    (hnext : ∀ out, Sets len (fun j q => A j q ∨ ∃ p, all[c][j]? = some p ∧ p.f0 = q) (fun j q => B j q ∨ ∃ p, all[c][j]? = some p ∧ p.f1 = q) out → ∃ R, Post R ∧ Ev (fun k => palantyperef02_Who.l0 k all out ((c + 1 : Nat) : Int)) R) :
    ∀ (d i : Nat) (out : List RT), i + d = len → Sets len (fun j q => A j q ∨ (j < i ∧ ∃ p, all[c][j]? = some p ∧ p.f0 = q)) (fun j q => B j q ∨ (j < i ∧ ∃ p, all[c][j]? = some p ∧ p.f1 = q)) out →
      ∃ R, Post R ∧ Ev (fun k => palantyperef02_Who.l1 k all out c i) R
  | 0, i, out, h, ho => by
    obtain ⟨R, hP, hR⟩ := hnext out ⟨ho.1, fun j hj => by
      have hj' : j < i := by rw [ho.1] at hj; omega
      have := ho.2 j hj
      exact ⟨this.1.congr (fun q _ _ => or_congr Iff.rfl ⟨fun h => h.2, fun h => ⟨hj', h⟩⟩), this.2.congr (fun q _ _ => or_congr Iff.rfl ⟨fun h => h.2, fun h => ⟨hj', h⟩⟩)⟩⟩
    refine ⟨R, hP, Ev.step (f := fun k => palantyperef02_Who.l0 k all out ((c + 1 : Nat) : Int)) (fun k => ?_) hR⟩
    simp only [palantyperef02_Who.l1]
    rw [if_neg (by rw [ho.1]; omega), wrap_id (by omega) (by omega)]
    rfl
  | d + 1, i, out, h, ho => by
    have hi : i < out.length := by rw [ho.1]; omega
    have hi2 : i < all[c].length := by omega
    obtain ⟨p, hp⟩ : ∃ p, all[c][i] = p := ⟨_, rfl⟩
    have hpm : all[c][i]? = some p := by rw [List.getElem?_eq_getElem hi2, hp]
    have hb := hr p (by rw [← hp]; exact List.getElem_mem hi2)
    obtain ⟨o1, ho1⟩ : ∃ o1 : List RT, out.set i ⟨Go.bits .or .u16 out[i].f0 (bitOf p.f0), Go.bits .or .u16 out[i].f1 (bitOf p.f1)⟩ = o1 := ⟨_, rfl⟩
    have hfin : Sets len (fun j q => A j q ∨ (j < i + 1 ∧ ∃ p, all[c][j]? = some p ∧ p.f0 = q)) (fun j q => B j q ∨ (j < i + 1 ∧ ∃ p, all[c][j]? = some p ∧ p.f1 = q)) o1 := by
      subst ho1
      refine ⟨by rw [List.length_set]; exact ho.1, fun j hj => ?_⟩
      have hj' : j < out.length := by simpa using hj
      have h2 := ho.2 j hj'
      by_cases e : j = i
      · subst e
        rw [List.getElem_set_self]
        refine ⟨(h2.1.or hb.1.1 hb.1.2).congr (fun q _ _ => ?_), (h2.2.or hb.2.1 hb.2.2).congr (fun q _ _ => ?_)⟩
        · constructor
          · rintro ((h | h) | rfl)
            · exact .inl h
            · omega
            · exact .inr ⟨by omega, p, hpm, rfl⟩
          · rintro (h | ⟨_, p', hp', rfl⟩)
            · exact .inl (.inl h)
            · rw [hpm] at hp'; cases hp'; exact .inr rfl
        · constructor
          · rintro ((h | h) | rfl)
            · exact .inl h
            · omega
            · exact .inr ⟨by omega, p, hpm, rfl⟩
          · rintro (h | ⟨_, p', hp', rfl⟩)
            · exact .inl (.inl h)
            · rw [hpm] at hp'; cases hp'; exact .inr rfl
      · rw [List.getElem_set_ne (fun h => e h.symm)]
        exact ⟨h2.1.congr (fun q _ _ => or_congr Iff.rfl (and_congr ⟨fun h => by omega, fun h => by omega⟩ Iff.rfl)), h2.2.congr (fun q _ _ => or_congr Iff.rfl (and_congr ⟨fun h => by omega, fun h => by omega⟩ Iff.rfl))⟩
    obtain ⟨R, hP, hR⟩ := who_l1 hlen hal c hc hs hr A B Post hnext d (i + 1) o1 (by omega) hfin
    refine ⟨R, hP, Ev.step (f := fun k => palantyperef02_Who.l1 k all o1 c ((i + 1 : Nat) : Int)) (fun k => ?_) hR⟩
    simp only [palantyperef02_Who.l1]
    rw [if_pos (by omega), if_pos (by omega), if_pos (by omega), if_pos (by omega), rdL hc, if_pos (by omega), rd89 hi2, hp, rdRT hi, bit_at hb.1.1 hb.1.2, bit_at hb.2.1 hb.2.2, wrap_id (by omega) (by omega)]
    simp only [Option.bind_some, Int.toNat_natCast]
    rw [rdRT (by rw [List.length_set]; exact hi), List.getElem_set_self, List.set_set, ho1]
    rfl
theorem who_l0 {all : List (List RP)} {len : Nat} (hlen : len ≤ 1000) (hal : all.length ≤ 100000000) (hs : ∀ s ∈ all, s.length = len) (hr : ∀ s ∈ all, ∀ p ∈ s, (-1 ≤ p.f0 ∧ p.f0 ≤ 14) ∧ (-1 ≤ p.f1 ∧ p.f1 ≤ 14)) :
    ∀ (d c : Nat) (out : List RT), c + d = all.length → Sets len (fun j q => ∃ s ∈ all.take c, ∃ p, s[j]? = some p ∧ p.f0 = q) (fun j q => ∃ s ∈ all.take c, ∃ p, s[j]? = some p ∧ p.f1 = q) out →
      ∃ R, Sets len (fun j q => ∃ s ∈ all, ∃ p, s[j]? = some p ∧ p.f0 = q) (fun j q => ∃ s ∈ all, ∃ p, s[j]? = some p ∧ p.f1 = q) R ∧ Ev (fun k => palantyperef02_Who.l0 k all out c) R
  | 0, c, out, h, ho => by
    rw [List.take_of_length_le (by omega)] at ho
    refine ⟨out, ho, Ev.step (f := fun k => some out) (fun k => ?_) (Ev.now _)⟩
    simp only [palantyperef02_Who.l0]
    rw [if_neg (by omega)]
  | d + 1, c, out, h, ho => by
    have hc : c < all.length := by omega
    have hm := List.getElem_mem hc
    obtain ⟨R, hP, hR⟩ := who_l1 hlen hal c hc (hs _ hm) (hr _ hm) (fun j q => ∃ s ∈ all.take c, ∃ p, s[j]? = some p ∧ p.f0 = q) (fun j q => ∃ s ∈ all.take c, ∃ p, s[j]? = some p ∧ p.f1 = q) _ (fun o ho' => by
      refine who_l0 hlen hal hs hr d (c + 1) o (by omega) ⟨ho'.1, fun j hj => ?_⟩
      have key : ∀ (f : RP → Int) (q : Int), ((∃ s ∈ all.take c, ∃ p, s[j]? = some p ∧ f p = q) ∨ ∃ p, all[c][j]? = some p ∧ f p = q) ↔ ∃ s ∈ all.take (c + 1), ∃ p, s[j]? = some p ∧ f p = q := fun f q => by
        rw [List.take_succ_eq_append_getElem hc]
        constructor
        · rintro (⟨s, h1, h2⟩ | h2)
          · exact ⟨s, List.mem_append_left _ h1, h2⟩
          · exact ⟨all[c], List.mem_append_right _ (List.mem_singleton.2 rfl), h2⟩
        · rintro ⟨s, h1, h2⟩
          rcases List.mem_append.1 h1 with h1 | h1
          · exact .inl ⟨s, h1, h2⟩
          · rw [List.mem_singleton.1 h1] at h2; exact .inr h2
      exact ⟨(ho'.2 j hj).1.congr (fun q _ _ => key (fun p => p.f0) q), (ho'.2 j hj).2.congr (fun q _ _ => key (fun p => p.f1) q)⟩) len 0 out (by omega) ⟨ho.1, fun j hj => ⟨(ho.2 j hj).1.congr (fun q _ _ => ⟨.inl, fun h => h.elim id (fun h => by omega)⟩), (ho.2 j hj).2.congr (fun q _ _ => ⟨.inl, fun h => h.elim id (fun h => by omega)⟩)⟩⟩
    refine ⟨R, hP, Ev.step (f := fun k => palantyperef02_Who.l1 k all out c ((0 : Nat) : Int)) (fun k => ?_) hR⟩
    simp only [palantyperef02_Who.l0]
    rw [if_pos (by omega)]
    rfl
theorem RefWho_ev (a0 a1 a2 a3 : Int) (l : List RM) (hl : l.length ≤ 1000) {all : List (List RP)} (hal : all.length ≤ 100000000) (hs : ∀ s ∈ all, s.length = l.length) (hr : ∀ s ∈ all, ∀ p ∈ s, (-1 ≤ p.f0 ∧ p.f0 ≤ 14) ∧ (-1 ≤ p.f1 ∧ p.f1 ≤ 14)) :
    ∃ R, Sets l.length (fun j q => ∃ s ∈ all, ∃ p, s[j]? = some p ∧ p.f0 = q) (fun j q => ∃ s ∈ all, ∃ p, s[j]? = some p ∧ p.f1 = q) R ∧ Ev (fun k => palantyperef02_Who.f k a0 a1 a2 a3 l all) R := by
  obtain ⟨R, hP, hR⟩ := who_l0 hl hal hs hr all.length 0 (List.replicate l.length z100) (by omega) ⟨by simp, fun j hj => by
    rw [List.getElem_replicate]
    exact ⟨isSet_zero.congr (fun q _ _ => by simp), isSet_zero.congr (fun q _ _ => by simp)⟩⟩
  refine ⟨R, hP, Ev.congr (fun k => ?_) hR⟩
  unfold palantyperef02_Who.f
  rw [if_pos (by omega), if_pos (by omega)]
  simp
theorem told_l0 {w : List FT} {R : List RT} (hw : w.length ≤ 1000) (hl : w.length = R.length) (h : ∀ j (h1 : j < w.length) (h2 : j < R.length), w[j].f0 = R[j].f0 ∧ w[j].f1 = R[j].f1) : ∀ (d i : Nat), i + d = w.length → Ev (fun k => palantypelaw02_told.l0 k w R i) true
  | 0, i, hi => by
    refine Ev.step (f := fun k => some true) (fun k => ?_) (Ev.now _)
    simp only [palantypelaw02_told.l0]
    rw [if_neg (by omega)]
  | d + 1, i, hi => by
    have h1 : i < w.length := by omega
    have h2 : i < R.length := by omega
    refine Ev.step (f := fun k => palantypelaw02_told.l0 k w R ((i + 1 : Nat) : Int)) (fun k => ?_) (told_l0 hw hl h d (i + 1) (by omega))
    simp only [palantypelaw02_told.l0]
    rw [if_pos (by omega), if_pos (by omega), if_pos (by omega), rdFT h1, rdRT h2, if_pos (h i h1 h2).1, if_pos (h i h1 h2).2, wrap_id (by omega) (by omega)]
    rfl
theorem told_ev {w : List FT} {R : List RT} (hw : w.length ≤ 1000) (hl : w.length = R.length) (h : ∀ j (h1 : j < w.length) (h2 : j < R.length), w[j].f0 = R[j].f0 ∧ w[j].f1 = R[j].f1) : Ev (fun k => palantypelaw02_told.f k w R) true := by
  refine Ev.congr (fun k => ?_) (told_l0 hw hl h w.length 0 (by omega))
  unfold palantypelaw02_told.f
  rw [if_pos (by omega)]
  rfl
theorem toldOf_isSet {least most short : Int} {n : Nat} (hn : n ≤ 12) {l : List FM} {j : Nat} (hj : j < l.length) :
    IsSet (toldOf least most short n l j).f0 (fun q => ∃ s, Told least most short n l s ∧ ∃ p, s[j]? = some p ∧ p.f0 = q) ∧ IsSet (toldOf least most short n l j).f1 (fun q => ∃ s, Told least most short n l s ∧ ∃ p, s[j]? = some p ∧ p.f1 = q) := by
  have e : toldOf least most short n l j = ⟨orOf ((goodParts least most short n l j l[j]).map (·.1)), orOf ((goodParts least most short n l j l[j]).map (·.2))⟩ := by
    unfold toldOf; rw [List.getElem?_eq_getElem hj]
  rw [e]
  refine ⟨(orOf_isSet (fun q hq => ?_)).congr (fun q _ _ => ?_), (orOf_isSet (fun q hq => ?_)).congr (fun q _ _ => ?_)⟩
  · obtain ⟨r, hr, rfl⟩ := List.mem_map.1 hq; have := good_range hn hr; omega
  · rw [List.mem_map]
    constructor
    · rintro ⟨r, hr, rfl⟩
      obtain ⟨s, h1, h2⟩ := (mem_good_told hj).1 hr
      exact ⟨s, h1, _, h2, rfl⟩
    · rintro ⟨s, h1, p, h2, rfl⟩
      exact ⟨(p.f0, p.f1), (mem_good_told hj).2 ⟨s, h1, h2⟩, rfl⟩
  · obtain ⟨r, hr, rfl⟩ := List.mem_map.1 hq; have := good_range hn hr; omega
  · rw [List.mem_map]
    constructor
    · rintro ⟨r, hr, rfl⟩
      obtain ⟨s, h1, h2⟩ := (mem_good_told hj).1 hr
      exact ⟨s, h1, _, h2, rfl⟩
    · rintro ⟨s, h1, p, h2, rfl⟩
      exact ⟨(p.f0, p.f1), (mem_good_told hj).2 ⟨s, h1, h2⟩, rfl⟩
theorem told_range {least most short : Int} {n : Nat} {l : List FM} {s : List RP} (h : Told least most short n l s) : ∀ p ∈ s, (-1 ≤ p.f0 ∧ p.f0 < n) ∧ (-1 ≤ p.f1 ∧ p.f1 < n) := by
  intro p hp
  obtain ⟨j, hj, rfl⟩ := List.getElem_of_mem hp
  have hjl : j < l.length := by rw [← h.1]; exact hj
  have hm : ((s[j].f0, s[j].f1) : Int × Int) ∈ goodParts least most short n l j l[j] := (mem_good_told hjl).2 ⟨s, h, List.getElem?_eq_getElem hj⟩
  obtain ⟨x, _, q, hq, _, e⟩ := mem_goodParts.1 hm
  have a := mem_upTo.1 (mem_partsOf.1 hq).1
  have b := mem_upTo.1 (mem_partsOf.1 hq).2.1
  rw [e] at a b
  simp only [] at a b
  omega
end Go.Proofs.Ytdnjmhhjjbdieaa.Q
end
