/- Texts of a proof, joined: see the last one. -/
import Derived.Test.YtdnjmhhjjbdieaaSBrk2
import Derived.Test.YtdnjmhhjjbdieaaSBrk6
import Derived.Test.YtdnjmhhjjbdieaaSBrk8
import Derived.Test.YtdnjmhhjjbdieaaSBrk9
namespace Go.Proofs.YtdnjmhhjjbdieaaW.PrintLast
end Go.Proofs.YtdnjmhhjjbdieaaW.PrintLast
namespace Go.Proofs.YtdnjmhhjjbdieaaW.PrintWords
end Go.Proofs.YtdnjmhhjjbdieaaW.PrintWords
section
namespace Go.Proofs.Ytdnjmhhjjbdieaa.Q
open Go.RowKit Go.Proofs.YtdnjmhhjjbdieaaW.PrintWords
set_option linter.unusedVariables false
def runS (least most short : Int) (x : St) (t : List RP) : St := t.foldl (fun x p => (stepF least most short x p.f0 p.f1).1) x
theorem pathB_append (least most short n : Int) : ∀ (t : List RP) (l : List FM) (u : List RP) (x : St), pathB least most short n l (t ++ u) x = (pathB least most short n l t x && pathB least most short n (l.drop t.length) u (runS least most short x t))
  | [], l, u, x => by
    have : pathB least most short n l [] x = true := by cases l <;> rfl
    simp [this, runS]
  | p :: t, [], u, x => by simp [pathB]
  | p :: t, m :: l, u, x => by
    simp only [List.cons_append, pathB, List.length_cons, List.drop_succ_cons]
    rw [pathB_append least most short n t l u _, Bool.and_assoc]
    rfl
theorem pathB_nil (least most short n : Int) (l : List FM) (x : St) : pathB least most short n l [] x = true := by cases l <;> rfl
theorem runS_append (least most short : Int) (x : St) (t u : List RP) : runS least most short x (t ++ u) = runS least most short (runS least most short x t) u := by simp [runS]
theorem partOk_iff {least most short : Int} {n : Nat} {m : FM} {x : St} {p : FP} : partOk least most short n m x p = true ↔ ∃ y, ((p.f0, p.f1), y) ∈ partsOf least most short x m.f0 m.f1 n ∧ y = (stepF least most short x p.f0 p.f1).1 := by
  simp only [partOk, win, Bool.and_eq_true, decide_eq_true_eq, mem_partsOf, mem_upTo]
  constructor
  · rintro ⟨⟨⟨⟨⟨h1, h2⟩, h3, h4⟩, h5⟩, h6⟩, h7⟩
    exact ⟨_, ⟨⟨h1, by omega, h6⟩, ⟨h3, by omega, h7⟩, Prod.ext rfl h5⟩, rfl⟩
  · rintro ⟨y, ⟨⟨h1, h2, h6⟩, ⟨h3, h4, h7⟩, h5⟩, rfl⟩
    exact ⟨⟨⟨⟨⟨h1, by omega⟩, h3, by omega⟩, by rw [h5]⟩, h6⟩, h7⟩
theorem fwd_path {least most short : Int} {n : Nat} {l : List FM} : ∀ (j : Nat) (y : St), fwd least most short n l j y ↔ ∃ t : List RP, t.length = j ∧ pathB least most short n l t beginSt = true ∧ runS least most short beginSt t = y
  | 0, y => by
    constructor
    · intro h
      obtain rfl : y = beginSt := h
      exact ⟨[], rfl, pathB_nil _ _ _ _ _ _, rfl⟩
    · rintro ⟨t, h1, _, h3⟩
      obtain rfl := List.length_eq_zero_iff.1 h1
      exact h3.symm
  | j + 1, y => by
    cases hm : l[j]? with
    | none =>
      simp only [fwd, hm, false_iff]
      rintro ⟨t, h1, h2, _⟩
      have hj : l.length ≤ j := List.getElem?_eq_none_iff.1 hm
      obtain ⟨t', p, rfl⟩ : ∃ t' p, t = t' ++ [p] := ⟨t.dropLast, t.getLast (by intro e; simp [e] at h1), (List.dropLast_concat_getLast _).symm⟩
      rw [pathB_append, Bool.and_eq_true] at h2
      simp at h1
      rw [List.drop_eq_nil_of_le (by omega)] at h2
      exact absurd h2.2 (by simp [pathB])
    | some m =>
      simp only [fwd, hm]
      unfold nexts
      constructor
      · rintro ⟨x, hx, p, hp, rfl⟩
        obtain ⟨t, h1, h2, h3⟩ := (fwd_path j x).1 hx
        obtain ⟨hj, hmj⟩ := List.getElem?_eq_some_iff.1 hm
        have hst := (mem_partsOf.1 hp).2.2
        have hok : partOk least most short n m x ⟨p.1.1, p.1.2⟩ = true := partOk_iff.2 ⟨p.2, hp, by simp only [hst]⟩
        refine ⟨t ++ [⟨p.1.1, p.1.2⟩], by simp [h1], ?_, ?_⟩
        · rw [pathB_append, h2, h1, List.drop_eq_getElem_cons hj, hmj, h3, Bool.true_and]
          simp only [pathB, po, hok, pathB_nil, Bool.and_self]
        · rw [runS_append, h3]
          simp only [runS, List.foldl_cons, List.foldl_nil, hst]
      · rintro ⟨t, h1, h2, h3⟩
        obtain ⟨hj, hmj⟩ := List.getElem?_eq_some_iff.1 hm
        obtain ⟨t', p, rfl⟩ : ∃ t' p, t = t' ++ [p] := ⟨t.dropLast, t.getLast (by intro e; simp [e] at h1), (List.dropLast_concat_getLast _).symm⟩
        have h1' : t'.length = j := by simpa using h1
        rw [pathB_append, Bool.and_eq_true, h1', List.drop_eq_getElem_cons hj, hmj] at h2
        obtain ⟨h2a, h2b⟩ := h2
        simp only [pathB, Bool.and_eq_true] at h2b
        obtain ⟨z, hz, hze⟩ := partOk_iff.1 h2b.1
        refine ⟨runS least most short beginSt t', (fwd_path j _).2 ⟨t', h1', h2a, rfl⟩, _, hz, ?_⟩
        rw [← h3, runS_append, hze]
        rfl
def Told (least most short n : Int) (l : List FM) (s : List RP) : Prop := s.length = l.length ∧ pathB least most short n l s beginSt = true
theorem told_iff_fwd {least most short : Int} {n : Nat} {l : List FM} : (fwdL least most short n l l.length).isEmpty = true ↔ ∀ s, ¬ Told least most short n l s := by
  rw [fwdL_empty]
  constructor
  · intro h s hs
    exact h _ ((fwd_path _ _).2 ⟨s, hs.1, hs.2, rfl⟩)
  · intro h x hx
    obtain ⟨t, h1, h2, _⟩ := (fwd_path _ _).1 hx
    exact h t ⟨h1, h2⟩
def prs (n : Nat) : List RP := (List.range (n + 1)).flatMap fun (i : Nat) => (List.range (n + 1)).map fun (j : Nat) => (⟨(i : Int) - 1, (j : Int) - 1⟩ : RP)
theorem mem_prs {n : Nat} {p : RP} : p ∈ prs n ↔ (-1 ≤ p.f0 ∧ p.f0 < n) ∧ (-1 ≤ p.f1 ∧ p.f1 < n) := by
  unfold prs
  simp only [List.mem_flatMap, List.mem_map, List.mem_range]
  constructor
  · rintro ⟨i, hi, j, hj, rfl⟩
    simp only []
    omega
  · rintro ⟨⟨h1, h2⟩, h3, h4⟩
    refine ⟨(p.f0 + 1).toNat, by omega, (p.f1 + 1).toNat, by omega, ?_⟩
    obtain ⟨a, b⟩ := p
    simp only [S89.mk.injEq]
    simp only [] at h1 h2 h3 h4
    omega
def tels (least most short : Int) (n : Nat) (l : List FM) : Nat → List RP → List (List RP)
  | 0, t => if pathB least most short n l t beginSt = true then [t] else []
  | d + 1, t => if pathB least most short n l t beginSt = true then (prs n).flatMap (fun p => tels least most short n l d (t ++ [p])) else []
theorem length_flatMap_le {α β : Type} (f : α → List β) (b : Nat) : ∀ (xs : List α), (∀ x ∈ xs, (f x).length ≤ b) → (xs.flatMap f).length ≤ xs.length * b
  | [], _ => by simp
  | x :: xs, h => by
    rw [List.flatMap_cons, List.length_append, List.length_cons, Nat.succ_mul]
    have := length_flatMap_le f b xs (fun y hy => h y (by simp [hy]))
    have := h x (by simp)
    omega
theorem length_prs (n : Nat) : (prs n).length = (n + 1) * (n + 1) := by
  unfold prs
  rw [List.length_flatMap]
  simp [List.map_const', List.sum_replicate_nat]
theorem length_tels (least most short : Int) (n : Nat) (l : List FM) : ∀ (d : Nat) (t : List RP), (tels least most short n l d t).length ≤ ((n + 1) * (n + 1)) ^ d
  | 0, t => by simp only [tels]; split <;> simp
  | d + 1, t => by
    simp only [tels]
    split
    · have := length_flatMap_le (fun p => tels least most short n l d (t ++ [p])) (((n + 1) * (n + 1)) ^ d) (prs n) (fun p _ => length_tels least most short n l d _)
      rw [length_prs] at this
      rw [Nat.pow_succ, Nat.mul_comm]
      exact this
    · simp
theorem mem_tels {least most short : Int} {n : Nat} {l : List FM} : ∀ (d : Nat) (t s : List RP), s ∈ tels least most short n l d t ↔ (∃ u, s = t ++ u ∧ u.length = d) ∧ pathB least most short n l s beginSt = true
  | 0, t, s => by
    simp only [tels]
    split
    · rename_i h
      rw [List.mem_singleton]
      constructor
      · rintro rfl; exact ⟨⟨[], by simp, rfl⟩, h⟩
      · rintro ⟨⟨u, rfl, hu⟩, _⟩
        rw [List.length_eq_zero_iff.1 hu]; simp
    · rename_i h
      constructor
      · intro h; cases h
      · rintro ⟨⟨u, rfl, hu⟩, h2⟩
        rw [List.length_eq_zero_iff.1 hu, List.append_nil] at h2
        exact (h h2).elim
  | d + 1, t, s => by
    have hpre : pathB least most short n l s beginSt = true → ∀ u, s = t ++ u → pathB least most short n l t beginSt = true := fun h u e => by
      rw [e, pathB_append, Bool.and_eq_true] at h; exact h.1
    simp only [tels]
    split
    · rename_i h
      rw [List.mem_flatMap]
      constructor
      · rintro ⟨p, hp, hs⟩
        obtain ⟨⟨u, rfl, hu⟩, h2⟩ := (mem_tels d _ _).1 hs
        exact ⟨⟨p :: u, by simp, by simp [hu]⟩, h2⟩
      · rintro ⟨⟨u, rfl, hu⟩, h2⟩
        cases u with
        | nil => simp at hu
        | cons p u =>
          have hp : p ∈ prs n := by
            have h3 := h2
            rw [pathB_append, Bool.and_eq_true] at h3
            have h4 := h3.2
            cases hl : l.drop t.length with
            | nil => rw [hl] at h4; simp [pathB] at h4
            | cons m l' =>
              rw [hl] at h4
              simp only [pathB, Bool.and_eq_true] at h4
              obtain ⟨z, hz, _⟩ := partOk_iff.1 h4.1
              have a := mem_upTo.1 (mem_partsOf.1 hz).1
              have b := mem_upTo.1 (mem_partsOf.1 hz).2.1
              simp only [po] at a b
              rw [mem_prs]; omega
          exact ⟨p, hp, (mem_tels d _ _).2 ⟨⟨u, by simp, by simpa using hu⟩, h2⟩⟩
    · rename_i h
      constructor
      · intro h; cases h
      · rintro ⟨⟨u, e, hu⟩, h2⟩
        exact (h (hpre h2 u e)).elim
theorem mem_tels_told {least most short : Int} {n : Nat} {l : List FM} {s : List RP} : s ∈ tels least most short n l l.length [] ↔ Told least most short n l s := by
  rw [mem_tels]
  constructor
  · rintro ⟨⟨u, rfl, hu⟩, h⟩
    exact ⟨by simpa using hu, h⟩
  · rintro ⟨h1, h2⟩
    exact ⟨⟨s, by simp, h1⟩, h2⟩
theorem tel_l1 {n : Nat} {a1 a2 a3 : Int} {l : List RM} {t : List RP} {F : RP → List (List RP)} {R : List (List RP)} (ht : t.length ≤ 1000000) (hn : n ≤ 14) (i : Nat) (hi : i ≤ n) (hF : ∀ p, p ∈ prs n → Ev (fun k => palantyperef02_Tellings.f k n a1 a2 a3 l (t ++ [p])) (F p)) :
    ∀ (e j : Nat) (out : List (List RP)), j + e = n + 1 → (out ++ (List.range' j e).flatMap (fun (j : Nat) => F ⟨(i : Int) - 1, (j : Int) - 1⟩)).length ≤ 100000000 →
      Ev (fun k => palantyperef02_Tellings.l0 k t (out ++ (List.range' j e).flatMap (fun (j : Nat) => F ⟨(i : Int) - 1, (j : Int) - 1⟩)) ((i + 1 : Nat) - 1 : Int) n a1 a2 a3 l) R →
      Ev (fun k => palantyperef02_Tellings.l1 k t out ((i : Int) - 1) ((j : Int) - 1) n a1 a2 a3 l) R
  | 0, j, out, h, hb, hR => by
    refine Ev.step (f := fun k => palantyperef02_Tellings.l0 k t out ((i + 1 : Nat) - 1 : Int) n a1 a2 a3 l) (fun k => ?_) (by simpa using hR)
    simp only [palantyperef02_Tellings.l1]
    rw [if_neg (by omega), wrap_id (by omega) (by omega), show (i : Int) - 1 + 1 = ((i + 1 : Nat) : Int) - 1 by omega]
  | e + 1, j, out, h, hb, hR => by
    rw [List.range'_succ, List.flatMap_cons, ← List.append_assoc] at hb hR
    have hlen : out.length + (F ⟨(i : Int) - 1, (j : Int) - 1⟩).length ≤ 100000000 := by
      rw [List.length_append, List.length_append] at hb; omega
    refine Ev.step (f := fun k => (palantyperef02_Tellings.f k n a1 a2 a3 l (t ++ [⟨(i : Int) - 1, (j : Int) - 1⟩])).bind fun r => if out.length + r.length < 5864062014805 then palantyperef02_Tellings.l1 k t (out ++ r) ((i : Int) - 1) ((j + 1 : Nat) - 1 : Int) n a1 a2 a3 l else none) (fun k => ?_) ?_
    · simp only [palantyperef02_Tellings.l1]
      rw [if_pos (by omega), wrap_id (by omega) (by omega), show (j : Int) - 1 + 1 = ((j + 1 : Nat) : Int) - 1 by omega]
      simp only [Option.bind_some, List.nil_append, List.length_nil, List.length_cons, Nat.zero_add]
      rw [if_pos (by omega), if_pos (by omega)]
    · refine Ev.bind (hF ⟨(i : Int) - 1, (j : Int) - 1⟩ (mem_prs.2 (by simp only []; omega))) ?_
      refine Ev.congr (fun k => if_pos (by omega)) ?_
      exact tel_l1 ht hn i hi hF e (j + 1) _ (by omega) hb hR
theorem tel_l0 {n : Nat} {a1 a2 a3 : Int} {l : List RM} {t : List RP} {F : RP → List (List RP)} (ht : t.length ≤ 1000000) (hn : n ≤ 14) (hF : ∀ p, p ∈ prs n → Ev (fun k => palantyperef02_Tellings.f k n a1 a2 a3 l (t ++ [p])) (F p)) :
    ∀ (e i : Nat) (out : List (List RP)), i + e = n + 1 → (out ++ (List.range' i e).flatMap (fun (i : Nat) => (List.range (n + 1)).flatMap (fun (j : Nat) => F ⟨(i : Int) - 1, (j : Int) - 1⟩))).length ≤ 100000000 →
      Ev (fun k => palantyperef02_Tellings.l0 k t out ((i : Int) - 1) n a1 a2 a3 l) (out ++ (List.range' i e).flatMap (fun (i : Nat) => (List.range (n + 1)).flatMap (fun (j : Nat) => F ⟨(i : Int) - 1, (j : Int) - 1⟩)))
  | 0, i, out, h, hb => by
    refine Ev.step (f := fun k => some out) (fun k => ?_) (by simp; exact Ev.now _)
    simp only [palantyperef02_Tellings.l0]
    rw [if_neg (by omega)]
  | e + 1, i, out, h, hb => by
    rw [List.range'_succ, List.flatMap_cons, ← List.append_assoc] at hb ⊢
    refine Ev.step (f := fun k => palantyperef02_Tellings.l1 k t out ((i : Int) - 1) ((0 : Nat) - 1 : Int) n a1 a2 a3 l) (fun k => ?_) ?_
    · simp only [palantyperef02_Tellings.l0]
      rw [if_pos (by omega)]
      rfl
    · have hr : List.range (n + 1) = List.range' 0 (n + 1) := List.range_eq_range'
      refine tel_l1 ht hn i (by omega) hF (n + 1) 0 out (by omega) (by rw [← hr]; rw [List.length_append] at hb; omega) ?_
      rw [← hr]
      exact tel_l0 ht hn hF e (i + 1) _ (by omega) hb
theorem Tellings_ev (least most short : Int) (n : Nat) (hn : n ≤ 14) (hmost : 1 ≤ most) (hshort : 0 ≤ short) (l : List RM) (hl : l.length ≤ 100) :
    ∀ (d : Nat) (t : List RP), t.length + d = l.length → ((n + 1) * (n + 1)) ^ d ≤ 100000000 → Ev (fun k => palantyperef02_Tellings.f k n least most short l t) (tels least most short n (l.map mo) d t)
  | 0, t, ht, hb => by
    refine Ev.step (f := fun k => (palantyperef02_Right.f k n least most short l t).bind fun r => if r = true then some [t] else some []) (fun k => ?_) ?_
    · simp only [palantyperef02_Tellings.f]
      rw [if_pos (by omega : (t.length : Int) = (l.length : Int))]
      simp only [Option.bind_some, List.nil_append, List.length_nil, Nat.zero_add]
      rw [if_pos (by omega)]
    · refine Ev.bind (Right_ev least most short n hn hmost hshort l t (by omega) (by omega)) ?_
      simp only [tels]
      split
      · exact Ev.now _
      · exact Ev.now _
  | d + 1, t, ht, hb => by
    refine Ev.step (f := fun k => (palantyperef02_Right.f k n least most short l t).bind fun r => if r = true then palantyperef02_Tellings.l0 k t [] ((0 : Nat) - 1 : Int) n least most short l else some []) (fun k => ?_) ?_
    · simp only [palantyperef02_Tellings.f]
      rw [if_neg (by omega : ¬ (t.length : Int) = (l.length : Int))]
      rfl
    · refine Ev.bind (Right_ev least most short n hn hmost hshort l t (by omega) (by omega)) ?_
      simp only [tels]
      split
      · have hb' : ((n + 1) * (n + 1)) ^ d ≤ 100000000 := Nat.le_trans (Nat.pow_le_pow_right (Nat.mul_pos (by omega) (by omega)) (by omega)) hb
        have key := tel_l0 (F := fun p => tels least most short n (l.map mo) d (t ++ [p])) (t := t) (a1 := least) (a2 := most) (a3 := short) (l := l) (by omega) hn (fun p hp => Tellings_ev least most short n hn hmost hshort l hl d (t ++ [p]) (by simp; omega) hb') (n + 1) 0 [] (by omega)
        have e : (prs n).flatMap (fun p => tels least most short n (l.map mo) d (t ++ [p])) = [] ++ (List.range' 0 (n + 1)).flatMap (fun (i : Nat) => (List.range (n + 1)).flatMap (fun (j : Nat) => tels least most short n (l.map mo) d (t ++ [(⟨(i : Int) - 1, (j : Int) - 1⟩ : RP)]))) := by
          rw [List.nil_append, ← List.range_eq_range']
          unfold prs
          rw [List.flatMap_assoc]
          simp only [List.flatMap_map]
        rw [e]
        refine key ?_
        rw [← e]
        have := length_flatMap_le (fun p => tels least most short n (l.map mo) d (t ++ [p])) (((n + 1) * (n + 1)) ^ d) (prs n) (fun p _ => length_tels least most short n (l.map mo) d _)
        rw [length_prs] at this
        rw [Nat.pow_succ, Nat.mul_comm] at hb
        omega
      · exact Ev.now _
end Go.Proofs.Ytdnjmhhjjbdieaa.Q
end
section
namespace Go.Proofs.Ytdnjmhhjjbdieaa.Q
open Go.RowKit Go.Proofs.YtdnjmhhjjbdieaaW.PrintWords Go.Proofs.YtdnjmhhjjbdieaaW.PrintLast
set_option linter.unusedVariables false
set_option linter.unusedSimpArgs false
def palantypelaw02_Thin.f (a0_0 : Int) (a0_1 : Int) (a0_2 : Int) (a0_3 : Int) (l0_4 : List (S59)) : Option (Bool) := some (decide ((l0_4.length : Int) ≤ 45))
set_option maxHeartbeats 8000000 in
set_option maxRecDepth 100000 in
theorem palantypelaw02_Thin.calls (a0_0 : Int) (a0_1 : Int) (a0_2 : Int) (a0_3 : Int) (A0_4 : Option Addr) (c0_4 : Nat) (l0_4 : List (S59)) (r : Bool) (w : World) (hr0_4 : Kd.C k59 w A0_4 l0_4.length l0_4) (hc0_4 : l0_4.length ≤ c0_4) (h : palantypelaw02_Thin.f a0_0 a0_1 a0_2 a0_3 l0_4 = some r) :
    Calls Try.prog 33 #[.agg #[.int .i64 a0_0, .int .i64 a0_1, .int .i64 a0_2, .int .i64 a0_3, .slice A0_4 l0_4.length c0_4]] w fun e w' => e = .returned (.bool r) ∧ Below w.heap.size w w' := by
  have hu24 := Try.underlying24
  have HR0_4 := Aside0.mk hr0_4
  have HC0_4 := Aside0.mk hc0_4
  clear hr0_4 hc0_4
  have HB := Aside0.mk (Below.refl w.heap.size w)
  have H : (some (decide ((l0_4.length : Int) ≤ 45))) = some r := h
  clear h
  obtain rfl := Option.some.inj H
  go_enter Try.func33, Try.ntmps33
  go_wp2_with (first | ((with_reducible refine gate_dst (N := 1) rfl ?_); refine box_event ?hg (N := 1) ?hd (cs := #[.int .i64 a0_0, .int .i64 a0_1, .int .i64 a0_2, .int .i64 a0_3, .slice A0_4 l0_4.length c0_4]) (t := 24) ?hr ?_; (case hd => rfl); (case hg => rfl); (case hr => first | (go_simp; done) | (go_simp; rfl)); intro gb112 hg w2 hbox hb; have n0_ := Aside0.mk (below_step (by repeat (first | (with_reducible first | exact HB.out | apply below_alloc | apply pw_below_drewN | apply below_drew1) | exact HB.out)) hb); have n1_ := Aside0.mk (hbox); have n2_ := Aside0.mk ((by rw [hg]; exact (below_size (by repeat (first | (with_reducible first | exact HB.out | apply below_alloc | apply pw_below_drewN | apply below_drew1) | exact HB.out))) : w.heap.size ≤ gb112)); have n3_ := Aside0.mk ((by rw [hg]; exact (below_size (by repeat (first | (with_reducible first | exact HB.out | apply below_alloc | apply pw_below_drewN | apply below_drew1) | exact HB.out))) : w.heap.size ≤ gb112)); clear HB; have HB := n0_; have BK112 := n1_; have GW112 := n2_; have GE112 := n3_; clear n0_ n1_ n2_ n3_; clear hb hbox hg; have hcz3_0 : w2.cell? ⟨gb112, 0, none⟩ = some (.int .i64 a0_0) := (blk_cell BK112.out 0).trans rfl; have hcz3_1 : w2.cell? ⟨gb112, 1, none⟩ = some (.int .i64 a0_1) := (blk_cell BK112.out 1).trans rfl; have hcz3_2 : w2.cell? ⟨gb112, 2, none⟩ = some (.int .i64 a0_2) := (blk_cell BK112.out 2).trans rfl; have hcz3_3 : w2.cell? ⟨gb112, 3, none⟩ = some (.int .i64 a0_3) := (blk_cell BK112.out 3).trans rfl; have hcz3_4 : w2.cell? ⟨gb112, 4, none⟩ = some (.slice A0_4 l0_4.length c0_4) := (blk_cell BK112.out 4).trans rfl; have hfz3_0 := blk_frozen BK112.out 0; have hfz3_1 := blk_frozen BK112.out 1; have hfz3_2 := blk_frozen BK112.out 2; have hfz3_3 := blk_frozen BK112.out 3; have hfz3_4 := blk_frozen BK112.out 4))
  go_ret
  exact ⟨by first | rfl | (simp [errW_none, errW_some] <;> rfl) | (simp [*, errW_none, errW_some] <;> rfl), by repeat (first | (with_reducible first | exact HB.out | apply below_alloc | apply pw_below_drewN | apply below_drew1 | refine below_set ?_ GE112.out) | exact HB.out)⟩
end Go.Proofs.Ytdnjmhhjjbdieaa.Q
end
section
namespace Go.Proofs.Ytdnjmhhjjbdieaa.Q
open Go.RowKit Go.Proofs.YtdnjmhhjjbdieaaW.PrintWords Go.Proofs.YtdnjmhhjjbdieaaW.PrintLast
set_option linter.unusedVariables false
set_option linter.unusedSimpArgs false
def palantyperef02_First.f (a0_0 : Int) (a0_1 : Int) (a0_2 : Int) (a0_3 : Int) (l0_4 : List (S59)) (a1 : Int) : Option (Int × Int × Int × Int × (List (S59))) := (some (([] : List (S59)) : List (S59))).bind fun y274 => (if 0 ≤ a1 then (if a1 ≤ (l0_4.length : Int) then ((some (l0_4.take (a1 : Int).toNat : List (S59))).bind fun y277 => (if y274.length + y277.length < 35184372088832 then (some (a0_0, a0_1, a0_2, a0_3, (y274 ++ y277))) else (none))) else (none)) else (none))
set_option maxHeartbeats 8000000 in
set_option maxRecDepth 100000 in
theorem palantyperef02_First.calls (a0_0 : Int) (a0_1 : Int) (a0_2 : Int) (a0_3 : Int) (A0_4 : Option Addr) (c0_4 : Nat) (l0_4 : List (S59)) (a1 : Int) (r1 : Int) (r2 : Int) (r3 : Int) (r4 : Int) (r5 : List (S59)) (w : World) (hr0_4 : Kd.C k59 w A0_4 l0_4.length l0_4) (hc0_4 : l0_4.length ≤ c0_4) (h : palantyperef02_First.f a0_0 a0_1 a0_2 a0_3 l0_4 a1 = some (r1, r2, r3, r4, r5)) :
    Calls Try.prog 40 #[.agg #[.int .i64 a0_0, .int .i64 a0_1, .int .i64 a0_2, .int .i64 a0_3, .slice A0_4 l0_4.length c0_4], .int .i64 a1] w fun e w' => ∃ v4_ : Value, e = .returned (.agg #[.int .i64 r1, .int .i64 r2, .int .i64 r3, .int .i64 r4, v4_]) ∧ Kd.R k59 59 w' w.heap.size (fun _ => True) v4_ r5 ∧ Below w.heap.size w w' := by
  have hu24 := Try.underlying24
  have HR0_4 := Aside0.mk hr0_4
  have HC0_4 := Aside0.mk hc0_4
  clear hr0_4 hc0_4
  have HB := Aside0.mk (Below.refl w.heap.size w)
  have H : ((some (([] : List (S59)) : List (S59))).bind fun y274 => (if 0 ≤ a1 then (if a1 ≤ (l0_4.length : Int) then ((some (l0_4.take (a1 : Int).toNat : List (S59))).bind fun y277 => (if y274.length + y277.length < 35184372088832 then (some (a0_0, a0_1, a0_2, a0_3, (y274 ++ y277))) else (none))) else (none)) else (none))) = some (r1, r2, r3, r4, r5) := h
  clear h
  obtain ⟨y274, hy274⟩ : ∃ y_ : List (S59), y_ = (([] : List (S59))) := ⟨_, rfl⟩
  replace H : (if 0 ≤ a1 then (if a1 ≤ (l0_4.length : Int) then ((some (l0_4.take (a1 : Int).toNat : List (S59))).bind fun y277 => (if y274.length + y277.length < 35184372088832 then (some (a0_0, a0_1, a0_2, a0_3, (y274 ++ y277))) else (none))) else (none)) else (none)) = some (r1, r2, r3, r4, r5) := by first | (rw [hy274]; with_reducible exact H) | (have H2_ := (Option.bind_some _ _).symm.trans H; rw [hy274]; with_reducible exact H2_) | (have H2_ := (Option.bind_some _ _).symm.trans H; with_reducible exact H2_) | with_reducible exact H | (rw [hy274]; exact H) | exact H
  have Ny274 := Aside0.mk hy274
  clear hy274
  by_cases c3 : 0 ≤ a1
  · rw [if_pos c3] at H
    have c3b0 := eq_true c3
    have c3b1 : decide (0 ≤ a1) = true := decide_eq_true c3
    clear c3
    by_cases c4 : a1 ≤ (l0_4.length : Int)
    · rw [if_pos c4] at H
      have c4b0 := eq_true c4
      have c4b1 : decide (a1 ≤ (l0_4.length : Int)) = true := decide_eq_true c4
      clear c4
      obtain ⟨y277, hy277⟩ : ∃ y_ : List (S59), y_ = (l0_4.take (a1 : Int).toNat) := ⟨_, rfl⟩
      replace H : (if y274.length + y277.length < 35184372088832 then (some (a0_0, a0_1, a0_2, a0_3, (y274 ++ y277))) else (none)) = some (r1, r2, r3, r4, r5) := by first | (rw [hy277]; with_reducible exact H) | (have H2_ := (Option.bind_some _ _).symm.trans H; rw [hy277]; with_reducible exact H2_) | (have H2_ := (Option.bind_some _ _).symm.trans H; with_reducible exact H2_) | with_reducible exact H | (rw [hy277]; exact H) | exact H
      have Ny277 := Aside0.mk hy277
      clear hy277
      by_cases c5 : y274.length + y277.length < 35184372088832
      · rw [if_pos c5] at H
        have LMc5 := Aside0.mk c5
        clear c5
        obtain ⟨y281, hy281⟩ : ∃ y_ : List (S59), y_ = (y274 ++ y277) := ⟨_, rfl⟩
        replace H : (some (a0_0, a0_1, a0_2, a0_3, y281)) = some (r1, r2, r3, r4, r5) := by first | (rw [hy281]; with_reducible exact H) | (have H2_ := (Option.bind_some _ _).symm.trans H; rw [hy281]; with_reducible exact H2_) | (have H2_ := (Option.bind_some _ _).symm.trans H; with_reducible exact H2_) | with_reducible exact H | (rw [hy281]; exact H) | exact H
        have Ny281 := Aside0.mk hy281
        clear hy281
        simp only [Option.some.injEq, Prod.mk.injEq] at H
        obtain ⟨rfl, rfl, rfl, rfl, rfl⟩ := H
        go_enter Try.func40, Try.ntmps40
        go_wp2_with (first | ((with_reducible refine gate_dst (N := 2) rfl ?_); refine box_event ?hg (N := 2) ?hd (cs := #[.int .i64 a0_0, .int .i64 a0_1, .int .i64 a0_2, .int .i64 a0_3, .slice A0_4 l0_4.length c0_4]) (t := 24) ?hr ?_; (case hd => rfl); (case hg => rfl); (case hr => first | (go_simp; done) | (go_simp; rfl)); intro gb271 hg w6 hbox hb; have n0_ := Aside0.mk (below_step (by repeat (first | (with_reducible first | exact HB.out | apply below_alloc | apply pw_below_drewN | apply below_drew1) | exact HB.out)) hb); have n1_ := Aside0.mk (hbox); have n2_ := Aside0.mk ((by rw [hg]; exact (below_size (by repeat (first | (with_reducible first | exact HB.out | apply below_alloc | apply pw_below_drewN | apply below_drew1) | exact HB.out))) : w.heap.size ≤ gb271)); have n3_ := Aside0.mk ((by rw [hg]; exact (below_size (by repeat (first | (with_reducible first | exact HB.out | apply below_alloc | apply pw_below_drewN | apply below_drew1) | exact HB.out))) : w.heap.size ≤ gb271)); clear HB; have HB := n0_; have BK271 := n1_; have GW271 := n2_; have GE271 := n3_; clear n0_ n1_ n2_ n3_; clear hb hbox hg) | ((with_reducible refine gate_dst (N := 4) rfl ?_); refine box_event ?hg (N := 4) ?hd (cs := #[.int .i64 0, .int .i64 0, .int .i64 0, .int .i64 0, .slice none 0 0]) (t := 24) ?hr ?_; (case hd => rfl); (case hg => rfl); (case hr => first | (go_simp; done) | (go_simp; rfl)); intro gb272 hg w7 hbox hb; have n0_ := Aside0.mk (blk_below (g := gb271) (o := .cells #[.int .i64 a0_0, .int .i64 a0_1, .int .i64 a0_2, .int .i64 a0_3, .slice A0_4 l0_4.length c0_4] 24 (0, 0)) (by (with_reducible repeat (first | refine blk_drewN ?_ _ | refine blk_drew ?_ | refine blk_alloc ?_ _)); exact BK271.out) hb); have n1_ := Aside0.mk (below_step (by repeat (first | (with_reducible first | exact HB.out | apply below_alloc | apply pw_below_drewN | apply below_drew1 | refine below_set ?_ GE271.out) | exact HB.out)) hb); have n2_ := Aside0.mk (hbox); have n3_ := Aside0.mk ((by rw [hg]; exact (below_size (by repeat (first | (with_reducible first | exact HB.out | apply below_alloc | apply pw_below_drewN | apply below_drew1 | refine below_set ?_ GE271.out) | exact HB.out))) : w.heap.size ≤ gb272)); have n4_ := Aside0.mk ((by rw [hg]; exact (below_size (by repeat (first | (with_reducible first | exact HB.out | apply below_alloc | apply pw_below_drewN | apply below_drew1 | refine below_set ?_ GE271.out) | exact HB.out))) : w.heap.size ≤ gb272)); have n5_ := Aside0.mk ((by rw [hg]; exact Nat.ne_of_lt (blk_lt (g := gb271) (o := .cells #[.int .i64 a0_0, .int .i64 a0_1, .int .i64 a0_2, .int .i64 a0_3, .slice A0_4 l0_4.length c0_4] 24 (0, 0)) (by (with_reducible repeat (first | refine blk_drewN ?_ _ | refine blk_drew ?_ | refine blk_alloc ?_ _)); exact BK271.out)) : gb271 ≠ gb272)); have n6_ := Aside0.mk ((by rw [hg]; exact Nat.ne_of_gt (blk_lt (g := gb271) (o := .cells #[.int .i64 a0_0, .int .i64 a0_1, .int .i64 a0_2, .int .i64 a0_3, .slice A0_4 l0_4.length c0_4] 24 (0, 0)) (by (with_reducible repeat (first | refine blk_drewN ?_ _ | refine blk_drew ?_ | refine blk_alloc ?_ _)); exact BK271.out)) : gb272 ≠ gb271)); clear BK271; clear HB; have BK271 := n0_; have HB := n1_; have BK272 := n2_; have GW272 := n3_; have GE272 := n4_; have NB271_272 := n5_; have NB272_271 := n6_; clear n0_ n1_ n2_ n3_ n4_ n5_ n6_; clear hb hbox hg; have hnb8 := NB271_272.out; have hnc8 := NB272_271.out; have hcz9_0 : w7.cell? ⟨gb271, 0, none⟩ = some (.int .i64 a0_0) := (blk_cell BK271.out 0).trans rfl; have hcz9_1 : w7.cell? ⟨gb271, 1, none⟩ = some (.int .i64 a0_1) := (blk_cell BK271.out 1).trans rfl; have hcz9_2 : w7.cell? ⟨gb271, 2, none⟩ = some (.int .i64 a0_2) := (blk_cell BK271.out 2).trans rfl; have hcz9_3 : w7.cell? ⟨gb271, 3, none⟩ = some (.int .i64 a0_3) := (blk_cell BK271.out 3).trans rfl; have hcz9_4 : w7.cell? ⟨gb271, 4, none⟩ = some (.slice A0_4 l0_4.length c0_4) := (blk_cell BK271.out 4).trans rfl; have hfz9_0 := blk_frozen BK271.out 0; have hfz9_1 := blk_frozen BK271.out 1; have hfz9_2 := blk_frozen BK271.out 2; have hfz9_3 := blk_frozen BK271.out 3; have hfz9_4 := blk_frozen BK271.out 4) | ((with_reducible refine gate_dst (N := 5) rfl ?_); refine box_event ?hg (N := 5) ?hd (cs := #[.int .i64 0, .int .i64 0, .int .i64 0, .int .i64 0, .slice none 0 0]) (t := 24) ?hr ?_; (case hd => rfl); (case hg => rfl); (case hr => first | (go_simp; done) | (go_simp; rfl)); intro gb273 hg w10 hbox hb; have n0_ := Aside0.mk (blk_below (g := gb271) (o := .cells #[.int .i64 a0_0, .int .i64 a0_1, .int .i64 a0_2, .int .i64 a0_3, .slice A0_4 l0_4.length c0_4] 24 (0, 0)) (by (with_reducible repeat (first | refine blk_drewN ?_ _ | refine blk_drew ?_ | refine blk_alloc ?_ _)); exact BK271.out) hb); have n1_ := Aside0.mk (blk_below (g := gb272) (o := .cells #[.int .i64 0, .int .i64 0, .int .i64 0, .int .i64 0, .slice none 0 0] 24 (0, 0)) (by (with_reducible repeat (first | refine blk_drewN ?_ _ | refine blk_drew ?_ | refine blk_alloc ?_ _)); exact BK272.out) hb); have n2_ := Aside0.mk (below_step (by repeat (first | (with_reducible first | exact HB.out | apply below_alloc | apply pw_below_drewN | apply below_drew1 | refine below_set ?_ GE271.out | refine below_set ?_ GE272.out) | exact HB.out)) hb); have n3_ := Aside0.mk (hbox); have n4_ := Aside0.mk ((by rw [hg]; exact (below_size (by repeat (first | (with_reducible first | exact HB.out | apply below_alloc | apply pw_below_drewN | apply below_drew1 | refine below_set ?_ GE271.out | refine below_set ?_ GE272.out) | exact HB.out))) : w.heap.size ≤ gb273)); have n5_ := Aside0.mk ((by rw [hg]; exact (below_size (by repeat (first | (with_reducible first | exact HB.out | apply below_alloc | apply pw_below_drewN | apply below_drew1 | refine below_set ?_ GE271.out | refine below_set ?_ GE272.out) | exact HB.out))) : w.heap.size ≤ gb273)); have n6_ := Aside0.mk ((by rw [hg]; exact Nat.ne_of_lt (blk_lt (g := gb271) (o := .cells #[.int .i64 a0_0, .int .i64 a0_1, .int .i64 a0_2, .int .i64 a0_3, .slice A0_4 l0_4.length c0_4] 24 (0, 0)) (by (with_reducible repeat (first | refine blk_drewN ?_ _ | refine blk_drew ?_ | refine blk_alloc ?_ _)); exact BK271.out)) : gb271 ≠ gb273)); have n7_ := Aside0.mk ((by rw [hg]; exact Nat.ne_of_gt (blk_lt (g := gb271) (o := .cells #[.int .i64 a0_0, .int .i64 a0_1, .int .i64 a0_2, .int .i64 a0_3, .slice A0_4 l0_4.length c0_4] 24 (0, 0)) (by (with_reducible repeat (first | refine blk_drewN ?_ _ | refine blk_drew ?_ | refine blk_alloc ?_ _)); exact BK271.out)) : gb273 ≠ gb271)); have n8_ := Aside0.mk ((by rw [hg]; exact Nat.ne_of_lt (blk_lt (g := gb272) (o := .cells #[.int .i64 0, .int .i64 0, .int .i64 0, .int .i64 0, .slice none 0 0] 24 (0, 0)) (by (with_reducible repeat (first | refine blk_drewN ?_ _ | refine blk_drew ?_ | refine blk_alloc ?_ _)); exact BK272.out)) : gb272 ≠ gb273)); have n9_ := Aside0.mk ((by rw [hg]; exact Nat.ne_of_gt (blk_lt (g := gb272) (o := .cells #[.int .i64 0, .int .i64 0, .int .i64 0, .int .i64 0, .slice none 0 0] 24 (0, 0)) (by (with_reducible repeat (first | refine blk_drewN ?_ _ | refine blk_drew ?_ | refine blk_alloc ?_ _)); exact BK272.out)) : gb273 ≠ gb272)); clear BK271; clear BK272; clear HB; have BK271 := n0_; have BK272 := n1_; have HB := n2_; have BK273 := n3_; have GW273 := n4_; have GE273 := n5_; have NB271_273 := n6_; have NB273_271 := n7_; have NB272_273 := n8_; have NB273_272 := n9_; clear n0_ n1_ n2_ n3_ n4_ n5_ n6_ n7_ n8_ n9_; clear hb hbox hg; have hnb11 := NB273_271.out; have hnc11 := NB271_273.out; have hnb12 := NB273_272.out; have hnc12 := NB272_273.out; have hcz13_0 : w10.cell? ⟨gb273, 0, none⟩ = some (.int .i64 0) := (blk_cell BK273.out 0).trans rfl; have hcz13_1 : w10.cell? ⟨gb273, 1, none⟩ = some (.int .i64 0) := (blk_cell BK273.out 1).trans rfl; have hcz13_2 : w10.cell? ⟨gb273, 2, none⟩ = some (.int .i64 0) := (blk_cell BK273.out 2).trans rfl; have hcz13_3 : w10.cell? ⟨gb273, 3, none⟩ = some (.int .i64 0) := (blk_cell BK273.out 3).trans rfl; have hcz13_4 : w10.cell? ⟨gb273, 4, none⟩ = some (.slice none 0 0) := (blk_cell BK273.out 4).trans rfl; have hfz13_0 := blk_frozen BK273.out 0; have hfz13_1 := blk_frozen BK273.out 1; have hfz13_2 := blk_frozen BK273.out 2; have hfz13_3 := blk_frozen BK273.out 3; have hfz13_4 := blk_frozen BK273.out 4) | ((with_reducible refine gate_dst (N := 7) rfl ?_); refine Kd.R_lit k59 _ 59 ?hg (N := 7) ?hd (xs := ([] : List (S59))) (inner := []) (ok := fun _ => True) (okp := fun _ => True) ?hr ?hp (fun _ hk => hk) trivial (Below.refl _ _) (Nat.le_refl _) (by simp) ?_; (case hd => rfl); (case hg => rfl); (case hr => first | (go_simp; done) | (go_simp; rfl)); (case hp => exact (Reps.none _ _)); intro v275 w14 ho15 hb hg_ hnew_; clear hg_ hnew_; (first | rw [← Ny274.out] at ho15 | (simp only [Int.reduceToNat] at ho15; rw [← Ny274.out] at ho15)); have n0_ := Aside0.mk (Kd.R_lower ho15 (below_size (by repeat (first | (with_reducible first | exact HB.out | apply below_alloc | apply pw_below_drewN | apply below_drew1 | refine below_set ?_ GE271.out | refine below_set ?_ GE272.out | refine below_set ?_ GE273.out) | exact HB.out)))); have n1_ := Aside0.mk (blk_below (g := gb271) (o := .cells #[.int .i64 a0_0, .int .i64 a0_1, .int .i64 a0_2, .int .i64 a0_3, .slice A0_4 l0_4.length c0_4] 24 (0, 0)) (by (with_reducible repeat (first | refine blk_drewN ?_ _ | refine blk_drew ?_ | refine blk_alloc ?_ _)); refine blk_far ?_ NB271_273.out _; (with_reducible repeat (first | refine blk_drewN ?_ _ | refine blk_drew ?_ | refine blk_alloc ?_ _)); refine blk_far ?_ NB271_273.out _; (with_reducible repeat (first | refine blk_drewN ?_ _ | refine blk_drew ?_ | refine blk_alloc ?_ _)); refine blk_far ?_ NB271_273.out _; (with_reducible repeat (first | refine blk_drewN ?_ _ | refine blk_drew ?_ | refine blk_alloc ?_ _)); refine blk_far ?_ NB271_273.out _; (with_reducible repeat (first | refine blk_drewN ?_ _ | refine blk_drew ?_ | refine blk_alloc ?_ _)); refine blk_far ?_ NB271_273.out _; (with_reducible repeat (first | refine blk_drewN ?_ _ | refine blk_drew ?_ | refine blk_alloc ?_ _)); exact BK271.out) hb); have n2_ := Aside0.mk (blk_below (g := gb272) (o := .cells #[.int .i64 0, .int .i64 0, .int .i64 0, .int .i64 0, .slice none 0 0] 24 (0, 0)) (by (with_reducible repeat (first | refine blk_drewN ?_ _ | refine blk_drew ?_ | refine blk_alloc ?_ _)); refine blk_far ?_ NB272_273.out _; (with_reducible repeat (first | refine blk_drewN ?_ _ | refine blk_drew ?_ | refine blk_alloc ?_ _)); refine blk_far ?_ NB272_273.out _; (with_reducible repeat (first | refine blk_drewN ?_ _ | refine blk_drew ?_ | refine blk_alloc ?_ _)); refine blk_far ?_ NB272_273.out _; (with_reducible repeat (first | refine blk_drewN ?_ _ | refine blk_drew ?_ | refine blk_alloc ?_ _)); refine blk_far ?_ NB272_273.out _; (with_reducible repeat (first | refine blk_drewN ?_ _ | refine blk_drew ?_ | refine blk_alloc ?_ _)); refine blk_far ?_ NB272_273.out _; (with_reducible repeat (first | refine blk_drewN ?_ _ | refine blk_drew ?_ | refine blk_alloc ?_ _)); exact BK272.out) hb); have n3_ := Aside0.mk (blk_below (g := gb273) (o := .cells #[.int .i64 a0_0, .int .i64 a0_1, .int .i64 a0_2, .int .i64 a0_3, .slice A0_4 l0_4.length c0_4] 24 (0, 0)) (by (with_reducible repeat (first | refine blk_drewN ?_ _ | refine blk_drew ?_ | refine blk_alloc ?_ _)); refine blk_put (cs := #[.int .i64 a0_0, .int .i64 a0_1, .int .i64 a0_2, .int .i64 a0_3, .slice none 0 0]) ?_ 4 _ rfl; (with_reducible repeat (first | refine blk_drewN ?_ _ | refine blk_drew ?_ | refine blk_alloc ?_ _)); refine blk_put (cs := #[.int .i64 a0_0, .int .i64 a0_1, .int .i64 a0_2, .int .i64 0, .slice none 0 0]) ?_ 3 _ rfl; (with_reducible repeat (first | refine blk_drewN ?_ _ | refine blk_drew ?_ | refine blk_alloc ?_ _)); refine blk_put (cs := #[.int .i64 a0_0, .int .i64 a0_1, .int .i64 0, .int .i64 0, .slice none 0 0]) ?_ 2 _ rfl; (with_reducible repeat (first | refine blk_drewN ?_ _ | refine blk_drew ?_ | refine blk_alloc ?_ _)); refine blk_put (cs := #[.int .i64 a0_0, .int .i64 0, .int .i64 0, .int .i64 0, .slice none 0 0]) ?_ 1 _ rfl; (with_reducible repeat (first | refine blk_drewN ?_ _ | refine blk_drew ?_ | refine blk_alloc ?_ _)); refine blk_put (cs := #[.int .i64 0, .int .i64 0, .int .i64 0, .int .i64 0, .slice none 0 0]) ?_ 0 _ rfl; (with_reducible repeat (first | refine blk_drewN ?_ _ | refine blk_drew ?_ | refine blk_alloc ?_ _)); exact BK273.out) hb); have n4_ := Aside0.mk (below_step (by repeat (first | (with_reducible first | exact HB.out | apply below_alloc | apply pw_below_drewN | apply below_drew1 | refine below_set ?_ GE271.out | refine below_set ?_ GE272.out | refine below_set ?_ GE273.out) | exact HB.out)) hb); clear BK271; clear BK272; clear BK273; clear HB; have HO276 := n0_; have BK271 := n1_; have BK272 := n2_; have BK273 := n3_; have HB := n4_; clear n0_ n1_ n2_ n3_ n4_; clear hb ho15; have hcz16_0 : w14.cell? ⟨gb271, 0, none⟩ = some (.int .i64 a0_0) := (blk_cell BK271.out 0).trans rfl; have hcz16_1 : w14.cell? ⟨gb271, 1, none⟩ = some (.int .i64 a0_1) := (blk_cell BK271.out 1).trans rfl; have hcz16_2 : w14.cell? ⟨gb271, 2, none⟩ = some (.int .i64 a0_2) := (blk_cell BK271.out 2).trans rfl; have hcz16_3 : w14.cell? ⟨gb271, 3, none⟩ = some (.int .i64 a0_3) := (blk_cell BK271.out 3).trans rfl; have hcz16_4 : w14.cell? ⟨gb271, 4, none⟩ = some (.slice A0_4 l0_4.length c0_4) := (blk_cell BK271.out 4).trans rfl; have hfz16_0 := blk_frozen BK271.out 0; have hfz16_1 := blk_frozen BK271.out 1; have hfz16_2 := blk_frozen BK271.out 2; have hfz16_3 := blk_frozen BK271.out 3; have hfz16_4 := blk_frozen BK271.out 4; have q17 : (a1 : Int) ≤ ((l0_4.length : Int) : Int) := of_decide_eq_true (by first | (with_reducible assumption) | assumption); obtain ⟨i017, hi017, _, hsz17, _⟩ := info_parts info59; have hroom17 : l0_4.length ≤ c0_4 := HC0_4.out; have hC17 : Kd.C k59 _ A0_4 l0_4.length l0_4 := HR0_4.out; have hcut17 := cut_to (P := Try.prog) 22 59 .i64 Try.underlying22 hi017 A0_4 l0_4.length c0_4 a1 (of_decide_eq_true (by first | (with_reducible assumption) | assumption)) q17 hroom17; have hr17 := Kd.C_take (m := (a1 : Int).toNat) hC17 (by omega); have hy17 : y277.length = (a1 : Int).toNat := (by rw [Ny277.out, List.length_take]; omega); rw [← Ny277.out] at hr17; rw [← hy17] at hcut17; have HR280 := Aside0.mk hr17; have HC280 := Aside0.mk (show y277.length ≤ c0_4 from by omega); clear hr17 hC17 hroom17 hi017 hsz17; have KY17 := Aside0.mk hy17; clear hy17; replace q17 := eq_true q17) | ((with_reducible refine gate_builtin (b := .append) (xs := #[.tmp 7, .tmp 11]) rfl ?_); at_builtin; refine Kd.R_append_rows k59 (w0 := w) w.heap.size rfl (.tmp 7) (.tmp 11) 22 59 (.agg #[(.int .u16 0), (.int .u16 0)]) 4 rfl Try.underlying22 info59 rfl (by decide) (by omega) v275 y274 y277 _ _ _ (fun _ => True) (fun _ => False) rfl rfl ?aO ?aR (fun _ _ h => h) (fun _ h => h.elim) ?aF ?aB ?aS ?aL ?_; (case aR => repeat (first | exact (Kd.C_below HR280.out HB.out) | (with_reducible refine Kd.C_alloc ?_ _) | (with_reducible refine Kd.C_drewN ?_ _) | (with_reducible refine Kd.C_drew ?_))); (case aB => exact (by repeat (first | (with_reducible first | exact HB.out | apply below_alloc | apply pw_below_drewN | apply below_drew1 | refine below_set ?_ GE271.out | refine below_set ?_ GE272.out | refine below_set ?_ GE273.out) | exact HB.out))); (case aF => exact (fun _ _ => trivial)); (case aO => exact (by (with_reducible repeat (first | apply Kd.R_alloc | apply Kd.R_drewN | apply Kd.R_drew)); exact HO276.out)); (case aS => exact (below_size (by repeat (first | (with_reducible first | exact HB.out | apply below_alloc | apply pw_below_drewN | apply below_drew1 | refine below_set ?_ GE271.out | refine below_set ?_ GE272.out | refine below_set ?_ GE273.out) | exact HB.out)))); (case aL => have := LMc5.out; omega); intro v282 w18 ho hb hg hat; rw [← Ny281.out] at ho; have n0_ := Aside0.mk (blk_grown (g := gb271) (o := .cells #[.int .i64 a0_0, .int .i64 a0_1, .int .i64 a0_2, .int .i64 a0_3, .slice A0_4 l0_4.length c0_4] 24 (0, 0)) (by (with_reducible repeat (first | refine blk_drewN ?_ _ | refine blk_drew ?_ | refine blk_alloc ?_ _)); exact BK271.out) hg (Kd.R_ne HO276.out BK271.out (by decide))); have n1_ := Aside0.mk (blk_grown (g := gb272) (o := .cells #[.int .i64 0, .int .i64 0, .int .i64 0, .int .i64 0, .slice none 0 0] 24 (0, 0)) (by (with_reducible repeat (first | refine blk_drewN ?_ _ | refine blk_drew ?_ | refine blk_alloc ?_ _)); exact BK272.out) hg (Kd.R_ne HO276.out BK272.out (by decide))); have n2_ := Aside0.mk (blk_grown (g := gb273) (o := .cells #[.int .i64 a0_0, .int .i64 a0_1, .int .i64 a0_2, .int .i64 a0_3, .slice A0_4 l0_4.length c0_4] 24 (0, 0)) (by (with_reducible repeat (first | refine blk_drewN ?_ _ | refine blk_drew ?_ | refine blk_alloc ?_ _)); exact BK273.out) hg (Kd.R_ne HO276.out BK273.out (by decide))); have n3_ := Aside0.mk (hb); have n4_ := Aside0.mk (ho); clear BK271; clear BK272; clear BK273; clear HB; clear HO276; have BK271 := n0_; have BK272 := n1_; have BK273 := n2_; have HB := n3_; have HO283 := n4_; clear n0_ n1_ n2_ n3_ n4_; clear ho hb hg hat; obtain ⟨Ao19, co19, eo19⟩ := Kd.R_slice HO283.out; subst eo19; have hcz20_0 : w18.cell? ⟨gb273, 0, none⟩ = some (.int .i64 a0_0) := (blk_cell BK273.out 0).trans rfl; have hcz20_1 : w18.cell? ⟨gb273, 1, none⟩ = some (.int .i64 a0_1) := (blk_cell BK273.out 1).trans rfl; have hcz20_2 : w18.cell? ⟨gb273, 2, none⟩ = some (.int .i64 a0_2) := (blk_cell BK273.out 2).trans rfl; have hcz20_3 : w18.cell? ⟨gb273, 3, none⟩ = some (.int .i64 a0_3) := (blk_cell BK273.out 3).trans rfl; have hcz20_4 : w18.cell? ⟨gb273, 4, none⟩ = some (.slice A0_4 l0_4.length c0_4) := (blk_cell BK273.out 4).trans rfl; have hfz20_0 := blk_frozen BK273.out 0; have hfz20_1 := blk_frozen BK273.out 1; have hfz20_2 := blk_frozen BK273.out 2; have hfz20_3 := blk_frozen BK273.out 3; have hfz20_4 := blk_frozen BK273.out 4; have hcz21_0 : w18.cell? ⟨gb272, 0, none⟩ = some (.int .i64 0) := (blk_cell BK272.out 0).trans rfl; have hcz21_1 : w18.cell? ⟨gb272, 1, none⟩ = some (.int .i64 0) := (blk_cell BK272.out 1).trans rfl; have hcz21_2 : w18.cell? ⟨gb272, 2, none⟩ = some (.int .i64 0) := (blk_cell BK272.out 2).trans rfl; have hcz21_3 : w18.cell? ⟨gb272, 3, none⟩ = some (.int .i64 0) := (blk_cell BK272.out 3).trans rfl; have hcz21_4 : w18.cell? ⟨gb272, 4, none⟩ = some (.slice none 0 0) := (blk_cell BK272.out 4).trans rfl; have hfz21_0 := blk_frozen BK272.out 0; have hfz21_1 := blk_frozen BK272.out 1; have hfz21_2 := blk_frozen BK272.out 2; have hfz21_3 := blk_frozen BK272.out 3; have hfz21_4 := blk_frozen BK272.out 4))
        refine bodyPost_ret (results_cell_row rfl _ _ gb272 24 #[.int .i64 a0_0, .int .i64 a0_1, .int .i64 a0_2, .int .i64 a0_3, .slice Ao19 y281.length co19] (0, 0) _ rfl (by (with_reducible repeat (first | refine blk_drewN ?_ _ | refine blk_drew ?_ | refine blk_alloc ?_ _)); refine blk_put (cs := #[.int .i64 a0_0, .int .i64 a0_1, .int .i64 a0_2, .int .i64 a0_3, .slice none 0 0]) ?_ 4 _ rfl; (with_reducible repeat (first | refine blk_drewN ?_ _ | refine blk_drew ?_ | refine blk_alloc ?_ _)); refine blk_put (cs := #[.int .i64 a0_0, .int .i64 a0_1, .int .i64 a0_2, .int .i64 0, .slice none 0 0]) ?_ 3 _ rfl; (with_reducible repeat (first | refine blk_drewN ?_ _ | refine blk_drew ?_ | refine blk_alloc ?_ _)); refine blk_put (cs := #[.int .i64 a0_0, .int .i64 a0_1, .int .i64 0, .int .i64 0, .slice none 0 0]) ?_ 2 _ rfl; (with_reducible repeat (first | refine blk_drewN ?_ _ | refine blk_drew ?_ | refine blk_alloc ?_ _)); refine blk_put (cs := #[.int .i64 a0_0, .int .i64 0, .int .i64 0, .int .i64 0, .slice none 0 0]) ?_ 1 _ rfl; (with_reducible repeat (first | refine blk_drewN ?_ _ | refine blk_drew ?_ | refine blk_alloc ?_ _)); refine blk_put (cs := #[.int .i64 0, .int .i64 0, .int .i64 0, .int .i64 0, .slice none 0 0]) ?_ 0 _ rfl; (with_reducible repeat (first | refine blk_drewN ?_ _ | refine blk_drew ?_ | refine blk_alloc ?_ _)); refine blk_far ?_ NB272_273.out _; (with_reducible repeat (first | refine blk_drewN ?_ _ | refine blk_drew ?_ | refine blk_alloc ?_ _)); exact BK272.out) Try.underlying24 rfl (by kernel_rfl)) rfl ?_
        exact ⟨_, by first | rfl | (simp [errW_none, errW_some] <;> rfl) | (simp [*, errW_none, errW_some] <;> rfl), by (with_reducible repeat (first | apply Kd.R_alloc | apply Kd.R_drewN | apply Kd.R_drew)); exact Kd.R_mono (Kd.R_far (p := ⟨gb272, 4, none⟩) (Kd.R_far (p := ⟨gb272, 3, none⟩) (Kd.R_far (p := ⟨gb272, 2, none⟩) (Kd.R_far (p := ⟨gb272, 1, none⟩) (Kd.R_far (p := ⟨gb272, 0, none⟩) (Kd.R_far (p := ⟨gb273, 4, none⟩) (Kd.R_types (Kd.R_types HO283.out BK273.out (by decide)) BK272.out (by decide)) (fun _ hk => hk.1.2) (.slice Ao19 y281.length co19)) (fun _ hk => hk.2) (.int .i64 a0_0)) (fun _ hk => hk.2) (.int .i64 a0_1)) (fun _ hk => hk.2) (.int .i64 a0_2)) (fun _ hk => hk.2) (.int .i64 a0_3)) (fun _ hk => hk.2) (.slice Ao19 y281.length co19)) (fun _ hk => trivial), by repeat (first | (with_reducible first | exact HB.out | apply below_alloc | apply pw_below_drewN | apply below_drew1 | refine below_set ?_ GE271.out | refine below_set ?_ GE272.out | refine below_set ?_ GE273.out) | exact HB.out)⟩
      · rw [if_neg c5] at H
        exact absurd H (by simp)
    · rw [if_neg c4] at H
      exact absurd H (by simp)
  · rw [if_neg c3] at H
    exact absurd H (by simp)
end Go.Proofs.Ytdnjmhhjjbdieaa.Q
end
section
namespace Go.Proofs.Ytdnjmhhjjbdieaa.Q
open Go.RowKit Go.Shelf Go.Proofs.YtdnjmhhjjbdieaaW.PrintWords Go.Proofs.YtdnjmhhjjbdieaaW.PrintLast
set_option linter.unusedVariables false
set_option linter.unusedSimpArgs false
attribute [local go_sem] Oper.semAt_some
def reachL (least most short : Int) (n : Nat) (l : List S52) : Nat := ((List.range l.length).filter fun j => !(fwdL least most short n l (j + 1)).isEmpty).length
theorem filter_below (p : Nat → Bool) (i : Nat) : ∀ n, i ≤ n → (∀ j, j < i → p j = true) → (∀ j, i ≤ j → j < n → p j = false) → ((List.range n).filter p).length = i := by
  intro n
  induction n with
  | zero => intro h _ _; obtain rfl : i = 0 := by omega
            rfl
  | succ n ih =>
    intro h h1 h2
    rw [List.range_succ, List.filter_append, List.length_append]
    by_cases e : i = n + 1
    · subst e
      have : (List.range n).filter p = List.range n := List.filter_eq_self.2 (fun j hj => h1 j (by have := List.mem_range.1 hj; omega))
      rw [this]
      simp [h1 n (by omega)]
    · rw [ih (by omega) h1 (fun j a b => h2 j a (by omega))]
      simp [h2 n (by omega) (by omega)]
theorem reach_eq {least most short : Int} {n : Nat} {l : List S52} {i : Nat} (hi : i ≤ l.length) (hne : ∀ j, j ≤ i → ∃ x, fwd least most short n l j x) (hno : i < l.length → ∀ x, ¬ fwd least most short n l (i + 1) x) : reachL least most short n l = i := by
  refine filter_below _ i _ hi (fun j hj => ?_) (fun j h1 h2 => ?_)
  · obtain ⟨x, hx⟩ := hne (j + 1) (by omega)
    cases h : (fwdL least most short n l (j + 1)).isEmpty
    · rfl
    · exact absurd hx (fwdL_empty.1 h x)
  · have : (fwdL least most short n l (j + 1)).isEmpty = true := fwdL_empty.2 (fun x => by
      have := fwd_later (hno (by omega)) (j - i) x
      rwa [show i + 1 + (j - i) = j + 1 by omega] at this)
    simp [this]
def floor_Breaks.f (a0_0 a0_1 a0_2 a0_3 : Int) (l0_4 : List S52) : Option (Int × Int) :=
  match floor_Scene_check.f a0_0 a0_1 a0_2 a0_3 l0_4 with
  | none => none
  | some r => if r = 0 then
      if (fwdL a0_1 a0_2 a0_3 a0_0.toNat l0_4 l0_4.length).isEmpty then some ((reachL a0_1 a0_2 a0_3 a0_0.toNat l0_4 : Nat), 0) else some (0, 7)
    else some (0, r)
theorem check_not_ten {a0 a1 a2 a3 : Int} {l : List S52} {r : Int} (h : floor_Scene_check.f a0 a1 a2 a3 l = some r) : r ≠ 10 := by
  unfold floor_Scene_check.f at h
  split at h
  · cases h; decide
  · split at h <;> cases h <;> decide
set_option maxRecDepth 100000 in
set_option maxHeartbeats 1000000 in
theorem floor_Breaks.calls (a0_0 a0_1 a0_2 a0_3 : Int) (A0_4 : Option Addr) (c0_4 : Nat) (l0_4 : List S52) (r1 r2 : Int) (w : World) (hr0_4 : Kd.C k52 w A0_4 l0_4.length l0_4) (hc0_4 : l0_4.length ≤ c0_4)
    (h : floor_Breaks.f a0_0 a0_1 a0_2 a0_3 l0_4 = some (r1, r2)) :
    Calls Try.prog 28 #[.agg #[.int .i64 a0_0, .int .i64 a0_1, .int .i64 a0_2, .int .i64 a0_3, .slice A0_4 l0_4.length c0_4]] w fun e w' => e = .returned (.tuple #[.int .i64 r1, .int .i64 r2]) ∧ Below w.heap.size w w' := by
  have hu := Try.underlying33
  have hu3 := Try.underlying107
  unfold floor_Breaks.f at h
  go_enter Try.func28, Try.ntmps28
  have HR := Lib.hid (Kd.C_below hr0_4 ((Below.refl _ w).alloc (Nat.le_refl _) (.cells #[.int .i64 a0_0, .int .i64 a0_1, .int .i64 a0_2, .int .i64 a0_3, .slice A0_4 l0_4.length c0_4] 33)))
  clear hr0_4
  cases hck : floor_Scene_check.f a0_0 a0_1 a0_2 a0_3 l0_4 with
  | none => rw [hck] at h; cases h
  | some r =>
    rw [hck] at h
    simp only [] at h
    have HCK := Lib.hid hck
    have HH := Lib.hid h
    clear hck h
    by_cases hr : r = 0
    · subst hr
      obtain ⟨hl, ⟨n, rfl, hn1, hn⟩, _⟩ := check_ok HCK.out
      have hnn : (n : Int).toNat = n := Int.toNat_natCast n
      go_wp2_with fail
      refine (checked.good n a0_1 a0_2 a0_3 A0_4 c0_4 l0_4 _ HR.out hc0_4 HCK.out).mono ?_
      rintro e W1 ⟨g, i, rfl, hb1, sb, cS, bs, hne, hcase⟩
      have h' := HH.out
      simp only [↓reduceIte, hnn] at h'
      have hbw : Below w.heap.size w W1 := ((Below.refl _ w).alloc (Nat.le_refl _) _).trans (hb1.mono (by simp))
      have hob : W1.heap[g]? = some (.cells #[.int .i64 n, .int .i64 a0_1, .int .i64 a0_2, .int .i64 a0_3, .slice A0_4 l0_4.length c0_4, .slice (some ⟨sb, 0, none⟩) (i + 1 : Nat) cS, .int .i64 i] 107 (0, 0)) := by
        rcases hcase with ⟨_, h⟩ | ⟨_, _, h⟩ <;> exact h.obj
      have e6 := cell_of hob (i := 6) rfl
      simp only [List.getElem_toArray, List.getElem_cons_zero, List.getElem_cons_succ] at e6
      have HBW := Lib.hid hbw
      have HNE := Lib.hid hne
      have HCA := Lib.hid hcase
      clear hb1 hbw hne hcase hob HH
      by_cases hi : i = l0_4.length
      · have hem : ¬ (fwdL a0_1 a0_2 a0_3 n l0_4 l0_4.length).isEmpty = true := fun hc => by
          obtain ⟨x, hx⟩ := HNE.out i (Nat.le_refl _)
          rw [hi] at hx
          exact fwdL_empty.1 hc x hx
        rw [if_neg hem] at h'
        obtain ⟨rfl, rfl⟩ := Prod.mk.inj (Option.some.inj h')
        rw [if_pos hi]
        clear h' hem hi
        go_wp2_with fail
        go_ret2
        exact ⟨rfl, HBW.out⟩
      · rcases HCA.out with ⟨hi', _⟩ | ⟨hi', hno, _⟩
        · exact absurd hi' hi
        · have hem : (fwdL a0_1 a0_2 a0_3 n l0_4 l0_4.length).isEmpty = true := fwdL_empty.2 (fun x => by
            have := fwd_later hno (l0_4.length - (i + 1)) x
            rwa [show i + 1 + (l0_4.length - (i + 1)) = l0_4.length by omega] at this)
          have hre := reach_eq (by omega) HNE.out (fun _ => hno)
          rw [if_pos hem, hre] at h'
          obtain ⟨rfl, rfl⟩ := Prod.mk.inj (Option.some.inj h')
          rw [if_neg hi]
          clear h' hem hno hre hi
          go_wp2_with fail
          go_ret2
          exact ⟨rfl, HBW.out⟩
    · have h' := HH.out
      rw [if_neg hr] at h'
      obtain ⟨rfl, rfl⟩ := Prod.mk.inj (Option.some.inj h')
      have hr2 : (r == 0) = false := by simpa using hr
      have hr3 : (r == 10) = false := by simpa using check_not_ten HCK.out
      clear h' HH
      go_wp2_with fail
      refine (checked.bad a0_0 a0_1 a0_2 a0_3 A0_4 c0_4 l0_4 r _ HR.out hc0_4 HCK.out hr).mono ?_
      rintro e W1 ⟨rfl, hb1⟩
      have HBW := Lib.hid (((Below.refl _ w).alloc (Nat.le_refl _) _).trans (hb1.mono (by simp)))
      clear hb1
      go_wp2_with fail
      go_ret2
      exact ⟨rfl, HBW.out⟩
end Go.Proofs.Ytdnjmhhjjbdieaa.Q
end
section
namespace Go.Proofs.Ytdnjmhhjjbdieaa.Q
open Go.RowKit Go.Proofs.YtdnjmhhjjbdieaaW.PrintWords
set_option linter.unusedVariables false
theorem wf_moments {l : List S59} (h : ∀ y ∈ l, (Lit.int .u16 y.f0).wf = true ∧ (Lit.int .u16 y.f1).wf = true) : ∀ y ∈ l, (0 ≤ y.f0 ∧ y.f0 < 65536) ∧ (0 ≤ y.f1 ∧ y.f1 < 65536) := fun y hy => ⟨wf_u16 (h y hy).1, wf_u16 (h y hy).2⟩
theorem fwd_take {least most short : Int} {n : Nat} {l : List S52} {m : Nat} : ∀ (j : Nat) (y : St), j ≤ m → (fwd least most short n (l.take m) j y ↔ fwd least most short n l j y)
  | 0, y, _ => Iff.rfl
  | j + 1, y, h => by
    have e : (l.take m)[j]? = l[j]? := by rw [List.getElem?_take, if_pos (by omega)]
    simp only [fwd, e]
    cases hm : l[j]? with
    | none => rfl
    | some x =>
      simp only []
      unfold nexts
      exact exists_congr (fun x => and_congr (fwd_take j x (by omega)) Iff.rfl)
theorem breaks_none {a1 a2 a3 : Int} {n : Nat} {l : List S52} (hc : floor_Scene_check.f n a1 a2 a3 l = some 0) (he : ∃ x, fwd a1 a2 a3 n l l.length x) : floor_Breaks.f n a1 a2 a3 l = some (0, 7) := by
  unfold floor_Breaks.f
  rw [hc]
  simp only [if_true, Int.toNat_natCast]
  rw [if_neg (fun h => by obtain ⟨x, hx⟩ := he; exact fwdL_empty.1 h x hx)]
theorem breaks_at {a1 a2 a3 : Int} {n : Nat} {l : List S52} (hc : floor_Scene_check.f n a1 a2 a3 l = some 0) {i : Nat} (hi : i < l.length) (hf : ∀ j, j ≤ i → ∃ x, fwd a1 a2 a3 n l j x) (hn : ∀ x, ¬ fwd a1 a2 a3 n l (i + 1) x) : floor_Breaks.f n a1 a2 a3 l = some ((i : Int), 0) := by
  unfold floor_Breaks.f
  rw [hc]
  simp only [if_true, Int.toNat_natCast]
  have : ∀ x, ¬ fwd a1 a2 a3 n l l.length x := fun x => by
    have := fwd_later hn (l.length - (i + 1)) x
    rwa [show i + 1 + (l.length - (i + 1)) = l.length by omega] at this
  rw [if_pos (fwdL_empty.2 this), reach_eq (by omega) hf (fun _ => hn)]
theorem first_at (a0 a1 a2 a3 : Int) (l : List S59) (hl : l.length ≤ 1000000) {m : Nat} (hm : m ≤ l.length) : palantyperef02_First.f a0 a1 a2 a3 l m = some (a0, a1, a2, a3, l.take m) := by
  unfold palantyperef02_First.f
  simp only [Option.bind_some, List.length_nil, Nat.zero_add, List.nil_append]
  rw [if_pos (by omega), if_pos (by omega), Int.toNat_natCast, if_pos (by rw [List.length_take]; omega)]
end Go.Proofs.Ytdnjmhhjjbdieaa.Q
end
section
namespace Go.Proofs.Ytdnjmhhjjbdieaa.Q
open Go.RowKit Go.Proofs.YtdnjmhhjjbdieaaW.PrintWords Go.Proofs.YtdnjmhhjjbdieaaW.PrintLast
set_option linter.unusedVariables false
set_option linter.unusedSimpArgs false
def palantypelaw02_few.f (k : Nat) (a0_0 : Int) (a0_1 : Int) (a0_2 : Int) (a0_3 : Int) (l0_4 : List (S59)) : Option (Bool) := (palantypelaw02_Thin.f a0_0 a0_1 a0_2 a0_3 l0_4).bind fun t114 => (if t114 = true then ((palantyperef02_Fault.f k a0_0 a0_1 a0_2 a0_3 l0_4).bind fun t115 => (if t115 = 0 then (if a0_0 ≤ 3 then (if (l0_4.length : Int) ≤ 5 then (some true) else (if a0_0 ≤ 2 then (some (decide ((l0_4.length : Int) ≤ 6))) else (some false))) else (if a0_0 ≤ 2 then (some (decide ((l0_4.length : Int) ≤ 6))) else (some false))) else (some true))) else (some false))
theorem palantypelaw02_few.mono : ∀ a0 a1 a2 a3 a4 k, LeO (palantypelaw02_few.f k a0 a1 a2 a3 a4) (palantypelaw02_few.f (k + 1) a0 a1 a2 a3 a4) := by
  intro a0 a1 a2 a3 a4 k
  unfold palantypelaw02_few.f
  repeat' first
      | (with_reducible exact palantyperef02_Fault.mono _ _ _ _ _ _)
      | (with_reducible exact LeO.refl _)
      | (with_reducible exact LeO.none _)
      | (with_reducible refine LeO.ite ?_ ?_)
      | (with_reducible refine LeO.bind ?_ (fun _ => ?_))
      | exact palantyperef02_Fault.mono _ _ _ _ _ _
      | exact LeO.none _
      | refine LeO.ite ?_ ?_
      | refine LeO.bind ?_ (fun _ => ?_)
set_option maxHeartbeats 8000000 in
set_option maxRecDepth 100000 in
theorem palantypelaw02_few.calls (k : Nat) (a0_0 : Int) (a0_1 : Int) (a0_2 : Int) (a0_3 : Int) (A0_4 : Option Addr) (c0_4 : Nat) (l0_4 : List (S59)) (r : Bool) (w : World) (hr0_4 : Kd.C k59 w A0_4 l0_4.length l0_4) (hc0_4 : l0_4.length ≤ c0_4) (h : palantypelaw02_few.f k a0_0 a0_1 a0_2 a0_3 l0_4 = some r) :
    Calls Try.prog 16 #[.agg #[.int .i64 a0_0, .int .i64 a0_1, .int .i64 a0_2, .int .i64 a0_3, .slice A0_4 l0_4.length c0_4]] w fun e w' => e = .returned (.bool r) ∧ Below w.heap.size w w' := by
  have hu24 := Try.underlying24
  have HR0_4 := Aside0.mk hr0_4
  have HC0_4 := Aside0.mk hc0_4
  clear hr0_4 hc0_4
  have HB := Aside0.mk (Below.refl w.heap.size w)
  have H : ((palantypelaw02_Thin.f a0_0 a0_1 a0_2 a0_3 l0_4).bind fun t114 => (if t114 = true then ((palantyperef02_Fault.f k a0_0 a0_1 a0_2 a0_3 l0_4).bind fun t115 => (if t115 = 0 then (if a0_0 ≤ 3 then (if (l0_4.length : Int) ≤ 5 then (some true) else (if a0_0 ≤ 2 then (some (decide ((l0_4.length : Int) ≤ 6))) else (some false))) else (if a0_0 ≤ 2 then (some (decide ((l0_4.length : Int) ≤ 6))) else (some false))) else (some true))) else (some false))) = some r := h
  clear h
  replace H := Option.bind_eq_some_iff.mp H
  obtain ⟨t114, A20, H⟩ := H
  replace H : (if t114 = true then ((palantyperef02_Fault.f k a0_0 a0_1 a0_2 a0_3 l0_4).bind fun t115 => (if t115 = 0 then (if a0_0 ≤ 3 then (if (l0_4.length : Int) ≤ 5 then (some true) else (if a0_0 ≤ 2 then (some (decide ((l0_4.length : Int) ≤ 6))) else (some false))) else (if a0_0 ≤ 2 then (some (decide ((l0_4.length : Int) ≤ 6))) else (some false))) else (some true))) else (some false)) = some r := H
  have A2 := Aside0.mk A20
  clear A20
  by_cases c3 : t114 = true
  · subst c3
    have H1 : ((palantyperef02_Fault.f k a0_0 a0_1 a0_2 a0_3 l0_4).bind fun t115 => (if t115 = 0 then (if a0_0 ≤ 3 then (if (l0_4.length : Int) ≤ 5 then (some true) else (if a0_0 ≤ 2 then (some (decide ((l0_4.length : Int) ≤ 6))) else (some false))) else (if a0_0 ≤ 2 then (some (decide ((l0_4.length : Int) ≤ 6))) else (some false))) else (some true))) = some r := by rw [if_pos rfl] at H; exact H
    clear H
    have H := H1
    clear H1
    replace H := Option.bind_eq_some_iff.mp H
    obtain ⟨t115, A40, H⟩ := H
    replace H : (if t115 = 0 then (if a0_0 ≤ 3 then (if (l0_4.length : Int) ≤ 5 then (some true) else (if a0_0 ≤ 2 then (some (decide ((l0_4.length : Int) ≤ 6))) else (some false))) else (if a0_0 ≤ 2 then (some (decide ((l0_4.length : Int) ≤ 6))) else (some false))) else (some true)) = some r := H
    have A4 := Aside0.mk A40
    clear A40
    by_cases c5 : t115 = 0
    · rw [if_pos c5] at H
      have c5b0 : (t115 == 0) = true := beq_iff_eq.mpr c5
      have c5b1 : (t115 != 0) = false := bne_eq_false_iff_eq.mpr c5
      clear c5
      by_cases c6 : a0_0 ≤ 3
      · rw [if_pos c6] at H
        have c6b0 : decide (a0_0 ≤ 3) = true := decide_eq_true c6
        clear c6
        by_cases c7 : (l0_4.length : Int) ≤ 5
        · rw [if_pos c7] at H
          have c7b0 : decide ((l0_4.length : Int) ≤ 5) = true := decide_eq_true c7
          have c7b1 : decide (l0_4.length ≤ 5) = true := decide_eq_true (by omega)
          clear c7
          obtain rfl := Option.some.inj H
          go_enter Try.func16, Try.ntmps16
          go_wp2_with (first | ((with_reducible refine gate_dst (N := 1) rfl ?_); refine box_event ?hg (N := 1) ?hd (cs := #[.int .i64 a0_0, .int .i64 a0_1, .int .i64 a0_2, .int .i64 a0_3, .slice A0_4 l0_4.length c0_4]) (t := 24) ?hr ?_; (case hd => rfl); (case hg => rfl); (case hr => first | (go_simp; done) | (go_simp; rfl)); intro gb113 hg w8 hbox hb; have n0_ := Aside0.mk (below_step (by repeat (first | (with_reducible first | exact HB.out | apply below_alloc | apply pw_below_drewN | apply below_drew1) | exact HB.out)) hb); have n1_ := Aside0.mk (hbox); have n2_ := Aside0.mk ((by rw [hg]; exact (below_size (by repeat (first | (with_reducible first | exact HB.out | apply below_alloc | apply pw_below_drewN | apply below_drew1) | exact HB.out))) : w.heap.size ≤ gb113)); have n3_ := Aside0.mk ((by rw [hg]; exact (below_size (by repeat (first | (with_reducible first | exact HB.out | apply below_alloc | apply pw_below_drewN | apply below_drew1) | exact HB.out))) : w.heap.size ≤ gb113)); clear HB; have HB := n0_; have BK113 := n1_; have GW113 := n2_; have GE113 := n3_; clear n0_ n1_ n2_ n3_; clear hb hbox hg; have hcz9_0 : w8.cell? ⟨gb113, 0, none⟩ = some (.int .i64 a0_0) := (blk_cell BK113.out 0).trans rfl; have hcz9_1 : w8.cell? ⟨gb113, 1, none⟩ = some (.int .i64 a0_1) := (blk_cell BK113.out 1).trans rfl; have hcz9_2 : w8.cell? ⟨gb113, 2, none⟩ = some (.int .i64 a0_2) := (blk_cell BK113.out 2).trans rfl; have hcz9_3 : w8.cell? ⟨gb113, 3, none⟩ = some (.int .i64 a0_3) := (blk_cell BK113.out 3).trans rfl; have hcz9_4 : w8.cell? ⟨gb113, 4, none⟩ = some (.slice A0_4 l0_4.length c0_4) := (blk_cell BK113.out 4).trans rfl; have hfz9_0 := blk_frozen BK113.out 0; have hfz9_1 := blk_frozen BK113.out 1; have hfz9_2 := blk_frozen BK113.out 2; have hfz9_3 := blk_frozen BK113.out 3; have hfz9_4 := blk_frozen BK113.out 4) | ((with_reducible refine gate_callee (f := 33) rfl ?_); refine goesL_ (some 4) rfl rfl Try.func33 (by kernel_rfl) rfl #[.agg #[.int .i64 a0_0, .int .i64 a0_1, .int .i64 a0_2, .int .i64 a0_3, .slice A0_4 l0_4.length c0_4]] rfl (by (try simp only [List.map_toArray, List.map_cons, List.map_nil]); first | done | rfl | (simp only [List.length_drop, List.length_take]; rfl)) ?_; (with_reducible refine (palantypelaw02_Thin.calls a0_0 a0_1 a0_2 a0_3 _ _ l0_4 true _ ?side1 ?side2 A2.out).mono ?_); (case side1 => repeat (first | exact (Kd.C_below HR0_4.out HB.out) | (with_reducible refine Kd.C_alloc ?_ _) | (with_reducible refine Kd.C_drewN ?_ _) | (with_reducible refine Kd.C_drew ?_))); (case side2 => exact HC0_4.out); rintro e w10 ⟨rfl, hb⟩; refine ⟨_, rfl, ?_⟩; have n0_ := Aside0.mk (blk_below (g := gb113) (o := .cells #[.int .i64 a0_0, .int .i64 a0_1, .int .i64 a0_2, .int .i64 a0_3, .slice A0_4 l0_4.length c0_4] 24 (0, 0)) (by (with_reducible repeat (first | refine blk_drewN ?_ _ | refine blk_drew ?_ | refine blk_alloc ?_ _)); exact BK113.out) hb); have n1_ := Aside0.mk (below_step (by repeat (first | (with_reducible first | exact HB.out | apply below_alloc | apply pw_below_drewN | apply below_drew1 | refine below_set ?_ GE113.out) | exact HB.out)) hb); clear BK113; clear HB; have BK113 := n0_; have HB := n1_; clear n0_ n1_; (try clear hb); (try clear hb2); (try clear hk); (try clear hi); have hcz11_0 : w10.cell? ⟨gb113, 0, none⟩ = some (.int .i64 a0_0) := (blk_cell BK113.out 0).trans rfl; have hcz11_1 : w10.cell? ⟨gb113, 1, none⟩ = some (.int .i64 a0_1) := (blk_cell BK113.out 1).trans rfl; have hcz11_2 : w10.cell? ⟨gb113, 2, none⟩ = some (.int .i64 a0_2) := (blk_cell BK113.out 2).trans rfl; have hcz11_3 : w10.cell? ⟨gb113, 3, none⟩ = some (.int .i64 a0_3) := (blk_cell BK113.out 3).trans rfl; have hcz11_4 : w10.cell? ⟨gb113, 4, none⟩ = some (.slice A0_4 l0_4.length c0_4) := (blk_cell BK113.out 4).trans rfl; have hfz11_0 := blk_frozen BK113.out 0; have hfz11_1 := blk_frozen BK113.out 1; have hfz11_2 := blk_frozen BK113.out 2; have hfz11_3 := blk_frozen BK113.out 3; have hfz11_4 := blk_frozen BK113.out 4) | (go_at_call 20; (with_reducible refine (palantyperef02_Fault.calls k a0_0 a0_1 a0_2 a0_3 _ _ l0_4 t115 _ ?side1 ?side2 A4.out).mono ?_); (case side1 => repeat (first | exact (Kd.C_below HR0_4.out HB.out) | (with_reducible refine Kd.C_alloc ?_ _) | (with_reducible refine Kd.C_drewN ?_ _) | (with_reducible refine Kd.C_drew ?_))); (case side2 => exact HC0_4.out); rintro e w12 ⟨rfl, hb⟩; have n0_ := Aside0.mk (blk_below (g := gb113) (o := .cells #[.int .i64 a0_0, .int .i64 a0_1, .int .i64 a0_2, .int .i64 a0_3, .slice A0_4 l0_4.length c0_4] 24 (0, 0)) (by (with_reducible repeat (first | refine blk_drewN ?_ _ | refine blk_drew ?_ | refine blk_alloc ?_ _)); exact BK113.out) hb); have n1_ := Aside0.mk (below_step (by repeat (first | (with_reducible first | exact HB.out | apply below_alloc | apply pw_below_drewN | apply below_drew1 | refine below_set ?_ GE113.out) | exact HB.out)) hb); clear BK113; clear HB; have BK113 := n0_; have HB := n1_; clear n0_ n1_; (try clear hb); (try clear hb2); (try clear hk); (try clear hi); have hcz13_0 : w12.cell? ⟨gb113, 0, none⟩ = some (.int .i64 a0_0) := (blk_cell BK113.out 0).trans rfl; have hcz13_1 : w12.cell? ⟨gb113, 1, none⟩ = some (.int .i64 a0_1) := (blk_cell BK113.out 1).trans rfl; have hcz13_2 : w12.cell? ⟨gb113, 2, none⟩ = some (.int .i64 a0_2) := (blk_cell BK113.out 2).trans rfl; have hcz13_3 : w12.cell? ⟨gb113, 3, none⟩ = some (.int .i64 a0_3) := (blk_cell BK113.out 3).trans rfl; have hcz13_4 : w12.cell? ⟨gb113, 4, none⟩ = some (.slice A0_4 l0_4.length c0_4) := (blk_cell BK113.out 4).trans rfl; have hfz13_0 := blk_frozen BK113.out 0; have hfz13_1 := blk_frozen BK113.out 1; have hfz13_2 := blk_frozen BK113.out 2; have hfz13_3 := blk_frozen BK113.out 3; have hfz13_4 := blk_frozen BK113.out 4))
          go_ret
          exact ⟨by first | rfl | (simp [errW_none, errW_some] <;> rfl) | (simp [*, errW_none, errW_some] <;> rfl), by repeat (first | (with_reducible first | exact HB.out | apply below_alloc | apply pw_below_drewN | apply below_drew1 | refine below_set ?_ GE113.out) | exact HB.out)⟩
        · rw [if_neg c7] at H
          have c7b0 : decide ((l0_4.length : Int) ≤ 5) = false := decide_eq_false c7
          have c7b1 : decide (l0_4.length ≤ 5) = false := decide_eq_false (by omega)
          clear c7
          by_cases c14 : a0_0 ≤ 2
          · rw [if_pos c14] at H
            have c14b0 : decide (a0_0 ≤ 2) = true := decide_eq_true c14
            clear c14
            obtain rfl := Option.some.inj H
            go_enter Try.func16, Try.ntmps16
            go_wp2_with (first | ((with_reducible refine gate_dst (N := 1) rfl ?_); refine box_event ?hg (N := 1) ?hd (cs := #[.int .i64 a0_0, .int .i64 a0_1, .int .i64 a0_2, .int .i64 a0_3, .slice A0_4 l0_4.length c0_4]) (t := 24) ?hr ?_; (case hd => rfl); (case hg => rfl); (case hr => first | (go_simp; done) | (go_simp; rfl)); intro gb113 hg w15 hbox hb; have n0_ := Aside0.mk (below_step (by repeat (first | (with_reducible first | exact HB.out | apply below_alloc | apply pw_below_drewN | apply below_drew1) | exact HB.out)) hb); have n1_ := Aside0.mk (hbox); have n2_ := Aside0.mk ((by rw [hg]; exact (below_size (by repeat (first | (with_reducible first | exact HB.out | apply below_alloc | apply pw_below_drewN | apply below_drew1) | exact HB.out))) : w.heap.size ≤ gb113)); have n3_ := Aside0.mk ((by rw [hg]; exact (below_size (by repeat (first | (with_reducible first | exact HB.out | apply below_alloc | apply pw_below_drewN | apply below_drew1) | exact HB.out))) : w.heap.size ≤ gb113)); clear HB; have HB := n0_; have BK113 := n1_; have GW113 := n2_; have GE113 := n3_; clear n0_ n1_ n2_ n3_; clear hb hbox hg; have hcz16_0 : w15.cell? ⟨gb113, 0, none⟩ = some (.int .i64 a0_0) := (blk_cell BK113.out 0).trans rfl; have hcz16_1 : w15.cell? ⟨gb113, 1, none⟩ = some (.int .i64 a0_1) := (blk_cell BK113.out 1).trans rfl; have hcz16_2 : w15.cell? ⟨gb113, 2, none⟩ = some (.int .i64 a0_2) := (blk_cell BK113.out 2).trans rfl; have hcz16_3 : w15.cell? ⟨gb113, 3, none⟩ = some (.int .i64 a0_3) := (blk_cell BK113.out 3).trans rfl; have hcz16_4 : w15.cell? ⟨gb113, 4, none⟩ = some (.slice A0_4 l0_4.length c0_4) := (blk_cell BK113.out 4).trans rfl; have hfz16_0 := blk_frozen BK113.out 0; have hfz16_1 := blk_frozen BK113.out 1; have hfz16_2 := blk_frozen BK113.out 2; have hfz16_3 := blk_frozen BK113.out 3; have hfz16_4 := blk_frozen BK113.out 4) | ((with_reducible refine gate_callee (f := 33) rfl ?_); refine goesL_ (some 4) rfl rfl Try.func33 (by kernel_rfl) rfl #[.agg #[.int .i64 a0_0, .int .i64 a0_1, .int .i64 a0_2, .int .i64 a0_3, .slice A0_4 l0_4.length c0_4]] rfl (by (try simp only [List.map_toArray, List.map_cons, List.map_nil]); first | done | rfl | (simp only [List.length_drop, List.length_take]; rfl)) ?_; (with_reducible refine (palantypelaw02_Thin.calls a0_0 a0_1 a0_2 a0_3 _ _ l0_4 true _ ?side1 ?side2 A2.out).mono ?_); (case side1 => repeat (first | exact (Kd.C_below HR0_4.out HB.out) | (with_reducible refine Kd.C_alloc ?_ _) | (with_reducible refine Kd.C_drewN ?_ _) | (with_reducible refine Kd.C_drew ?_))); (case side2 => exact HC0_4.out); rintro e w17 ⟨rfl, hb⟩; refine ⟨_, rfl, ?_⟩; have n0_ := Aside0.mk (blk_below (g := gb113) (o := .cells #[.int .i64 a0_0, .int .i64 a0_1, .int .i64 a0_2, .int .i64 a0_3, .slice A0_4 l0_4.length c0_4] 24 (0, 0)) (by (with_reducible repeat (first | refine blk_drewN ?_ _ | refine blk_drew ?_ | refine blk_alloc ?_ _)); exact BK113.out) hb); have n1_ := Aside0.mk (below_step (by repeat (first | (with_reducible first | exact HB.out | apply below_alloc | apply pw_below_drewN | apply below_drew1 | refine below_set ?_ GE113.out) | exact HB.out)) hb); clear BK113; clear HB; have BK113 := n0_; have HB := n1_; clear n0_ n1_; (try clear hb); (try clear hb2); (try clear hk); (try clear hi); have hcz18_0 : w17.cell? ⟨gb113, 0, none⟩ = some (.int .i64 a0_0) := (blk_cell BK113.out 0).trans rfl; have hcz18_1 : w17.cell? ⟨gb113, 1, none⟩ = some (.int .i64 a0_1) := (blk_cell BK113.out 1).trans rfl; have hcz18_2 : w17.cell? ⟨gb113, 2, none⟩ = some (.int .i64 a0_2) := (blk_cell BK113.out 2).trans rfl; have hcz18_3 : w17.cell? ⟨gb113, 3, none⟩ = some (.int .i64 a0_3) := (blk_cell BK113.out 3).trans rfl; have hcz18_4 : w17.cell? ⟨gb113, 4, none⟩ = some (.slice A0_4 l0_4.length c0_4) := (blk_cell BK113.out 4).trans rfl; have hfz18_0 := blk_frozen BK113.out 0; have hfz18_1 := blk_frozen BK113.out 1; have hfz18_2 := blk_frozen BK113.out 2; have hfz18_3 := blk_frozen BK113.out 3; have hfz18_4 := blk_frozen BK113.out 4) | (go_at_call 20; (with_reducible refine (palantyperef02_Fault.calls k a0_0 a0_1 a0_2 a0_3 _ _ l0_4 t115 _ ?side1 ?side2 A4.out).mono ?_); (case side1 => repeat (first | exact (Kd.C_below HR0_4.out HB.out) | (with_reducible refine Kd.C_alloc ?_ _) | (with_reducible refine Kd.C_drewN ?_ _) | (with_reducible refine Kd.C_drew ?_))); (case side2 => exact HC0_4.out); rintro e w19 ⟨rfl, hb⟩; have n0_ := Aside0.mk (blk_below (g := gb113) (o := .cells #[.int .i64 a0_0, .int .i64 a0_1, .int .i64 a0_2, .int .i64 a0_3, .slice A0_4 l0_4.length c0_4] 24 (0, 0)) (by (with_reducible repeat (first | refine blk_drewN ?_ _ | refine blk_drew ?_ | refine blk_alloc ?_ _)); exact BK113.out) hb); have n1_ := Aside0.mk (below_step (by repeat (first | (with_reducible first | exact HB.out | apply below_alloc | apply pw_below_drewN | apply below_drew1 | refine below_set ?_ GE113.out) | exact HB.out)) hb); clear BK113; clear HB; have BK113 := n0_; have HB := n1_; clear n0_ n1_; (try clear hb); (try clear hb2); (try clear hk); (try clear hi); have hcz20_0 : w19.cell? ⟨gb113, 0, none⟩ = some (.int .i64 a0_0) := (blk_cell BK113.out 0).trans rfl; have hcz20_1 : w19.cell? ⟨gb113, 1, none⟩ = some (.int .i64 a0_1) := (blk_cell BK113.out 1).trans rfl; have hcz20_2 : w19.cell? ⟨gb113, 2, none⟩ = some (.int .i64 a0_2) := (blk_cell BK113.out 2).trans rfl; have hcz20_3 : w19.cell? ⟨gb113, 3, none⟩ = some (.int .i64 a0_3) := (blk_cell BK113.out 3).trans rfl; have hcz20_4 : w19.cell? ⟨gb113, 4, none⟩ = some (.slice A0_4 l0_4.length c0_4) := (blk_cell BK113.out 4).trans rfl; have hfz20_0 := blk_frozen BK113.out 0; have hfz20_1 := blk_frozen BK113.out 1; have hfz20_2 := blk_frozen BK113.out 2; have hfz20_3 := blk_frozen BK113.out 3; have hfz20_4 := blk_frozen BK113.out 4))
            go_ret
            exact ⟨by first | rfl | (simp [errW_none, errW_some] <;> rfl) | (simp [*, errW_none, errW_some] <;> rfl), by repeat (first | (with_reducible first | exact HB.out | apply below_alloc | apply pw_below_drewN | apply below_drew1 | refine below_set ?_ GE113.out) | exact HB.out)⟩
          · rw [if_neg c14] at H
            have c14b0 : decide (a0_0 ≤ 2) = false := decide_eq_false c14
            clear c14
            obtain rfl := Option.some.inj H
            go_enter Try.func16, Try.ntmps16
            go_wp2_with (first | ((with_reducible refine gate_dst (N := 1) rfl ?_); refine box_event ?hg (N := 1) ?hd (cs := #[.int .i64 a0_0, .int .i64 a0_1, .int .i64 a0_2, .int .i64 a0_3, .slice A0_4 l0_4.length c0_4]) (t := 24) ?hr ?_; (case hd => rfl); (case hg => rfl); (case hr => first | (go_simp; done) | (go_simp; rfl)); intro gb113 hg w21 hbox hb; have n0_ := Aside0.mk (below_step (by repeat (first | (with_reducible first | exact HB.out | apply below_alloc | apply pw_below_drewN | apply below_drew1) | exact HB.out)) hb); have n1_ := Aside0.mk (hbox); have n2_ := Aside0.mk ((by rw [hg]; exact (below_size (by repeat (first | (with_reducible first | exact HB.out | apply below_alloc | apply pw_below_drewN | apply below_drew1) | exact HB.out))) : w.heap.size ≤ gb113)); have n3_ := Aside0.mk ((by rw [hg]; exact (below_size (by repeat (first | (with_reducible first | exact HB.out | apply below_alloc | apply pw_below_drewN | apply below_drew1) | exact HB.out))) : w.heap.size ≤ gb113)); clear HB; have HB := n0_; have BK113 := n1_; have GW113 := n2_; have GE113 := n3_; clear n0_ n1_ n2_ n3_; clear hb hbox hg; have hcz22_0 : w21.cell? ⟨gb113, 0, none⟩ = some (.int .i64 a0_0) := (blk_cell BK113.out 0).trans rfl; have hcz22_1 : w21.cell? ⟨gb113, 1, none⟩ = some (.int .i64 a0_1) := (blk_cell BK113.out 1).trans rfl; have hcz22_2 : w21.cell? ⟨gb113, 2, none⟩ = some (.int .i64 a0_2) := (blk_cell BK113.out 2).trans rfl; have hcz22_3 : w21.cell? ⟨gb113, 3, none⟩ = some (.int .i64 a0_3) := (blk_cell BK113.out 3).trans rfl; have hcz22_4 : w21.cell? ⟨gb113, 4, none⟩ = some (.slice A0_4 l0_4.length c0_4) := (blk_cell BK113.out 4).trans rfl; have hfz22_0 := blk_frozen BK113.out 0; have hfz22_1 := blk_frozen BK113.out 1; have hfz22_2 := blk_frozen BK113.out 2; have hfz22_3 := blk_frozen BK113.out 3; have hfz22_4 := blk_frozen BK113.out 4) | ((with_reducible refine gate_callee (f := 33) rfl ?_); refine goesL_ (some 4) rfl rfl Try.func33 (by kernel_rfl) rfl #[.agg #[.int .i64 a0_0, .int .i64 a0_1, .int .i64 a0_2, .int .i64 a0_3, .slice A0_4 l0_4.length c0_4]] rfl (by (try simp only [List.map_toArray, List.map_cons, List.map_nil]); first | done | rfl | (simp only [List.length_drop, List.length_take]; rfl)) ?_; (with_reducible refine (palantypelaw02_Thin.calls a0_0 a0_1 a0_2 a0_3 _ _ l0_4 true _ ?side1 ?side2 A2.out).mono ?_); (case side1 => repeat (first | exact (Kd.C_below HR0_4.out HB.out) | (with_reducible refine Kd.C_alloc ?_ _) | (with_reducible refine Kd.C_drewN ?_ _) | (with_reducible refine Kd.C_drew ?_))); (case side2 => exact HC0_4.out); rintro e w23 ⟨rfl, hb⟩; refine ⟨_, rfl, ?_⟩; have n0_ := Aside0.mk (blk_below (g := gb113) (o := .cells #[.int .i64 a0_0, .int .i64 a0_1, .int .i64 a0_2, .int .i64 a0_3, .slice A0_4 l0_4.length c0_4] 24 (0, 0)) (by (with_reducible repeat (first | refine blk_drewN ?_ _ | refine blk_drew ?_ | refine blk_alloc ?_ _)); exact BK113.out) hb); have n1_ := Aside0.mk (below_step (by repeat (first | (with_reducible first | exact HB.out | apply below_alloc | apply pw_below_drewN | apply below_drew1 | refine below_set ?_ GE113.out) | exact HB.out)) hb); clear BK113; clear HB; have BK113 := n0_; have HB := n1_; clear n0_ n1_; (try clear hb); (try clear hb2); (try clear hk); (try clear hi); have hcz24_0 : w23.cell? ⟨gb113, 0, none⟩ = some (.int .i64 a0_0) := (blk_cell BK113.out 0).trans rfl; have hcz24_1 : w23.cell? ⟨gb113, 1, none⟩ = some (.int .i64 a0_1) := (blk_cell BK113.out 1).trans rfl; have hcz24_2 : w23.cell? ⟨gb113, 2, none⟩ = some (.int .i64 a0_2) := (blk_cell BK113.out 2).trans rfl; have hcz24_3 : w23.cell? ⟨gb113, 3, none⟩ = some (.int .i64 a0_3) := (blk_cell BK113.out 3).trans rfl; have hcz24_4 : w23.cell? ⟨gb113, 4, none⟩ = some (.slice A0_4 l0_4.length c0_4) := (blk_cell BK113.out 4).trans rfl; have hfz24_0 := blk_frozen BK113.out 0; have hfz24_1 := blk_frozen BK113.out 1; have hfz24_2 := blk_frozen BK113.out 2; have hfz24_3 := blk_frozen BK113.out 3; have hfz24_4 := blk_frozen BK113.out 4) | (go_at_call 20; (with_reducible refine (palantyperef02_Fault.calls k a0_0 a0_1 a0_2 a0_3 _ _ l0_4 t115 _ ?side1 ?side2 A4.out).mono ?_); (case side1 => repeat (first | exact (Kd.C_below HR0_4.out HB.out) | (with_reducible refine Kd.C_alloc ?_ _) | (with_reducible refine Kd.C_drewN ?_ _) | (with_reducible refine Kd.C_drew ?_))); (case side2 => exact HC0_4.out); rintro e w25 ⟨rfl, hb⟩; have n0_ := Aside0.mk (blk_below (g := gb113) (o := .cells #[.int .i64 a0_0, .int .i64 a0_1, .int .i64 a0_2, .int .i64 a0_3, .slice A0_4 l0_4.length c0_4] 24 (0, 0)) (by (with_reducible repeat (first | refine blk_drewN ?_ _ | refine blk_drew ?_ | refine blk_alloc ?_ _)); exact BK113.out) hb); have n1_ := Aside0.mk (below_step (by repeat (first | (with_reducible first | exact HB.out | apply below_alloc | apply pw_below_drewN | apply below_drew1 | refine below_set ?_ GE113.out) | exact HB.out)) hb); clear BK113; clear HB; have BK113 := n0_; have HB := n1_; clear n0_ n1_; (try clear hb); (try clear hb2); (try clear hk); (try clear hi); have hcz26_0 : w25.cell? ⟨gb113, 0, none⟩ = some (.int .i64 a0_0) := (blk_cell BK113.out 0).trans rfl; have hcz26_1 : w25.cell? ⟨gb113, 1, none⟩ = some (.int .i64 a0_1) := (blk_cell BK113.out 1).trans rfl; have hcz26_2 : w25.cell? ⟨gb113, 2, none⟩ = some (.int .i64 a0_2) := (blk_cell BK113.out 2).trans rfl; have hcz26_3 : w25.cell? ⟨gb113, 3, none⟩ = some (.int .i64 a0_3) := (blk_cell BK113.out 3).trans rfl; have hcz26_4 : w25.cell? ⟨gb113, 4, none⟩ = some (.slice A0_4 l0_4.length c0_4) := (blk_cell BK113.out 4).trans rfl; have hfz26_0 := blk_frozen BK113.out 0; have hfz26_1 := blk_frozen BK113.out 1; have hfz26_2 := blk_frozen BK113.out 2; have hfz26_3 := blk_frozen BK113.out 3; have hfz26_4 := blk_frozen BK113.out 4))
            go_ret
            exact ⟨by first | rfl | (simp [errW_none, errW_some] <;> rfl) | (simp [*, errW_none, errW_some] <;> rfl), by repeat (first | (with_reducible first | exact HB.out | apply below_alloc | apply pw_below_drewN | apply below_drew1 | refine below_set ?_ GE113.out) | exact HB.out)⟩
      · rw [if_neg c6] at H
        have c6b0 : decide (a0_0 ≤ 3) = false := decide_eq_false c6
        clear c6
        by_cases c27 : a0_0 ≤ 2
        · rw [if_pos c27] at H
          have c27b0 : decide (a0_0 ≤ 2) = true := decide_eq_true c27
          clear c27
          obtain rfl := Option.some.inj H
          go_enter Try.func16, Try.ntmps16
          go_wp2_with (first | ((with_reducible refine gate_dst (N := 1) rfl ?_); refine box_event ?hg (N := 1) ?hd (cs := #[.int .i64 a0_0, .int .i64 a0_1, .int .i64 a0_2, .int .i64 a0_3, .slice A0_4 l0_4.length c0_4]) (t := 24) ?hr ?_; (case hd => rfl); (case hg => rfl); (case hr => first | (go_simp; done) | (go_simp; rfl)); intro gb113 hg w28 hbox hb; have n0_ := Aside0.mk (below_step (by repeat (first | (with_reducible first | exact HB.out | apply below_alloc | apply pw_below_drewN | apply below_drew1) | exact HB.out)) hb); have n1_ := Aside0.mk (hbox); have n2_ := Aside0.mk ((by rw [hg]; exact (below_size (by repeat (first | (with_reducible first | exact HB.out | apply below_alloc | apply pw_below_drewN | apply below_drew1) | exact HB.out))) : w.heap.size ≤ gb113)); have n3_ := Aside0.mk ((by rw [hg]; exact (below_size (by repeat (first | (with_reducible first | exact HB.out | apply below_alloc | apply pw_below_drewN | apply below_drew1) | exact HB.out))) : w.heap.size ≤ gb113)); clear HB; have HB := n0_; have BK113 := n1_; have GW113 := n2_; have GE113 := n3_; clear n0_ n1_ n2_ n3_; clear hb hbox hg; have hcz29_0 : w28.cell? ⟨gb113, 0, none⟩ = some (.int .i64 a0_0) := (blk_cell BK113.out 0).trans rfl; have hcz29_1 : w28.cell? ⟨gb113, 1, none⟩ = some (.int .i64 a0_1) := (blk_cell BK113.out 1).trans rfl; have hcz29_2 : w28.cell? ⟨gb113, 2, none⟩ = some (.int .i64 a0_2) := (blk_cell BK113.out 2).trans rfl; have hcz29_3 : w28.cell? ⟨gb113, 3, none⟩ = some (.int .i64 a0_3) := (blk_cell BK113.out 3).trans rfl; have hcz29_4 : w28.cell? ⟨gb113, 4, none⟩ = some (.slice A0_4 l0_4.length c0_4) := (blk_cell BK113.out 4).trans rfl; have hfz29_0 := blk_frozen BK113.out 0; have hfz29_1 := blk_frozen BK113.out 1; have hfz29_2 := blk_frozen BK113.out 2; have hfz29_3 := blk_frozen BK113.out 3; have hfz29_4 := blk_frozen BK113.out 4) | ((with_reducible refine gate_callee (f := 33) rfl ?_); refine goesL_ (some 4) rfl rfl Try.func33 (by kernel_rfl) rfl #[.agg #[.int .i64 a0_0, .int .i64 a0_1, .int .i64 a0_2, .int .i64 a0_3, .slice A0_4 l0_4.length c0_4]] rfl (by (try simp only [List.map_toArray, List.map_cons, List.map_nil]); first | done | rfl | (simp only [List.length_drop, List.length_take]; rfl)) ?_; (with_reducible refine (palantypelaw02_Thin.calls a0_0 a0_1 a0_2 a0_3 _ _ l0_4 true _ ?side1 ?side2 A2.out).mono ?_); (case side1 => repeat (first | exact (Kd.C_below HR0_4.out HB.out) | (with_reducible refine Kd.C_alloc ?_ _) | (with_reducible refine Kd.C_drewN ?_ _) | (with_reducible refine Kd.C_drew ?_))); (case side2 => exact HC0_4.out); rintro e w30 ⟨rfl, hb⟩; refine ⟨_, rfl, ?_⟩; have n0_ := Aside0.mk (blk_below (g := gb113) (o := .cells #[.int .i64 a0_0, .int .i64 a0_1, .int .i64 a0_2, .int .i64 a0_3, .slice A0_4 l0_4.length c0_4] 24 (0, 0)) (by (with_reducible repeat (first | refine blk_drewN ?_ _ | refine blk_drew ?_ | refine blk_alloc ?_ _)); exact BK113.out) hb); have n1_ := Aside0.mk (below_step (by repeat (first | (with_reducible first | exact HB.out | apply below_alloc | apply pw_below_drewN | apply below_drew1 | refine below_set ?_ GE113.out) | exact HB.out)) hb); clear BK113; clear HB; have BK113 := n0_; have HB := n1_; clear n0_ n1_; (try clear hb); (try clear hb2); (try clear hk); (try clear hi); have hcz31_0 : w30.cell? ⟨gb113, 0, none⟩ = some (.int .i64 a0_0) := (blk_cell BK113.out 0).trans rfl; have hcz31_1 : w30.cell? ⟨gb113, 1, none⟩ = some (.int .i64 a0_1) := (blk_cell BK113.out 1).trans rfl; have hcz31_2 : w30.cell? ⟨gb113, 2, none⟩ = some (.int .i64 a0_2) := (blk_cell BK113.out 2).trans rfl; have hcz31_3 : w30.cell? ⟨gb113, 3, none⟩ = some (.int .i64 a0_3) := (blk_cell BK113.out 3).trans rfl; have hcz31_4 : w30.cell? ⟨gb113, 4, none⟩ = some (.slice A0_4 l0_4.length c0_4) := (blk_cell BK113.out 4).trans rfl; have hfz31_0 := blk_frozen BK113.out 0; have hfz31_1 := blk_frozen BK113.out 1; have hfz31_2 := blk_frozen BK113.out 2; have hfz31_3 := blk_frozen BK113.out 3; have hfz31_4 := blk_frozen BK113.out 4) | (go_at_call 20; (with_reducible refine (palantyperef02_Fault.calls k a0_0 a0_1 a0_2 a0_3 _ _ l0_4 t115 _ ?side1 ?side2 A4.out).mono ?_); (case side1 => repeat (first | exact (Kd.C_below HR0_4.out HB.out) | (with_reducible refine Kd.C_alloc ?_ _) | (with_reducible refine Kd.C_drewN ?_ _) | (with_reducible refine Kd.C_drew ?_))); (case side2 => exact HC0_4.out); rintro e w32 ⟨rfl, hb⟩; have n0_ := Aside0.mk (blk_below (g := gb113) (o := .cells #[.int .i64 a0_0, .int .i64 a0_1, .int .i64 a0_2, .int .i64 a0_3, .slice A0_4 l0_4.length c0_4] 24 (0, 0)) (by (with_reducible repeat (first | refine blk_drewN ?_ _ | refine blk_drew ?_ | refine blk_alloc ?_ _)); exact BK113.out) hb); have n1_ := Aside0.mk (below_step (by repeat (first | (with_reducible first | exact HB.out | apply below_alloc | apply pw_below_drewN | apply below_drew1 | refine below_set ?_ GE113.out) | exact HB.out)) hb); clear BK113; clear HB; have BK113 := n0_; have HB := n1_; clear n0_ n1_; (try clear hb); (try clear hb2); (try clear hk); (try clear hi); have hcz33_0 : w32.cell? ⟨gb113, 0, none⟩ = some (.int .i64 a0_0) := (blk_cell BK113.out 0).trans rfl; have hcz33_1 : w32.cell? ⟨gb113, 1, none⟩ = some (.int .i64 a0_1) := (blk_cell BK113.out 1).trans rfl; have hcz33_2 : w32.cell? ⟨gb113, 2, none⟩ = some (.int .i64 a0_2) := (blk_cell BK113.out 2).trans rfl; have hcz33_3 : w32.cell? ⟨gb113, 3, none⟩ = some (.int .i64 a0_3) := (blk_cell BK113.out 3).trans rfl; have hcz33_4 : w32.cell? ⟨gb113, 4, none⟩ = some (.slice A0_4 l0_4.length c0_4) := (blk_cell BK113.out 4).trans rfl; have hfz33_0 := blk_frozen BK113.out 0; have hfz33_1 := blk_frozen BK113.out 1; have hfz33_2 := blk_frozen BK113.out 2; have hfz33_3 := blk_frozen BK113.out 3; have hfz33_4 := blk_frozen BK113.out 4))
          go_ret
          exact ⟨by first | rfl | (simp [errW_none, errW_some] <;> rfl) | (simp [*, errW_none, errW_some] <;> rfl), by repeat (first | (with_reducible first | exact HB.out | apply below_alloc | apply pw_below_drewN | apply below_drew1 | refine below_set ?_ GE113.out) | exact HB.out)⟩
        · rw [if_neg c27] at H
          have c27b0 : decide (a0_0 ≤ 2) = false := decide_eq_false c27
          clear c27
          obtain rfl := Option.some.inj H
          go_enter Try.func16, Try.ntmps16
          go_wp2_with (first | ((with_reducible refine gate_dst (N := 1) rfl ?_); refine box_event ?hg (N := 1) ?hd (cs := #[.int .i64 a0_0, .int .i64 a0_1, .int .i64 a0_2, .int .i64 a0_3, .slice A0_4 l0_4.length c0_4]) (t := 24) ?hr ?_; (case hd => rfl); (case hg => rfl); (case hr => first | (go_simp; done) | (go_simp; rfl)); intro gb113 hg w34 hbox hb; have n0_ := Aside0.mk (below_step (by repeat (first | (with_reducible first | exact HB.out | apply below_alloc | apply pw_below_drewN | apply below_drew1) | exact HB.out)) hb); have n1_ := Aside0.mk (hbox); have n2_ := Aside0.mk ((by rw [hg]; exact (below_size (by repeat (first | (with_reducible first | exact HB.out | apply below_alloc | apply pw_below_drewN | apply below_drew1) | exact HB.out))) : w.heap.size ≤ gb113)); have n3_ := Aside0.mk ((by rw [hg]; exact (below_size (by repeat (first | (with_reducible first | exact HB.out | apply below_alloc | apply pw_below_drewN | apply below_drew1) | exact HB.out))) : w.heap.size ≤ gb113)); clear HB; have HB := n0_; have BK113 := n1_; have GW113 := n2_; have GE113 := n3_; clear n0_ n1_ n2_ n3_; clear hb hbox hg; have hcz35_0 : w34.cell? ⟨gb113, 0, none⟩ = some (.int .i64 a0_0) := (blk_cell BK113.out 0).trans rfl; have hcz35_1 : w34.cell? ⟨gb113, 1, none⟩ = some (.int .i64 a0_1) := (blk_cell BK113.out 1).trans rfl; have hcz35_2 : w34.cell? ⟨gb113, 2, none⟩ = some (.int .i64 a0_2) := (blk_cell BK113.out 2).trans rfl; have hcz35_3 : w34.cell? ⟨gb113, 3, none⟩ = some (.int .i64 a0_3) := (blk_cell BK113.out 3).trans rfl; have hcz35_4 : w34.cell? ⟨gb113, 4, none⟩ = some (.slice A0_4 l0_4.length c0_4) := (blk_cell BK113.out 4).trans rfl; have hfz35_0 := blk_frozen BK113.out 0; have hfz35_1 := blk_frozen BK113.out 1; have hfz35_2 := blk_frozen BK113.out 2; have hfz35_3 := blk_frozen BK113.out 3; have hfz35_4 := blk_frozen BK113.out 4) | ((with_reducible refine gate_callee (f := 33) rfl ?_); refine goesL_ (some 4) rfl rfl Try.func33 (by kernel_rfl) rfl #[.agg #[.int .i64 a0_0, .int .i64 a0_1, .int .i64 a0_2, .int .i64 a0_3, .slice A0_4 l0_4.length c0_4]] rfl (by (try simp only [List.map_toArray, List.map_cons, List.map_nil]); first | done | rfl | (simp only [List.length_drop, List.length_take]; rfl)) ?_; (with_reducible refine (palantypelaw02_Thin.calls a0_0 a0_1 a0_2 a0_3 _ _ l0_4 true _ ?side1 ?side2 A2.out).mono ?_); (case side1 => repeat (first | exact (Kd.C_below HR0_4.out HB.out) | (with_reducible refine Kd.C_alloc ?_ _) | (with_reducible refine Kd.C_drewN ?_ _) | (with_reducible refine Kd.C_drew ?_))); (case side2 => exact HC0_4.out); rintro e w36 ⟨rfl, hb⟩; refine ⟨_, rfl, ?_⟩; have n0_ := Aside0.mk (blk_below (g := gb113) (o := .cells #[.int .i64 a0_0, .int .i64 a0_1, .int .i64 a0_2, .int .i64 a0_3, .slice A0_4 l0_4.length c0_4] 24 (0, 0)) (by (with_reducible repeat (first | refine blk_drewN ?_ _ | refine blk_drew ?_ | refine blk_alloc ?_ _)); exact BK113.out) hb); have n1_ := Aside0.mk (below_step (by repeat (first | (with_reducible first | exact HB.out | apply below_alloc | apply pw_below_drewN | apply below_drew1 | refine below_set ?_ GE113.out) | exact HB.out)) hb); clear BK113; clear HB; have BK113 := n0_; have HB := n1_; clear n0_ n1_; (try clear hb); (try clear hb2); (try clear hk); (try clear hi); have hcz37_0 : w36.cell? ⟨gb113, 0, none⟩ = some (.int .i64 a0_0) := (blk_cell BK113.out 0).trans rfl; have hcz37_1 : w36.cell? ⟨gb113, 1, none⟩ = some (.int .i64 a0_1) := (blk_cell BK113.out 1).trans rfl; have hcz37_2 : w36.cell? ⟨gb113, 2, none⟩ = some (.int .i64 a0_2) := (blk_cell BK113.out 2).trans rfl; have hcz37_3 : w36.cell? ⟨gb113, 3, none⟩ = some (.int .i64 a0_3) := (blk_cell BK113.out 3).trans rfl; have hcz37_4 : w36.cell? ⟨gb113, 4, none⟩ = some (.slice A0_4 l0_4.length c0_4) := (blk_cell BK113.out 4).trans rfl; have hfz37_0 := blk_frozen BK113.out 0; have hfz37_1 := blk_frozen BK113.out 1; have hfz37_2 := blk_frozen BK113.out 2; have hfz37_3 := blk_frozen BK113.out 3; have hfz37_4 := blk_frozen BK113.out 4) | (go_at_call 20; (with_reducible refine (palantyperef02_Fault.calls k a0_0 a0_1 a0_2 a0_3 _ _ l0_4 t115 _ ?side1 ?side2 A4.out).mono ?_); (case side1 => repeat (first | exact (Kd.C_below HR0_4.out HB.out) | (with_reducible refine Kd.C_alloc ?_ _) | (with_reducible refine Kd.C_drewN ?_ _) | (with_reducible refine Kd.C_drew ?_))); (case side2 => exact HC0_4.out); rintro e w38 ⟨rfl, hb⟩; have n0_ := Aside0.mk (blk_below (g := gb113) (o := .cells #[.int .i64 a0_0, .int .i64 a0_1, .int .i64 a0_2, .int .i64 a0_3, .slice A0_4 l0_4.length c0_4] 24 (0, 0)) (by (with_reducible repeat (first | refine blk_drewN ?_ _ | refine blk_drew ?_ | refine blk_alloc ?_ _)); exact BK113.out) hb); have n1_ := Aside0.mk (below_step (by repeat (first | (with_reducible first | exact HB.out | apply below_alloc | apply pw_below_drewN | apply below_drew1 | refine below_set ?_ GE113.out) | exact HB.out)) hb); clear BK113; clear HB; have BK113 := n0_; have HB := n1_; clear n0_ n1_; (try clear hb); (try clear hb2); (try clear hk); (try clear hi); have hcz39_0 : w38.cell? ⟨gb113, 0, none⟩ = some (.int .i64 a0_0) := (blk_cell BK113.out 0).trans rfl; have hcz39_1 : w38.cell? ⟨gb113, 1, none⟩ = some (.int .i64 a0_1) := (blk_cell BK113.out 1).trans rfl; have hcz39_2 : w38.cell? ⟨gb113, 2, none⟩ = some (.int .i64 a0_2) := (blk_cell BK113.out 2).trans rfl; have hcz39_3 : w38.cell? ⟨gb113, 3, none⟩ = some (.int .i64 a0_3) := (blk_cell BK113.out 3).trans rfl; have hcz39_4 : w38.cell? ⟨gb113, 4, none⟩ = some (.slice A0_4 l0_4.length c0_4) := (blk_cell BK113.out 4).trans rfl; have hfz39_0 := blk_frozen BK113.out 0; have hfz39_1 := blk_frozen BK113.out 1; have hfz39_2 := blk_frozen BK113.out 2; have hfz39_3 := blk_frozen BK113.out 3; have hfz39_4 := blk_frozen BK113.out 4))
          go_ret
          exact ⟨by first | rfl | (simp [errW_none, errW_some] <;> rfl) | (simp [*, errW_none, errW_some] <;> rfl), by repeat (first | (with_reducible first | exact HB.out | apply below_alloc | apply pw_below_drewN | apply below_drew1 | refine below_set ?_ GE113.out) | exact HB.out)⟩
    · rw [if_neg c5] at H
      have c5b0 : (t115 == 0) = false := beq_eq_false_iff_ne.mpr c5
      have c5b1 : (t115 != 0) = true := bne_iff_ne.mpr c5
      obtain rfl := Option.some.inj H
      go_enter Try.func16, Try.ntmps16
      go_wp2_with (first | ((with_reducible refine gate_dst (N := 1) rfl ?_); refine box_event ?hg (N := 1) ?hd (cs := #[.int .i64 a0_0, .int .i64 a0_1, .int .i64 a0_2, .int .i64 a0_3, .slice A0_4 l0_4.length c0_4]) (t := 24) ?hr ?_; (case hd => rfl); (case hg => rfl); (case hr => first | (go_simp; done) | (go_simp; rfl)); intro gb113 hg w40 hbox hb; have n0_ := Aside0.mk (below_step (by repeat (first | (with_reducible first | exact HB.out | apply below_alloc | apply pw_below_drewN | apply below_drew1) | exact HB.out)) hb); have n1_ := Aside0.mk (hbox); have n2_ := Aside0.mk ((by rw [hg]; exact (below_size (by repeat (first | (with_reducible first | exact HB.out | apply below_alloc | apply pw_below_drewN | apply below_drew1) | exact HB.out))) : w.heap.size ≤ gb113)); have n3_ := Aside0.mk ((by rw [hg]; exact (below_size (by repeat (first | (with_reducible first | exact HB.out | apply below_alloc | apply pw_below_drewN | apply below_drew1) | exact HB.out))) : w.heap.size ≤ gb113)); clear HB; have HB := n0_; have BK113 := n1_; have GW113 := n2_; have GE113 := n3_; clear n0_ n1_ n2_ n3_; clear hb hbox hg; have hcz41_0 : w40.cell? ⟨gb113, 0, none⟩ = some (.int .i64 a0_0) := (blk_cell BK113.out 0).trans rfl; have hcz41_1 : w40.cell? ⟨gb113, 1, none⟩ = some (.int .i64 a0_1) := (blk_cell BK113.out 1).trans rfl; have hcz41_2 : w40.cell? ⟨gb113, 2, none⟩ = some (.int .i64 a0_2) := (blk_cell BK113.out 2).trans rfl; have hcz41_3 : w40.cell? ⟨gb113, 3, none⟩ = some (.int .i64 a0_3) := (blk_cell BK113.out 3).trans rfl; have hcz41_4 : w40.cell? ⟨gb113, 4, none⟩ = some (.slice A0_4 l0_4.length c0_4) := (blk_cell BK113.out 4).trans rfl; have hfz41_0 := blk_frozen BK113.out 0; have hfz41_1 := blk_frozen BK113.out 1; have hfz41_2 := blk_frozen BK113.out 2; have hfz41_3 := blk_frozen BK113.out 3; have hfz41_4 := blk_frozen BK113.out 4) | ((with_reducible refine gate_callee (f := 33) rfl ?_); refine goesL_ (some 4) rfl rfl Try.func33 (by kernel_rfl) rfl #[.agg #[.int .i64 a0_0, .int .i64 a0_1, .int .i64 a0_2, .int .i64 a0_3, .slice A0_4 l0_4.length c0_4]] rfl (by (try simp only [List.map_toArray, List.map_cons, List.map_nil]); first | done | rfl | (simp only [List.length_drop, List.length_take]; rfl)) ?_; (with_reducible refine (palantypelaw02_Thin.calls a0_0 a0_1 a0_2 a0_3 _ _ l0_4 true _ ?side1 ?side2 A2.out).mono ?_); (case side1 => repeat (first | exact (Kd.C_below HR0_4.out HB.out) | (with_reducible refine Kd.C_alloc ?_ _) | (with_reducible refine Kd.C_drewN ?_ _) | (with_reducible refine Kd.C_drew ?_))); (case side2 => exact HC0_4.out); rintro e w42 ⟨rfl, hb⟩; refine ⟨_, rfl, ?_⟩; have n0_ := Aside0.mk (blk_below (g := gb113) (o := .cells #[.int .i64 a0_0, .int .i64 a0_1, .int .i64 a0_2, .int .i64 a0_3, .slice A0_4 l0_4.length c0_4] 24 (0, 0)) (by (with_reducible repeat (first | refine blk_drewN ?_ _ | refine blk_drew ?_ | refine blk_alloc ?_ _)); exact BK113.out) hb); have n1_ := Aside0.mk (below_step (by repeat (first | (with_reducible first | exact HB.out | apply below_alloc | apply pw_below_drewN | apply below_drew1 | refine below_set ?_ GE113.out) | exact HB.out)) hb); clear BK113; clear HB; have BK113 := n0_; have HB := n1_; clear n0_ n1_; (try clear hb); (try clear hb2); (try clear hk); (try clear hi); have hcz43_0 : w42.cell? ⟨gb113, 0, none⟩ = some (.int .i64 a0_0) := (blk_cell BK113.out 0).trans rfl; have hcz43_1 : w42.cell? ⟨gb113, 1, none⟩ = some (.int .i64 a0_1) := (blk_cell BK113.out 1).trans rfl; have hcz43_2 : w42.cell? ⟨gb113, 2, none⟩ = some (.int .i64 a0_2) := (blk_cell BK113.out 2).trans rfl; have hcz43_3 : w42.cell? ⟨gb113, 3, none⟩ = some (.int .i64 a0_3) := (blk_cell BK113.out 3).trans rfl; have hcz43_4 : w42.cell? ⟨gb113, 4, none⟩ = some (.slice A0_4 l0_4.length c0_4) := (blk_cell BK113.out 4).trans rfl; have hfz43_0 := blk_frozen BK113.out 0; have hfz43_1 := blk_frozen BK113.out 1; have hfz43_2 := blk_frozen BK113.out 2; have hfz43_3 := blk_frozen BK113.out 3; have hfz43_4 := blk_frozen BK113.out 4) | (go_at_call 20; (with_reducible refine (palantyperef02_Fault.calls k a0_0 a0_1 a0_2 a0_3 _ _ l0_4 t115 _ ?side1 ?side2 A4.out).mono ?_); (case side1 => repeat (first | exact (Kd.C_below HR0_4.out HB.out) | (with_reducible refine Kd.C_alloc ?_ _) | (with_reducible refine Kd.C_drewN ?_ _) | (with_reducible refine Kd.C_drew ?_))); (case side2 => exact HC0_4.out); rintro e w44 ⟨rfl, hb⟩; have n0_ := Aside0.mk (blk_below (g := gb113) (o := .cells #[.int .i64 a0_0, .int .i64 a0_1, .int .i64 a0_2, .int .i64 a0_3, .slice A0_4 l0_4.length c0_4] 24 (0, 0)) (by (with_reducible repeat (first | refine blk_drewN ?_ _ | refine blk_drew ?_ | refine blk_alloc ?_ _)); exact BK113.out) hb); have n1_ := Aside0.mk (below_step (by repeat (first | (with_reducible first | exact HB.out | apply below_alloc | apply pw_below_drewN | apply below_drew1 | refine below_set ?_ GE113.out) | exact HB.out)) hb); clear BK113; clear HB; have BK113 := n0_; have HB := n1_; clear n0_ n1_; (try clear hb); (try clear hb2); (try clear hk); (try clear hi)))
      go_ret
      exact ⟨by first | rfl | (simp [errW_none, errW_some] <;> rfl) | (simp [*, errW_none, errW_some] <;> rfl), by repeat (first | (with_reducible first | exact HB.out | apply below_alloc | apply pw_below_drewN | apply below_drew1 | refine below_set ?_ GE113.out) | exact HB.out)⟩
  · replace c3 := Bool.eq_false_iff.mpr c3
    subst c3
    have H1 : (some false) = some r := by rw [if_neg (show ¬ (false = true) by decide)] at H; exact H
    clear H
    have H := H1
    clear H1
    obtain rfl := Option.some.inj H
    go_enter Try.func16, Try.ntmps16
    go_wp2_with (first | ((with_reducible refine gate_dst (N := 1) rfl ?_); refine box_event ?hg (N := 1) ?hd (cs := #[.int .i64 a0_0, .int .i64 a0_1, .int .i64 a0_2, .int .i64 a0_3, .slice A0_4 l0_4.length c0_4]) (t := 24) ?hr ?_; (case hd => rfl); (case hg => rfl); (case hr => first | (go_simp; done) | (go_simp; rfl)); intro gb113 hg w45 hbox hb; have n0_ := Aside0.mk (below_step (by repeat (first | (with_reducible first | exact HB.out | apply below_alloc | apply pw_below_drewN | apply below_drew1) | exact HB.out)) hb); have n1_ := Aside0.mk (hbox); have n2_ := Aside0.mk ((by rw [hg]; exact (below_size (by repeat (first | (with_reducible first | exact HB.out | apply below_alloc | apply pw_below_drewN | apply below_drew1) | exact HB.out))) : w.heap.size ≤ gb113)); have n3_ := Aside0.mk ((by rw [hg]; exact (below_size (by repeat (first | (with_reducible first | exact HB.out | apply below_alloc | apply pw_below_drewN | apply below_drew1) | exact HB.out))) : w.heap.size ≤ gb113)); clear HB; have HB := n0_; have BK113 := n1_; have GW113 := n2_; have GE113 := n3_; clear n0_ n1_ n2_ n3_; clear hb hbox hg; have hcz46_0 : w45.cell? ⟨gb113, 0, none⟩ = some (.int .i64 a0_0) := (blk_cell BK113.out 0).trans rfl; have hcz46_1 : w45.cell? ⟨gb113, 1, none⟩ = some (.int .i64 a0_1) := (blk_cell BK113.out 1).trans rfl; have hcz46_2 : w45.cell? ⟨gb113, 2, none⟩ = some (.int .i64 a0_2) := (blk_cell BK113.out 2).trans rfl; have hcz46_3 : w45.cell? ⟨gb113, 3, none⟩ = some (.int .i64 a0_3) := (blk_cell BK113.out 3).trans rfl; have hcz46_4 : w45.cell? ⟨gb113, 4, none⟩ = some (.slice A0_4 l0_4.length c0_4) := (blk_cell BK113.out 4).trans rfl; have hfz46_0 := blk_frozen BK113.out 0; have hfz46_1 := blk_frozen BK113.out 1; have hfz46_2 := blk_frozen BK113.out 2; have hfz46_3 := blk_frozen BK113.out 3; have hfz46_4 := blk_frozen BK113.out 4) | ((with_reducible refine gate_callee (f := 33) rfl ?_); refine goesL_ (some 4) rfl rfl Try.func33 (by kernel_rfl) rfl #[.agg #[.int .i64 a0_0, .int .i64 a0_1, .int .i64 a0_2, .int .i64 a0_3, .slice A0_4 l0_4.length c0_4]] rfl (by (try simp only [List.map_toArray, List.map_cons, List.map_nil]); first | done | rfl | (simp only [List.length_drop, List.length_take]; rfl)) ?_; (with_reducible refine (palantypelaw02_Thin.calls a0_0 a0_1 a0_2 a0_3 _ _ l0_4 false _ ?side1 ?side2 A2.out).mono ?_); (case side1 => repeat (first | exact (Kd.C_below HR0_4.out HB.out) | (with_reducible refine Kd.C_alloc ?_ _) | (with_reducible refine Kd.C_drewN ?_ _) | (with_reducible refine Kd.C_drew ?_))); (case side2 => exact HC0_4.out); rintro e w47 ⟨rfl, hb⟩; refine ⟨_, rfl, ?_⟩; have n0_ := Aside0.mk (blk_below (g := gb113) (o := .cells #[.int .i64 a0_0, .int .i64 a0_1, .int .i64 a0_2, .int .i64 a0_3, .slice A0_4 l0_4.length c0_4] 24 (0, 0)) (by (with_reducible repeat (first | refine blk_drewN ?_ _ | refine blk_drew ?_ | refine blk_alloc ?_ _)); exact BK113.out) hb); have n1_ := Aside0.mk (below_step (by repeat (first | (with_reducible first | exact HB.out | apply below_alloc | apply pw_below_drewN | apply below_drew1 | refine below_set ?_ GE113.out) | exact HB.out)) hb); clear BK113; clear HB; have BK113 := n0_; have HB := n1_; clear n0_ n1_; (try clear hb); (try clear hb2); (try clear hk); (try clear hi)))
    go_ret
    exact ⟨by first | rfl | (simp [errW_none, errW_some] <;> rfl) | (simp [*, errW_none, errW_some] <;> rfl), by repeat (first | (with_reducible first | exact HB.out | apply below_alloc | apply pw_below_drewN | apply below_drew1 | refine below_set ?_ GE113.out) | exact HB.out)⟩
end Go.Proofs.Ytdnjmhhjjbdieaa.Q
end
section
namespace Go.Proofs.Ytdnjmhhjjbdieaa.Q
open Go.RowKit Go.Proofs.YtdnjmhhjjbdieaaW.PrintWords
set_option linter.unusedVariables false
theorem few_ev {a0 a1 a2 a3 : Int} {l : List RM} {r : Int} (hr : Ev (fun k => palantyperef02_Fault.f k a0 a1 a2 a3 l) r) :
    Ev (fun k => palantypelaw02_few.f k a0 a1 a2 a3 l) (decide (l.length ≤ 45) && (decide (r ≠ 0) || (decide (a0 ≤ 3) && decide (l.length ≤ 5)) || (decide (a0 ≤ 2) && decide (l.length ≤ 6)))) := by
  unfold palantypelaw02_few.f palantypelaw02_Thin.f
  by_cases h45 : (l.length : Int) ≤ 45
  · have e : decide (l.length ≤ 45) = true := decide_eq_true (by omega)
    rw [e, Bool.true_and]
    simp only [Option.bind_some, decide_eq_true h45, if_true]
    refine Ev.bind hr ?_
    by_cases h0 : r = 0
    · subst h0
      simp only [if_true, ne_eq, not_true_eq_false, decide_false, Bool.false_or]
      by_cases h3 : a0 ≤ 3
      · by_cases h5 : (l.length : Int) ≤ 5
        · have : decide (l.length ≤ 5) = true := decide_eq_true (by omega)
          simp only [h3, h5, if_true, this, decide_true, Bool.and_self, Bool.true_or]; exact Ev.now _
        · have e5 : decide (l.length ≤ 5) = false := decide_eq_false (by omega)
          by_cases h2 : a0 ≤ 2
          · have e6 : decide ((l.length : Int) ≤ 6) = decide (l.length ≤ 6) := decide_eq_decide.2 (by omega)
            simp only [h3, h5, h2, if_true, if_false, e5, e6, decide_true, Bool.and_false, Bool.false_or, Bool.true_and]; exact Ev.now _
          · simp only [h3, h5, h2, if_true, if_false, e5, decide_true, decide_false, Bool.and_false, Bool.false_or, Bool.false_and]; exact Ev.now _
      · have h2 : ¬ a0 ≤ 2 := by omega
        simp only [h3, h2, if_false, decide_false, Bool.false_and, Bool.or_self]; exact Ev.now _
    · simp only [h0, if_false, ne_eq, not_false_eq_true, decide_true, Bool.true_or]; exact Ev.now _
  · have e : decide (l.length ≤ 45) = false := decide_eq_false (by omega)
    rw [e, Bool.false_and]
    simp only [Option.bind_some, decide_eq_false h45, Bool.false_eq_true, if_false]; exact Ev.now _
theorem few_small {n : Nat} {len : Nat} (h : (decide (len ≤ 45) && (decide ((0 : Int) ≠ 0) || (decide ((n : Int) ≤ 3) && decide (len ≤ 5)) || (decide ((n : Int) ≤ 2) && decide (len ≤ 6)))) = true) : len ≤ 6 ∧ ((n + 1) * (n + 1)) ^ len ≤ 100000000 := by
  have h1 : (n ≤ 3 ∧ len ≤ 5) ∨ (n ≤ 2 ∧ len ≤ 6) := by
    simp at h
    omega
  rcases h1 with ⟨h1, h2⟩ | ⟨h1, h2⟩
  · refine ⟨by omega, Nat.le_trans (Nat.pow_le_pow_left (Nat.mul_le_mul (by omega : n + 1 ≤ 4) (by omega : n + 1 ≤ 4)) len) (Nat.le_trans (Nat.pow_le_pow_right (by decide) h2) (by decide))⟩
  · refine ⟨by omega, Nat.le_trans (Nat.pow_le_pow_left (Nat.mul_le_mul (by omega : n + 1 ≤ 3) (by omega : n + 1 ≤ 3)) len) (Nat.le_trans (Nat.pow_le_pow_right (by decide) h2) (by decide))⟩
theorem tels_take {a1 a2 a3 : Int} {n : Nat} (hn : n ≤ 12) (h20 : 1 ≤ a2) (hs20 : 0 ≤ a3) {l : List RM} (hl : l.length ≤ 6) (hpow : ((n + 1) * (n + 1)) ^ l.length ≤ 100000000) {m : Nat} (hm : m ≤ l.length) :
    ∃ all, Ev (fun k => palantyperef02_Tellings.f k n a1 a2 a3 (l.take m) []) all ∧ (all = [] ↔ ∀ x, ¬ fwd a1 a2 a3 n (l.map mo) m x) ∧ all.length ≤ 100000000 ∧ ∀ s, s ∈ all ↔ Told a1 a2 a3 n ((l.take m).map mo) s := by
  have hlt : (l.take m).length = m := by rw [List.length_take]; omega
  have hlm : ((l.take m).map mo).length = m := by rw [List.length_map, hlt]
  have hpow' : ((n + 1) * (n + 1)) ^ (l.take m).length ≤ 100000000 := by
    rw [hlt]
    exact Nat.le_trans (Nat.pow_le_pow_right (Nat.mul_pos (by omega) (by omega)) hm) hpow
  have htel := Tellings_ev a1 a2 a3 n (by omega) h20 hs20 (l.take m) (by omega) (l.take m).length [] (by simp) hpow'
  have hmem : ∀ s, s ∈ tels a1 a2 a3 n ((l.take m).map mo) (l.take m).length [] ↔ Told a1 a2 a3 n ((l.take m).map mo) s := fun s => by
    have := @mem_tels_told a1 a2 a3 n ((l.take m).map mo) s
    rwa [List.length_map] at this
  have hlen := Nat.le_trans (length_tels a1 a2 a3 n ((l.take m).map mo) (l.take m).length []) hpow'
  obtain ⟨all, hall⟩ : ∃ all, tels a1 a2 a3 n ((l.take m).map mo) (l.take m).length [] = all := ⟨_, rfl⟩
  rw [hall] at htel hmem hlen
  refine ⟨all, htel, ?_, hlen, hmem⟩
  have h1 : all = [] ↔ ∀ s, ¬ Told a1 a2 a3 n ((l.take m).map mo) s := by
    constructor
    · rintro h s hs
      have := (hmem s).2 hs
      rw [h] at this; cases this
    · intro h
      cases all with
      | nil => rfl
      | cons s _ => exact (h s ((hmem s).1 (by simp))).elim
  rw [h1, ← told_iff_fwd, fwdL_empty, hlm]
  exact forall_congr' (fun x => not_congr (by rw [List.map_take]; exact fwd_take m x (Nat.le_refl _)))
end Go.Proofs.Ytdnjmhhjjbdieaa.Q
end
