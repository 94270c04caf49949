/- Texts of a proof, joined: see the last one. -/
import Derived.Test.YtdnjmhhjjbdieaaG1
import Derived.Test.YtdnjmhhjjbdieaaG2
import Derived.Test.YtdnjmhhjjbdieaaG7
import Derived.Test.YtdnjmhhjjbdieaaG8
import Derived.Test.YtdnjmhhjjbdieaaG9
namespace Go.Proofs.YtdnjmhhjjbdieaaW.PrintLast
end Go.Proofs.YtdnjmhhjjbdieaaW.PrintLast
namespace Go.Proofs.YtdnjmhhjjbdieaaW.PrintWords
end Go.Proofs.YtdnjmhhjjbdieaaW.PrintWords
section
namespace Go.Proofs.Ytdnjmhhjjbdieaa.Q
open Go.RowKit Go.Shelf Go.Proofs.YtdnjmhhjjbdieaaW.PrintWords
set_option linter.unusedVariables false
def heldN (person : Int) : List RP → Int
  | [] => 0
  | p :: t => (if p.f0 = person then 1 else 0) + heldN person t
theorem heldN_append (person : Int) : ∀ (t u : List RP), heldN person (t ++ u) = heldN person t + heldN person u
  | [], u => by simp [heldN]
  | p :: t, u => by simp only [List.cons_append, heldN, heldN_append person t u]; omega
theorem heldN_range (person : Int) : ∀ (t : List RP), 0 ≤ heldN person t ∧ heldN person t ≤ t.length
  | [] => by simp [heldN]
  | p :: t => by
    have := heldN_range person t
    simp only [heldN, List.length_cons]
    split <;> omega
theorem hcnt_path {least most short : Int} {n : Nat} {l : List FM} {person : Int} : ∀ (j : Nat) (y : St) (c : Int), hcnt least most short n l person j y c ↔ ∃ t : List RP, t.length = j ∧ pathB least most short n l t beginSt = true ∧ runS least most short beginSt t = y ∧ heldN person t = c
  | 0, y, c => by
    constructor
    · rintro ⟨rfl, rfl⟩
      exact ⟨[], rfl, pathB_nil _ _ _ _ _ _, rfl, rfl⟩
    · rintro ⟨t, h1, _, h3, h4⟩
      obtain rfl := List.length_eq_zero_iff.1 h1
      exact ⟨h3.symm, h4.symm⟩
  | j + 1, y, c => by
    cases hm : l[j]? with
    | none =>
      simp only [hcnt, hm, false_iff]
      rintro ⟨t, h1, h2, _⟩
      have hj : l.length ≤ j := List.getElem?_eq_none_iff.1 hm
      obtain ⟨t', p, rfl⟩ : ∃ t' p, t = t' ++ [p] := ⟨t.dropLast, t.getLast (by intro e; simp [e] at h1), (List.dropLast_concat_getLast _).symm⟩
      rw [pathB_append, Bool.and_eq_true] at h2
      simp at h1
      rw [List.drop_eq_nil_of_le (by omega)] at h2
      exact absurd h2.2 (by simp [pathB])
    | some m =>
      simp only [hcnt, hm]
      unfold cnts
      constructor
      · rintro ⟨x, p, hp, rfl, c', hx, rfl⟩
        obtain ⟨t, h1, h2, h3, h4⟩ := (hcnt_path j x c').1 hx
        obtain ⟨hj, hmj⟩ := List.getElem?_eq_some_iff.1 hm
        have hst := (mem_partsOf.1 hp).2.2
        have hok : partOk least most short n m x ⟨p.1.1, p.1.2⟩ = true := partOk_iff.2 ⟨p.2, hp, by simp only [hst]⟩
        refine ⟨t ++ [⟨p.1.1, p.1.2⟩], by simp [h1], ?_, ?_, ?_⟩
        · rw [pathB_append, h2, h1, List.drop_eq_getElem_cons hj, hmj, h3, Bool.true_and]
          simp only [pathB, po, hok, pathB_nil, Bool.and_self]
        · rw [runS_append, h3]
          simp only [runS, List.foldl_cons, List.foldl_nil, hst]
        · rw [heldN_append, h4]
          simp only [heldN, heldOne, Int.add_zero]
      · rintro ⟨t, h1, h2, h3, h4⟩
        obtain ⟨hj, hmj⟩ := List.getElem?_eq_some_iff.1 hm
        obtain ⟨t', p, rfl⟩ : ∃ t' p, t = t' ++ [p] := ⟨t.dropLast, t.getLast (by intro e; simp [e] at h1), (List.dropLast_concat_getLast _).symm⟩
        have h1' : t'.length = j := by simpa using h1
        rw [pathB_append, Bool.and_eq_true, h1', List.drop_eq_getElem_cons hj, hmj] at h2
        obtain ⟨h2a, h2b⟩ := h2
        simp only [pathB, Bool.and_eq_true] at h2b
        obtain ⟨z, hz, hze⟩ := partOk_iff.1 h2b.1
        refine ⟨runS least most short beginSt t', _, hz, ?_, heldN person t', (hcnt_path j _ _).2 ⟨t', h1', h2a, rfl, rfl⟩, ?_⟩
        · rw [← h3, runS_append, hze]
          rfl
        · rw [← h4, heldN_append]
          simp only [heldN, heldOne, po, Int.add_zero]
          rfl
theorem hcnt_told {least most short : Int} {n : Nat} {l : List FM} {person c : Int} : (∃ y, hcnt least most short n l person l.length y c) ↔ ∃ s, Told least most short n l s ∧ heldN person s = c := by
  constructor
  · rintro ⟨y, h⟩
    obtain ⟨t, h1, h2, _, h4⟩ := (hcnt_path _ _ _).1 h
    exact ⟨t, ⟨h1, h2⟩, h4⟩
  · rintro ⟨s, hs, h4⟩
    exact ⟨_, (hcnt_path _ _ _).2 ⟨s, hs.1, hs.2, rfl, h4⟩⟩
theorem floor_l0 {t : List RP} (ht : t.length ≤ 1000) (person : Int) : ∀ (d i : Nat) (c : Int), i + d = t.length → 0 ≤ c → c ≤ i → Ev (fun k => palantyperef02_Floor.l0 k t person c i) (c + heldN person (t.drop i))
  | 0, i, c, h, h0, h1 => by
    rw [List.drop_eq_nil_of_le (by omega)]
    refine Ev.step (fun k => (palantyperef02_Floor.l0.eq_2 _ _ _ _ _).trans (if_neg (by omega))) ?_
    simp only [heldN, Int.add_zero]
    exact Ev.now _
  | d + 1, i, c, h, h0, h1 => by
    have hi : i < t.length := by omega
    refine Ev.step (fun k => (palantyperef02_Floor.l0.eq_2 _ _ _ _ _).trans ((if_pos (by omega)).trans (if_pos (by omega)))) ?_
    rw [rd89 hi, wrap_id (n := c + 1) (by omega) (by omega), wrap_id (n := (i : Int) + 1) (by omega) (by omega), List.drop_eq_getElem_cons hi]
    simp only [heldN]
    by_cases e : t[i].f0 = person
    · refine Ev.congr (fun k => if_pos e) ?_
      have := floor_l0 ht person d (i + 1) (c + 1) (by omega) (by omega) (by omega)
      rw [if_pos e, ← Int.add_assoc]
      exact this
    · refine Ev.congr (fun k => if_neg e) ?_
      have := floor_l0 ht person d (i + 1) c (by omega) (by omega) (by omega)
      rw [if_neg e, Int.zero_add]
      exact this
theorem floor_ev {t : List RP} (ht : t.length ≤ 1000) (person : Int) : Ev (fun k => palantyperef02_Floor.f k t person) (heldN person t) := by
  have := floor_l0 ht person t.length 0 0 (by omega) (by omega) (by omega)
  rw [Int.zero_add] at this
  exact this
end Go.Proofs.Ytdnjmhhjjbdieaa.Q
end
section
namespace Go.Proofs.Ytdnjmhhjjbdieaa.Q
open Go.RowKit Go.Shelf Go.Proofs.YtdnjmhhjjbdieaaW.PrintWords
set_option linter.unusedVariables false
theorem agg2 {W : World} {b : Nat} {v0 v1 : Value} {t : TypeId} (h : W.heap[b]? = some (.cells #[v0, v1] t (0, 0))) : W.cell? ⟨b, 0, none⟩ = some v0 ∧ W.cell? ⟨b, 1, none⟩ = some v1 := ⟨cell_of h (i := 0) rfl, cell_of h (i := 1) rfl⟩
theorem floorN.W {A : Option Addr} {c : Nat} {t : List RP} (p : Int) (w : World) (hr : Kd.C k89 w A t.length t) (hc : t.length ≤ c) (ht : t.length ≤ 1000) :
    Calls Try.prog 46 #[.slice A t.length c, .int .i64 p] w fun e w' => e = .returned (.int .i64 (heldN p t)) ∧ Below w.heap.size w w' := by
  obtain ⟨k, hk⟩ := (floor_ev ht p).rounds
  exact (palantyperef02_Floor.calls k A c t p _ w hr hc hk).mono fun e w' ⟨h1, h2⟩ => ⟨h1, drawn_below h2⟩
end Go.Proofs.Ytdnjmhhjjbdieaa.Q
end
section
namespace Go.Proofs.Ytdnjmhhjjbdieaa.Q
open Go.RowKit Go.Shelf Go.Proofs.YtdnjmhhjjbdieaaW.PrintWords Go.Proofs.YtdnjmhhjjbdieaaW.PrintLast
set_option linter.unusedVariables false
theorem Scene.R {a0 a1 a2 a3 : Int} {A : Option Addr} {c : Nat} {l : List RM} {L : List FM} (hL : l.map mo = L) (h0 : 0 < L.length) (w : World) (hr : Kd.C k59 w A l.length l) (hc : l.length ≤ c) (hl : l.length ≤ 35184372088831) :
    Calls Try.prog 19 #[.agg #[.int .i64 a0, .int .i64 a1, .int .i64 a2, .int .i64 a3, .slice A l.length c]] w fun e w' =>
      ∃ (g : Nat) (c' : Nat) (cur : Array Value), e = .returned (.agg #[.int .i64 a0, .int .i64 a1, .int .i64 a2, .int .i64 a3, .slice (some ⟨g, 0, none⟩) L.length c']) ∧ L.length ≤ c' ∧ w.heap.size ≤ g ∧ w'.heap[g]? = some (.cells cur 52 (0, 0)) ∧ Kd.C k52 w' (some ⟨g, 0, none⟩) L.length L ∧ Below w.heap.size w w' := by
  subst hL
  obtain ⟨k, hk⟩ := (Scene_ev a0 a1 a2 a3 l hl).rounds
  refine (palantypelaw02_Scene.calls k a0 a1 a2 a3 A c l _ _ _ _ _ w hr hc hk).mono ?_
  rintro e w' ⟨v, rfl, hR, hb⟩
  obtain ⟨A', c', rfl, h1, h2⟩ := Kd.R_reads hR
  obtain ⟨_, inner, ho, _⟩ := hR
  rcases ho.2 with ⟨hv, _⟩ | ⟨g, cap, cur, hv, hg, hh, _⟩
  · have hv2 : Value.slice A' (l.map mo).length c' = .slice none 0 0 := hv
    injection hv2 with _ h4 _
    omega
  · have hv2 : Value.slice A' (l.map mo).length c' = _ := hv
    injection hv2 with h3 h4 h5
    subst h3
    exact ⟨g, c', cur, rfl, h1, hg, hh, h2, hb⟩
theorem CM_set {W : World} {g k n : Nat} {cur : Array Value} {t : TypeId} {xs : List FM} (hC : Kd.C k52 W (some ⟨g, 0, none⟩) n xs) (hg : W.heap[g]? = some (.cells cur t (0, 0))) (hk : k < xs.length) (hn : xs.length = n) (d : Nat) (hd : d < 2) (v : Int) :
    Kd.C k52 (W.setCell ⟨g, k * 2 + d, none⟩ (.int .u16 v)) (some ⟨g, 0, none⟩) n (xs.set k (if d = 0 then ⟨v, xs[k].f1⟩ else ⟨xs[k].f0, v⟩)) := by
  obtain ⟨h1, h2, h3⟩ := hC
  have hlen : 0 < xs.length := by omega
  refine ⟨by simpa using h1, by simpa using h2, fun _ => ⟨⟨g, 0, none⟩, rfl, fun j p hj => ?_⟩⟩
  obtain ⟨ad, had, h4⟩ := h3 (by omega)
  cases had
  have hadd : ∀ m, Addr.add ⟨g, 0, none⟩ m = ⟨g, m, none⟩ := fun m => by rcases m with _ | m <;> simp [Addr.add]
  have hcc : ∀ m u, W.cell? ⟨g, m, none⟩ = some u → cur[m]? = some u := fun m u hu => by
    simp only [World.cell?, hg] at hu
    simpa using hu
  have hkc : ∀ (q : FM) (c : List Value), k52.K W q c → c = [.int .u16 q.f0, .int .u16 q.f1] := fun q c h => by
    obtain ⟨u, v, rfl, h5, h6⟩ := h
    have h5 : u = [Value.int .u16 q.f0] := h5
    have h6 : v = [Value.int .u16 q.f1] := h6
    subst h5 h6
    rfl
  have hsz : ∀ j (hj : j < xs.length) i, i < 2 → j * 2 + i < cur.size ∧ cur[j * 2 + i]? = [Value.int .u16 xs[j].f0, .int .u16 xs[j].f1][i]? := fun j hj i hi => by
    obtain ⟨c, hcl, hK, hu⟩ := h4 j xs[j] (List.getElem?_eq_getElem hj)
    have hi2 : i < c.length := by rw [hcl]; exact hi
    have := hu i c[i] (List.getElem?_eq_getElem hi2)
    have h6 := hcc (j * 2 + i) c[i] (by rw [← hadd]; exact this)
    refine ⟨(Array.getElem?_eq_some_iff.1 h6).1, ?_⟩
    rw [h6, ← List.getElem?_eq_getElem hi2, hkc _ _ hK]
  have hnew := heap_set hg (k * 2 + d) (.int .u16 v)
  by_cases e : j = k
  · subst e
    have hp : (if d = 0 then ⟨v, xs[j].f1⟩ else ⟨xs[j].f0, v⟩ : FM) = p := by simpa [hk] using hj
    refine ⟨[.int .u16 p.f0, .int .u16 p.f1], rfl, k52_mk _ p, fun i u hu => ?_⟩
    have hi : i < 2 := by have := (List.getElem?_eq_some_iff.1 hu).1; simpa using this
    obtain ⟨a0, b0⟩ := hsz j hk i hi
    obtain ⟨ad', _⟩ := hsz j hk d hd
    have : (cur.setIfInBounds (j * 2 + d) (.int .u16 v))[j * 2 + i]? = some u := by
      simp only [Array.getElem?_setIfInBounds]
      by_cases hid : i = d
      · subst hid
        rw [if_pos rfl, if_pos a0, ← hu]
        subst hp
        rcases i with _ | _ | i
        · simp
        · simp
        · omega
      · rw [if_neg (by omega), b0, ← hu]
        subst hp
        rcases i with _ | _ | i
        · rcases d with _ | d
          · omega
          · simp
        · rcases d with _ | d
          · simp
          · omega
        · omega
    have hc := cell_of hnew (i := j * 2 + i) (v := u) this
    show World.cell? _ (Addr.add ⟨g, 0, none⟩ (j * 2 + i)) = _
    rw [hadd]
    exact hc
  · have hj' : xs[j]? = some p := by rwa [List.getElem?_set_ne (fun h => e h.symm)] at hj
    obtain ⟨c, hcl, hK, hu⟩ := h4 j p hj'
    refine ⟨c, hcl, ?_, fun i u hi => ?_⟩
    · rw [hkc _ _ hK]; exact k52_mk _ p
    · have hi2 : i < 2 := by have := (List.getElem?_eq_some_iff.1 hi).1; rw [hcl] at this; exact this
      have h5 := hu i u hi
      have h6 := hcc (j * 2 + i) u (by rw [← hadd]; exact h5)
      have : (cur.setIfInBounds (k * 2 + d) (.int .u16 v))[j * 2 + i]? = some u := by
        simp only [Array.getElem?_setIfInBounds]
        rw [if_neg (by omega)]
        exact h6
      have hc := cell_of hnew (i := j * 2 + i) (v := u) this
      show World.cell? _ (Addr.add ⟨g, 0, none⟩ (j * 2 + i)) = _
      rw [hadd]
      exact hc
theorem CM_set0 {W : World} {g k n : Nat} {cur : Array Value} {t : TypeId} {xs : List FM} (hC : Kd.C k52 W (some ⟨g, 0, none⟩) n xs) (hg : W.heap[g]? = some (.cells cur t (0, 0))) (hk : k < xs.length) (hn : xs.length = n) {f0 f1 v : Int} (hf : xs[k] = ⟨f0, f1⟩) {ys : List FM} (hy : xs.set k ⟨v, f1⟩ = ys) :
    Kd.C k52 (W.setCell ⟨g, k * 2, none⟩ (.int .u16 v)) (some ⟨g, 0, none⟩) n ys := by
  have := CM_set hC hg hk hn 0 (by omega) v
  rw [if_pos rfl, hf] at this
  rw [← hy]; exact this
theorem CM_set1 {W : World} {g k n : Nat} {cur : Array Value} {t : TypeId} {xs : List FM} (hC : Kd.C k52 W (some ⟨g, 0, none⟩) n xs) (hg : W.heap[g]? = some (.cells cur t (0, 0))) (hk : k < xs.length) (hn : xs.length = n) {f0 f1 v : Int} (hf : xs[k] = ⟨f0, f1⟩) {ys : List FM} (hy : xs.set k ⟨f0, v⟩ = ys) :
    Kd.C k52 (W.setCell ⟨g, k * 2 + 1, none⟩ (.int .u16 v)) (some ⟨g, 0, none⟩) n ys := by
  have := CM_set hC hg hk hn 1 (by omega) v
  rw [if_neg (by omega), hf] at this
  rw [← hy]; exact this
end Go.Proofs.Ytdnjmhhjjbdieaa.Q
end
