/- Texts of a proof, joined: see the last one. -/
import Derived.Test.YtdnjmhhjjbdieaaMCut1
import Derived.Carry
import Derived.Maps.AppendAt
import Derived.Deep.RegionLaw
import Derived.Deep.RegionWith
import Derived.LoopTactic
import Derived.Lib.Hide
import Derived.Laws.BitsAllLaws
section
/- Whether a state leads on from a moment. -/
namespace Go.Proofs.Ytdnjmhhjjbdieaa.Q
open Go.RowKit Go.Shelf Go.Proofs.YtdnjmhhjjbdieaaW.PrintWords Go.Proofs.YtdnjmhhjjbdieaaW.PrintLast
set_option linter.unusedVariables false
set_option linter.unusedSimpArgs false
attribute [local go_sem] Oper.semAt_some

theorem heap_new {W : World} {o : Obj} {n : Nat} (h : n = W.heap.size) : (W.alloc o).heap[n]? = some o := by subst h; exact World.alloc_heap_new W o
theorem heap_old {W : World} {o v : Obj} {k : Nat} (h : W.heap[k]? = some v) : (W.alloc o).heap[k]? = some v := (Below.heap_alloc W o k (Array.getElem?_eq_some_iff.1 h).1).trans h
theorem cell_of {W : World} {b i : Nat} {cs : Array Value} {t : TypeId} {fr : Nat × Nat} {v : Value} (h : W.heap[b]? = some (.cells cs t fr)) (hi : cs[i]? = some v) : W.cell? ⟨b, i, none⟩ = some v := by simp [World.cell?, h, hi]
theorem heap_set {W : World} {b : Nat} {cs : Array Value} {t : TypeId} {fr : Nat × Nat} (h : W.heap[b]? = some (.cells cs t fr)) (i : Nat) (v : Value) : (W.setCell ⟨b, i, none⟩ v).heap[b]? = some (.cells (cs.setIfInBounds i v) t fr) := by
  simp only [World.setCell, Array.getElem?_modify, h]
  simp
theorem putObj_old {W : World} {D k : Nat} {o v : Obj} (hne : k ≠ D) (h : W.heap[k]? = some v) : (W.putObj D o).heap[k]? = some v := (World.putObj_heap_other hne).trans h
theorem below_putObj {n D : Nat} {w W : World} (h : Below n w W) (hD : n ≤ D) (o : Obj) : Below n w (W.putObj D o) :=
  h.trans ⟨rfl, rfl, rfl, by simp, fun k hk => World.putObj_heap_other (by omega)⟩
theorem not_frozen {W : World} {b i : Nat} {cs : Array Value} {t : TypeId} (h : W.heap[b]? = some (.cells cs t (0, 0))) : W.frozen? ⟨b, i, none⟩ = false := by simp [World.frozen?, h]
theorem ownFrom_below {β : Type} {B n : Nat} {W0 : World} (hn : n ≤ B) (h0 : n ≤ W0.heap.size) : OwnFrom B (fun (_ : β) W => Below n W0 W) :=
  fun s W W' row hs hg hr => hs.trans ⟨hg.os, hg.tape, hg.output, hg.size, fun k hk => hg.block k (by have := hs.size; omega) (fun e => by have := (hr k e.symm).1; omega)⟩

/-- A state that a telling of a valid scene may come to. -/
structure Small (x : St) (i : Nat) : Prop where
  h1 : -2 ≤ x.holder
  h2 : x.holder ≤ 16
  t1 : 0 ≤ x.turn
  t2 : x.turn ≤ (i : Int)
  s1 : 0 ≤ x.short
  s2 : x.short ≤ (i : Int)

theorem Small.box {x : St} {i : Nat} (h : Small x i) (hi : i ≤ 100) : InBox x := by have := h.h1; have := h.h2; have := h.t1; have := h.t2; have := h.s1; have := h.s2; unfold InBox; omega

theorem Small.out {x : St} {i : Nat} (h : Small x i) (most short hh v turn : Int) (h1 : -1 ≤ hh) (h2 : hh ≤ 16) (a : 0 ≤ turn) (b : turn ≤ (i : Int) + 1) : Small (stepOut most short x hh v turn).1 (i + 1) := by
  have s1 := h.s1; have s2 := h.s2
  unfold stepOut
  by_cases c : v ≠ -1 ∧ v ≠ hh
  · rw [if_pos c]
    exact ⟨by dsimp only; omega, by dsimp only; omega, a, by dsimp only; omega, by dsimp only; omega, by dsimp only; omega⟩
  · rw [if_neg c]
    exact ⟨by dsimp only; omega, by dsimp only; omega, a, by dsimp only; omega, by dsimp only; omega, by dsimp only; omega⟩

theorem Small.zero (h : Int) (i : Nat) (h1 : -2 ≤ h) (h2 : h ≤ 16) : Small ⟨h, 0, 0, false⟩ i :=
  ⟨h1, h2, by dsimp only; omega, by dsimp only; omega, by dsimp only; omega, by dsimp only; omega⟩

theorem Small.step {x : St} {i : Nat} (h : Small x i) (least most short hh v : Int) (h1 : -1 ≤ hh) (h2 : hh ≤ 16) : Small (stepF least most short x hh v).1 (i + 1) := by
  have t1 := h.t1; have t2 := h.t2
  unfold stepF
  split
  · exact Small.zero _ _ (by omega) (by omega)
  · split
    · exact h.out _ _ _ _ _ h1 h2 (by omega) (by omega)
    · split
      · exact Small.zero _ _ (by omega) (by omega)
      · split
        · exact Small.zero _ _ (by omega) (by omega)
        · exact h.out _ _ _ _ _ h1 h2 (by omega) (by omega)

theorem mem_upTo {set p : Int} {k : Nat} : p ∈ upTo set k ↔ -1 ≤ p ∧ p < (k : Int) - 1 ∧ inSet set p = true := by
  unfold upTo
  rw [List.mem_filter, List.mem_map]
  constructor
  · rintro ⟨⟨i, hi, rfl⟩, h⟩
    have := List.mem_range.1 hi
    exact ⟨by omega, by omega, h⟩
  · rintro ⟨h1, h2, h3⟩
    exact ⟨⟨(p + 1).toNat, List.mem_range.2 (by omega), by omega⟩, h3⟩

theorem mem_partsOf {least most short : Int} {x : St} {floor heard : Int} {n : Nat} {p : (Int × Int) × St} :
    p ∈ partsOf least most short x floor heard n ↔ p.1.1 ∈ upTo floor (n + 1) ∧ p.1.2 ∈ upTo heard (n + 1) ∧ stepF least most short x p.1.1 p.1.2 = (p.2, true) := by
  unfold partsOf rowOf voiceOf
  rw [List.mem_flatMap]
  constructor
  · rintro ⟨h, hh, hp⟩
    obtain ⟨v, hv, hp⟩ := List.mem_flatMap.1 hp
    split at hp
    · rename_i hs
      obtain rfl := List.mem_singleton.1 hp
      exact ⟨hh, hv, by rw [← hs]⟩
    · cases hp
  · rintro ⟨hh, hv, hs⟩
    refine ⟨p.1.1, hh, List.mem_flatMap.2 ⟨p.1.2, hv, ?_⟩⟩
    rw [hs]; simp

theorem small_parts {least most short : Int} {x : St} {floor heard : Int} {n i : Nat} (hn : n ≤ 12) (hx : Small x i) {p : (Int × Int) × St} (hp : p ∈ partsOf least most short x floor heard n) : Small p.2 (i + 1) := by
  obtain ⟨h1, _, h3⟩ := mem_partsOf.1 hp
  obtain ⟨a, b, _⟩ := mem_upTo.1 h1
  have := hx.step least most short p.1.1 p.1.2 a (by omega)
  rw [h3] at this
  exact this

set_option maxRecDepth 100000 in
set_option maxHeartbeats 2000000 in
theorem leads.calls (g : Nat) (n : Nat) (hn : n ≤ 12) (least most short reach : Int) (A : Option Addr) (c : Nat) (l : List S52) (sb so lenS cS : Nat) (i : Nat) (x : St) (b : Nat) (M : St → Option Unit) (w : World)
    (hg : w.heap[g]? = some (.cells #[.int .i64 n, .int .i64 least, .int .i64 most, .int .i64 short, .slice A l.length c, .slice (some ⟨sb, so, none⟩) lenS cS, .int .i64 reach] 107 (0, 0)))
    (hr : Kd.C k52 w A l.length l) (hi : i < l.length) (hl : l.length ≤ 40) (hiS : i + 1 < lenS) (hS : lenS ≤ 100)
    (hs : w.cell? ⟨sb, so + (i + 1), none⟩ = some (.map (some b))) (hM : MapIs EB w b M) (hx : Small x 60) :
    Calls Try.prog 82 #[.pointer (some ⟨g, 0, none⟩), .int .i64 i, .agg #[.int .i64 x.holder, .int .i64 x.turn, .int .i64 x.short, .bool x.own]] w fun e w' =>
      ∃ r, e = .returned (.bool r) ∧ (r = true ↔ ∃ p ∈ partsOf least most short x l[i].f0 l[i].f1 n, M p.2 ≠ none) ∧ Below w.heap.size w w' := by
  have hmx : Try.prog.follows .mixedOrders = true := by kernel_rfl
  have hu := Try.underlying33
  have hu1 := Try.underlying109
  have hu2 := Try.underlying52
  have hu3 := Try.underlying107
  refine (callsIn_wide (n := 0)).1 ?_
  refine callsIn_of_wp_marks Try.func82 rfl trivial ?_ rfl
  simp only [Try.ntmps82, List.size_toArray, List.length_cons, List.length_nil, Nat.reduceAdd, Nat.reduceSub, Array.replicate_succ, Array.replicate_zero, List.push_toArray, List.append_toArray, List.nil_append, List.cons_append]
  obtain ⟨ad, rfl, m0, m1⟩ := at_T52 hr i (by omega) (by omega)
  have hrd : rd_T52 l (i : Int) = l[i] := by simp [rd_T52, List.getD, hi]
  rw [hrd, Int.toNat_natCast] at m0 m1
  obtain ⟨⟨mf, mh⟩, hm⟩ : ∃ m, l[i] = m := ⟨_, rfl⟩
  rw [hm] at m0 m1 ⊢
  simp only [] at m0 m1 ⊢
  clear hrd hm
  have kg : g < w.heap.size := (Array.getElem?_eq_some_iff.1 hg).1
  have cg : ∀ j v, (#[.int .i64 (n : Int), .int .i64 least, .int .i64 most, .int .i64 short, .slice (some ad) l.length c, .slice (some ⟨sb, so, none⟩) lenS cS, .int .i64 reach] : Array Value)[j]? = some v → w.cell? ⟨g, j, none⟩ = some v := fun j v hv => by simp [World.cell?, hg, hv]
  have g0 := cg 0 _ rfl
  have g1 := cg 1 _ rfl
  have g2 := cg 2 _ rfl
  have g3 := cg 3 _ rfl
  have g4 := cg 4 _ rfl
  have g5 := cg 5 _ rfl
  simp only [List.getElem_toArray, List.getElem_cons_zero, List.getElem_cons_succ] at g0 g1 g2 g3 g4 g5
  have km := World.block_lt_of_cell? w _ m0
  have ks := World.block_lt_of_cell? w _ hs
  have kg1 : g < w.heap.size + 1 := by omega
  have kg2 : g < w.heap.size + 1 + 1 := by omega
  have kg3 : g < w.heap.size + 1 + 1 + 1 := by omega
  have km1 : (ad.add (i * 2)).block < w.heap.size + 1 := by omega
  have km2 : (ad.add (i * 2)).block < w.heap.size + 1 + 1 := by omega
  have km3 : (ad.add (i * 2)).block < w.heap.size + 1 + 1 + 1 := by omega
  have hi2 : (i : Int) < l.length := by omega
  have HG := Lib.hid hg
  have HR := Lib.hid hr
  have HM := Lib.hid hM
  clear hg hr hM cg
  gi_wp2
  refine wpIn_region_still_tail .wide 13 hmx (by kernel_rfl) (by kernel_rfl) ?_
  simp only [List.take_succ_cons, List.take_zero, List.drop_succ_cons, List.drop_zero]
  repeat still_step
  refine wpStill_nil ?_
  gi_wp2
  obtain ⟨W, hW⟩ : ∃ W, ((((w.alloc (.cells #[.pointer (some ⟨g, 0, none⟩)] 101)).alloc (.cells #[.int .i64 i] 3)).alloc (.cells #[.int .i64 x.holder, .int .i64 x.turn, .int .i64 x.short, .bool x.own] 109)).alloc (.cells #[.bool false] 4)).drew = W := ⟨_, rfl⟩
  have hWb : Below w.heap.size w W := by
    rw [← hW]
    exact ((((((Below.refl _ w).alloc (Nat.le_refl _) _).alloc (by simp) _).alloc (by simp; omega) _).alloc (by simp; omega) _)).drew
  have hWs : W.heap.size = w.heap.size + 4 := by rw [← hW]; simp
  have c0 : W.heap[w.heap.size]? = some (.cells #[.pointer (some ⟨g, 0, none⟩)] 101 (0, 0)) := by
    rw [← hW]; exact heap_old (heap_old (heap_old (heap_new rfl)))
  have c1 : W.heap[w.heap.size + 1]? = some (.cells #[.int .i64 i] 3 (0, 0)) := by
    rw [← hW]; exact heap_old (heap_old (heap_new (by simp)))
  have c3 : W.heap[w.heap.size + 3]? = some (.cells #[.bool false] 4 (0, 0)) := by
    rw [← hW]; exact heap_new (by simp)
  rw [hW]
  have HC0 := Lib.hid c0
  have HC1 := Lib.hid c1
  have HC3 := Lib.hid c3
  clear hW c0 c1 c3
  refine ⟨trivial, rfl, (callsIn_wide.2 (parts.calls n least most short mf mh _ x W)).mono ?_⟩
  rintro e W1 ⟨rfl, hW1⟩
  have hb0 : W1.heap[W.heap.size]? = some (.cells #[.int .i64 n, .int .i64 least, .int .i64 most, .int .i64 short, .slice (some ad) l.length c] 33 (0, 0)) := by
    rw [hW1]; exact heap_old (heap_old (heap_old (heap_new rfl)))
  have hb1 : W1.heap[W.heap.size + 1]? = some (.cells #[.int .i64 x.holder, .int .i64 x.turn, .int .i64 x.short, .bool x.own] 109 (0, 0)) := by
    rw [hW1]; exact heap_old (heap_old (heap_new (by simp)))
  have hb2 : W1.heap[W.heap.size + 2]? = some (.cells #[.int .u16 mf, .int .u16 mh] 52 (0, 0)) := by
    rw [hW1]; exact heap_old (heap_new (by simp))
  have hb3 : W1.heap[W.heap.size + 3]? = some (.cells #[.func (.func 67) #[.agg #[.int .i64 n, .int .i64 least, .int .i64 most, .int .i64 short, .slice (some ad) l.length c]] #[]] 129 (0, 0)) := by
    rw [hW1]; exact heap_new (by simp)
  have hWb1 : Below w.heap.size w W1 := by
    rw [hW1]
    exact (((hWb.alloc (by omega) _).alloc (by simp; omega) _).alloc (by simp; omega) _).alloc (by simp; omega) _
  have hWs1 : W1.heap.size = w.heap.size + 8 := by rw [hW1]; simp [hWs]
  have d0 : W1.heap[w.heap.size]? = some (.cells #[.pointer (some ⟨g, 0, none⟩)] 101 (0, 0)) := by rw [hW1]; exact heap_old (heap_old (heap_old (heap_old HC0.out)))
  have d1 : W1.heap[w.heap.size + 1]? = some (.cells #[.int .i64 i] 3 (0, 0)) := by rw [hW1]; exact heap_old (heap_old (heap_old (heap_old HC1.out)))
  have d3 : W1.heap[w.heap.size + 3]? = some (.cells #[.bool false] 4 (0, 0)) := by rw [hW1]; exact heap_old (heap_old (heap_old (heap_old HC3.out)))
  clear hW1
  have HWs := Lib.hid hWs
  clear hWs
  gi_wp2
  have hWs := HWs.out
  have ht1 := hx.t1
  have ht2 := hx.t2
  have hs1 := hx.s1
  have hs2 := hx.s2
  refine wpIn_iter (gf := 73) (lb := #[.pointer (some ⟨W.heap.size, 0, none⟩), .pointer (some ⟨W.heap.size + 2, 0, none⟩), .pointer (some ⟨W.heap.size + 3, 0, none⟩), .pointer (some ⟨W.heap.size + 1, 0, none⟩)]) rfl (enters_of Try.func73 (by kernel_rfl) rfl)
    (parts1.iter n hn least most short mf mh _ x ht1 (by omega) hs1 (by omega) W.heap.size W1 hb0 hb1 hb2 hb3) (Nat.le_refl _) (fun _ _ => rfl) (fun k hk => by have := hk.2; omega) (fun _ => rfl)
    (fun pre W' => (Below w.heap.size w W' ∧ W'.heap[w.heap.size]? = some (.cells #[.pointer (some ⟨g, 0, none⟩)] 101 (0, 0)) ∧ W'.heap[w.heap.size + 1]? = some (.cells #[.int .i64 i] 3 (0, 0)) ∧ W'.heap[w.heap.size + 3]? = some (.cells #[.bool false] 4 (0, 0)) ∧ W1.heap.size ≤ W'.heap.size) ∧ ∀ p ∈ pre, M p.2 = none)
    (fun c pre W' => (c = .ret ∧ ∃ p ∈ pre, M p.2 ≠ none) ∧ Below w.heap.size w W' ∧ W'.heap[w.heap.size + 3]? = some (.cells #[.bool true] 4 (0, 0)))
    ((OwnFrom.and (ownFrom_below (by omega) (Nat.le_refl _)) (OwnFrom.and (ownFrom_block (fun _ => _) (by omega)) (OwnFrom.and (ownFrom_block (fun _ => _) (by omega)) (OwnFrom.and (ownFrom_block (fun _ => _) (by omega)) ownFrom_size)))).and (ownFrom_pure _ _))
    (fun c => OwnFrom.and (ownFrom_pure _ _) (OwnFrom.and (ownFrom_below (by omega) (Nat.le_refl _)) (ownFrom_block (fun _ => _) (by omega))))
    ⟨⟨hWb1, d0, d1, d3, Nat.le_refl _⟩, fun p hp => by cases hp⟩
    (fun pre p a' W' => ∃ B, W1.heap.size ≤ B ∧ W'.heap[B]? = some (.cells #[.int .i64 p.2.holder, .int .i64 p.2.turn, .int .i64 p.2.short, .bool p.2.own] 109 (0, 0)) ∧ a' = { tmps := #[.pointer (some ⟨g, 0, none⟩), .int .i64 i, .agg #[.int .i64 x.holder, .int .i64 x.turn, .int .i64 x.short, .bool x.own], .pointer (some ⟨w.heap.size, 0, none⟩), .pointer (some ⟨w.heap.size + 1, 0, none⟩), .pointer (some ⟨w.heap.size + 1 + 1, 0, none⟩), .pointer (some ⟨w.heap.size + 1 + 1 + 1, 0, none⟩), undef, .pointer (some ⟨B, 0, none⟩), .pointer (some ⟨g, 0, none⟩), .pointer (some ⟨g, 0, none⟩), .pointer (some ⟨g, 0, none⟩), .agg #[.int .i64 n, .int .i64 least, .int .i64 most, .int .i64 short, .slice (some ad) l.length c], .agg #[.int .i64 x.holder, .int .i64 x.turn, .int .i64 x.short, .bool x.own], .pointer (some ⟨g, 0, none⟩), .pointer (some ⟨g, 0, none⟩), .pointer (some ⟨g, 0, none⟩), .pointer (some ⟨g, 4, none⟩), .slice (some ad) l.length c, .int .i64 i, .pointer (some (ad.add (i * 2))), .agg #[.int .u16 mf, .int .u16 mh], .func (.func 73) #[] #[.pointer (some ⟨W.heap.size, 0, none⟩), .pointer (some ⟨W.heap.size + 2, 0, none⟩), .pointer (some ⟨W.heap.size + 3, 0, none⟩), .pointer (some ⟨W.heap.size + 1, 0, none⟩)], .agg #[.int .i64 p.1.1, .int .i64 p.1.2], .agg #[.int .i64 p.2.holder, .int .i64 p.2.turn, .int .i64 p.2.short, .bool p.2.own], undef, undef, undef, undef, undef, undef, undef, undef, undef, undef], defers := [] })
    (fun pre p a' _ A A' row hs hg hr => by obtain ⟨B, e1, e2, e3⟩ := hs; exact ⟨B, e1, ownFrom_cells (fun (_ : Unit) => #[.int .i64 p.2.holder, .int .i64 p.2.turn, .int .i64 p.2.short, .bool p.2.own]) 109 () A A' row e2 hg hr, e3⟩)
    ?assign ?body ?done ?stop
  case assign =>
    rintro l1 pre p post W2 K hx' ⟨⟨hI1, hI2, hI3, hI4, hI6⟩, hI5⟩ hK
    clear hWs
    simp only [encPart, encSt]
    gi_wp2
    have hs := hI1.size
    exact hK _ _ (KeptC.alloc _ _ _ _) ⟨⟨hI1.alloc (by omega) _, heap_old hI2, heap_old hI3, heap_old hI4, by simp; omega⟩, hI5⟩ ⟨_, hI6, heap_new rfl, rfl⟩
  case body =>
    rintro l1 pre p post a' W2 hx' hl1 ⟨r1, hr1⟩ ⟨⟨hI1, hI2, hI3, hI4, hI6⟩, hI5⟩ ⟨B, hB, hbB, rfl⟩
    have hsz := hI1.size
    have hsp : Small p.2 61 := small_parts hn hx (by rw [hx']; simp)
    have hlk : (Instr.lookup 104 (.map (some b)) (.agg #[.int .i64 p.2.holder, .int .i64 p.2.turn, .int .i64 p.2.short, .bool p.2.own]) false).run Try.prog W2.drew = .ok (.bool (M p.2).isSome) W2.drew := by
      have := ((HM.out.same (w' := W2.drew) (hI1.block b (HM.out.lt))).look p.2 (hsp.box (by omega)))
      cases hMp : M p.2 <;> (rw [hMp] at this; exact this)
    have e0 := cell_of hI2 (i := 0) rfl
    have e1 := cell_of hI3 (i := 0) rfl
    have e5 := (hI1.cell (p := ⟨g, 5, none⟩) kg).trans g5
    obtain ⟨j, hj⟩ : ∃ j, i + 1 = j := ⟨_, rfl⟩
    have es := (hI1.cell (p := ⟨sb, so + (i + 1), none⟩) ks).trans hs
    rw [hj] at es
    have hwr : IntKind.i64.wrap ((i : Int) + 1) = (j : Int) := by simp [IntKind.wrap, IntKind.bits, IntKind.signed]; omega
    have hjl : (j : Int) < lenS := by omega
    have eB0 := cell_of hbB (i := 0) rfl
    have eB1 := cell_of hbB (i := 1) rfl
    have eB2 := cell_of hbB (i := 2) rfl
    have eB3 := cell_of hbB (i := 3) rfl
    clear g0 g1 g2 g3 g4 g5 m0 m1 hb0 hb1 hb2 hb3 d0 d1 d3
    gi_wp2
    refine wpIn_region_still (.round l1) hmx (by kernel_rfl) (by kernel_rfl) ?_
    repeat still_step
    refine wpStill_nil ?_
    have HI2 := Lib.hid hI2
    have HI3 := Lib.hid hI3
    have HI4 := Lib.hid hI4
    have hkd : KeptC (partsC W.heap.size) W1.heap.size W2 W2.drew := KeptC.drew _ _ _
    cases hMp : M p.2 with
    | none =>
      simp only [hMp, Option.isSome_none]
      clear hI2 hI3 hI4 hlk hr1
      gi_wp2
      refine ⟨hkd, ⟨hI1.drew, HI2.out, HI3.out, HI4.out, hI6⟩, fun q hq => ?_⟩
      rcases List.mem_append.1 hq with hq | hq
      · exact hI5 q hq
      · rw [List.mem_singleton.1 hq]; exact hMp
    | some u =>
      simp only [hMp, Option.isSome_some]
      have q3 : w.heap.size + 1 + 1 + 1 < W2.heap.size := by omega
      have e3 : W2.cell? ⟨w.heap.size + 1 + 1 + 1, 0, none⟩ = _ := cell_of hI4 (i := 0) rfl
      have e3f : W2.frozen? ⟨w.heap.size + 1 + 1 + 1, 0, none⟩ = false := not_frozen hI4
      clear hI2 hI3 hI4 hlk hr1
      have hd3 : ¬ partsC W.heap.size (w.heap.size + 3) := fun h => by have := h.1; have := HWs.out; omega
      gi_wp2
      exact ⟨(KeptC.setCell (B := W1.heap.size) W2 ⟨w.heap.size + 1 + 1 + 1, 0, none⟩ (.bool true) hd3 (by show w.heap.size + 3 < W1.heap.size; omega)).trans (KeptC.drew _ _ _), ⟨rfl, p, by simp, by rw [hMp]; simp⟩, (hI1.setCell (p := ⟨w.heap.size + 1 + 1 + 1, 0, none⟩) (by show w.heap.size ≤ w.heap.size + 3; omega) _).drew, heap_set HI4.out 0 _⟩
  case done =>
    rintro D W2 hD ⟨⟨hI1, hI2, hI3, hI4, hI6⟩, hI5⟩ hK
    have q3 : w.heap.size + 1 + 1 + 1 < W2.heap.size := by omega
    have e3 : W2.cell? ⟨w.heap.size + 1 + 1 + 1, 0, none⟩ = _ := cell_of hI4 (i := 0) rfl
    have e3f : W2.frozen? ⟨w.heap.size + 1 + 1 + 1, 0, none⟩ = false := not_frozen hI4
    have HI4 := Lib.hid hI4
    have hne : D ≠ w.heap.size + 3 := fun e => by omega
    clear hI2 hI3 hI4
    gi_wp2
    have hK2 : (W2.setCell ⟨w.heap.size + 1 + 1 + 1, 0, none⟩ (.bool false)).heap[D]? = some (.deferred (some [])) := (Below.heap_setCell _ _ _ _ hne).trans hK
    have hr2 : (W2.setCell ⟨w.heap.size + 1 + 1 + 1, 0, none⟩ (.bool false)).heap[w.heap.size + 3]? = some (.cells #[.bool false] 4 (0, 0)) := heap_set HI4.out 0 _
    refine ⟨by simp, .inl ⟨_, _, rfl, run_takeDeferred hK2, ?_⟩⟩
    have hr3 := cell_of (putObj_old (o := .deferred none) hne.symm hr2) (i := 0) rfl
    refine ⟨_, by simp [results, Try.results82, go_sem, hr3]; rfl, _, rfl, ?_, ?_⟩
    · refine ⟨fun h => by (first | cases h | trivial), fun ⟨q, hq, hq2⟩ => absurd (hI5 q hq) hq2⟩
    · exact below_putObj (hI1.setCell (p := ⟨w.heap.size + 1 + 1 + 1, 0, none⟩) (by show w.heap.size ≤ w.heap.size + 3; omega) _) (by omega) _
  case stop =>
    rintro D c pre p post W2 hD hx' ⟨⟨rfl, hM2⟩, hI1, hI4⟩ hK
    have hne : D ≠ w.heap.size + 3 := fun e => by omega
    gi_wp2
    refine ⟨by simp, .inl ⟨_, _, rfl, run_takeDeferred hK, ?_⟩⟩
    have hr3 := cell_of (putObj_old (o := .deferred none) hne.symm hI4) (i := 0) rfl
    refine ⟨_, by simp [results, Try.results82, go_sem, hr3]; rfl, _, rfl, ?_, ?_⟩
    · refine ⟨fun _ => ?_, fun _ => rfl⟩
      obtain ⟨q, hq, hq2⟩ := hM2
      refine ⟨q, ?_, hq2⟩
      rw [hx']
      rcases List.mem_append.1 hq with hq | hq
      · exact List.mem_append_left _ hq
      · rw [List.mem_singleton.1 hq]; simp
    · exact below_putObj hI1 (by omega) _
end Go.Proofs.Ytdnjmhhjjbdieaa.Q
end

section
/- Loops at the top of a function that ranges over functions: the frame's deferred marks grow with the rounds. -/
namespace Go.Proofs.Ytdnjmhhjjbdieaa.Q
open Go.RowKit Go.Shelf
set_option linter.unusedVariables false

/-! ### worlds that differ in some blocks only -/
/-- From W on only the blocks of X have changed. -/
structure Fr (X : Nat → Prop) (W W' : World) : Prop where
  os : W'.os = W.os
  tape : W'.tape = W.tape
  output : W'.output = W.output
  size : W.heap.size ≤ W'.heap.size
  same : ∀ k, k < W.heap.size → ¬ X k → W'.heap[k]? = W.heap[k]?

theorem Fr.refl (X : Nat → Prop) (W : World) : Fr X W W := ⟨rfl, rfl, rfl, Nat.le_refl _, fun _ _ _ => rfl⟩
theorem Fr.trans {X : Nat → Prop} {A B C : World} (h : Fr X A B) (k : Fr X B C) : Fr X A C :=
  ⟨k.os.trans h.os, k.tape.trans h.tape, k.output.trans h.output, Nat.le_trans h.size k.size, fun i hi hx => (k.same i (Nat.lt_of_lt_of_le hi h.size) hx).trans (h.same i hi hx)⟩
theorem Fr.mono {X Y : Nat → Prop} {A B : World} (h : Fr X A B) (hxy : ∀ k, k < A.heap.size → X k → Y k) : Fr Y A B :=
  ⟨h.os, h.tape, h.output, h.size, fun i hi hy => h.same i hi (fun hx => hy (hxy i hi hx))⟩
theorem Fr.of_below {X : Nat → Prop} {A B : World} {n : Nat} (h : Below n A B) (hx : ∀ k, k < A.heap.size → n ≤ k → X k) : Fr X A B :=
  ⟨h.os, h.tape, h.output, h.size, fun i hi hn => h.block i (Nat.lt_of_not_le (fun hc => hn (hx i hi hc)))⟩
theorem Fr.alloc {X : Nat → Prop} (W : World) (o : Obj) : Fr X W (W.alloc o) := Fr.of_below ((Below.refl _ W).alloc (Nat.le_refl _) o) (fun k hk hn => absurd hk (Nat.not_lt.2 hn))
theorem Fr.drew {X : Nat → Prop} (W : World) : Fr X W W.drew := ⟨rfl, rfl, rfl, Nat.le_refl _, fun _ _ _ => rfl⟩
theorem Fr.setCell {X : Nat → Prop} (W : World) (a : Addr) (v : Value) (hx : X a.block) : Fr X W (W.setCell a v) :=
  ⟨rfl, rfl, rfl, by simp [World.setCell], fun k _ hk => Below.heap_setCell W a v k (fun e => hk (e ▸ hx))⟩
theorem Fr.grown {X : Nat → Prop} {W W' : World} {row : Option Nat} (h : W.grownBy W' row) (hx : ∀ r, row = some r → X r) : Fr X W W' :=
  ⟨h.os, h.tape, h.output, h.size, fun k hk hn => h.block k hk (fun e => hn (hx k e.symm))⟩
theorem Fr.putObj {X : Nat → Prop} (W : World) (D : Nat) (o : Obj) (hx : X D) : Fr X W (W.putObj D o) :=
  ⟨rfl, rfl, rfl, by simp, fun k _ hk => World.putObj_heap_other (fun e => hk (e ▸ hx))⟩
theorem Fr.below {X : Nat → Prop} {A B : World} (h : Fr X A B) {n : Nat} (hn : n ≤ A.heap.size) (hx : ∀ k, k < n → ¬ X k) : Below n A B :=
  ⟨h.os, h.tape, h.output, h.size, fun k hk => h.same k (by omega) (hx k hk)⟩
theorem Fr.cell {X : Nat → Prop} {A B : World} (h : Fr X A B) {p : Addr} {v : Value} (hc : A.cell? p = some v) (hx : ¬ X p.block) : B.cell? p = some v := by
  have hb : p.block < A.heap.size := World.block_lt_of_cell? A _ hc
  have := h.same p.block hb hx
  simp only [World.cell?] at hc ⊢
  rw [this]; exact hc
theorem ownFrom_fr {β : Type} {B : Nat} {X : Nat → Prop} {W0 : World} (hB : W0.heap.size ≤ B) : OwnFrom B (fun (_ : β) W => Fr X W0 W) :=
  fun s W W' row hs hg hr => ⟨hg.os.trans hs.os, hg.tape.trans hs.tape, hg.output.trans hs.output, Nat.le_trans hs.size hg.size,
    fun k hk hx => (hg.block k (by have := hs.size; omega) (fun e => by have := (hr k e.symm).1; omega)).trans (hs.same k hk hx)⟩

/-! ### the marks of loops that were left -/
def marksOf (ns : List Nat) : List Deferred := ns.map fun D => { target := .collected D, args := #[] }
/-- ds are marks, each of which has collected nothing. -/
def Coll (lo hi : Nat) (ds : List Deferred) (W : World) : Prop :=
  ∃ ns : List Nat, ds = marksOf ns ∧ ns.Nodup ∧ ∀ D ∈ ns, lo ≤ D ∧ D < hi ∧ W.heap[D]? = some (.deferred (some []))
theorem Coll.nil (lo hi : Nat) (W : World) : Coll lo hi [] W := ⟨[], rfl, List.nodup_nil, fun D h => by cases h⟩
theorem Coll.push {lo hi D hi' : Nat} {ds : List Deferred} {W : World} (h : Coll lo hi ds W) (hlo : lo ≤ D) (hD : hi ≤ D) (hh : D < hi') (hK : W.heap[D]? = some (.deferred (some []))) :
    Coll lo hi' ({ target := .collected D, args := #[] } :: ds) W := by
  obtain ⟨ns, rfl, hn, ha⟩ := h
  refine ⟨D :: ns, rfl, List.nodup_cons.2 ⟨fun hm => by have := (ha D hm).2.1; omega, hn⟩, fun d hd => ?_⟩
  rcases List.mem_cons.1 hd with rfl | hd
  · exact ⟨hlo, hh, hK⟩
  · have := ha d hd; exact ⟨this.1, by omega, this.2.2⟩
theorem Coll.up {lo hi hi' : Nat} {ds : List Deferred} {W : World} (h : Coll lo hi ds W) (hh : hi ≤ hi') : Coll lo hi' ds W := by
  obtain ⟨ns, rfl, hn, ha⟩ := h
  exact ⟨ns, rfl, hn, fun d hd => by have := ha d hd; exact ⟨this.1, by omega, this.2.2⟩⟩
/-- W' has W's marks. -/
def SameMarks (W W' : World) : Prop := ∀ D : Nat, W.heap[D]? = some (.deferred (some [])) → W'.heap[D]? = some (.deferred (some []))
theorem SameMarks.refl (W : World) : SameMarks W W := fun _ h => h
theorem SameMarks.trans {A B C : World} (h : SameMarks A B) (k : SameMarks B C) : SameMarks A C := fun D q => k D (h D q)
theorem Coll.same {lo hi : Nat} {ds : List Deferred} {W W' : World} (h : Coll lo hi ds W) (hs : SameMarks W W') : Coll lo hi ds W' := by
  obtain ⟨ns, rfl, hn, ha⟩ := h
  exact ⟨ns, rfl, hn, fun d hd => by have := ha d hd; exact ⟨this.1, this.2.1, hs d this.2.2⟩⟩
theorem SameMarks.alloc (W : World) (o : Obj) : SameMarks W (W.alloc o) := fun D h => heap_old h
theorem SameMarks.drew (W : World) : SameMarks W W.drew := fun D h => h
theorem SameMarks.setCell (W : World) (a : Addr) (v : Value) : SameMarks W (W.setCell a v) := fun D h => by
  simp only [World.setCell, Array.getElem?_modify]
  split
  · rw [h]; rfl
  · exact h
theorem SameMarks.below {n : Nat} {W W' : World} (h : Below n W W') (hn : W.heap.size ≤ n) : SameMarks W W' := fun D q => (h.block D (by have := (Array.getElem?_eq_some_iff.1 q).1; omega)).trans q
/-- A step that changes one block, no mark. -/
theorem SameMarks.grown {W W' : World} {row : Option Nat} (h : W.grownBy W' row) (hr : ∀ r, row = some r → W.heap[r]? ≠ some (.deferred (some []))) : SameMarks W W' := fun D q =>
  (h.block D (Array.getElem?_eq_some_iff.1 q).1 (fun e => hr D e.symm q)).trans q
theorem SameMarks.fr {X : Nat → Prop} {W W' : World} (h : Fr X W W') (hx : ∀ k, X k → W.heap[k]? ≠ some (.deferred (some []))) : SameMarks W W' := fun D q =>
  (h.same D (Array.getElem?_eq_some_iff.1 q).1 (fun e => hx D e q)).trans q
theorem MapIs.noMark {β : Type} {E : Elem β} {w : World} {b : Nat} {M : St → Option β} (h : MapIs E w b M) : w.heap[b]? ≠ some (.deferred (some [])) := fun e => by
  obtain ⟨es, c, h1⟩ := h.isMap
  rw [h1] at e; cases e
theorem RangeIs.noMark {β : Type} {E : Elem β} {w : World} {b r cnt : Nat} {M : St → Option β} {L : St → Prop} (h : RangeIs E w b r M L cnt) : w.heap[r]? ≠ some (.deferred (some [])) := fun e => by
  obtain ⟨D, left, ⟨es, clock, since, seen, c0, h1, h2, h3, h4, h5, h6⟩, ht, hl⟩ := h
  rw [h5] at e; cases e
theorem ownFrom_coll {β : Type} {B lo hi : Nat} {ds : List Deferred} (hB : hi ≤ B) : OwnFrom B (fun (_ : β) W => Coll lo hi ds W) :=
  fun s W W' row hs hg hr => by
    obtain ⟨ns, rfl, hn, ha⟩ := hs
    exact ⟨ns, rfl, hn, fun d hd => by
      have := ha d hd
      exact ⟨this.1, this.2.1, (hg.block d (Array.getElem?_eq_some_iff.1 this.2.2).1 (fun e => by have := (hr d e.symm).1; omega)).trans this.2.2⟩⟩

/-- A function is left through its marks. -/
theorem leave_marks {F : Fence} {n : Nat} {P : Program} {fn : Func} {tmps : Array Value} {R : Ending → World → Prop} {lo hi : Nat} : ∀ (ds : List Deferred) (W : World), Coll lo hi ds W →
    (∀ W', Fr (fun k => lo ≤ k ∧ k < hi ∧ W.heap[k]? = some (.deferred (some []))) W W' → LeavesInM F n P fn tmps R [] .returning W') → LeavesInM F n P fn tmps R ds .returning W := by
  intro ds
  induction ds with
  | nil => intro W _ hR; exact hR W (Fr.refl _ _)
  | cons d ds ih =>
    intro W hc hR
    obtain ⟨ns, hd, hn, ha⟩ := hc
    cases ns with
    | nil => cases hd
    | cons D ns =>
      simp only [marksOf, List.map_cons, List.cons.injEq] at hd
      obtain ⟨rfl, rfl⟩ := hd
      have hD := ha D (by simp)
      have hnd := List.nodup_cons.1 hn
      refine ⟨by simp, .inl ⟨_, _, rfl, run_takeDeferred hD.2.2, ?_⟩⟩
      refine ih _ ⟨ns, rfl, hnd.2, fun d hd => ?_⟩ (fun W' hF => ?_)
      · have := ha d (by simp [hd])
        exact ⟨this.1, this.2.1, putObj_old (fun e => hnd.1 (e ▸ hd)) this.2.2⟩
      · refine hR W' ⟨hF.os, hF.tape, hF.output, by have := hF.size; simpa using this, fun k hk hx => ?_⟩
        have hkD : k ≠ D := fun e => hx (by subst e; exact hD)
        have e1 : (W.putObj D (.deferred none)).heap[k]? = W.heap[k]? := World.putObj_heap_other hkD
        exact (hF.same k (by simpa using hk) (fun ⟨h1, h2, h3⟩ => hx ⟨h1, h2, by rw [← e1]; exact h3⟩)).trans e1

/-! ### a loop's head: what the body writes is open, and so are the frame's marks -/
/-- The list vs, but where the mask names something else. -/
def lay : List (Option Value) → List Value → List Value
  | none :: ms, v :: vs => v :: lay ms vs
  | some u :: ms, _ :: vs => u :: lay ms vs
  | [], vs => vs
  | _ :: _, [] => []

theorem wpIn_loop_lay {F : Fence} {n : Nat} {P : Program} {c : Code} {Q : Exit → Act → World → Prop} {T : List Value} {ds : List Deferred} {w : World} (I : List Value → Act → World → Prop) (μ : Act → World → Nat)
    (h₀ : I T { tmps := T.toArray, defers := ds } w) (round : ∀ a w, I T a w → c.wpIn F n P (Exit.then (fun a' w' => I T a' w' ∧ μ a' w' < μ a w) Q) a w) : (Code.loop c).wpIn F n P Q { tmps := T.toArray, defers := ds } w :=
  wpIn_loop (I T) μ h₀ round

/-! ### what stands in a block of a function -/
def inBlock (n : Nat) : Code → Option Code
  | .block k c => match Nat.beq k n with
    | true => some c
    | false => inBlock n c
  | .seq a b => match inBlock n a with
    | some c => some c
    | none => inBlock n b
  | .cond _ a b => match inBlock n a with
    | some c => some c
    | none => inBlock n b
  | .loop c => inBlock n c
  | .scope c => inBlock n c
  | .rangeFunc _ _ a b => match inBlock n a with
    | some c => some c
    | none => inBlock n b
  | _ => none
def blockOf (n : Nat) (f : Func) : Code := (f.body.bind (inBlock n)).getD .skip
end Go.Proofs.Ytdnjmhhjjbdieaa.Q
end

section
/- The walk of look: the innermost loop. -/
namespace Go.Proofs.Ytdnjmhhjjbdieaa.Q
open Go.RowKit Go.Shelf Go.Proofs.YtdnjmhhjjbdieaaW.PrintWords Go.Proofs.YtdnjmhhjjbdieaaW.PrintLast
set_option linter.unusedVariables false
set_option linter.unusedSimpArgs false
attribute [local go_sem] Oper.semAt_some

noncomputable def setOf (S : St → Prop) : St → Option Unit := fun x => by classical exact if S x then some () else none
theorem setOf_ne {S : St → Prop} {x : St} : setOf S x ≠ none ↔ S x := by unfold setOf; split <;> simp_all
theorem setOf_some {S : St → Prop} {x : St} {u : Unit} (h : setOf S x = some u) : S x := setOf_ne.1 (by rw [h]; simp)
theorem setOf_congr {S T : St → Prop} (h : ∀ x, S x ↔ T x) : setOf S = setOf T := by
  have : S = T := funext fun x => propext (h x)
  rw [this]
theorem setOf_none : setOf (fun _ => False) = fun _ => none := by funext x; simp [setOf]
theorem setOf_add {S : St → Prop} {x : St} : (fun y => if y = x then some () else setOf S y) = setOf (fun y => S y ∨ y = x) := by
  funext y
  by_cases e : y = x
  · rw [if_pos e]; unfold setOf; rw [if_pos (.inr e)]
  · rw [if_neg e]; unfold setOf; split <;> rename_i h
    · rw [if_pos (.inl h)]
    · rw [if_neg (fun q => q.elim h e)]

theorem ownFrom_map {β γ : Type} {E : Elem β} {B b : Nat} {M : γ → St → Option β} (hb : b < B) : OwnFrom B (fun (s : γ) W => MapIs E W b (M s)) :=
  fun s W W' row hs hg hr => hs.kept hg (fun e => by have := (hr b e.symm).1; omega)
theorem ownFrom_range {β γ : Type} {E : Elem β} {B b r cnt : Nat} {M : St → Option β} {L : St → Prop} (hb : b < B) (hr' : r < B) : OwnFrom B (fun (_ : γ) W => RangeIs E W b r M L cnt) :=
  fun s W W' row hs hg hr => hs.kept hg (fun e => by have := (hr b e.symm).1; omega) (fun e => by have := (hr r e.symm).1; omega)

/-- What a call of parts has laid. -/
structure PartsAt (n : Nat) (least most short mf mh : Int) (vv : Value) (x : St) (W W3 : World) : Prop where
  hb0 : W3.heap[W.heap.size]? = some (.cells #[.int .i64 n, .int .i64 least, .int .i64 most, .int .i64 short, vv] 33 (0, 0))
  hb1 : W3.heap[W.heap.size + 1]? = some (.cells #[.int .i64 x.holder, .int .i64 x.turn, .int .i64 x.short, .bool x.own] 109 (0, 0))
  hb2 : W3.heap[W.heap.size + 2]? = some (.cells #[.int .u16 mf, .int .u16 mh] 52 (0, 0))
  hb3 : W3.heap[W.heap.size + 3]? = some (.cells #[.func (.func 67) #[.agg #[.int .i64 n, .int .i64 least, .int .i64 most, .int .i64 short, vv]] #[]] 129 (0, 0))
  size : W3.heap.size = W.heap.size + 4
  below : Below W.heap.size W W3

theorem parts.calls' (n : Nat) (least most short mf mh : Int) (vv : Value) (x : St) (W : World) :
    Calls Try.prog 51 #[.agg #[.int .i64 n, .int .i64 least, .int .i64 most, .int .i64 short, vv], .agg #[.int .i64 x.holder, .int .i64 x.turn, .int .i64 x.short, .bool x.own], .agg #[.int .u16 mf, .int .u16 mh]] W fun e w' =>
      e = .returned (.func (.func 73) #[] #[.pointer (some ⟨W.heap.size, 0, none⟩), .pointer (some ⟨W.heap.size + 2, 0, none⟩), .pointer (some ⟨W.heap.size + 3, 0, none⟩), .pointer (some ⟨W.heap.size + 1, 0, none⟩)]) ∧ PartsAt n least most short mf mh vv x W w' := by
  refine (parts.calls n least most short mf mh vv x W).mono ?_
  rintro e W3 ⟨rfl, hW3⟩
  exact ⟨rfl, by rw [hW3]; exact heap_old (heap_old (heap_old (heap_new rfl))), by rw [hW3]; exact heap_old (heap_old (heap_new (by simp))), by rw [hW3]; exact heap_old (heap_new (by simp)), by rw [hW3]; exact heap_new (by simp), by rw [hW3]; simp,
    by rw [hW3]; exact ((((Below.refl _ W).alloc (by omega) _).alloc (by simp) _).alloc (by simp; omega) _).alloc (by simp; omega) _⟩

theorem PartsAt.iter {n : Nat} {least most short mf mh : Int} {vv : Value} {x : St} {W W3 : World} (h : PartsAt n least most short mf mh vv x W W3) (hn : n ≤ 12) {i : Nat} (hx : Small x i) (hi : i ≤ 100) :
    IterK Try.prog 73 #[.pointer (some ⟨W.heap.size, 0, none⟩), .pointer (some ⟨W.heap.size + 2, 0, none⟩), .pointer (some ⟨W.heap.size + 3, 0, none⟩), .pointer (some ⟨W.heap.size + 1, 0, none⟩)] encPart (partsOf least most short x mf mh n) (partsC W.heap.size) W3 :=
  parts1.iter n hn least most short mf mh vv x hx.t1 (by have := hx.t2; omega) hx.s1 (by have := hx.s2; omega) W.heap.size W3 h.hb0 h.hb1 h.hb2 h.hb3

/-- What a step may come to. -/
def nexts (least most short : Int) (n : Nat) (mf mh : Int) (S : St → Prop) (y : St) : Prop := ∃ x, S x ∧ ∃ p ∈ partsOf least most short x mf mh n, p.2 = y

set_option maxRecDepth 100000 in
set_option maxHeartbeats 4000000 in
theorem look.fill (n : Nat) (hn : n ≤ 12) (least most short mf mh : Int) (vv : Value) (S : St → Prop) (i : Nat) (hi : i ≤ 45) (hS : ∀ x, S x → Small x i)
    (sc cm cn bi bn rb lo cnt : Nat) (ds : List Deferred) (Q : Exit → Act → World → Prop) (v0 v2 v3 v4 v7 v8 v9 v10 v11 v12 v13 v14 v15 v16 v17 v18 v19 v20 v21 v22 v23 v24 v25 v26 v27 v28 v29 v30 v31 v32 v33 v34 v35 v36 v38 v39 v40 v41 v42 v43 v44 v45 v46 v47 v48 v49 v50 v51 v52 v53 v54 v55 v56 v57 v58 v59 v60 v61 v62 v63 v64 v65 v66 v67 v68 v69 v70 v71 v72 v73 v74 v75 v76 v77 v78 v79 v80 v81 v82 v83 v84 v85 v86 v87 v88 v89 v90 v91 v92 v93 v94 v95 v96 v97 v98 v99 v100 v101 v102 v103 v104 v105 v106 : Value) (W : World)
    (hr : RangeIs EB W bi rb (setOf S) (fun x => setOf S x ≠ none) cnt) (hb : MapIs EB W bn (fun _ => none)) (hbn : bi ≠ bn)
    (h1 : W.heap[sc]? = some (.cells #[.int .i64 n, .int .i64 least, .int .i64 most, .int .i64 short, vv] 33 (0, 0)))
    (h2 : W.heap[cm]? = some (.cells #[.int .u16 mf, .int .u16 mh] 52 (0, 0)))
    (h3 : W.heap[cn]? = some (.cells #[.map (some bn)] 104 (0, 0)))
    (hlo : lo ≤ W.heap.size) (hds : Coll lo W.heap.size ds W)
    (hdone : ∀ (ds' : List Deferred) (u7 u9 u38 u39 u40 u41 u42 u43 u44 u45 u48 u49 : Value) (W' : World), Fr (fun k => k = bn ∨ k = rb) W W' → MapIs EB W' bi (setOf S) → MapIs EB W' bn (setOf (nexts least most short n mf mh S)) → Coll lo W'.heap.size ds' W' →
      Q .normal { tmps := (List.toArray (v0 :: (.pointer (some ⟨sc, 0, none⟩)) :: v2 :: v3 :: v4 :: (.pointer (some ⟨cm, 0, none⟩)) :: (.pointer (some ⟨cn, 0, none⟩)) :: u7 :: v8 :: u9 :: v10 :: v11 :: v12 :: v13 :: v14 :: v15 :: v16 :: v17 :: v18 :: v19 :: v20 :: v21 :: v22 :: v23 :: v24 :: v25 :: v26 :: v27 :: v28 :: v29 :: v30 :: v31 :: v32 :: v33 :: v34 :: v35 :: v36 :: (.pointer (some ⟨rb, 0, none⟩)) :: u38 :: u39 :: u40 :: u41 :: u42 :: u43 :: u44 :: u45 :: v46 :: v47 :: u48 :: u49 :: v50 :: v51 :: v52 :: v53 :: v54 :: v55 :: v56 :: v57 :: v58 :: v59 :: v60 :: v61 :: v62 :: v63 :: v64 :: v65 :: v66 :: v67 :: v68 :: v69 :: v70 :: v71 :: v72 :: v73 :: v74 :: v75 :: v76 :: v77 :: v78 :: v79 :: v80 :: v81 :: v82 :: v83 :: v84 :: v85 :: v86 :: v87 :: v88 :: v89 :: v90 :: v91 :: v92 :: v93 :: v94 :: v95 :: v96 :: v97 :: v98 :: v99 :: v100 :: v101 :: v102 :: v103 :: v104 :: v105 :: v106 :: [])), defers := ds' } W') :
    (blockOf 2 Try.f71).wpIn Fence.wide 0 Try.prog (Exit.inBlock 2 Q) { tmps := (List.toArray (v0 :: (.pointer (some ⟨sc, 0, none⟩)) :: v2 :: v3 :: v4 :: (.pointer (some ⟨cm, 0, none⟩)) :: (.pointer (some ⟨cn, 0, none⟩)) :: v7 :: v8 :: v9 :: v10 :: v11 :: v12 :: v13 :: v14 :: v15 :: v16 :: v17 :: v18 :: v19 :: v20 :: v21 :: v22 :: v23 :: v24 :: v25 :: v26 :: v27 :: v28 :: v29 :: v30 :: v31 :: v32 :: v33 :: v34 :: v35 :: v36 :: (.pointer (some ⟨rb, 0, none⟩)) :: v38 :: v39 :: v40 :: v41 :: v42 :: v43 :: v44 :: v45 :: v46 :: v47 :: v48 :: v49 :: v50 :: v51 :: v52 :: v53 :: v54 :: v55 :: v56 :: v57 :: v58 :: v59 :: v60 :: v61 :: v62 :: v63 :: v64 :: v65 :: v66 :: v67 :: v68 :: v69 :: v70 :: v71 :: v72 :: v73 :: v74 :: v75 :: v76 :: v77 :: v78 :: v79 :: v80 :: v81 :: v82 :: v83 :: v84 :: v85 :: v86 :: v87 :: v88 :: v89 :: v90 :: v91 :: v92 :: v93 :: v94 :: v95 :: v96 :: v97 :: v98 :: v99 :: v100 :: v101 :: v102 :: v103 :: v104 :: v105 :: v106 :: [])), defers := ds } W := by
  conv => arg 4; whnf
  have hu := Try.underlying33
  have hu1 := Try.underlying109
  have hu2 := Try.underlying52
  have ksc : sc < W.heap.size := (Array.getElem?_eq_some_iff.1 h1).1
  have kcm : cm < W.heap.size := (Array.getElem?_eq_some_iff.1 h2).1
  have kcn : cn < W.heap.size := (Array.getElem?_eq_some_iff.1 h3).1
  have nosc : ¬ (sc = bn ∨ sc = rb) := fun h => by
    rcases h with rfl | rfl
    · obtain ⟨es, c, e⟩ := hb.isMap; rw [h1] at e; cases e
    · obtain ⟨o, e, ec⟩ := hr.iter; rw [h1] at e; cases e; cases ec
  have nocm : ¬ (cm = bn ∨ cm = rb) := fun h => by
    rcases h with rfl | rfl
    · obtain ⟨es, c, e⟩ := hb.isMap; rw [h2] at e; cases e
    · obtain ⟨o, e, ec⟩ := hr.iter; rw [h2] at e; cases e; cases ec
  have nocn : ¬ (cn = bn ∨ cn = rb) := fun h => by
    rcases h with rfl | rfl
    · obtain ⟨es, c, e⟩ := hb.isMap; rw [h3] at e; cases e
    · obtain ⟨o, e, ec⟩ := hr.iter; rw [h3] at e; cases e; cases ec
  have norb : rb ≠ bn := fun h => by
    subst h
    obtain ⟨es, c, e⟩ := hb.isMap
    obtain ⟨D, left, ⟨es, clock, since, seen, c0, q1, q2, q3, q4, q5, q6⟩, ht, hl⟩ := hr
    rw [q5] at e; cases e
  have H1 := Lib.hid h1
  have H2 := Lib.hid h2
  have H3 := Lib.hid h3
  clear h1 h2 h3
  refine wpIn_loop_lay (fun (tT : List Value) (a' : Act) (wv : World) => ∃ (dfs : List Deferred) (u7 u9 u38 u39 u40 u41 u42 u43 u44 u45 u48 u49 : Value), ((fun dfs w' => ∃ L cnt, RangeIs EB w' bi rb (setOf S) L cnt ∧ MapIs EB w' bn (setOf (nexts least most short n mf mh (fun x => S x ∧ ¬ L x))) ∧ Fr (fun k => k = bn ∨ k = rb) W w' ∧ Coll lo w'.heap.size dfs w')  dfs wv) ∧ a' = { tmps := (lay [none, none, none, none, none, none, none, some u7, none, some u9, none, none, none, none, none, none, none, none, none, none, none, none, none, none, none, none, none, none, none, none, none, none, none, none, none, none, none, none, some u38, some u39, some u40, some u41, some u42, some u43, some u44, some u45, none, none, some u48, some u49] tT).toArray, defers := dfs }) (fun (a' : Act) (wv : World) => (fun w' => w'.rangeLeft bi rb)  wv) ?atStart ?round
  case' atStart =>
    dsimp only [lay]
    (repeat apply Exists.intro)
    refine ⟨?_, rfl⟩
  case' round =>
    dsimp only [lay]
    intro _ wr hinv
    obtain ⟨dfs, hinv⟩ := hinv
    obtain ⟨u7, hinv⟩ := hinv
    obtain ⟨u9, hinv⟩ := hinv
    obtain ⟨u38, hinv⟩ := hinv
    obtain ⟨u39, hinv⟩ := hinv
    obtain ⟨u40, hinv⟩ := hinv
    obtain ⟨u41, hinv⟩ := hinv
    obtain ⟨u42, hinv⟩ := hinv
    obtain ⟨u43, hinv⟩ := hinv
    obtain ⟨u44, hinv⟩ := hinv
    obtain ⟨u45, hinv⟩ := hinv
    obtain ⟨u48, hinv⟩ := hinv
    obtain ⟨u49, hinv⟩ := hinv
    obtain ⟨hrel, ha⟩ := hinv
    subst ha
    try dsimp only
  case atStart =>
    refine ⟨_, cnt, hr, ?_, Fr.refl _ _, hds⟩
    rw [setOf_congr (T := fun _ => False) (fun x => ⟨fun ⟨x, ⟨h1, h2⟩, _⟩ => h2 (setOf_ne.2 h1), fun h => h.elim⟩), setOf_none]
    exact hb
  case round =>
    obtain ⟨L, cn2, hR, hB, hF, hC⟩ := hrel
    rcases hR.next 0 with ⟨hall, hrun⟩ | ⟨x, v, W1, cnt1, hLx, hMx, hbx, hrun, hR1, hlt, hg1, hs1, hen⟩
    · gi_wp2
      refine hdone dfs _ _ _ _ _ _ _ _ _ _ _ _ wr hF hR.mapIs ?_ hC
      rwa [setOf_congr (T := nexts least most short n mf mh S) (fun y => ⟨fun ⟨x, ⟨q1, q2⟩, q3⟩ => ⟨x, q1, q3⟩, fun ⟨x, q1, q3⟩ => ⟨x, ⟨q1, fun q2 => setOf_ne.2 q1 (hall x q2)⟩, q3⟩⟩)] at hB
    · simp only [encSt] at hrun hen
      have F1 := hF.trans (Fr.grown hg1 (fun r e => by cases e; exact .inr rfl))
      have e10 := F1.cell (cell_of H1.out (i := 0) rfl) nosc
      have e11 := F1.cell (cell_of H1.out (i := 1) rfl) nosc
      have e12 := F1.cell (cell_of H1.out (i := 2) rfl) nosc
      have e13 := F1.cell (cell_of H1.out (i := 3) rfl) nosc
      have e14 := F1.cell (cell_of H1.out (i := 4) rfl) nosc
      have e20 := F1.cell (cell_of H2.out (i := 0) rfl) nocm
      have e21 := F1.cell (cell_of H2.out (i := 1) rfl) nocm
      have E30 := Lib.hid (F1.cell (cell_of H3.out (i := 0) rfl) nocn)
      simp only [List.getElem_toArray, List.getElem_cons_zero, List.getElem_cons_succ] at e10 e11 e12 e13 e14 e20 e21
      have hsW := F1.size
      have k1 : sc < W1.heap.size := by omega
      have k2 : cm < W1.heap.size := by omega
      have k3 : cn < W1.heap.size := by omega
      have hB1 : MapIs EB W1 bn (setOf (nexts least most short n mf mh (fun x => S x ∧ ¬ L x))) := hB.kept hg1 (fun e => norb (Option.some.inj e).symm)
      have hC1 : Coll lo W1.heap.size dfs W1 := (hC.same (SameMarks.grown hg1 (fun r e => by cases e; exact hR.noMark))).up (by omega)
      have HF1 := Lib.hid F1
      have HB1 := Lib.hid hB1
      have HC1 := Lib.hid hC1
      have HR1 := Lib.hid hR1
      have HS := Lib.hid hs1
      have hSx := setOf_some hMx
      have HLE := Lib.hid hR.left_eq
      clear F1 hB1 hC1 hR1 hs1 hF hB hC hR hg1 hMx
      gi_wp2
      obtain ⟨W2, hW2⟩ : ∃ W2, W1.alloc (.cells #[.int .i64 x.holder, .int .i64 x.turn, .int .i64 x.short, .bool x.own] 109) = W2 := ⟨_, rfl⟩
      have hW2s : W2.heap.size = W1.heap.size + 1 := by rw [← hW2]; simp
      have hW2f : Fr (fun k => k = bn ∨ k = rb) W W2 := by rw [← hW2]; exact HF1.out.trans (Fr.alloc _ _)
      have hW2R : RangeIs EB W2 bi rb (setOf S) (fun y => L y ∧ y ≠ x) cnt1 := by rw [← hW2]; exact HR1.out.same (Below.heap_alloc _ _ _ HR1.out.mapIs.lt) (Below.heap_alloc _ _ _ HR1.out.lt)
      have hW2B : MapIs EB W2 bn (setOf (nexts least most short n mf mh (fun x => S x ∧ ¬ L x))) := by rw [← hW2]; exact HB1.out.same (Below.heap_alloc _ _ _ HB1.out.lt)
      have hW2C : Coll lo W1.heap.size dfs W2 := by rw [← hW2]; exact HC1.out.same (SameMarks.alloc _ _)
      rw [hW2]
      have HW2s := Lib.hid hW2s
      have HW2f := Lib.hid hW2f
      have HW2R := Lib.hid hW2R
      have HW2B := Lib.hid hW2B
      have HW2C := Lib.hid hW2C
      clear hW2 hW2s hW2f hW2R hW2B hW2C e10 e11 e12 e13 e14 e20 e21
      refine ⟨trivial, rfl, (callsIn_wide.2 (parts.calls' n least most short mf mh vv x W2)).mono ?_⟩
      rintro e W3 ⟨rfl, hPA⟩
      have hs3 := hPA.size
      have hBe := hPA.below
      have hf3 : Fr (fun k => k = bn ∨ k = rb) W W3 := HW2f.out.trans (Fr.of_below hBe (fun k q1 q2 => by omega))
      have hR3 : RangeIs EB W3 bi rb (setOf S) (fun y => L y ∧ y ≠ x) cnt1 := HW2R.out.same (hBe.block _ HW2R.out.mapIs.lt) (hBe.block _ HW2R.out.lt)
      have hB3 : MapIs EB W3 bn (setOf (nexts least most short n mf mh (fun x => S x ∧ ¬ L x))) := HW2B.out.same (hBe.block _ HW2B.out.lt)
      have hC3 : Coll lo W1.heap.size dfs W3 := HW2C.out.same (SameMarks.below hBe (Nat.le_refl _))
      have HF3 := Lib.hid hf3
      have HR3 := Lib.hid hR3
      have HB3 := Lib.hid hB3
      have HC3 := Lib.hid hC3
      have HBE := Lib.hid hBe
      have HS3 := Lib.hid hs3
      clear hf3 hR3 hB3 hC3 hBe hs3
      gi_wp2
      have hx0 := hS x hSx
      have ht1 := hx0.t1
      have ht2 := hx0.t2
      have hs1 := hx0.s1
      have hs2 := hx0.s2
      have hs3 := HS3.out
      have hs4 := HW2s.out
      have hlB := HB3.out.lt
      have hlR := HR3.out.lt
      have hli := HR3.out.mapIs.lt
      refine wpIn_iter (gf := 73) (lb := #[.pointer (some ⟨W2.heap.size, 0, none⟩), .pointer (some ⟨W2.heap.size + 2, 0, none⟩), .pointer (some ⟨W2.heap.size + 3, 0, none⟩), .pointer (some ⟨W2.heap.size + 1, 0, none⟩)]) rfl (enters_of Try.func73 (by kernel_rfl) rfl)
        (hPA.iter hn hx0 (by omega)) (Nat.le_refl _) (fun _ _ => rfl) (fun k hk => by have := hk.2; omega) (fun _ => rfl)
        (fun pre W' => (Fr (fun k => k = bn ∨ k = rb) W W' ∧ RangeIs EB W' bi rb (setOf S) (fun y => L y ∧ y ≠ x) cnt1 ∧ Coll lo W1.heap.size dfs W' ∧ W3.heap.size ≤ W'.heap.size) ∧
          MapIs EB W' bn (setOf (fun y => nexts least most short n mf mh (fun x => S x ∧ ¬ L x) y ∨ ∃ p ∈ pre, p.2 = y)))
        (fun c pre W' => False)
        (OwnFrom.and (OwnFrom.and (ownFrom_fr (by have := HF3.out.size; omega)) (OwnFrom.and (ownFrom_range (by omega) (by omega)) (OwnFrom.and (ownFrom_coll (by omega)) ownFrom_size))) (ownFrom_map (by omega)))
        (fun c => ownFrom_pure _ _)
        ⟨⟨HF3.out, HR3.out, HC3.out, Nat.le_refl _⟩, by simpa using HB3.out⟩
        (fun pre p a' W' => ∃ B, W3.heap.size ≤ B ∧ W'.heap[B]? = some (.cells #[.int .i64 p.2.holder, .int .i64 p.2.turn, .int .i64 p.2.short, .bool p.2.own] 109 (0, 0)) ∧ a' = { tmps := (List.toArray (v0 :: (.pointer (some ⟨sc, 0, none⟩)) :: v2 :: v3 :: v4 :: (.pointer (some ⟨cm, 0, none⟩)) :: (.pointer (some ⟨cn, 0, none⟩)) :: (.pointer (some ⟨W1.heap.size, 0, none⟩)) :: v8 :: (.pointer (some ⟨B, 0, none⟩)) :: v10 :: v11 :: v12 :: v13 :: v14 :: v15 :: v16 :: v17 :: v18 :: v19 :: v20 :: v21 :: v22 :: v23 :: v24 :: v25 :: v26 :: v27 :: v28 :: v29 :: v30 :: v31 :: v32 :: v33 :: v34 :: v35 :: v36 :: (.pointer (some ⟨rb, 0, none⟩)) :: (.tuple #[.bool true, .agg #[.int .i64 x.holder, .int .i64 x.turn, .int .i64 x.short, .bool x.own], EB.enc v]) :: (.bool true) :: (.tuple #[.agg #[.int .i64 x.holder, .int .i64 x.turn, .int .i64 x.short, .bool x.own], EB.enc v]) :: (.agg #[.int .i64 x.holder, .int .i64 x.turn, .int .i64 x.short, .bool x.own]) :: (.agg #[.int .i64 n, .int .i64 least, .int .i64 most, .int .i64 short, vv]) :: (.agg #[.int .i64 x.holder, .int .i64 x.turn, .int .i64 x.short, .bool x.own]) :: (.agg #[.int .u16 mf, .int .u16 mh]) :: (.func (.func 73) #[] #[.pointer (some ⟨W2.heap.size, 0, none⟩), .pointer (some ⟨W2.heap.size + 2, 0, none⟩), .pointer (some ⟨W2.heap.size + 3, 0, none⟩), .pointer (some ⟨W2.heap.size + 1, 0, none⟩)]) :: (.agg #[.int .i64 p.1.1, .int .i64 p.1.2]) :: (.agg #[.int .i64 p.2.holder, .int .i64 p.2.turn, .int .i64 p.2.short, .bool p.2.own]) :: u48 :: u49 :: v50 :: v51 :: v52 :: v53 :: v54 :: v55 :: v56 :: v57 :: v58 :: v59 :: v60 :: v61 :: v62 :: v63 :: v64 :: v65 :: v66 :: v67 :: v68 :: v69 :: v70 :: v71 :: v72 :: v73 :: v74 :: v75 :: v76 :: v77 :: v78 :: v79 :: v80 :: v81 :: v82 :: v83 :: v84 :: v85 :: v86 :: v87 :: v88 :: v89 :: v90 :: v91 :: v92 :: v93 :: v94 :: v95 :: v96 :: v97 :: v98 :: v99 :: v100 :: v101 :: v102 :: v103 :: v104 :: v105 :: v106 :: [])), defers := [] })
        (fun pre p a' _ A A' row hs hg hr => by obtain ⟨B, e1, e2, e3⟩ := hs; exact ⟨B, e1, ownFrom_cells (fun (_ : Unit) => #[.int .i64 p.2.holder, .int .i64 p.2.turn, .int .i64 p.2.short, .bool p.2.own]) 109 () A A' row e2 hg hr, e3⟩)
        ?assign ?body ?done ?stop
      case assign =>
        rintro l1 pre p post W4 K hx' ⟨⟨hI1, hI2, hI3, hI4⟩, hI5⟩ hK
        have HI := Lib.hid (⟨hI1, hI2, hI3, hI4⟩ : Fr (fun k => k = bn ∨ k = rb) W W4 ∧ _ ∧ _ ∧ _)
        have HI5 := Lib.hid hI5
        clear hI1 hI2 hI3 hI4 hI5 hs3 hs4
        simp only [encPart, encSt]
        gi_wp2
        have hI := HI.out
        exact hK _ _ (KeptC.alloc _ _ _ _) ⟨⟨hI.1.trans (Fr.alloc _ _), hI.2.1.same (Below.heap_alloc _ _ _ hI.2.1.mapIs.lt) (Below.heap_alloc _ _ _ hI.2.1.lt), hI.2.2.1.same (SameMarks.alloc _ _), by have := hI.2.2.2; simp; omega⟩, HI5.out.same (Below.heap_alloc _ _ _ HI5.out.lt)⟩ ⟨_, hI.2.2.2, heap_new rfl, rfl⟩
      case body =>
        rintro l1 pre p post a' W4 hx' hl1 ⟨r1, hr1⟩ ⟨hI, hI5⟩ ⟨B, hB, hbB, rfl⟩
        have hsp : Small p.2 (i + 1) := small_parts hn hx0 (by rw [hx']; simp)
        obtain ⟨W5, hup, hM5, hg5, ht5, hs5⟩ := hI5.update p.2 (hsp.box (by omega)) ()
        have hup : (Instr.mapUpdate 104 (.map (some bn)) (.agg #[.int .i64 p.2.holder, .int .i64 p.2.turn, .int .i64 p.2.short, .bool p.2.own]) (.bool true)).run Try.prog W4 = .ok () W5 := hup
        have e30 := hI.1.cell (cell_of H3.out (i := 0) rfl) nocn
        simp only [List.getElem_toArray, List.getElem_cons_zero] at e30
        have eB0 := cell_of hbB (i := 0) rfl
        have eB1 := cell_of hbB (i := 1) rfl
        have eB2 := cell_of hbB (i := 2) rfl
        have eB3 := cell_of hbB (i := 3) rfl
        have HI := Lib.hid hI
        have HM5 := Lib.hid hM5
        have HG5 := Lib.hid hg5
        have hnm := hI5.noMark
        have HS5 := Lib.hid hs5
        clear hI hI5 hM5 hg5 ht5 hs3 hs4 hr1 hbB hs5
        gi_wp2
        have hI := HI.out
        have hz := hI.2.2.2
        have hg5 := HG5.out
        refine ⟨KeptC.grown hg5 (fun k e => by cases e; exact ⟨fun hc => by have := hc.1; have := HW2B.out.lt; omega, hlB⟩), ⟨hI.1.trans (Fr.grown hg5 (fun r e => by cases e; exact .inl rfl)), hI.2.1.kept hg5 (fun e => hbn (Option.some.inj e)) (fun e => norb (Option.some.inj e)), hI.2.2.1.same (SameMarks.grown hg5 (fun r e => by cases e; exact hnm)), by have := HS5.out; omega⟩, ?_⟩
        have hM5 := HM5.out
        rw [setOf_add] at hM5
        rwa [setOf_congr (T := fun y => nexts least most short n mf mh (fun x => S x ∧ ¬ L x) y ∨ ∃ q ∈ pre ++ [p], q.2 = y) (fun y => ⟨fun h => by
          rcases h with (h | ⟨q, hq, rfl⟩) | rfl
          · exact .inl h
          · exact .inr ⟨q, by simp [hq], rfl⟩
          · exact .inr ⟨p, by simp, rfl⟩, fun h => by
          rcases h with h | ⟨q, hq, rfl⟩
          · exact .inl (.inl h)
          · rcases List.mem_append.1 hq with hq | hq
            · exact .inl (.inr ⟨q, hq, rfl⟩)
            · rw [List.mem_singleton.1 hq]; exact .inr rfl⟩)] at hM5
      case done =>
        rintro D W5 hD ⟨hI, hI5⟩ hK
        gi_wp2
        refine ⟨?_, ?measure⟩
        · (repeat apply Exists.intro)
          refine ⟨?_, rfl⟩
          have hDl : D < W5.heap.size := (Array.getElem?_eq_some_iff.1 hK).1
          refine ⟨_, cnt1, hI.2.1, ?_, hI.1, hI.2.2.1.push (by have := HF3.out.size; omega) (by omega) hDl hK⟩
          rwa [setOf_congr (T := nexts least most short n mf mh (fun z => S z ∧ ¬ (L z ∧ z ≠ x))) (fun y => ⟨fun h => by
            rcases h with ⟨z, ⟨q1, q2⟩, q3⟩ | ⟨q, hq, rfl⟩
            · exact ⟨z, ⟨q1, fun h => q2 h.1⟩, q3⟩
            · exact ⟨x, ⟨hSx, fun h => h.2 rfl⟩, q, hq, rfl⟩, fun ⟨z, ⟨q1, q2⟩, q3⟩ => by
            by_cases e : z = x
            · subst e; obtain ⟨q, hq, hqy⟩ := q3; exact .inr ⟨q, hq, hqy⟩
            · exact .inl ⟨z, ⟨q1, fun h => q2 ⟨h, e⟩⟩, q3⟩⟩)] at hI5
        case measure =>
          rw [hI.2.1.left_eq, HLE.out]; exact hlt
      case stop =>
        rintro D c pre p post W5 hD hx' hf hK
        exact hf.elim
end Go.Proofs.Ytdnjmhhjjbdieaa.Q
end

section
/- The walk of look: the rounds over the moments. -/
namespace Go.Proofs.Ytdnjmhhjjbdieaa.Q
open Go.RowKit Go.Shelf Go.Proofs.YtdnjmhhjjbdieaaW.PrintWords Go.Proofs.YtdnjmhhjjbdieaaW.PrintLast
set_option linter.unusedVariables false
set_option linter.unusedSimpArgs false
attribute [local go_sem] Oper.semAt_some

attribute [local go_sem] run_makeMap

/-- The state before all moments. -/
def beginSt : St := ⟨-2, 0, 0, false⟩
theorem beginSt_small (i : Nat) : Small beginSt i := Small.zero _ _ (by omega) (by omega)

/-- Where a telling may stand after so many moments. -/
def fwd (least most short : Int) (n : Nat) (l : List S52) : Nat → St → Prop
  | 0 => fun y => y = beginSt
  | j + 1 => match l[j]? with | some m => nexts least most short n m.f0 m.f1 (fwd least most short n l j) | none => fun _ => False

theorem nexts_small {least most short : Int} {n : Nat} (hn : n ≤ 12) {mf mh : Int} {S : St → Prop} {i : Nat} (hS : ∀ x, S x → Small x i) (y : St) (h : nexts least most short n mf mh S y) : Small y (i + 1) := by
  obtain ⟨x, hx, p, hp, rfl⟩ := h
  exact small_parts hn (hS x hx) hp

theorem fwd_small {least most short : Int} {n : Nat} (hn : n ≤ 12) {l : List S52} : ∀ (j : Nat) (y : St), fwd least most short n l j y → Small y j
  | 0, y, h => by cases h; exact beginSt_small 0
  | j + 1, y, h => by
    cases hm : l[j]? with
    | none => simp [fwd, hm] at h
    | some m =>
      simp only [fwd, hm] at h
      exact nexts_small hn (fwd_small hn j) y h

/-- The object that look has made: its maps are the sets Ms 0 .. Ms i. -/
structure Seen (n : Nat) (least most short : Int) (A : Option Addr) (len c g sb cS i lo : Nat) (bs : List Nat) (Ms : Nat → St → Prop) (w : World) : Prop where
  obj : w.heap[g]? = some (.cells #[.int .i64 n, .int .i64 least, .int .i64 most, .int .i64 short, .slice A len c, .slice (some ⟨sb, 0, none⟩) (i + 1 : Nat) cS, .int .i64 i] 107 (0, 0))
  row : w.ownsRow lo 104 1 (.slice (some ⟨sb, 0, none⟩) (i + 1 : Nat) cS) (i + 1) (bs.map fun b => .map (some b))
  maps : ∀ j b, bs[j]? = some b → lo ≤ b ∧ MapIs EB w b (setOf (Ms j))
  nodup : bs.Nodup
  glo : lo ≤ g

theorem Seen.len {n : Nat} {least most short : Int} {A : Option Addr} {len c g sb cS i lo : Nat} {bs : List Nat} {Ms : Nat → St → Prop} {w : World} (h : Seen n least most short A len c g sb cS i lo bs Ms w) : bs.length = i + 1 := by
  have := h.row.1
  simpa using this
theorem Seen.cell {n : Nat} {least most short : Int} {A : Option Addr} {len c g sb cS i lo : Nat} {bs : List Nat} {Ms : Nat → St → Prop} {w : World} (h : Seen n least most short A len c g sb cS i lo bs Ms w) {j b : Nat} (hj : bs[j]? = some b) :
    w.cell? ⟨sb, j, none⟩ = some (.map (some b)) := by
  have := h.row.cells (g := sb) rfl j (.map (some b)) (by simp [hj])
  rcases j with _ | j <;> simpa [Addr.add] using this
theorem Seen.rowlt {n : Nat} {least most short : Int} {A : Option Addr} {len c g sb cS i lo : Nat} {bs : List Nat} {Ms : Nat → St → Prop} {w : World} (h : Seen n least most short A len c g sb cS i lo bs Ms w) : sb < w.heap.size := by
  obtain ⟨b, hb⟩ : ∃ b, bs[0]? = some b := ⟨_, List.getElem?_eq_getElem (by have := h.len; omega)⟩
  exact World.block_lt_of_cell? w _ (h.cell hb)
theorem Seen.maplt {n : Nat} {least most short : Int} {A : Option Addr} {len c g sb cS i lo : Nat} {bs : List Nat} {Ms : Nat → St → Prop} {w : World} (h : Seen n least most short A len c g sb cS i lo bs Ms w) {b : Nat} (hb : b ∈ bs) : b < w.heap.size := by
  obtain ⟨j, hj⟩ := List.getElem?_of_mem hb
  exact (h.maps j b hj).2.lt
/-- What changes neither the object, nor its row, nor its maps. -/
theorem Seen.same {n : Nat} {least most short : Int} {A : Option Addr} {len c g sb cS i lo : Nat} {bs : List Nat} {Ms : Nat → St → Prop} {w w' : World} (h : Seen n least most short A len c g sb cS i lo bs Ms w)
    (hg : w'.heap[g]? = w.heap[g]?) (hs : w'.heap[sb]? = w.heap[sb]?) (hb : ∀ b ∈ bs, w'.heap[b]? = w.heap[b]?) : Seen n least most short A len c g sb cS i lo bs Ms w' := by
  obtain ⟨h1, h2, h3, h4, h5⟩ := h
  refine ⟨hg.trans h1, ?_, fun j b hj => ⟨(h3 j b hj).1, (h3 j b hj).2.same (hb b (List.mem_of_getElem? hj))⟩, h4, h5⟩
  obtain ⟨q1, q2⟩ := h2
  refine ⟨q1, ?_⟩
  rcases q2 with q2 | ⟨g', cap, cur, e, r1, r2, r3, r4, r5, r6⟩
  · exact .inl q2
  · cases e
    exact .inr ⟨sb, cS, cur, rfl, r1, hs.trans r2, r3, r4, r5, r6⟩

/-- append as one step of a region that draws, from its run. -/
theorem step_append_run {P : Program} {ops : Array Oper} {o : Oper} {a : Act} {w : World} {K : Act → World → Prop} {Q : Exit → Act → World → Prop} {E : Prop}
    (hg : o.guard = none) (s x : Operand) (t : TypeId) (hop : o.op = Op.call { callee := Callee.builtin Builtin.append, args := #[s, x], argTypes := #[t, t] })
    (v y v' : Value) (w' : World) (hs : a.eval s = v) (hx : a.eval x = y) (hr : (Builtin.append_ #[t, t] o.type #[v, y]).run P w = .ok v' w') (hK : K (a.put o.dst v') w') :
    if Region.wanted o (yielded ops a.tmps) = true then Oper.wp P o a w K Q else E := by
  have hw : Region.wanted o (yielded ops a.tmps) = true := by simp [Region.wanted, hg]
  rw [if_pos hw]
  unfold Oper.wp
  simp [execOp, hop, resolve, invoke, builtin, hs, hx, hr, Result.andThen]
  exact hK

/-- A walk with an open end. -/
@[reducible] def onlyNormal (S : Act → World → Prop) : Exit → Act → World → Prop := fun e a w => match e with | .normal => S a w | _ => False
theorem wpIn_cut {P : Program} {c : Code} {Q : Exit → Act → World → Prop} {a : Act} {w : World} (S : Act → World → Prop)
    (h : c.wp P (onlyNormal S) a w) (hS : ∀ a' w', S a' w' → Q .normal a' w') : c.wpIn Fence.wide 0 P Q a w := wpIn_wide.2 (Go.wpIn_mono (wpIn_wide (n := 0).2 h) (fun e a w h => by cases e <;> first | exact hS a w h | exact h.elim) |> wpIn_wide.1)

theorem info104 : (Try.prog.info? 104).map (fun i => (i.zero, i.size, i.bytes)) = some (some (.map none), 1, 8) := by kernel_rfl

set_option maxRecDepth 100000 in
theorem begin.calls (w : World) : Calls Try.prog 56 #[] w fun e w' => e = .returned (.agg #[.int .i64 (-2), .int .i64 0, .int .i64 0, .bool false]) ∧ w' = w.alloc (.cells #[.int .i64 (-2), .int .i64 0, .int .i64 0, .bool false] 109) := by
  have hu1 := Try.underlying109
  go_enter Try.func56, Try.ntmps56
  go_wp2
  refine bodyPost_ret (v := .agg #[.int .i64 (-2), .int .i64 0, .int .i64 0, .bool false]) (by simp [results, Try.results56, go_sem, hu1]) rfl ⟨rfl, rfl⟩

set_option maxRecDepth 100000 in
set_option maxHeartbeats 4000000 in
theorem look.rounds (n : Nat) (hn : n ≤ 12) (least most short : Int) (A : Option Addr) (c : Nat) (l : List S52) (hl : l.length ≤ 40)
    (sc g sb cS b0 lo : Nat) (Q : Exit → Act → World → Prop) (v0 v2 v4 v5 v6 v7 v8 v9 v10 v11 v12 v13 v14 v15 v16 v17 v18 v19 v23 v24 v25 v26 v27 v28 v29 v30 v31 v32 v33 v34 v35 v36 v37 v38 v39 v40 v41 v42 v43 v44 v45 v46 v47 v48 v49 v50 v51 v52 v53 v54 v55 v56 v57 v58 v59 v60 v61 v62 v63 v64 v65 v66 v67 v68 v69 v70 v71 v72 v73 v74 v75 v76 v77 v78 v79 v80 v81 v82 v83 v84 v85 v86 v87 v88 v89 v90 v91 v92 v93 v94 v95 v96 v97 v98 v99 v100 v101 v102 v103 v104 v105 v106 : Value) (w0 W : World)
    (hA : Kd.C k52 w0 A l.length l) (hlo : lo = w0.heap.size) (hsc : lo ≤ sc) (hF : Fr (fun _ => False) w0 W)
    (h1 : W.heap[sc]? = some (.cells #[.int .i64 n, .int .i64 least, .int .i64 most, .int .i64 short, .slice A l.length c] 33 (0, 0)))
    (hs : Seen n least most short A l.length c g sb cS 0 lo [b0] (fwd least most short n l) W)
    (hnorm : ∀ (ds' : List Deferred) (sb' cS' : Nat) (bs : List Nat) (u2 u5 u6 u7 u9 u23 u24 u25 u26 u27 u28 u29 u30 u31 u32 u33 u34 u35 u36 u37 u38 u39 u40 u41 u42 u43 u44 u45 u48 u49 u50 u51 u52 u53 u54 u55 u56 u57 u58 u59 u60 u61 u62 u63 u64 u65 u66 u67 u68 u69 u70 u71 : Value) (W' : World), Fr (fun _ => False) w0 W' → Coll lo W'.heap.size ds' W' →
      (∀ j, j ≤ l.length → ∃ x, fwd least most short n l j x) → Seen n least most short A l.length c g sb' cS' l.length lo bs (fwd least most short n l) W' →
      Q .normal { tmps := (List.toArray (v0 :: (.pointer (some ⟨sc, 0, none⟩)) :: u2 :: (.pointer (some ⟨g, 0, none⟩)) :: v4 :: u5 :: u6 :: u7 :: v8 :: u9 :: v10 :: v11 :: v12 :: v13 :: v14 :: v15 :: v16 :: v17 :: v18 :: v19 :: (.slice A l.length c) :: (.int .i64 l.length) :: (.int .i64 l.length) :: u23 :: u24 :: u25 :: u26 :: u27 :: u28 :: u29 :: u30 :: u31 :: u32 :: u33 :: u34 :: u35 :: u36 :: u37 :: u38 :: u39 :: u40 :: u41 :: u42 :: u43 :: u44 :: u45 :: v46 :: v47 :: u48 :: u49 :: u50 :: u51 :: u52 :: u53 :: u54 :: u55 :: u56 :: u57 :: u58 :: u59 :: u60 :: u61 :: u62 :: u63 :: u64 :: u65 :: u66 :: u67 :: u68 :: u69 :: u70 :: u71 :: v72 :: v73 :: v74 :: v75 :: v76 :: v77 :: v78 :: v79 :: v80 :: v81 :: v82 :: v83 :: v84 :: v85 :: v86 :: v87 :: v88 :: v89 :: v90 :: v91 :: v92 :: v93 :: v94 :: v95 :: v96 :: v97 :: v98 :: v99 :: v100 :: v101 :: v102 :: v103 :: v104 :: v105 :: v106 :: [])), defers := ds' } W')
    (hret : ∀ (i : Nat) (ds' : List Deferred) (sb' cS' : Nat) (bs : List Nat) (u5 u6 u7 u9 u23 u24 u25 u26 u27 u28 u29 u30 u31 u32 u33 u34 u35 u36 u37 u38 u39 u40 u41 u42 u43 u44 u45 u48 u49 u50 u51 u52 u53 u54 u55 u56 u57 u58 u59 u60 u61 u62 u63 u64 u65 u66 u67 u68 u69 u70 u71 : Value) (W' : World), i < l.length → Fr (fun _ => False) w0 W' → Coll lo W'.heap.size ds' W' →
      (∀ j, j ≤ i → ∃ x, fwd least most short n l j x) → (∀ x, ¬ fwd least most short n l (i + 1) x) → Seen n least most short A l.length c g sb' cS' i lo bs (fwd least most short n l) W' →
      Q .ret { tmps := (List.toArray (v0 :: (.pointer (some ⟨sc, 0, none⟩)) :: (.pointer (some ⟨g, 0, none⟩)) :: (.pointer (some ⟨g, 0, none⟩)) :: v4 :: u5 :: u6 :: u7 :: v8 :: u9 :: v10 :: v11 :: v12 :: v13 :: v14 :: v15 :: v16 :: v17 :: v18 :: v19 :: (.slice A l.length c) :: (.int .i64 l.length) :: (.int .i64 i) :: u23 :: u24 :: u25 :: u26 :: u27 :: u28 :: u29 :: u30 :: u31 :: u32 :: u33 :: u34 :: u35 :: u36 :: u37 :: u38 :: u39 :: u40 :: u41 :: u42 :: u43 :: u44 :: u45 :: v46 :: v47 :: u48 :: u49 :: u50 :: u51 :: u52 :: u53 :: u54 :: u55 :: u56 :: u57 :: u58 :: u59 :: u60 :: u61 :: u62 :: u63 :: u64 :: u65 :: u66 :: u67 :: u68 :: u69 :: u70 :: u71 :: v72 :: v73 :: v74 :: v75 :: v76 :: v77 :: v78 :: v79 :: v80 :: v81 :: v82 :: v83 :: v84 :: v85 :: v86 :: v87 :: v88 :: v89 :: v90 :: v91 :: v92 :: v93 :: v94 :: v95 :: v96 :: v97 :: v98 :: v99 :: v100 :: v101 :: v102 :: v103 :: v104 :: v105 :: v106 :: [])), defers := ds' } W') :
    (blockOf 0 Try.f71).wpIn Fence.wide 0 Try.prog (Exit.inBlock 0 Q) { tmps := (List.toArray (v0 :: (.pointer (some ⟨sc, 0, none⟩)) :: v2 :: (.pointer (some ⟨g, 0, none⟩)) :: v4 :: v5 :: v6 :: v7 :: v8 :: v9 :: v10 :: v11 :: v12 :: v13 :: v14 :: v15 :: v16 :: v17 :: v18 :: v19 :: (.slice A l.length c) :: (.int .i64 l.length) :: (.int .i64 0) :: v23 :: v24 :: v25 :: v26 :: v27 :: v28 :: v29 :: v30 :: v31 :: v32 :: v33 :: v34 :: v35 :: v36 :: v37 :: v38 :: v39 :: v40 :: v41 :: v42 :: v43 :: v44 :: v45 :: v46 :: v47 :: v48 :: v49 :: v50 :: v51 :: v52 :: v53 :: v54 :: v55 :: v56 :: v57 :: v58 :: v59 :: v60 :: v61 :: v62 :: v63 :: v64 :: v65 :: v66 :: v67 :: v68 :: v69 :: v70 :: v71 :: v72 :: v73 :: v74 :: v75 :: v76 :: v77 :: v78 :: v79 :: v80 :: v81 :: v82 :: v83 :: v84 :: v85 :: v86 :: v87 :: v88 :: v89 :: v90 :: v91 :: v92 :: v93 :: v94 :: v95 :: v96 :: v97 :: v98 :: v99 :: v100 :: v101 :: v102 :: v103 :: v104 :: v105 :: v106 :: [])), defers := [] } W := by
  conv => arg 4; whnf
  have hmx : Try.prog.follows .mixedOrders = true := by kernel_rfl
  have hu := Try.underlying33
  have hu1 := Try.underlying109
  have hu2 := Try.underlying52
  have hu3 := Try.underlying107
  have H1 := Lib.hid h1
  have HA := Lib.hid hA
  clear h1 hA
  refine wpIn_loop_lay (fun (tT : List Value) (a' : Act) (wv : World) => ∃ (dfs : List Deferred) (u2 u5 u6 u7 u9 u22 u23 u24 u25 u26 u27 u28 u29 u30 u31 u32 u33 u34 u35 u36 u37 u38 u39 u40 u41 u42 u43 u44 u45 u48 u49 u50 u51 u52 u53 u54 u55 u56 u57 u58 u59 u60 u61 u62 u63 u64 u65 u66 u67 u68 u69 u70 u71 : Value), ((fun u22 dfs w' => ∃ (k sb' cS' : Nat) (bs : List Nat), u22 = .int .i64 k ∧ k ≤ l.length ∧ Fr (fun _ => False) w0 w' ∧ Coll lo w'.heap.size dfs w' ∧ w'.heap[sc]? = some (.cells #[.int .i64 n, .int .i64 least, .int .i64 most, .int .i64 short, .slice A l.length c] 33 (0, 0)) ∧
      (∀ j, j ≤ k → ∃ x, fwd least most short n l j x) ∧ Seen n least most short A l.length c g sb' cS' k lo bs (fwd least most short n l) w') u22 dfs wv) ∧ a' = { tmps := (lay [none, none, some u2, none, none, some u5, some u6, some u7, none, some u9, none, none, none, none, none, none, none, none, none, none, none, none, some u22, some u23, some u24, some u25, some u26, some u27, some u28, some u29, some u30, some u31, some u32, some u33, some u34, some u35, some u36, some u37, some u38, some u39, some u40, some u41, some u42, some u43, some u44, some u45, none, none, some u48, some u49, some u50, some u51, some u52, some u53, some u54, some u55, some u56, some u57, some u58, some u59, some u60, some u61, some u62, some u63, some u64, some u65, some u66, some u67, some u68, some u69, some u70, some u71] tT).toArray, defers := dfs }) (fun (a' : Act) (wv : World) => (fun u22 w' => l.length - (intOf u22).toNat) (Array.getD a'.tmps 22 undef) wv) ?atStart ?round
  case' atStart =>
    dsimp only [lay]
    (repeat apply Exists.intro)
    refine ⟨?_, rfl⟩
  case' round =>
    dsimp only [lay]
    intro _ wr hinv
    obtain ⟨dfs, hinv⟩ := hinv
    obtain ⟨u2, hinv⟩ := hinv
    obtain ⟨u5, hinv⟩ := hinv
    obtain ⟨u6, hinv⟩ := hinv
    obtain ⟨u7, hinv⟩ := hinv
    obtain ⟨u9, hinv⟩ := hinv
    obtain ⟨u22, hinv⟩ := hinv
    obtain ⟨u23, hinv⟩ := hinv
    obtain ⟨u24, hinv⟩ := hinv
    obtain ⟨u25, hinv⟩ := hinv
    obtain ⟨u26, hinv⟩ := hinv
    obtain ⟨u27, hinv⟩ := hinv
    obtain ⟨u28, hinv⟩ := hinv
    obtain ⟨u29, hinv⟩ := hinv
    obtain ⟨u30, hinv⟩ := hinv
    obtain ⟨u31, hinv⟩ := hinv
    obtain ⟨u32, hinv⟩ := hinv
    obtain ⟨u33, hinv⟩ := hinv
    obtain ⟨u34, hinv⟩ := hinv
    obtain ⟨u35, hinv⟩ := hinv
    obtain ⟨u36, hinv⟩ := hinv
    obtain ⟨u37, hinv⟩ := hinv
    obtain ⟨u38, hinv⟩ := hinv
    obtain ⟨u39, hinv⟩ := hinv
    obtain ⟨u40, hinv⟩ := hinv
    obtain ⟨u41, hinv⟩ := hinv
    obtain ⟨u42, hinv⟩ := hinv
    obtain ⟨u43, hinv⟩ := hinv
    obtain ⟨u44, hinv⟩ := hinv
    obtain ⟨u45, hinv⟩ := hinv
    obtain ⟨u48, hinv⟩ := hinv
    obtain ⟨u49, hinv⟩ := hinv
    obtain ⟨u50, hinv⟩ := hinv
    obtain ⟨u51, hinv⟩ := hinv
    obtain ⟨u52, hinv⟩ := hinv
    obtain ⟨u53, hinv⟩ := hinv
    obtain ⟨u54, hinv⟩ := hinv
    obtain ⟨u55, hinv⟩ := hinv
    obtain ⟨u56, hinv⟩ := hinv
    obtain ⟨u57, hinv⟩ := hinv
    obtain ⟨u58, hinv⟩ := hinv
    obtain ⟨u59, hinv⟩ := hinv
    obtain ⟨u60, hinv⟩ := hinv
    obtain ⟨u61, hinv⟩ := hinv
    obtain ⟨u62, hinv⟩ := hinv
    obtain ⟨u63, hinv⟩ := hinv
    obtain ⟨u64, hinv⟩ := hinv
    obtain ⟨u65, hinv⟩ := hinv
    obtain ⟨u66, hinv⟩ := hinv
    obtain ⟨u67, hinv⟩ := hinv
    obtain ⟨u68, hinv⟩ := hinv
    obtain ⟨u69, hinv⟩ := hinv
    obtain ⟨u70, hinv⟩ := hinv
    obtain ⟨u71, hinv⟩ := hinv
    obtain ⟨hrel, ha⟩ := hinv
    subst ha
    try dsimp only
  case atStart =>
    have hstart : ∀ j, j ≤ 0 → ∃ x, fwd least most short n l j x := fun j hj => by
      obtain rfl : j = 0 := by omega
      exact ⟨beginSt, rfl⟩
    exact ⟨0, sb, cS, [b0], rfl, Nat.zero_le _, hF, Coll.nil _ _ _, H1.out, hstart, hs⟩
  case round =>
    obtain ⟨k, sb', cS', bs, rfl, hk, hF1, hC, hS1, hne, hSeen⟩ := hrel
    clear hs hF
    by_cases hlt : k < l.length
    · have hSz := hF1.size
      obtain ⟨ad, rfl, m0, m1⟩ := at_T52 HA.out k (by omega) (by omega)
      have hrd : rd_T52 l (k : Int) = l[k] := by simp [rd_T52, List.getD, hlt]
      rw [hrd, Int.toNat_natCast] at m0 m1
      obtain ⟨⟨mf, mh⟩, hm⟩ : ∃ m, l[k] = m := ⟨_, rfl⟩
      rw [hm] at m0 m1
      simp only [] at m0 m1
      have m0' := hF1.cell m0 (by simp)
      have m1' := hF1.cell m1 (by simp)
      have hk2 : (k : Int) < l.length := by omega
      have hi2 : (ad.add (k * 2)).block < wr.heap.size := World.block_lt_of_cell? wr _ m0'
      have hi3 : (ad.add (k * 2)).block < wr.heap.size + 1 := by omega
      have HF1 := Lib.hid hF1
      have HC := Lib.hid hC
      have HS := Lib.hid hSeen
      have HS1 := Lib.hid hS1
      have kg := (Array.getElem?_eq_some_iff.1 hSeen.obj).1
      clear hF1 hC hSeen hS1 m0 m1 hrd
      gi_wp2
      obtain ⟨W1, hW1⟩ : ∃ W1, ((wr.alloc (.cells #[.int .u16 mf, .int .u16 mh] 52)).alloc (.map #[] 0)).alloc (.cells #[.map (some (wr.heap.size + 1))] 104) = W1 := ⟨_, rfl⟩
      have hW1s : W1.heap.size = wr.heap.size + 3 := by rw [← hW1]; simp
      have hbel : Below wr.heap.size wr W1 := by
        rw [← hW1]; exact (((Below.refl _ wr).alloc (by omega) _).alloc (by simp) _).alloc (by simp; omega) _
      have hcm : W1.heap[wr.heap.size]? = some (.cells #[.int .u16 mf, .int .u16 mh] 52 (0, 0)) := by rw [← hW1]; exact heap_old (heap_old (heap_new rfl))
      have hbn : W1.heap[wr.heap.size + 1]? = some (.map #[] 0) := by rw [← hW1]; exact heap_old (heap_new (by simp))
      have hcn : W1.heap[wr.heap.size + 1 + 1]? = some (.cells #[.map (some (wr.heap.size + 1))] 104 (0, 0)) := by rw [← hW1]; exact heap_new (by simp)
      have hbnM : MapIs EB W1 (wr.heap.size + 1) (fun _ => none) := by
        have hm := MapIs.made (E := EB) (wr.alloc (.cells #[.int .u16 mf, .int .u16 mh] 52))
        rw [World.size_alloc] at hm
        rw [← hW1]
        exact hm.same (Below.heap_alloc _ _ _ (by simp))
      rw [hW1]
      have hSeen := HS.out
      have hsL := hSeen.len
      have hgl := (Array.getElem?_eq_some_iff.1 hSeen.obj).1
      have hS1 : Seen n least most short (some ad) l.length c g sb' cS' k lo bs (fwd least most short n l) W1 := hSeen.same (hbel.block _ kg) (hbel.block _ hSeen.rowlt) (fun b hb => hbel.block _ (hSeen.maplt hb))
      obtain ⟨bk, hbk⟩ : ∃ bk, bs[k]? = some bk := ⟨_, List.getElem?_eq_getElem (by omega)⟩
      have hMk := (hS1.maps k bk hbk).2
      obtain ⟨W2, cnt, hrng, hR2, hg2, hs2⟩ := (hMk.same (w' := W1.drew) rfl).range
      have hrng : (Instr.range 104 (.map (some bk))).run Try.prog W1.drew = .ok (.pointer (some ⟨W1.heap.size, 0, none⟩)) W2 := hrng
      have e5 := cell_of hS1.obj (i := 5) rfl
      have e6 := cell_of hS1.obj (i := 6) rfl
      have ek := hS1.cell hbk
      simp only [List.getElem_toArray, List.getElem_cons_zero, List.getElem_cons_succ] at e5 e6
      have hk3 : (k : Int) < (k : Int) + 1 := by omega
      have HS1' := Lib.hid hS1
      have HR2 := Lib.hid hR2
      have HG2 := Lib.hid hg2
      have HS2 := Lib.hid hs2
      have HBEL := Lib.hid hbel
      have HCM := Lib.hid hcm
      have HCN := Lib.hid hcn
      have HBN := Lib.hid hbnM
      have HW1s := Lib.hid hW1s
      clear hS1 hR2 hg2 hs2 hbel hcm hcn hbn hbnM hW1 hW1s hSeen hMk
      gi_wp2
      refine wpIn_region_still_tail .wide 10 hmx (by kernel_rfl) (by kernel_rfl) ?_
      simp only [List.take_succ_cons, List.take_zero, List.drop_succ_cons, List.drop_zero]
      repeat still_step
      refine wpStill_nil ?_
      gi_wp2
      have hSeen := HS.out
      have hsL := hSeen.len
      have hW1s := HW1s.out
      have hbkl : bk < wr.heap.size := hSeen.maplt (List.mem_of_getElem? hbk)
      have hg2 := HG2.out
      have hs2 : W2.heap.size = W1.heap.size + 1 := HS2.out
      have hF2 : Fr (fun _ => False) W1 W2 := (Fr.drew W1).trans (Fr.grown hg2 (fun r e => by cases e))
      have hFw : Fr (fun _ => False) wr W2 := (Fr.of_below HBEL.out (fun k q1 q2 => by omega)).trans hF2
      have hF0 : Fr (fun _ => False) w0 W2 := HF1.out.trans hFw
      have hbn2 : MapIs EB W2 (wr.heap.size + 1) (fun _ => none) := HBN.out.same (hF2.same _ (by omega) (by simp))
      have hcm2 := (hF2.same _ (by omega) (by simp)).trans HCM.out
      have hcn2 := (hF2.same _ (by omega) (by simp)).trans HCN.out
      have hsc2 := (hFw.same _ (Array.getElem?_eq_some_iff.1 HS1.out).1 (by simp)).trans HS1.out
      have hC2 : Coll lo W2.heap.size dfs W2 := (HC.out.same (SameMarks.fr hFw (fun k h => h.elim))).up (by omega)
      have hse2 : Seen n least most short (some ad) l.length c g sb' cS' k lo bs (fwd least most short n l) W2 := hSeen.same (hFw.same _ kg (by simp)) (hFw.same _ hSeen.rowlt (by simp)) (fun b hb => hFw.same _ (hSeen.maplt hb) (by simp))
      refine look.fill (Q := _) n hn least most short mf mh _ (fwd least most short n l k) k (by omega) (fun x hx => fwd_small hn k x hx) sc _ _ bk (wr.heap.size + 1) _ lo cnt dfs _ _ _ _ _ _ _ _ _ _ _ _ _ _ _ _ _ _ _ _ _ _ _ _ _ _ _ _ _ _ _ _ _ _ _ _ _ _ _ _ _ _ _ _ _ _ _ _ _ _ _ _ _ _ _ _ _ _ _ _ _ _ _ _ _ _ _ _ _ _ _ _ _ _ _ _ _ _ _ _ _ _ _ _ _ _ _ _ _ _ _ _ _ _ _ _ _ _ _ _ _ _ _ W2 HR2.out hbn2 (by omega) hsc2 hcm2 hcn2 (by have := hF0.size; omega) hC2 ?_
      rintro ds3 t7 t9 t38 t39 t40 t41 t42 t43 t44 t45 t48 t49 W3 hF3 hMk3 hM3 hC3
      have hfwd : fwd least most short n l (k + 1) = nexts least most short n mf mh (fwd least most short n l k) := by
        simp only [fwd, List.getElem?_eq_getElem hlt, hm]
      rw [← hfwd] at hM3
      have hW1c := (Array.getElem?_eq_some_iff.1 hcn2).1
      have hF3w : Fr (fun _ => False) wr W3 := ⟨hF3.os.trans hFw.os, hF3.tape.trans hFw.tape, hF3.output.trans hFw.output, Nat.le_trans hFw.size hF3.size, fun j hj _ => (hF3.same j (by omega) (fun h => by rcases h with h | h <;> omega)).trans (hFw.same j hj (by simp))⟩
      have hF30 : Fr (fun _ => False) w0 W3 := HF1.out.trans hF3w
      have hse3 : Seen n least most short (some ad) l.length c g sb' cS' k lo bs (fwd least most short n l) W3 := hSeen.same (hF3w.same _ kg (by simp)) (hF3w.same _ hSeen.rowlt (by simp)) (fun b hb => hF3w.same _ (hSeen.maplt hb) (by simp))
      have hsc3 := (hF3w.same _ (Array.getElem?_eq_some_iff.1 HS1.out).1 (by simp)).trans HS1.out
      have hcn3 := (hF3.same _ hW1c (fun h => by rcases h with h | h <;> omega)).trans hcn2
      have ecn := cell_of hcn3 (i := 0) rfl
      simp only [List.getElem_toArray, List.getElem_cons_zero] at ecn
      obtain ⟨nl, hnl, hlen, hzero⟩ := hM3.len 3
      have hlen : (Builtin.len_ #[104] 3 #[.map (some (wr.heap.size + 1))]).run Try.prog W3 = .ok (.int .i64 nl) W3 := hlen
      have hkl : wr.heap.size + 1 < W3.heap.size := hM3.lt
      have HF3w := Lib.hid hF3w
      have HF30 := Lib.hid hF30
      have HSE3 := Lib.hid hse3
      have HSC3 := Lib.hid hsc3
      have HM3 := Lib.hid hM3
      have HC3 := Lib.hid hC3
      clear hF3w hF30 hse3 hsc3 hcn3 hM3 hC3 hMk3 hF3 hcm2 hcn2 hsc2 hC2 hse2 hbn2 hFw hF0 hF2 hg2 hs2 hrng hsL hSeen hW1s ek e5 e6 m0' m1'
      by_cases hz : nl = 0
      · subst hz
        have hno := hzero.1 rfl
        gi_wp2
        exact hret k ds3 sb' cS' bs _ _ _ _ _ _ _ _ _ _ _ _ _ _ _ _ _ _ _ _ _ _ _ _ _ _ _ _ _ _ _ _ _ _ _ _ _ _ _ _ _ _ _ _ _ _ _ _ _ _ _ W3 hlt HF30.out HC3.out hne (fun x hx => by have := hno x; unfold setOf at this; rw [if_pos hx] at this; cases this) HSE3.out
      · have hnz : ¬ ((nl : Int) = 0) := by omega
        have hne1 : ∃ x, fwd least most short n l (k + 1) x := Classical.byContradiction (fun hc => hz (hzero.2 (fun x => by
          cases hx : setOf (fwd least most short n l (k + 1)) x with
          | none => rfl
          | some u => exact (hc ⟨x, setOf_some hx⟩).elim)))
        gi_wp2
        obtain ⟨W4, hW4⟩ : ∃ W4, W3.drew.alloc (.cells #[.map (some (wr.heap.size + 1))] 104) = W4 := ⟨_, rfl⟩
        have hbel4 : Below W3.heap.size W3 W4 := by rw [← hW4]; exact (Below.refl _ W3).drew.alloc (by simp) _
        have hs4 : W4.heap.size = W3.heap.size + 1 := by rw [← hW4]; simp
        have hse3 := HSE3.out
        have hgl3 := (Array.getElem?_eq_some_iff.1 hse3.obj).1
        have hse4 : Seen n least most short (some ad) l.length c g sb' cS' k lo bs (fwd least most short n l) W4 := hse3.same (hbel4.block _ hgl3) (hbel4.block _ hse3.rowlt) (fun b hb => hbel4.block _ (hse3.maplt hb))
        obtain ⟨inf, hinf, hif⟩ : ∃ i, Try.prog.info? 104 = some i ∧ (i.zero, i.size, i.bytes) = (some (.map none), 1, 8) := by
          have h := info104
          cases h2 : Try.prog.info? 104 with
          | none => rw [h2] at h; cases h
          | some i => rw [h2] at h; exact ⟨i, rfl, Option.some.inj h⟩
        simp only [Prod.mk.injEq] at hif
        have hlo3 := HF30.out.size
        obtain ⟨v', W5, happ, hrow5, hg5, hnil5, hat5⟩ := run_append_own_at (P := Try.prog) W4 lo 105 105 104 inf (.map none) 1 8 Try.underlying105 hinf hif.1 hif.2.1 hif.2.2 rfl (by omega)
          _ (k + 1) _ hse4.row ⟨W3.heap.size, 0, none⟩ 1 1 [.map (some (wr.heap.size + 1))] rfl (by rw [← hW4]; exact cell_one_new W3.drew _ _) (by simp [Value.oneCell']) (by unfold maxLen; omega) (by omega) (by omega)
        have hsl : ∃ sb2 cS2, v' = .slice (some ⟨sb2, 0, none⟩) (k + 1 + 1 : Nat) cS2 ∧ lo ≤ sb2 ∧ ∃ cur, W5.heap[sb2]? = some (.cells cur 104 (0, 0)) := by
          rcases hrow5.2 with ⟨_, h⟩ | ⟨g', cap, cur, r1, r2, r3, _⟩
          · omega
          · exact ⟨g', cap, r1, r2, cur, r3⟩
        obtain ⟨sb2, cS2, rfl, hsb2, cur2, hcur2⟩ := hsl
        have happ' : (Builtin.append_ #[105, 105] 105 #[.slice (some ⟨sb', 0, none⟩) (k + 1 : Nat) cS', .slice (some ⟨W3.heap.size, 0, none⟩) 1 1]).run Try.prog (W3.alloc (.cells #[.map (some (wr.heap.size + 1))] 104)).drew = .ok (.slice (some ⟨sb2, 0, none⟩) (k + 1 + 1 : Nat) cS2) W5 := by
          rw [show (W3.alloc (.cells #[.map (some (wr.heap.size + 1))] 104)).drew = W3.drew.alloc (.cells #[.map (some (wr.heap.size + 1))] 104) from rfl, hW4]; exact happ
        have hgs : g ≠ sb' := fun e => by
          have h1 := hse4.row.2
          rcases h1 with ⟨h, _⟩ | ⟨g', cap, cur, r1, r2, r3, _⟩
          · cases h
          · cases r1; rw [← e, hse4.obj] at r3; cases r3
        have hob5 : W5.heap[g]? = _ := (hg5.block g (by omega) (fun e => hgs (Option.some.inj e))).trans hse4.obj
        have e35 := cell_of hse3.obj (i := 5) rfl
        have e55 := cell_of hob5 (i := 5) rfl
        have e56 := cell_of hob5 (i := 6) rfl
        have f55 := not_frozen (i := 5) hob5
        have f56 := not_frozen (i := 6) hob5
        simp only [List.getElem_toArray, List.getElem_cons_zero, List.getElem_cons_succ] at e35 e55 e56
        have hg5l := (Array.getElem?_eq_some_iff.1 hob5).1
        have HOB5 := Lib.hid hob5
        have HROW5 := Lib.hid hrow5
        have HG5 := Lib.hid hg5
        have HSE4 := Lib.hid hse4
        have HAT5 := Lib.hid hat5
        have HB4 := Lib.hid hbel4
        have HS4 := Lib.hid hs4
        have HCUR := Lib.hid hcur2
        have hwr : IntKind.i64.wrap ((k : Int) + 1) = (k : Int) + 1 := by simp [IntKind.wrap, IntKind.bits, IntKind.signed]; omega
        clear hse3 hob5 hrow5 hg5 hse4 hat5 hbel4 hs4 hcur2 happ hW4 hnil5 hlen hzero
        refine wpIn_cut (fun a' w' => w' = W5.setCell ⟨g, 5, none⟩ (.slice (some ⟨sb2, 0, none⟩) (k + 1 + 1 : Nat) cS2) ∧ a' = { tmps := (List.toArray (v0 :: (.pointer (some ⟨sc, 0, none⟩)) :: u2 :: (.pointer (some ⟨g, 0, none⟩)) :: v4 :: (.pointer (some ⟨wr.heap.size, 0, none⟩)) :: (.pointer (some ⟨wr.heap.size + 1 + 1, 0, none⟩)) :: t7 :: v8 :: t9 :: v10 :: v11 :: v12 :: v13 :: v14 :: v15 :: v16 :: v17 :: v18 :: v19 :: (.slice (some ad) l.length c) :: (.int .i64 l.length) :: (.int .i64 k) :: (.bool true) :: (.pointer (some (ad.add (k * 2)))) :: (.agg #[.int .u16 mf, .int .u16 mh]) :: (.map (some (wr.heap.size + 1))) :: (.pointer (some ⟨g, 0, none⟩)) :: (.pointer (some ⟨g, 0, none⟩)) :: (.pointer (some ⟨g, 5, none⟩)) :: (.slice (some ⟨sb', 0, none⟩) (k + 1 : Nat) cS') :: (.pointer (some ⟨g, 0, none⟩)) :: (.pointer (some ⟨g, 0, none⟩)) :: (.pointer (some ⟨g, 6, none⟩)) :: (.int .i64 k) :: (.pointer (some ⟨sb', k, none⟩)) :: (.map (some bk)) :: (.pointer (some ⟨W1.heap.size, 0, none⟩)) :: t38 :: t39 :: t40 :: t41 :: t42 :: t43 :: t44 :: t45 :: v46 :: v47 :: t48 :: t49 :: (.map (some (wr.heap.size + 1))) :: (.int .i64 nl) :: (.bool false) :: u53 :: (.pointer (some ⟨g, 0, none⟩)) :: (.pointer (some ⟨g, 0, none⟩)) :: (.pointer (some ⟨g, 0, none⟩)) :: (.pointer (some ⟨g, 5, none⟩)) :: (.slice (some ⟨sb', 0, none⟩) (k + 1 : Nat) cS') :: (.map (some (wr.heap.size + 1))) :: (.slice (some ⟨W3.heap.size, 0, none⟩) 1 1) :: (.slice (some ⟨sb2, 0, none⟩) (k + 1 + 1 : Nat) cS2) :: (.pointer (some ⟨g, 0, none⟩)) :: (.pointer (some ⟨g, 5, none⟩)) :: u64 :: u65 :: u66 :: u67 :: u68 :: u69 :: u70 :: u71 :: v72 :: v73 :: v74 :: v75 :: v76 :: v77 :: v78 :: v79 :: v80 :: v81 :: v82 :: v83 :: v84 :: v85 :: v86 :: v87 :: v88 :: v89 :: v90 :: v91 :: v92 :: v93 :: v94 :: v95 :: v96 :: v97 :: v98 :: v99 :: v100 :: v101 :: v102 :: v103 :: v104 :: v105 :: v106 :: [])), defers := ds3 }) ?cutA ?cutB
        case cutA =>
          go_region_law (refine step_append_run (by rfl) (.tmp 58) (.tmp 60) 105 (by rfl) _ _ _ _ (by simp [Act.eval, Act.put]) (by simp [Act.eval, Act.put]) happ' ?_)
          all_goals exact ⟨rfl, rfl⟩
        case cutB =>
          rintro a' w' ⟨rfl, rfl⟩
          gi_wp2
          refine ⟨?_, ?measure⟩
          · (repeat apply Exists.intro)
            refine ⟨?_, rfl⟩
            obtain ⟨W7, hW7⟩ : ∃ W7, (W5.setCell ⟨g, 5, none⟩ (.slice (some ⟨sb2, 0, none⟩) (k + 1 + 1 : Nat) cS2)).setCell ⟨g, 6, none⟩ (.int .i64 ((k : Int) + 1)) = W7 := ⟨_, rfl⟩
            rw [hW7]
            have hse4 := HSE4.out
            have hrow5 := HROW5.out
            have hgg : g < W4.heap.size := (Array.getElem?_eq_some_iff.1 hse4.obj).1
            have hF47 : Fr (fun k => k = g ∨ k = sb') W4 W7 := by
              rw [← hW7]
              exact ((Fr.grown HG5.out (fun r e => by cases e; exact .inr rfl)).trans (Fr.setCell _ _ _ (.inl rfl))).trans (Fr.setCell _ _ _ (.inl rfl))
            have hF34 : Fr (fun _ => False) W3 W4 := Fr.of_below HB4.out (fun k q1 q2 => by omega)
            have hsbh : ∃ cur, W4.heap[sb']? = some (.cells cur 104 (0, 0)) ∧ lo ≤ sb' := by
              rcases hse4.row.2 with ⟨h, _⟩ | ⟨g', cap, cur, r1, r2, r3, _⟩
              · cases h
              · cases r1; exact ⟨cur, r3, r2⟩
            obtain ⟨cur4, hcur4, hsblo⟩ := hsbh
            have hglo := hse4.glo
            have hmk : SameMarks W4 W7 := SameMarks.fr hF47 (fun k h e => by
              rcases h with rfl | rfl
              · rw [hse4.obj] at e; cases e
              · rw [hcur4] at e; cases e)
            have hnomap : ∀ {b : Nat} {M : St → Option Unit}, MapIs EB W4 b M → ¬ (b = g ∨ b = sb') := fun hM h => by
              obtain ⟨es, cl, hm⟩ := hM.isMap
              rcases h with rfl | rfl
              · rw [hse4.obj] at hm; cases hm
              · rw [hcur4] at hm; cases hm
            have hmap : ∀ {b : Nat} {M : St → Option Unit}, MapIs EB W4 b M → MapIs EB W7 b M := fun hM => hM.same (hF47.same _ hM.lt (hnomap hM))
            have hF07 : Fr (fun _ => False) w0 W7 := by
              have hF04 := HF30.out.trans hF34
              exact ⟨hF47.os.trans hF04.os, hF47.tape.trans hF04.tape, hF47.output.trans hF04.output, Nat.le_trans hF04.size hF47.size, fun j hj _ => (hF47.same j (by have := hF04.size; omega) (fun h => by rcases h with h | h <;> omega)).trans (hF04.same j hj (by simp))⟩
            have hsc4 := (hF34.same _ (Array.getElem?_eq_some_iff.1 HSC3.out).1 (by simp)).trans HSC3.out
            have hsc7 := (hF47.same sc (Array.getElem?_eq_some_iff.1 hsc4).1 (fun h => by
              rcases h with rfl | rfl
              · rw [hse4.obj] at hsc4; cases hsc4
              · rw [hcur4] at hsc4; cases hsc4)).trans hsc4
            have hbnf : wr.heap.size + 1 ∉ bs := fun h => by have := HS.out.maplt h; omega
            refine ⟨k + 1, sb2, cS2, bs ++ [wr.heap.size + 1], by simp, by omega, hF07, (HC3.out.same ((SameMarks.fr hF34 (fun k h => h.elim)).trans hmk)).up (by have := hF34.size; have := hF47.size; omega), hsc7, fun j hj => ?_, ?_, ?_, fun j b hj => ?_, ?_, hglo⟩
            · rcases Nat.lt_or_ge k j with h | h
              · obtain rfl : j = k + 1 := by omega
                exact hne1
              · exact hne j h
            · have := heap_set (heap_set HOB5.out 5 (.slice (some ⟨sb2, 0, none⟩) (k + 1 + 1 : Nat) cS2)) 6 (.int .i64 ((k : Int) + 1))
              rw [hW7] at this
              simpa using this
            · rw [List.map_append]
              refine ⟨hrow5.1, ?_⟩
              rcases hrow5.2 with h | ⟨g', cap, cur, r1, r2, r3, r4⟩
              · exact .inl h
              · refine .inr ⟨g', cap, cur, r1, r2, ?_, r4⟩
                have hgne : g' ≠ g := fun e => by subst e; rw [HOB5.out] at r3; cases r3
                rw [← hW7]
                exact (Below.heap_setCell _ _ _ _ hgne).trans ((Below.heap_setCell _ _ _ _ hgne).trans r3)
            · rcases Nat.lt_or_ge j bs.length with h | h
              · rw [List.getElem?_append_left h] at hj
                have := hse4.maps j b hj
                exact ⟨this.1, hmap this.2⟩
              · rw [List.getElem?_append_right h] at hj
                have hbl := HS.out.len
                have hj0 : j - bs.length = 0 := by
                  rcases Nat.eq_zero_or_pos (j - bs.length) with h0 | h0
                  · exact h0
                  · rw [List.getElem?_eq_none (by simp; omega)] at hj; cases hj
                obtain rfl : j = k + 1 := by omega
                rw [hj0] at hj
                simp at hj
                subst hj
                have := HF1.out.size
                exact ⟨by omega, hmap (HM3.out.same (hF34.same _ HM3.out.lt (by simp)))⟩
            · exact List.nodup_append.2 ⟨hse4.nodup, by simp, fun a ha b hb e => by
                simp at hb
                subst hb; subst e
                exact hbnf ha⟩
          case measure =>
            simp [intOf]
            omega
    · obtain rfl : k = l.length := by omega
      gi_wp2
      exact hnorm dfs sb' cS' bs _ _ _ _ _ _ _ _ _ _ _ _ _ _ _ _ _ _ _ _ _ _ _ _ _ _ _ _ _ _ _ _ _ _ _ _ _ _ _ _ _ _ _ _ _ _ _ _ _ _ _ _ wr hF1 hC hne hSeen
end Go.Proofs.Ytdnjmhhjjbdieaa.Q
end

section
/- The walk of look: states that lead nowhere are taken away. -/
namespace Go.Proofs.Ytdnjmhhjjbdieaa.Q
open Go.RowKit Go.Shelf Go.Proofs.YtdnjmhhjjbdieaaW.PrintWords Go.Proofs.YtdnjmhhjjbdieaaW.PrintLast
set_option linter.unusedVariables false
set_option linter.unusedSimpArgs false
attribute [local go_sem] Oper.semAt_some


theorem setOf_none_iff {S : St → Prop} {x : St} : setOf S x = none ↔ ¬ S x := by unfold setOf; split <;> simp_all

/-- The moments can be told from a state on. -/
def tellable (least most short : Int) (n : Nat) : List S52 → St → Prop
  | [], _ => True
  | m :: l, x => ∃ p ∈ partsOf least most short x m.f0 m.f1 n, tellable least most short n l p.2

/-- The sets, where those behind a moment are pruned. -/
def pruned (least most short : Int) (n : Nat) (l : List S52) (k j : Nat) (x : St) : Prop := fwd least most short n l j x ∧ (k ≤ j → tellable least most short n (l.drop j) x)

theorem tellable_iff {least most short : Int} {n : Nat} {l : List S52} {j : Nat} (hj : j < l.length) {x : St} (hx : fwd least most short n l j x) :
    tellable least most short n (l.drop j) x ↔ ∃ p ∈ partsOf least most short x l[j].f0 l[j].f1 n, setOf (pruned least most short n l (j + 1) (j + 1)) p.2 ≠ none := by
  rw [List.drop_eq_getElem_cons hj]
  simp only [tellable]
  constructor
  · rintro ⟨p, hp, ht⟩
    refine ⟨p, hp, setOf_ne.2 ⟨?_, fun _ => ht⟩⟩
    simp only [fwd, List.getElem?_eq_getElem hj]
    exact ⟨x, hx, p, hp, rfl⟩
  · rintro ⟨p, hp, hs⟩
    exact ⟨p, hp, (setOf_ne.1 hs).2 (Nat.le_refl _)⟩

set_option maxRecDepth 100000 in
set_option maxHeartbeats 4000000 in
theorem look.prune (n : Nat) (hn : n ≤ 12) (least most short : Int) (A : Option Addr) (c : Nat) (l : List S52) (hl : l.length ≤ 40)
    (g sb cS lo : Nat) (bs : List Nat) (ds : List Deferred) (Q : Exit → Act → World → Prop) (v0 v1 v2 v4 v5 v6 v7 v8 v9 v11 v12 v13 v14 v15 v16 v17 v18 v19 v20 v21 v22 v23 v24 v25 v26 v27 v28 v29 v30 v31 v32 v33 v34 v35 v36 v37 v38 v39 v40 v41 v42 v43 v44 v45 v46 v47 v48 v49 v50 v51 v52 v53 v54 v55 v56 v57 v58 v59 v60 v61 v62 v63 v64 v65 v66 v67 v68 v69 v70 v71 v72 v73 v74 v75 v76 v77 v78 v79 v80 v81 v82 v83 v84 v85 v86 v87 v88 v89 v90 v91 v92 v93 v94 v95 v96 v97 v98 v99 v100 v101 v102 v103 v104 v105 v106 : Value) (w0 W : World)
    (hA : Kd.C k52 w0 A l.length l) (hlo : lo = w0.heap.size) (hF : Fr (fun _ => False) w0 W) (hds : Coll lo W.heap.size ds W)
    (hs : Seen n least most short A l.length c g sb cS l.length lo bs (pruned least most short n l l.length) W)
    (hdone : ∀ (u10 u11 u77 u78 u79 u80 u81 u82 u83 u84 u85 u86 u87 u88 u89 u90 u91 u92 u93 u94 u95 u96 u97 u98 u99 u100 u101 u102 u103 u104 u105 : Value) (W' : World), Fr (fun _ => False) w0 W' → Coll lo W'.heap.size ds W' →
      Seen n least most short A l.length c g sb cS l.length lo bs (pruned least most short n l 0) W' → Q .normal { tmps := (List.toArray (v0 :: v1 :: v2 :: (.pointer (some ⟨g, 0, none⟩)) :: v4 :: v5 :: v6 :: v7 :: v8 :: v9 :: u10 :: u11 :: v12 :: v13 :: v14 :: v15 :: v16 :: v17 :: v18 :: v19 :: v20 :: v21 :: v22 :: v23 :: v24 :: v25 :: v26 :: v27 :: v28 :: v29 :: v30 :: v31 :: v32 :: v33 :: v34 :: v35 :: v36 :: v37 :: v38 :: v39 :: v40 :: v41 :: v42 :: v43 :: v44 :: v45 :: v46 :: v47 :: v48 :: v49 :: v50 :: v51 :: v52 :: v53 :: v54 :: v55 :: v56 :: v57 :: v58 :: v59 :: v60 :: v61 :: v62 :: v63 :: v64 :: v65 :: v66 :: v67 :: v68 :: v69 :: v70 :: v71 :: v72 :: v73 :: v74 :: v75 :: v76 :: u77 :: u78 :: u79 :: u80 :: u81 :: u82 :: u83 :: u84 :: u85 :: u86 :: u87 :: u88 :: u89 :: u90 :: u91 :: u92 :: u93 :: u94 :: u95 :: u96 :: u97 :: u98 :: u99 :: u100 :: u101 :: u102 :: u103 :: u104 :: u105 :: v106 :: [])), defers := ds } W') :
    (blockOf 6 Try.f71).wpIn Fence.wide 0 Try.prog (Exit.inBlock 6 Q) { tmps := (List.toArray (v0 :: v1 :: v2 :: (.pointer (some ⟨g, 0, none⟩)) :: v4 :: v5 :: v6 :: v7 :: v8 :: v9 :: (.int .i64 ((l.length : Int) - 1)) :: v11 :: v12 :: v13 :: v14 :: v15 :: v16 :: v17 :: v18 :: v19 :: v20 :: v21 :: v22 :: v23 :: v24 :: v25 :: v26 :: v27 :: v28 :: v29 :: v30 :: v31 :: v32 :: v33 :: v34 :: v35 :: v36 :: v37 :: v38 :: v39 :: v40 :: v41 :: v42 :: v43 :: v44 :: v45 :: v46 :: v47 :: v48 :: v49 :: v50 :: v51 :: v52 :: v53 :: v54 :: v55 :: v56 :: v57 :: v58 :: v59 :: v60 :: v61 :: v62 :: v63 :: v64 :: v65 :: v66 :: v67 :: v68 :: v69 :: v70 :: v71 :: v72 :: v73 :: v74 :: v75 :: v76 :: v77 :: v78 :: v79 :: v80 :: v81 :: v82 :: v83 :: v84 :: v85 :: v86 :: v87 :: v88 :: v89 :: v90 :: v91 :: v92 :: v93 :: v94 :: v95 :: v96 :: v97 :: v98 :: v99 :: v100 :: v101 :: v102 :: v103 :: v104 :: v105 :: v106 :: [])), defers := ds } W := by
  conv => arg 4; whnf
  have hmx : Try.prog.follows .mixedOrders = true := by kernel_rfl
  have hu1 := Try.underlying109
  have hu3 := Try.underlying107
  have HA := Lib.hid hA
  have HLO := Lib.hid hlo
  clear hA hlo
  refine wpIn_loop_lay (fun (tT : List Value) (a' : Act) (wv : World) => ∃ (dfs : List Deferred) (u10 u11 u77 u78 u79 u80 u81 u82 u83 u84 u85 u86 u87 u88 u89 u90 u91 u92 u93 u94 u95 u96 u97 u98 u99 u100 u101 u102 u103 u104 u105 : Value), ((fun u10 dfs w' => ∃ (k : Nat) (v : Int), u10 = .int .i64 v ∧ v = (k : Int) - 1 ∧ k ≤ l.length ∧ dfs = ds ∧ Fr (fun _ => False) w0 w' ∧ Coll lo w'.heap.size ds w' ∧
      Seen n least most short A l.length c g sb cS l.length lo bs (pruned least most short n l k) w') u10 dfs wv) ∧ a' = { tmps := (lay [none, none, none, none, none, none, none, none, none, none, some u10, some u11, none, none, none, none, none, none, none, none, none, none, none, none, none, none, none, none, none, none, none, none, none, none, none, none, none, none, none, none, none, none, none, none, none, none, none, none, none, none, none, none, none, none, none, none, none, none, none, none, none, none, none, none, none, none, none, none, none, none, none, none, none, none, none, none, none, some u77, some u78, some u79, some u80, some u81, some u82, some u83, some u84, some u85, some u86, some u87, some u88, some u89, some u90, some u91, some u92, some u93, some u94, some u95, some u96, some u97, some u98, some u99, some u100, some u101, some u102, some u103, some u104, some u105] tT).toArray, defers := dfs }) (fun (a' : Act) (wv : World) => (fun u10 w' => (intOf u10 + 1).toNat) (Array.getD a'.tmps 10 undef) wv) ?atStart ?round
  case' atStart =>
    dsimp only [lay]
    (repeat apply Exists.intro)
    refine ⟨?_, rfl⟩
  case' round =>
    dsimp only [lay]
    intro _ wr hinv
    obtain ⟨dfs, hinv⟩ := hinv
    obtain ⟨u10, hinv⟩ := hinv
    obtain ⟨u11, hinv⟩ := hinv
    obtain ⟨u77, hinv⟩ := hinv
    obtain ⟨u78, hinv⟩ := hinv
    obtain ⟨u79, hinv⟩ := hinv
    obtain ⟨u80, hinv⟩ := hinv
    obtain ⟨u81, hinv⟩ := hinv
    obtain ⟨u82, hinv⟩ := hinv
    obtain ⟨u83, hinv⟩ := hinv
    obtain ⟨u84, hinv⟩ := hinv
    obtain ⟨u85, hinv⟩ := hinv
    obtain ⟨u86, hinv⟩ := hinv
    obtain ⟨u87, hinv⟩ := hinv
    obtain ⟨u88, hinv⟩ := hinv
    obtain ⟨u89, hinv⟩ := hinv
    obtain ⟨u90, hinv⟩ := hinv
    obtain ⟨u91, hinv⟩ := hinv
    obtain ⟨u92, hinv⟩ := hinv
    obtain ⟨u93, hinv⟩ := hinv
    obtain ⟨u94, hinv⟩ := hinv
    obtain ⟨u95, hinv⟩ := hinv
    obtain ⟨u96, hinv⟩ := hinv
    obtain ⟨u97, hinv⟩ := hinv
    obtain ⟨u98, hinv⟩ := hinv
    obtain ⟨u99, hinv⟩ := hinv
    obtain ⟨u100, hinv⟩ := hinv
    obtain ⟨u101, hinv⟩ := hinv
    obtain ⟨u102, hinv⟩ := hinv
    obtain ⟨u103, hinv⟩ := hinv
    obtain ⟨u104, hinv⟩ := hinv
    obtain ⟨u105, hinv⟩ := hinv
    obtain ⟨hrel, ha⟩ := hinv
    subst ha
    try dsimp only
  case atStart =>
    exact ⟨l.length, _, rfl, rfl, Nat.le_refl _, rfl, hF, hds, hs⟩
  case round =>
    obtain ⟨k, v, rfl, hv, hk, hdse, hF1, hC, hSeen⟩ := hrel
    obtain rfl := hdse.symm
    obtain ⟨wo, rfl⟩ : ∃ wo, wo = wr := ⟨_, rfl⟩
    clear hs hF hds
    rcases k with _ | j
    · have hneg : ¬ (0 : Int) ≤ v := by omega
      clear hv
      gi_wp2
      exact hdone _ _ _ _ _ _ _ _ _ _ _ _ _ _ _ _ _ _ _ _ _ _ _ _ _ _ _ _ _ _ _ wo hF1 hC hSeen
    · obtain rfl : v = (j : Int) := by omega
      clear hv
      have hjl : j < l.length := by omega
      have hv0 : (0 : Int) ≤ j := by omega
      have hSz := hF1.size
      have hbL := hSeen.len
      obtain ⟨bi, hbi⟩ : ∃ b, bs[j]? = some b := ⟨_, List.getElem?_eq_getElem (by omega)⟩
      obtain ⟨bj, hbj⟩ : ∃ b, bs[j + 1]? = some b := ⟨_, List.getElem?_eq_getElem (by omega)⟩
      have hMi := (hSeen.maps j bi hbi).2
      obtain ⟨W2, cnt, hrng, hR2, hg2, hs2⟩ := hMi.range
      have hrng : (Instr.range 104 (.map (some bi))).run Try.prog wo = .ok (.pointer (some ⟨wo.heap.size, 0, none⟩)) W2 := hrng
      have e5 := cell_of hSeen.obj (i := 5) rfl
      have ei := hSeen.cell hbi
      simp only [List.getElem_toArray, List.getElem_cons_zero, List.getElem_cons_succ] at e5
      have hj3 : (j : Int) < (l.length : Int) + 1 := by omega
      have hj4 : (j : Int) < ((l.length + 1 : Nat) : Int) := by omega
      have hwr : IntKind.i64.wrap ((j : Int) - 1) = (j : Int) - 1 := by simp [IntKind.wrap, IntKind.bits, IntKind.signed]; omega
      have HF1 := Lib.hid hF1
      have HC := Lib.hid hC
      have HS := Lib.hid hSeen
      have HR2 := Lib.hid hR2
      have HG2 := Lib.hid hg2
      have HS2 := Lib.hid hs2
      clear hF1 hC hSeen hR2 hg2 hs2 hMi
      gi_wp2
      have hSeen := HS.out
      have hF12 : Fr (fun _ => False) wo W2 := Fr.grown HG2.out (fun r e => by cases e)
      have hs2 := HS2.out
      have hbil := hSeen.maplt (List.mem_of_getElem? hbi)
      have hbjl := hSeen.maplt (List.mem_of_getElem? hbj)
      have hgl := (Array.getElem?_eq_some_iff.1 hSeen.obj).1
      have hse2 : Seen n least most short A l.length c g sb cS l.length lo bs (pruned least most short n l (j + 1)) W2 := hSeen.same (hF12.same _ hgl (by simp)) (hF12.same _ hSeen.rowlt (by simp)) (fun b hb => hF12.same _ (hSeen.maplt hb) (by simp))
      have hC2 : Coll lo W2.heap.size ds W2 := (HC.out.same (SameMarks.fr hF12 (fun k h => h.elim))).up (by omega)
      have hF02 := HF1.out.trans hF12
      have hbij : bi ≠ bj := fun e => by
        subst e
        have h1 := List.getElem?_eq_some_iff.1 hbi
        have h2 := List.getElem?_eq_some_iff.1 hbj
        exact (List.pairwise_iff_getElem.1 hSeen.nodup) j (j + 1) h1.1 h2.1 (by omega) (h1.2.trans h2.2.symm)
      refine wpIn_loop_lay (fun (tT : List Value) (a' : Act) (wv : World) => ∃ (dfs : List Deferred) (u11 u89 u90 u91 u92 u93 u94 u95 u96 u97 u98 u99 u100 u101 u102 u103 u104 u105 : Value), ((fun dfs2 w' => dfs2 = ds ∧ ∃ L cnt, RangeIs EB w' bi wo.heap.size (setOf (fun x => fwd least most short n l j x ∧ (L x ∨ tellable least most short n (l.drop j) x))) L cnt ∧ Fr (fun k => k = bi ∨ k = wo.heap.size) W2 w')  dfs wv) ∧ a' = { tmps := (lay [none, none, none, none, none, none, none, none, none, none, none, some u11, none, none, none, none, none, none, none, none, none, none, none, none, none, none, none, none, none, none, none, none, none, none, none, none, none, none, none, none, none, none, none, none, none, none, none, none, none, none, none, none, none, none, none, none, none, none, none, none, none, none, none, none, none, none, none, none, none, none, none, none, none, none, none, none, none, none, none, none, none, none, none, none, none, none, none, none, none, some u89, some u90, some u91, some u92, some u93, some u94, some u95, some u96, some u97, some u98, some u99, some u100, some u101, some u102, some u103, some u104, some u105] tT).toArray, defers := dfs }) (fun (a' : Act) (wv : World) => (fun w' => w'.rangeLeft bi wo.heap.size)  wv) ?atStart ?round
      case' atStart =>
        dsimp only [lay]
        (repeat apply Exists.intro)
        refine ⟨?_, rfl⟩
      case' round =>
        dsimp only [lay]
        intro _ wr hinv
        obtain ⟨dfs, hinv⟩ := hinv
        obtain ⟨u11, hinv⟩ := hinv
        obtain ⟨u89, hinv⟩ := hinv
        obtain ⟨u90, hinv⟩ := hinv
        obtain ⟨u91, hinv⟩ := hinv
        obtain ⟨u92, hinv⟩ := hinv
        obtain ⟨u93, hinv⟩ := hinv
        obtain ⟨u94, hinv⟩ := hinv
        obtain ⟨u95, hinv⟩ := hinv
        obtain ⟨u96, hinv⟩ := hinv
        obtain ⟨u97, hinv⟩ := hinv
        obtain ⟨u98, hinv⟩ := hinv
        obtain ⟨u99, hinv⟩ := hinv
        obtain ⟨u100, hinv⟩ := hinv
        obtain ⟨u101, hinv⟩ := hinv
        obtain ⟨u102, hinv⟩ := hinv
        obtain ⟨u103, hinv⟩ := hinv
        obtain ⟨u104, hinv⟩ := hinv
        obtain ⟨u105, hinv⟩ := hinv
        obtain ⟨hrel, ha⟩ := hinv
        subst ha
        try dsimp only
      case atStart =>
        have hR := HR2.out
        have he : setOf (pruned least most short n l (j + 1) j) = setOf (fun x => fwd least most short n l j x ∧ ((setOf (pruned least most short n l (j + 1) j) x ≠ none) ∨ tellable least most short n (l.drop j) x)) :=
          setOf_congr (fun x => ⟨fun h => ⟨h.1, .inl (setOf_ne.2 h)⟩, fun h => ⟨h.1, fun hc => by omega⟩⟩)
        rw [he] at hR
        refine ⟨rfl, (fun x => setOf (pruned least most short n l (j + 1) j) x ≠ none), cnt, ?_, Fr.refl _ _⟩
        rw [← he] at hR ⊢
        exact hR
      case round =>
        obtain ⟨hd2, L, cn2, hR, hF3⟩ := hrel
        obtain rfl := hd2.symm
        have hse2 := hse2
        have hno2 : ∀ {k : Nat} {o : Obj}, W2.heap[k]? = some o → o.isCells = true → ¬ (k = bi ∨ k = wo.heap.size) := fun hk ho h => by
          rcases h with rfl | rfl
          · obtain ⟨es, cl, hm⟩ := (hSeen.maps j _ hbi).2.isMap
            rw [hF12.same _ hbil (by simp), hm] at hk; cases hk; cases ho
          · obtain ⟨o2, h1, h2⟩ := HR2.out.iter
            rw [h1] at hk; cases hk; rw [h2] at ho; cases ho
        have hsbh : ∃ cur, W2.heap[sb]? = some (.cells cur 104 (0, 0)) := by
          rcases hse2.row.2 with ⟨h, _⟩ | ⟨g', cap, cur, r1, r2, r3, _⟩
          · cases h
          · cases r1; exact ⟨cur, r3⟩
        obtain ⟨cur2, hcur2⟩ := hsbh
        have hg3 := (hF3.same g (Array.getElem?_eq_some_iff.1 hse2.obj).1 (hno2 hse2.obj rfl)).trans hse2.obj
        have hsz3 := hF3.size
        rcases hR.next 0 with ⟨hall, hrun⟩ | ⟨x, v, W3, cnt1, hLx, hMx, hbx, hrun, hR1, hlt, hg1, hs1, hen⟩
        · gi_wp2
          refine ⟨?_, ?measure⟩
          · (repeat apply Exists.intro)
            refine ⟨?_, rfl, rfl⟩
            have hlo := HLO.out
            have hsb3 := hF3.same sb (Array.getElem?_eq_some_iff.1 hcur2).1 (hno2 hcur2 rfl)
            have hF03 : Fr (fun _ => False) w0 wr := by
              have := HR2.out.lt
              have hlb := (hse2.maps j bi hbi).1
              exact ⟨hF3.os.trans hF02.os, hF3.tape.trans hF02.tape, hF3.output.trans hF02.output, Nat.le_trans hF02.size hF3.size, fun q hq _ => (hF3.same q (by have := hF02.size; omega) (fun h => by rcases h with h | h <;> omega)).trans (hF02.same q hq (by simp))⟩
            have hmk : SameMarks W2 wr := SameMarks.fr hF3 (fun k h => by
              rcases h with rfl | rfl
              · exact (hse2.maps j _ hbi).2.noMark
              · exact HR2.out.noMark)
            refine ⟨j, _, rfl, rfl, by omega, rfl, hF03, (hC2.same hmk).up (by omega), hg3, ?_, fun q b hq => ?_, hse2.nodup, hse2.glo⟩
            · obtain ⟨q1, q2⟩ := hse2.row
              refine ⟨q1, ?_⟩
              rcases q2 with q2 | ⟨g', cap, cur, e, r1, r2, r3, r4, r5, r6⟩
              · exact .inl q2
              · cases e
                exact .inr ⟨sb, cS, cur, rfl, r1, hsb3.trans r2, r3, r4, r5, r6⟩
            · by_cases hqj : q = j
              · subst hqj
                obtain rfl : b = bi := Option.some.inj (hq.symm.trans hbi)
                refine ⟨(hse2.maps q b hbi).1, ?_⟩
                have := hR.mapIs
                rwa [setOf_congr (T := pruned least most short n l q q) (fun x => ⟨fun h => ⟨h.1, fun _ => h.2.elim (fun hL => (setOf_none_iff.1 (hall x hL) ⟨h.1, .inl hL⟩).elim) id⟩, fun h => ⟨h.1, .inr (h.2 (Nat.le_refl _))⟩⟩)] at this
              · have hm := hse2.maps q b hq
                have hbne : b ≠ bi := fun e => by
                  subst e
                  have h1 := List.getElem?_eq_some_iff.1 hbi
                  have h2 := List.getElem?_eq_some_iff.1 hq
                  rcases Nat.lt_or_gt_of_ne hqj with h | h
                  · exact (List.pairwise_iff_getElem.1 hSeen.nodup) q j h2.1 h1.1 h (h2.2.trans h1.2.symm)
                  · exact (List.pairwise_iff_getElem.1 hSeen.nodup) j q h1.1 h2.1 h (h1.2.trans h2.2.symm)
                have hbl := hSeen.maplt (List.mem_of_getElem? hq)
                refine ⟨hm.1, ?_⟩
                have := hm.2.same (hF3.same b hm.2.lt (fun h => by rcases h with h | h <;> omega))
                rwa [setOf_congr (T := pruned least most short n l j q) (fun x => ⟨fun h => ⟨h.1, fun _ => h.2 (by omega)⟩, fun h => ⟨h.1, fun _ => h.2 (by omega)⟩⟩)] at this
          case measure =>
            simp [intOf]
            omega
        · simp only [encSt] at hrun hen
          have hlo := HLO.out
          have hlb := (hse2.maps j bi hbi).1
          have hf := setOf_some hMx
          have F3 : Fr (fun k => k = bi ∨ k = wo.heap.size) W2 W3 := hF3.trans (Fr.grown hg1 (fun r e => by cases e; exact .inr rfl))
          have hF03 : Fr (fun _ => False) w0 W3 :=
            ⟨F3.os.trans hF02.os, F3.tape.trans hF02.tape, F3.output.trans hF02.output, Nat.le_trans hF02.size F3.size, fun q hq _ => (F3.same q (by have := hF02.size; omega) (fun h => by rcases h with h | h <;> omega)).trans (hF02.same q hq (by simp))⟩
          have hsz3 := F3.size
          have HF03 := Lib.hid hF03
          have HF3 := Lib.hid F3
          have HR1 := Lib.hid hR1
          have HLE := Lib.hid hR.left_eq
          have HSE := Lib.hid hse2
          have HC2 := Lib.hid hC2
          have HCUR := Lib.hid hcur2
          have kg : g < W3.heap.size := by have := (Array.getElem?_eq_some_iff.1 hse2.obj).1; omega
          clear hF03 F3 hR1 hse2 hC2 hcur2 hg3 hF3 hR hF12 hF02 hs2 hs1 hg1
          gi_wp2
          obtain ⟨W4, hW4⟩ : ∃ W4, W3.alloc (.cells #[.int .i64 x.holder, .int .i64 x.turn, .int .i64 x.short, .bool x.own] 109) = W4 := ⟨_, rfl⟩
          have hb4 : Below W3.heap.size W3 W4 := by rw [← hW4]; exact (Below.refl _ W3).alloc (Nat.le_refl _) _
          have hs4 : W4.heap.size = W3.heap.size + 1 := by rw [← hW4]; simp
          have hx4 : W4.heap[W3.heap.size]? = some (.cells #[.int .i64 x.holder, .int .i64 x.turn, .int .i64 x.short, .bool x.own] 109 (0, 0)) := by rw [← hW4]; exact heap_new rfl
          rw [hW4]
          have hse2 := HSE.out
          have hF24 : Fr (fun k => k = bi ∨ k = wo.heap.size) W2 W4 := HF3.out.trans (Fr.of_below hb4 (fun k q1 q2 => by omega))
          have hobj4 := (hF24.same g (Array.getElem?_eq_some_iff.1 hse2.obj).1 (hno2 hse2.obj rfl)).trans hse2.obj
          have hej := (hF24.cell (hse2.cell hbj) (hno2 HCUR.out rfl))
          have hMj := (hse2.maps (j + 1) bj hbj).2
          have hMj4 : MapIs EB W4 bj (setOf (pruned least most short n l (j + 1) (j + 1))) := hMj.same (hF24.same bj hMj.lt (fun h => by rcases h with h | h <;> omega))
          have hA4 : Kd.C k52 W4 A l.length l := Kd.C_below HA.out ((HF03.out.trans (Fr.of_below hb4 (fun k q1 q2 => by omega))).below (Nat.le_refl _) (by simp))
          have hej0 : W4.cell? ⟨sb, 0 + (j + 1), none⟩ = some (.map (some bj)) := by rw [Nat.zero_add]; exact hej
          have hsm := (fwd_small hn j x hf.1)
          have hsm60 : Small x 60 := ⟨hsm.h1, hsm.h2, hsm.t1, by have := hsm.t2; omega, hsm.s1, by have := hsm.s2; omega⟩
          have hcl := leads.calls g n hn least most short (l.length : Int) A c l sb 0 (l.length + 1) cS j x bj (setOf (pruned least most short n l (j + 1) (j + 1))) W4 hobj4 hA4 hjl (by omega) (by omega) (by omega) hej0 hMj4 hsm60
          have HB4 := Lib.hid hb4
          have HS4 := Lib.hid hs4
          have HX4 := Lib.hid hx4
          clear hb4 hs4 hx4 hse2 hF24 hej hMj hMj4 hA4 hej0 hobj4
          refine ⟨trivial, rfl, (callsIn_wide.2 hcl).mono ?_⟩
          rintro e W5 ⟨r, rfl, hr, hb5⟩
          have hrt : r = true ↔ tellable least most short n (l.drop j) x := hr.trans (tellable_iff hjl hf.1).symm
          clear hr
          have hsz5 := hb5.size
          have hs4 := HS4.out
          have hF35 : Below W3.heap.size W3 W5 := HB4.out.trans (hb5.mono (by omega))
          have hF25 : Fr (fun k => k = bi ∨ k = wo.heap.size) W2 W5 := HF3.out.trans (Fr.of_below hF35 (fun k q1 q2 => by omega))
          have hR5 := HR1.out.same (w' := W5) (hF35.block _ HR1.out.mapIs.lt) (hF35.block _ HR1.out.lt)
          have hse2 := HSE.out
          cases r
          · have hnt : ¬ tellable least most short n (l.drop j) x := fun h => by cases hrt.2 h
            clear hrt
            have HNT := Lib.hid hnt
            clear hnt
            obtain ⟨W6, cnt2, hdel, hR6, hle6, ht6⟩ := (hR5.same (w' := W5.drew) rfl rfl).drop x hbx 0
            have hdel : (Builtin.delete_ #[104, 109] 0 #[.map (some bi), .agg #[.int .i64 x.holder, .int .i64 x.turn, .int .i64 x.short, .bool x.own]]).run Try.prog W5.drew = .ok (.tuple #[]) W6 := hdel
            have hg6 : W5.drew.grownBy W6 (some bi) := ht6.grown
            have ei5 := hF25.cell (hse2.cell hbi) (hno2 HCUR.out rfl)
            have ho5 := (hF25.same g (Array.getElem?_eq_some_iff.1 hse2.obj).1 (hno2 hse2.obj rfl)).trans hse2.obj
            have e55 := cell_of ho5 (i := 5) rfl
            have hx5 := (hb5.block _ (by omega)).trans HX4.out
            have ex0 := cell_of hx5 (i := 0) rfl
            have ex1 := cell_of hx5 (i := 1) rfl
            have ex2 := cell_of hx5 (i := 2) rfl
            have ex3 := cell_of hx5 (i := 3) rfl
            simp only [List.getElem_toArray, List.getElem_cons_zero, List.getElem_cons_succ] at e55 ex0 ex1 ex2 ex3
            have HF25 := Lib.hid hF25
            have HR6 := Lib.hid hR6
            have HG6 := Lib.hid hg6
            clear hF35 hF25 hR5 hR6 hg6 ht6 hse2 hx5 ho5 hs4 hsz5 hb5
            gi_wp2
            refine wpIn_region_still_tail .wide 8 hmx (by kernel_rfl) (by kernel_rfl) ?_
            simp only [List.take_succ_cons, List.take_zero, List.drop_succ_cons, List.drop_zero]
            repeat still_step
            refine wpStill_nil ?_
            gi_wp2
            refine ⟨?_, ?measure⟩
            · (repeat apply Exists.intro)
              refine ⟨?_, rfl⟩
              refine ⟨rfl, (fun y => (L y ∧ y ≠ x) ∧ y ≠ x), cnt2, ?_, (HF25.out.trans (Fr.drew _)).trans (Fr.grown HG6.out (fun r e => by cases e; exact .inl rfl))⟩
              have hR6 := HR6.out
              have hnt := HNT.out
              have he : (fun y => if y = x then none else setOf (fun x => fwd least most short n l j x ∧ (L x ∨ tellable least most short n (l.drop j) x)) y) = setOf (fun y => fwd least most short n l j y ∧ (((L y ∧ y ≠ x) ∧ y ≠ x) ∨ tellable least most short n (l.drop j) y)) := by
                funext y
                by_cases e : y = x
                · subst e
                  rw [if_pos rfl]
                  exact (setOf_none_iff.2 (fun h => h.2.elim (fun q => q.2 rfl) hnt)).symm
                · rw [if_neg e]
                  unfold setOf
                  by_cases hc : fwd least most short n l j y ∧ (L y ∨ tellable least most short n (l.drop j) y)
                  · rw [if_pos hc, if_pos ⟨hc.1, hc.2.elim (fun q => .inl ⟨⟨q, e⟩, e⟩) .inr⟩]
                  · rw [if_neg hc, if_neg (fun h => hc ⟨h.1, h.2.elim (fun q => .inl q.1.1) .inr⟩)]
              rw [he] at hR6
              exact hR6
            case measure =>
              rw [HR6.out.left_eq, HLE.out]
              omega
          · have HT := Lib.hid (hrt.1 rfl)
            clear hrt
            gi_wp2
            refine ⟨?_, ?measure⟩
            · (repeat apply Exists.intro)
              refine ⟨?_, rfl⟩
              refine ⟨rfl, (fun y => L y ∧ y ≠ x), cnt1, ?_, hF25⟩
              rwa [setOf_congr (T := fun y => fwd least most short n l j y ∧ ((L y ∧ y ≠ x) ∨ tellable least most short n (l.drop j) y)) (fun y => ⟨fun h => ⟨h.1, h.2.elim (fun q => by
                by_cases e : y = x
                · subst e; exact .inr HT.out
                · exact .inl ⟨q, e⟩) .inr⟩, fun h => ⟨h.1, h.2.elim (fun q => .inl q.1) .inr⟩⟩)] at hR5
            case measure =>
              rw [hR5.left_eq, HLE.out]
              omega
end Go.Proofs.Ytdnjmhhjjbdieaa.Q
end

section
/- The walk of look, whole. -/
namespace Go.Proofs.Ytdnjmhhjjbdieaa.Q
open Go.RowKit Go.Shelf Go.Proofs.YtdnjmhhjjbdieaaW.PrintWords Go.Proofs.YtdnjmhhjjbdieaaW.PrintLast
set_option linter.unusedVariables false
set_option linter.unusedSimpArgs false
attribute [local go_sem] Oper.semAt_some

attribute [local go_sem] run_makeMap

/-- What look returns. -/
def Looked (n : Nat) (least most short : Int) (A : Option Addr) (c : Nat) (l : List S52) (g i lo : Nat) (w : World) : Prop :=
  ∃ (sb cS : Nat) (bs : List Nat), (∀ j, j ≤ i → ∃ x, fwd least most short n l j x) ∧
    ((i = l.length ∧ Seen n least most short A l.length c g sb cS i lo bs (pruned least most short n l 0) w) ∨
      (i < l.length ∧ (∀ x, ¬ fwd least most short n l (i + 1) x) ∧ Seen n least most short A l.length c g sb cS i lo bs (fwd least most short n l) w))

theorem Seen.congr {n : Nat} {least most short : Int} {A : Option Addr} {len c g sb cS i lo : Nat} {bs : List Nat} {Ms Ms' : Nat → St → Prop} {w : World} (h : Seen n least most short A len c g sb cS i lo bs Ms w)
    (hm : ∀ j x, Ms j x ↔ Ms' j x) : Seen n least most short A len c g sb cS i lo bs Ms' w :=
  ⟨h.obj, h.row, fun j b hj => ⟨(h.maps j b hj).1, by rw [← setOf_congr (hm j)]; exact (h.maps j b hj).2⟩, h.nodup, h.glo⟩

/-- What takes the marks away leaves the object. -/
theorem Seen.leave {n : Nat} {least most short : Int} {A : Option Addr} {len c g sb cS i lo lo' hi : Nat} {bs : List Nat} {Ms : Nat → St → Prop} {w w' : World} (h : Seen n least most short A len c g sb cS i lo bs Ms w)
    (hF : Fr (fun k => lo' ≤ k ∧ k < hi ∧ w.heap[k]? = some (.deferred (some []))) w w') : Seen n least most short A len c g sb cS i lo bs Ms w' := by
  have hsb : ∃ cur, w.heap[sb]? = some (.cells cur 104 (0, 0)) := by
    rcases h.row.2 with ⟨q, _⟩ | ⟨g', cap, cur, r1, r2, r3, _⟩
    · cases q
    · cases r1; exact ⟨cur, r3⟩
  obtain ⟨cur, hcur⟩ := hsb
  refine h.same (hF.same _ (Array.getElem?_eq_some_iff.1 h.obj).1 (fun q => ?_)) (hF.same _ h.rowlt (fun q => ?_)) (fun b hb => hF.same _ (h.maplt hb) (fun q => ?_))
  · rw [h.obj] at q; cases q.2.2
  · rw [hcur] at q; cases q.2.2
  · obtain ⟨j, hj⟩ := List.getElem?_of_mem hb
    exact (h.maps j b hj).2.noMark q.2.2

theorem start_seen (n : Nat) (least most short : Int) (A : Option Addr) (c lo b0 : Nat) (l : List S52) (W2 : World) (hM : MapIs EB W2 b0 (setOf (fwd least most short n l 0))) (h1 : lo ≤ b0) (h2 : lo ≤ W2.heap.size) :
    Seen n least most short A l.length c (W2.heap.size + 1) W2.heap.size 1 0 lo [b0] (fwd least most short n l)
      ((W2.alloc (.cells #[.map (some b0)] 104)).alloc (.cells #[.int .i64 n, .int .i64 least, .int .i64 most, .int .i64 short, .slice A l.length c, .slice (some ⟨W2.heap.size, 0, none⟩) 1 1, .int .i64 0] 107)) :=
  ⟨heap_new (by simp), ⟨rfl, .inr ⟨W2.heap.size, 1, #[.map (some b0)], rfl, h2, heap_old (heap_new rfl), Nat.le_refl _, by unfold maxLen; omega, rfl, rfl⟩⟩, fun j b hj => by
    rcases j with _ | j
    · obtain rfl : b0 = b := by simpa using hj
      exact ⟨h1, hM.same ((Below.heap_alloc _ _ _ (by have := hM.lt; simp; omega)).trans (Below.heap_alloc _ _ _ hM.lt))⟩
    · simp at hj, by simp, by omega⟩

theorem start_map {W W2 : World} {b0 : Nat} {least most short : Int} {n : Nat} {l : List S52} (h : MapIs EB W2 b0 (fun y => if y = beginSt then some () else (fun _ => none) y)) : MapIs EB W2 b0 (setOf (fwd least most short n l 0)) := by
  rw [← setOf_none, setOf_add] at h
  rwa [setOf_congr (T := fwd least most short n l 0) (fun y => ⟨fun h => h.elim False.elim id, fun h => .inr h⟩)] at h

set_option maxRecDepth 100000 in
set_option maxHeartbeats 4000000 in
theorem look.calls (n : Nat) (hn : n ≤ 12) (least most short : Int) (A : Option Addr) (c : Nat) (l : List S52) (hl : l.length ≤ 40) (w : World) (hA : Kd.C k52 w A l.length l) :
    Calls Try.prog 71 #[.agg #[.int .i64 n, .int .i64 least, .int .i64 most, .int .i64 short, .slice A l.length c]] w fun e w' => ∃ g i, e = .returned (.pointer (some ⟨g, 0, none⟩)) ∧ Below w.heap.size w w' ∧ Looked n least most short A c l g i w.heap.size w' := by
  have hmx : Try.prog.follows .mixedOrders = true := by kernel_rfl
  have hu := Try.underlying33
  have hu1 := Try.underlying109
  have hu3 := Try.underlying107
  refine (callsIn_wide (n := 0)).1 ?_
  refine callsIn_of_wp_marks Try.func71 rfl trivial ?_ rfl
  simp only [Try.ntmps71, List.size_toArray, List.length_cons, List.length_nil, Nat.reduceAdd, Nat.reduceSub, Array.replicate_succ, Array.replicate_zero, List.push_toArray, List.append_toArray, List.nil_append, List.cons_append]
  gi_wp2
  have HA := Lib.hid hA
  obtain ⟨W0, hW0⟩ : ∃ W0, w.alloc (.cells #[.int .i64 n, .int .i64 least, .int .i64 most, .int .i64 short, .slice A l.length c] 33) = W0 := ⟨_, rfl⟩
  have hs0 : W0.heap.size = w.heap.size + 1 := by rw [← hW0]; simp
  have hsc0 : W0.heap[w.heap.size]? = some (.cells #[.int .i64 n, .int .i64 least, .int .i64 most, .int .i64 short, .slice A l.length c] 33 (0, 0)) := by rw [← hW0]; exact heap_new rfl
  have hF0 : Fr (fun _ => False) w W0 := by rw [← hW0]; exact Fr.alloc _ _
  rw [hW0]
  have HS0 := Lib.hid hs0
  have e0 := cell_of hsc0 (i := 0) rfl
  have e1 := cell_of hsc0 (i := 1) rfl
  have e2 := cell_of hsc0 (i := 2) rfl
  have e3 := cell_of hsc0 (i := 3) rfl
  have e4 := cell_of hsc0 (i := 4) rfl
  simp only [List.getElem_toArray, List.getElem_cons_zero, List.getElem_cons_succ] at e0 e1 e2 e3 e4
  have q0 : w.heap.size < W0.heap.size := by omega
  have q1 : w.heap.size < W0.heap.size + 1 := by omega
  have q2 : w.heap.size < W0.heap.size + 1 + 1 := by omega
  have HSC := Lib.hid hsc0
  clear hs0 hA hsc0
  have hmA : MapIs EB ((W0.alloc (.map #[] 0)).alloc (.cells #[.int .i64 (-2), .int .i64 0, .int .i64 0, .bool false] 109)).drew W0.heap.size (fun _ => none) := (MapIs.made W0).same (Below.heap_alloc _ _ _ (by simp))
  have hmB : MapIs EB ((W0.alloc (.cells #[.int .i64 (-2), .int .i64 0, .int .i64 0, .bool false] 109)).alloc (.map #[] 0)).drew (W0.heap.size + 1) (fun _ => none) := by
    have := MapIs.made (E := EB) (W0.alloc (.cells #[.int .i64 (-2), .int .i64 0, .int .i64 0, .bool false] 109))
    rw [World.size_alloc] at this
    exact this.same rfl
  obtain ⟨WA, hupA, hMA, hgA, _, hsA⟩ := hmA.update beginSt ((beginSt_small 0).box (by omega)) ()
  obtain ⟨WB, hupB, hMB, hgB, _, hsB⟩ := hmB.update beginSt ((beginSt_small 0).box (by omega)) ()
  have hupA : (Instr.mapUpdate 104 (.map (some W0.heap.size)) (.agg #[.int .i64 (-2), .int .i64 0, .int .i64 0, .bool false]) (.bool true)).run Try.prog ((W0.alloc (.map #[] 0)).alloc (.cells #[.int .i64 (-2), .int .i64 0, .int .i64 0, .bool false] 109)).drew = .ok () WA := hupA
  have hupB : (Instr.mapUpdate 104 (.map (some (W0.heap.size + 1))) (.agg #[.int .i64 (-2), .int .i64 0, .int .i64 0, .bool false]) (.bool true)).run Try.prog ((W0.alloc (.cells #[.int .i64 (-2), .int .i64 0, .int .i64 0, .bool false] 109)).alloc (.map #[] 0)).drew = .ok () WB := hupB
  have hMA' := start_map (W := W0) (least := least) (most := most) (short := short) (n := n) (l := l) hMA
  have hMB' := start_map (W := W0) (least := least) (most := most) (short := short) (n := n) (l := l) hMB
  have hFA : Fr (fun _ => False) W0 WA := Fr.mono (X := fun k => k = W0.heap.size) ((((Fr.alloc W0 (.map #[] 0)).trans (Fr.alloc _ _)).trans (Fr.drew _)).trans (Fr.grown hgA (fun r e => by cases e; rfl))) (fun k hk h => by omega)
  have hFB : Fr (fun _ => False) W0 WB := Fr.mono (X := fun k => k = W0.heap.size + 1) ((((Fr.alloc W0 _).trans (Fr.alloc _ (.map #[] 0))).trans (Fr.drew _)).trans (Fr.grown hgB (fun r e => by cases e; rfl))) (fun k hk h => by omega)
  have kA : w.heap.size < WA.heap.size := by have := hFA.size; omega
  have kB : w.heap.size < WB.heap.size := by have := hFB.size; omega
  have eA0 := hFA.cell e0 (by simp)
  have eA1 := hFA.cell e1 (by simp)
  have eA2 := hFA.cell e2 (by simp)
  have eA3 := hFA.cell e3 (by simp)
  have eA4 := hFA.cell e4 (by simp)
  have eB0 := hFB.cell e0 (by simp)
  have eB1 := hFB.cell e1 (by simp)
  have eB2 := hFB.cell e2 (by simp)
  have eB3 := hFB.cell e3 (by simp)
  have eB4 := hFB.cell e4 (by simp)
  have HFA := Lib.hid hFA
  have HFB := Lib.hid hFB
  have HMA := Lib.hid hMA'
  have HMB := Lib.hid hMB'
  clear hmA hmB hMA hgA hsA hMB hgB hsB hMA' hMB' hFA hFB
  obtain ⟨S, hS⟩ : ∃ S : Act → World → Prop, S = (fun a' w' => ∃ (g b0 sb : Nat) (t12 t13 t14 t15 t16 t17 t18 : Value), Fr (fun _ => False) W0 w' ∧ Seen n least most short A l.length c g sb 1 0 w.heap.size [b0] (fwd least most short n l) w' ∧ a' = { tmps := (List.toArray ((.agg #[.int .i64 n, .int .i64 least, .int .i64 most, .int .i64 short, .slice A l.length c]) :: (.pointer (some ⟨w.heap.size, 0, none⟩)) :: (.pointer none) :: (.pointer (some ⟨g, 0, none⟩)) :: undef :: undef :: undef :: undef :: undef :: undef :: undef :: undef :: t12 :: t13 :: t14 :: t15 :: t16 :: t17 :: t18 :: undef :: undef :: undef :: undef :: undef :: undef :: undef :: undef :: undef :: undef :: undef :: undef :: undef :: undef :: undef :: undef :: undef :: undef :: undef :: undef :: undef :: undef :: undef :: undef :: undef :: undef :: undef :: undef :: undef :: undef :: undef :: undef :: undef :: undef :: undef :: undef :: undef :: undef :: undef :: undef :: undef :: undef :: undef :: undef :: undef :: undef :: undef :: undef :: undef :: undef :: undef :: undef :: undef :: undef :: undef :: undef :: undef :: undef :: undef :: undef :: undef :: undef :: undef :: undef :: undef :: undef :: undef :: undef :: undef :: undef :: undef :: undef :: undef :: undef :: undef :: undef :: undef :: undef :: undef :: undef :: undef :: undef :: undef :: undef :: undef :: undef :: undef :: undef :: [])), defers := [] }) := ⟨_, rfl⟩
  have HSS := Lib.hid hS
  clear hS
  refine wpIn_cut S ?cutA ?cutB
  case cutA =>
    go_region_with (go_at_call 56; refine (begin.calls _).mono ?_; rintro e w' ⟨rfl, rfl⟩)
    all_goals rw [HSS.out]
    all_goals have hs0 := HS0.out
    all_goals first
      | exact ⟨WA.heap.size + 1, W0.heap.size, WA.heap.size, _, _, _, _, _, _, _, (HFA.out.trans (Fr.alloc _ _)).trans (Fr.alloc _ _), start_seen n least most short A c _ _ l WA HMA.out (by omega) (by omega), rfl⟩
      | exact ⟨WB.heap.size + 1, W0.heap.size + 1, WB.heap.size, _, _, _, _, _, _, _, (HFB.out.trans (Fr.alloc _ _)).trans (Fr.alloc _ _), start_seen n least most short A c _ _ l WB HMB.out (by omega) (by omega), rfl⟩
  case cutB =>
    intro a' w' h
    rw [HSS.out] at h
    obtain ⟨g, b0, sb, t12, t13, t14, t15, t16, t17, t18, hF1, hSe, rfl⟩ := h
    have f4 := hF1.cell e4 (by simp)
    have hsc1 := (hF1.same _ (Array.getElem?_eq_some_iff.1 HSC.out).1 (by simp)).trans HSC.out
    have hFw := hF0.trans hF1
    have HFw := Lib.hid hFw
    have HSC1 := Lib.hid hsc1
    have HSE := Lib.hid hSe
    clear HSS HMA HMB HFA HFB eA0 eA1 eA2 eA3 eA4 eB0 eB1 eB2 eB3 eB4 hupA hupB kA kB e0 e1 e2 e3 e4 hFw hsc1 hSe hF1 hF0 q0 q1 q2
    gi_wp2
    refine look.rounds n hn least most short A c l hl w.heap.size g sb 1 b0 w.heap.size _ _ _ _ _ _ _ _ _ _ _ _ _ _ _ _ _ _ _ _ _ _ _ _ _ _ _ _ _ _ _ _ _ _ _ _ _ _ _ _ _ _ _ _ _ _ _ _ _ _ _ _ _ _ _ _ _ _ _ _ _ _ _ _ _ _ _ _ _ _ _ _ _ _ _ _ _ _ _ _ _ _ _ _ _ _ _ _ _ _ _ _ _ _ _ _ _ _ _ _ _ _ _ w w' HA.out rfl (Nat.le_refl _) HFw.out HSC1.out HSE.out ?hnorm ?hret
    case hnorm =>
      intro ds' sb' cS' bs a2 a5 a6 a7 a9 a23 a24 a25 a26 a27 a28 a29 a30 a31 a32 a33 a34 a35 a36 a37 a38 a39 a40 a41 a42 a43 a44 a45 a48 a49 a50 a51 a52 a53 a54 a55 a56 a57 a58 a59 a60 a61 a62 a63 a64 a65 a66 a67 a68 a69 a70 a71 W' hF hC hne hSe2
      have e6 := cell_of hSe2.obj (i := 6) rfl
      simp only [List.getElem_toArray, List.getElem_cons_zero, List.getElem_cons_succ] at e6
      have hwr : IntKind.i64.wrap ((l.length : Int) - 1) = (l.length : Int) - 1 := by simp [IntKind.wrap, IntKind.bits, IntKind.signed]; omega
      have HF := Lib.hid hF
      have HC := Lib.hid hC
      have HSe2 := Lib.hid hSe2
      have HNE := Lib.hid hne
      clear hF hC hSe2 hne
      gi_wp2
      refine look.prune n hn least most short A c l hl g sb' cS' w.heap.size bs ds' _ _ _ _ _ _ _ _ _ _ _ _ _ _ _ _ _ _ _ _ _ _ _ _ _ _ _ _ _ _ _ _ _ _ _ _ _ _ _ _ _ _ _ _ _ _ _ _ _ _ _ _ _ _ _ _ _ _ _ _ _ _ _ _ _ _ _ _ _ _ _ _ _ _ _ _ _ _ _ _ _ _ _ _ _ _ _ _ _ _ _ _ _ _ _ _ _ _ _ _ _ _ _ _ _ _ w W' HA.out rfl HF.out HC.out (HSe2.out.congr (fun j x => ⟨fun h => ⟨h, fun hj => by rw [List.drop_eq_nil_of_le hj]; trivial⟩, fun h => h.1⟩)) ?_
      intro c10 c11 c77 c78 c79 c80 c81 c82 c83 c84 c85 c86 c87 c88 c89 c90 c91 c92 c93 c94 c95 c96 c97 c98 c99 c100 c101 c102 c103 c104 c105 W3 hF3 hC3 hSe3
      gi_wp2
      refine leave_marks _ _ hC3 (fun W4 hF4 => ⟨_, results_tmp rfl _ _ _, g, l.length, rfl, ?_, ?_⟩)
      · exact (hF3.below (Nat.le_refl _) (by simp)).trans (hF4.below hF3.size (fun k hk h => by omega))
      · exact ⟨sb', cS', bs, HNE.out, .inl ⟨rfl, hSe3.leave hF4⟩⟩
    case hret =>
      intro i ds' sb' cS' bs a5 a6 a7 a9 a23 a24 a25 a26 a27 a28 a29 a30 a31 a32 a33 a34 a35 a36 a37 a38 a39 a40 a41 a42 a43 a44 a45 a48 a49 a50 a51 a52 a53 a54 a55 a56 a57 a58 a59 a60 a61 a62 a63 a64 a65 a66 a67 a68 a69 a70 a71 W' hi hF hC hne hno hSe2
      gi_wp2
      refine leave_marks _ _ hC (fun W4 hF4 => ⟨_, results_tmp rfl _ _ _, g, i, rfl, ?_, ?_⟩)
      · exact (hF.below (Nat.le_refl _) (by simp)).trans (hF4.below hF.size (fun k hk h => by omega))
      · exact ⟨sb', cS', bs, hne, .inr ⟨hi, hno, hSe2.leave hF4⟩⟩
end Go.Proofs.Ytdnjmhhjjbdieaa.Q
end

section
/- The scene's check, for every scene: which error it has. -/
namespace Go.Proofs.Ytdnjmhhjjbdieaa.Q
open Go.RowKit Go.Proofs.YtdnjmhhjjbdieaaW.PrintWords Go.Proofs.YtdnjmhhjjbdieaaW.PrintLast
set_option linter.unusedVariables false
set_option linter.unusedSimpArgs false

/-- What the check asks of a moment. -/
def momOk (known : Int) (m : S52) : Bool := Go.bits .andNot .u16 (Go.bits .or .u16 m.f0 m.f1) known == 0

set_option maxRecDepth 100000 in
set_option maxHeartbeats 400000 in
theorem check1.calls (m : S52) (K : Nat) (known : Int) (w : World) (hk : w.cell? ⟨K, 0, none⟩ = some (.int .u16 known)) :
    Calls Try.prog 75 #[.agg #[.int .u16 m.f0, .int .u16 m.f1], .pointer (some ⟨K, 0, none⟩)] w fun e w' => e = .returned (.bool (momOk known m)) ∧ Below w.heap.size w w' := by
  have hu := Try.underlying52
  have hk1 := World.block_lt_of_cell? w _ hk
  simp only at hk1
  go_enter Try.func75, Try.ntmps75
  go_wp2
  go_ret
  exact ⟨rfl, (Below.refl _ w).alloc (Nat.le_refl _) _⟩

set_option maxRecDepth 100000 in
set_option maxHeartbeats 400000 in
theorem all1.calls (m : S52) (F K : Nat) (known : Int) (w : World) (hf : w.cell? ⟨F, 0, none⟩ = some (.func (.func 75) #[] #[.pointer (some ⟨K, 0, none⟩)])) (hk : w.cell? ⟨K, 0, none⟩ = some (.int .u16 known)) :
    Calls Try.prog 85 #[.agg #[.int .u16 m.f0, .int .u16 m.f1], .pointer (some ⟨F, 0, none⟩)] w fun e w' => e = .returned (.bool (!momOk known m)) ∧ Below w.heap.size w w' := by
  have hu := Try.underlying52
  have hk1 := World.block_lt_of_cell? w _ hk
  have hf1 := World.block_lt_of_cell? w _ hf
  simp only at hk1 hf1
  go_enter Try.func85, Try.ntmps85
  go_wp2_with fail
  refine (check1.calls m K known _ ?_).mono ?_
  · go_simp
  rintro e w1 ⟨rfl, hb⟩
  go_wp2
  go_ret
  exact ⟨rfl, ((Below.refl _ w).alloc (Nat.le_refl _) _).trans (hb.mono (by simp))⟩

set_option maxRecDepth 100000 in
set_option maxHeartbeats 1000000 in
theorem index1.calls (A : Option Addr) (c : Nat) (l : List S52) (F K : Nat) (known : Int) (w : World) (hr : Kd.C k52 w A l.length l) (hl : l.length ≤ maxLen) (hf : w.cell? ⟨F, 0, none⟩ = some (.func (.func 75) #[] #[.pointer (some ⟨K, 0, none⟩)])) (hk : w.cell? ⟨K, 0, none⟩ = some (.int .u16 known)) :
    Calls Try.prog 88 #[.slice A l.length c, .func (.func 85) #[] #[.pointer (some ⟨F, 0, none⟩)]] w fun e w' => ∃ r : Int, e = .returned (.int .i64 r) ∧ (decide (0 ≤ r) = !l.all (momOk known)) ∧ Below w.heap.size w w' := by
  have hu := Try.underlying52
  have hk1 := World.block_lt_of_cell? w _ hk
  have hf1 := World.block_lt_of_cell? w _ hf
  simp only at hk1 hf1
  unfold maxLen at hl
  go_enter Try.func88, Try.ntmps88
  go_wp2_with fail
  go_loopw [8] (fun i wr => ∃ k : Nat, k ≤ l.length ∧ i = .int .i64 k ∧ (l.take k).all (momOk known) = true ∧ Below w.heap.size w wr) (fun i _ => l.length - (intOf i).toNat)
  case atStart => exact ⟨0, by omega, rfl, by simp, Below.refl _ _⟩
  case round =>
    obtain ⟨k, hkl, rfl, hall, hB⟩ := hrel
    by_cases hlt : k < l.length
    · obtain ⟨ad, rfl, hc0, hc1⟩ := at_T52 hr k (by omega) (by omega)
      have hx : rd_T52 l (k : Int) = l[k] := by simp [rd_T52, List.getD, hlt]
      rw [hx] at hc0 hc1
      have hc0' := (hB.cell (World.block_lt_of_cell? w _ hc0)).trans hc0
      have hc1' := (hB.cell (World.block_lt_of_cell? w _ hc1)).trans hc1
      rw [Int.toNat_natCast] at hc0' hc1'
      have hs := Lib.hid hall
      clear hall hc0 hc1 hx hr
      have hf' := (hB.cell hf1).trans hf
      have hk' := (hB.cell hk1).trans hk
      clear hf hk
      go_wp2_with fail
      refine (all1.calls l[k] F K known wr hf' hk').mono ?_
      rintro e w1 ⟨rfl, hb⟩
      have hB1 := hB.trans (hb.mono hB.size)
      cases hm : momOk known l[k]
      · have hm' := Lib.hid hm
        clear hm
        go_wp2
        go_ret
        refine ⟨_, rfl, ?_, hB1⟩
        have : l.all (momOk known) = false := List.all_eq_false.2 ⟨l[k], List.getElem_mem hlt, by rw [hm'.out]; simp⟩
        rw [this]; simp
      · have hm' := Lib.hid hm
        clear hm
        go_wp2
        go_roundw
        case rel => exact ⟨k + 1, by omega, by go_num, by rw [List.take_succ_eq_append_getElem hlt, List.all_append, hs.out]; simp [hm'.out], hB1⟩
        case measure => simp [intOf]; omega
    · go_wp2
      go_ret
      refine ⟨_, rfl, ?_, hB⟩
      rw [List.take_of_length_le (by omega)] at hall
      rw [hall]; simp

set_option maxRecDepth 100000 in
set_option maxHeartbeats 1000000 in
theorem contains1.calls (A : Option Addr) (c : Nat) (l : List S52) (F K : Nat) (known : Int) (w : World) (hr : Kd.C k52 w A l.length l) (hl : l.length ≤ maxLen) (hf : w.cell? ⟨F, 0, none⟩ = some (.func (.func 75) #[] #[.pointer (some ⟨K, 0, none⟩)])) (hk : w.cell? ⟨K, 0, none⟩ = some (.int .u16 known)) :
    Calls Try.prog 84 #[.slice A l.length c, .func (.func 85) #[] #[.pointer (some ⟨F, 0, none⟩)]] w fun e w' => e = .returned (.bool (!l.all (momOk known))) ∧ Below w.heap.size w w' := by
  go_enter Try.func84, Try.ntmps84
  go_wp2_with fail
  refine (index1.calls A c l F K known _ hr hl hf hk).mono ?_
  rintro e w1 ⟨r, rfl, hd, hb⟩
  have hd' := Lib.hid hd
  clear hd
  go_wp2
  go_ret
  exact ⟨by rw [← hd'.out]; rfl, hb⟩

set_option maxRecDepth 100000 in
set_option maxHeartbeats 1000000 in
theorem all.calls (A : Option Addr) (c : Nat) (l : List S52) (K : Nat) (known : Int) (w : World) (hr : Kd.C k52 w A l.length l) (hl : l.length ≤ maxLen) (hk : w.cell? ⟨K, 0, none⟩ = some (.int .u16 known)) :
    Calls Try.prog 76 #[.slice A l.length c, .func (.func 75) #[] #[.pointer (some ⟨K, 0, none⟩)]] w fun e w' => e = .returned (.bool (l.all (momOk known))) ∧ Below w.heap.size w w' := by
  have hk1 := World.block_lt_of_cell? w _ hk
  simp only at hk1
  have hbel : Below w.heap.size w (w.alloc (.cells #[.func (.func 75) #[] #[.pointer (some ⟨K, 0, none⟩)]] 137)) := (Below.refl _ w).alloc (Nat.le_refl _) _
  go_enter Try.func76, Try.ntmps76
  go_wp2_with fail
  refine (contains1.calls A c l w.heap.size K known _ (Kd.C_below hr hbel) hl ?_ ?_).mono ?_
  · go_simp
  · go_simp
  rintro e w1 ⟨rfl, hb⟩
  go_wp2
  go_ret
  exact ⟨by simp, hbel.trans (hb.mono (by simp))⟩

/-- 'within'. -/
def win (n lo hi : Int) : Bool := decide (lo ≤ n) && decide (n ≤ hi)

set_option maxRecDepth 100000 in
set_option maxHeartbeats 400000 in
theorem within.calls (n lo hi : Int) (b : Bool) (w : World) (hb : win n lo hi = b) :
    Calls Try.prog 55 #[.int .i64 n, .int .i64 lo, .int .i64 hi] w fun e w' => e = .returned (.bool b) ∧ w = w' := by
  by_cases h1 : lo ≤ n
  · by_cases h2 : n ≤ hi
    · have hb' : b = true := by rw [← hb]; simp [win, h1, h2]
      subst hb'
      clear hb
      go_enter Try.func55, Try.ntmps55
      go_wp2
      go_ret
      exact ⟨by simp [h2], rfl⟩
    · have hb' : b = false := by rw [← hb]; simp [win, h1, h2]
      subst hb'
      clear hb
      go_enter Try.func55, Try.ntmps55
      go_wp2
      go_ret
      exact ⟨by simp [h2], rfl⟩
  · have hb' : b = false := by rw [← hb]; simp [win, h1]
    subst hb'
    clear hb
    go_enter Try.func55, Try.ntmps55
    go_wp2
    go_ret
    exact ⟨by simp, rfl⟩

/-- The persons that a scene knows. -/
def knownOf (p : Int) : Int := Go.bits .or .u16 32768 (IntKind.u16.wrap (IntKind.u16.wrap (2 ^ p.toNat) - 1))

/-- The error of a scene. -/
def floor_Scene_check.f (a0_0 a0_1 a0_2 a0_3 : Int) (l0_4 : List S52) : Option Int :=
  if 40 < l0_4.length then some 3
  else if win a0_0 1 12 && win a0_2 1 20 && win a0_1 1 a0_2 && win a0_3 0 20 && l0_4.all (momOk (knownOf a0_0)) then some 0 else some 1

set_option maxRecDepth 100000 in
set_option maxHeartbeats 1000000 in
theorem floor_Scene_check.calls (a0_0 a0_1 a0_2 a0_3 : Int) (A0_4 : Option Addr) (c0_4 : Nat) (l0_4 : List S52) (r : Int) (w : World) (hr0_4 : Kd.C k52 w A0_4 l0_4.length l0_4) (hc0_4 : l0_4.length ≤ c0_4) (h : floor_Scene_check.f a0_0 a0_1 a0_2 a0_3 l0_4 = some r) :
    Calls Try.prog 54 #[.agg #[.int .i64 a0_0, .int .i64 a0_1, .int .i64 a0_2, .int .i64 a0_3, .slice A0_4 l0_4.length c0_4]] w fun e w' => e = .returned (.int .i64 r) ∧ Below w.heap.size w w' := by
  have hu := Try.underlying33
  have hR := Lib.hid hr0_4
  have hH := Lib.hid h
  clear hr0_4 h hc0_4
  by_cases c0 : 40 < l0_4.length
  · obtain rfl : r = 3 := by have := hH.out; simp [floor_Scene_check.f, c0] at this; exact this.symm
    clear hH hR
    go_enter Try.func54, Try.ntmps54
    go_wp2
    all_goals
      go_ret
      exact ⟨rfl, ((Below.refl _ w).alloc (Nat.le_refl _) _).alloc (by simp) _⟩
  · cases c1 : win a0_0 1 12
    · obtain rfl : r = 1 := by have := hH.out; simp [floor_Scene_check.f, c0, c1] at this; exact this.symm
      have C1 := Lib.hid c1
      clear hH hR c1
      go_enter Try.func54, Try.ntmps54
      go_wp2_with (go_at_call 55; refine (within.calls _ _ _ _ _ C1.out).mono ?_; rintro e w' ⟨rfl, rfl⟩)
      all_goals
        go_ret
        exact ⟨rfl, ((Below.refl _ w).alloc (Nat.le_refl _) _).alloc (by simp) _⟩
    · have hp : 1 ≤ a0_0 ∧ a0_0 ≤ 12 := by simpa [win] using c1
      obtain ⟨hp1, hp2⟩ := hp
      have hz : ¬ (a0_0 ≤ 0) := by omega
      have C1 := Lib.hid c1
      cases c2 : win a0_2 1 20
      · obtain rfl : r = 1 := by have := hH.out; simp [floor_Scene_check.f, c0, C1.out, c2] at this; exact this.symm
        have C2 := Lib.hid c2
        clear hH hR c1 c2
        go_enter Try.func54, Try.ntmps54
        go_wp2_with fail
        refine (within.calls _ _ _ _ _ C1.out).mono ?_
        rintro e w' ⟨rfl, rfl⟩
        go_wp2_with fail
        refine (within.calls _ _ _ _ _ C2.out).mono ?_
        rintro e w' ⟨rfl, rfl⟩
        go_wp2
        go_ret
        exact ⟨rfl, ((Below.refl _ w).alloc (Nat.le_refl _) _).alloc (by simp) _⟩
      have C2 := Lib.hid c2
      cases c3 : win a0_1 1 a0_2
      · obtain rfl : r = 1 := by have := hH.out; simp [floor_Scene_check.f, c0, C1.out, C2.out, c3] at this; exact this.symm
        have C3 := Lib.hid c3
        clear hH hR c1 c3
        go_enter Try.func54, Try.ntmps54
        go_wp2_with fail
        refine (within.calls _ _ _ _ _ C1.out).mono ?_
        rintro e w' ⟨rfl, rfl⟩
        go_wp2_with fail
        refine (within.calls _ _ _ _ _ C2.out).mono ?_
        rintro e w' ⟨rfl, rfl⟩
        go_wp2_with fail
        refine (within.calls _ _ _ _ _ C3.out).mono ?_
        rintro e w' ⟨rfl, rfl⟩
        go_wp2
        go_ret
        exact ⟨rfl, ((Below.refl _ w).alloc (Nat.le_refl _) _).alloc (by simp) _⟩
      have C3 := Lib.hid c3
      cases c4 : win a0_3 0 20
      · obtain rfl : r = 1 := by have := hH.out; simp [floor_Scene_check.f, c0, C1.out, C2.out, C3.out, c4] at this; exact this.symm
        have C4 := Lib.hid c4
        clear hH hR c1 c4
        go_enter Try.func54, Try.ntmps54
        go_wp2_with fail
        refine (within.calls _ _ _ _ _ C1.out).mono ?_
        rintro e w' ⟨rfl, rfl⟩
        go_wp2_with fail
        refine (within.calls _ _ _ _ _ C2.out).mono ?_
        rintro e w' ⟨rfl, rfl⟩
        go_wp2_with fail
        refine (within.calls _ _ _ _ _ C3.out).mono ?_
        rintro e w' ⟨rfl, rfl⟩
        go_wp2_with fail
        refine (within.calls _ _ _ _ _ C4.out).mono ?_
        rintro e w' ⟨rfl, rfl⟩
        go_wp2
        go_ret
        exact ⟨rfl, ((Below.refl _ w).alloc (Nat.le_refl _) _).alloc (by simp) _⟩
      have C4 := Lib.hid c4
      obtain ⟨b, hb⟩ : ∃ b, l0_4.all (momOk (knownOf a0_0)) = b := ⟨_, rfl⟩
      obtain rfl : r = (if b then 0 else 1) := by have := hH.out; simp only [floor_Scene_check.f, c0, C1.out, C2.out, C3.out, C4.out, hb] at this; cases b <;> simp at this <;> exact this.symm
      have Hb := Lib.hid hb
      clear hb hH c1 c2 c3 c4
      go_enter Try.func54, Try.ntmps54
      go_wp2_with fail
      refine (within.calls _ _ _ _ _ C1.out).mono ?_
      rintro e w' ⟨rfl, rfl⟩
      go_wp2_with fail
      refine (within.calls _ _ _ _ _ C2.out).mono ?_
      rintro e w' ⟨rfl, rfl⟩
      go_wp2_with fail
      refine (within.calls _ _ _ _ _ C3.out).mono ?_
      rintro e w' ⟨rfl, rfl⟩
      go_wp2_with fail
      refine (within.calls _ _ _ _ _ C4.out).mono ?_
      rintro e w' ⟨rfl, rfl⟩
      go_wp2_with fail
      refine (all.calls A0_4 c0_4 l0_4 (w.heap.size + 1) (knownOf a0_0) _ (Kd.C_below hR.out (((Below.refl _ w).alloc (Nat.le_refl _) _).alloc (by simp) _)) (by unfold maxLen; omega) ?_).mono ?_
      · unfold knownOf; go_simp
      rintro e w' ⟨rfl, hbel⟩
      rw [Hb.out]
      have hB := (((Below.refl _ w).alloc (Nat.le_refl _) (.cells #[.int .i64 a0_0, .int .i64 a0_1, .int .i64 a0_2, .int .i64 a0_3, .slice A0_4 l0_4.length c0_4] 33)).alloc (by simp) _).trans (hbel.mono (by simp; omega))
      cases b
      · go_wp2
        go_ret
        exact ⟨rfl, hB⟩
      · go_wp2
        go_ret
        exact ⟨rfl, hB⟩
end Go.Proofs.Ytdnjmhhjjbdieaa.Q
end

section
/- The walks of whole and of checked. -/
namespace Go.Proofs.Ytdnjmhhjjbdieaa.Q
open Go.RowKit Go.Shelf Go.Proofs.YtdnjmhhjjbdieaaW.PrintWords Go.Proofs.YtdnjmhhjjbdieaaW.PrintLast
set_option linter.unusedVariables false
set_option linter.unusedSimpArgs false
attribute [local go_sem] Oper.semAt_some

set_option maxRecDepth 100000 in
set_option maxHeartbeats 1000000 in
theorem whole.calls (a0 a1 a2 a3 : Int) (A : Option Addr) (len c g : Nat) (sv : Value) (i : Nat) (w : World) (h : w.heap[g]? = some (.cells #[.int .i64 a0, .int .i64 a1, .int .i64 a2, .int .i64 a3, .slice A len c, sv, .int .i64 i] 107 (0, 0))) :
    Calls Try.prog 72 #[.pointer (some ⟨g, 0, none⟩)] w fun e w' => e = .returned (.bool (decide (i = len))) ∧ Below w.heap.size w w' := by
  have hu := Try.underlying33
  have hu3 := Try.underlying107
  have e4 := cell_of h (i := 4) rfl
  have e6 := cell_of h (i := 6) rfl
  simp only [List.getElem_toArray, List.getElem_cons_zero, List.getElem_cons_succ] at e4 e6
  clear h
  go_enter Try.func72, Try.ntmps72
  go_wp2
  go_still (by kernel_rfl)
  go_wp2
  go_ret
  refine ⟨?_, (Below.refl _ _).drew⟩
  show Ending.returned (Value.bool ((i : Int) == (len : Int))) = _
  congr 2
  by_cases hi : i = len
  · subst hi; simp
  · have : ¬ ((i : Int) = len) := by omega
    simp [hi, this]

theorem Seen.lower {n : Nat} {least most short : Int} {A : Option Addr} {len c g sb cS i lo lo' : Nat} {bs : List Nat} {Ms : Nat → St → Prop} {w : World} (h : Seen n least most short A len c g sb cS i lo bs Ms w) (hlo : lo' ≤ lo) : Seen n least most short A len c g sb cS i lo' bs Ms w := by
  refine ⟨h.obj, ⟨h.row.1, ?_⟩, fun j b hj => ⟨Nat.le_trans hlo (h.maps j b hj).1, (h.maps j b hj).2⟩, h.nodup, Nat.le_trans hlo h.glo⟩
  rcases h.row.2 with q | ⟨g', cap, cur, r1, r2, r3⟩
  · exact .inl q
  · exact .inr ⟨g', cap, cur, r1, Nat.le_trans hlo r2, r3⟩
theorem Seen.below {n : Nat} {least most short : Int} {A : Option Addr} {len c g sb cS i lo : Nat} {bs : List Nat} {Ms : Nat → St → Prop} {w w' : World} (h : Seen n least most short A len c g sb cS i lo bs Ms w) (hb : Below w.heap.size w w') : Seen n least most short A len c g sb cS i lo bs Ms w' :=
  h.same (hb.block _ (Array.getElem?_eq_some_iff.1 h.obj).1) (hb.block _ h.rowlt) (fun b q => hb.block _ (h.maplt q))
theorem Looked.later {n : Nat} {least most short : Int} {A : Option Addr} {c g i lo lo' : Nat} {l : List S52} {w w' : World} (h : Looked n least most short A c l g i lo w) (hlo : lo' ≤ lo) (hb : Below w.heap.size w w') : Looked n least most short A c l g i lo' w' := by
  obtain ⟨sb, cS, bs, hne, ⟨h1, h2⟩ | ⟨h1, h2, h3⟩⟩ := h
  · exact ⟨sb, cS, bs, hne, .inl ⟨h1, (h2.lower hlo).below hb⟩⟩
  · exact ⟨sb, cS, bs, hne, .inr ⟨h1, h2, (h3.lower hlo).below hb⟩⟩

/-- What a valid scene is. -/
theorem check_ok {a0 a1 a2 a3 : Int} {l : List S52} (h : floor_Scene_check.f a0 a1 a2 a3 l = some 0) : l.length ≤ 40 ∧ (∃ n : Nat, a0 = n ∧ 1 ≤ n ∧ n ≤ 12) ∧ (1 ≤ a2 ∧ a2 ≤ 20) ∧ (1 ≤ a1 ∧ a1 ≤ a2) ∧ (0 ≤ a3 ∧ a3 ≤ 20) ∧ l.all (momOk (knownOf a0)) = true := by
  unfold floor_Scene_check.f at h
  split at h
  · cases h
  · rename_i hl
    split at h
    · rename_i hc
      simp only [win, Bool.and_eq_true, decide_eq_true_eq] at hc
      obtain ⟨⟨⟨⟨h0, h2⟩, h1⟩, h3⟩, h4⟩ := hc
      exact ⟨by omega, ⟨a0.toNat, by omega, by omega, by omega⟩, h2, h1, h3, h4⟩
    · cases h

set_option maxRecDepth 100000 in
set_option maxHeartbeats 1000000 in
theorem checked.bad (a0_0 a0_1 a0_2 a0_3 : Int) (A0_4 : Option Addr) (c0_4 : Nat) (l0_4 : List S52) (r : Int) (w : World) (hr0_4 : Kd.C k52 w A0_4 l0_4.length l0_4) (hc0_4 : l0_4.length ≤ c0_4) (h : floor_Scene_check.f a0_0 a0_1 a0_2 a0_3 l0_4 = some r) (hr : r ≠ 0) :
    Calls Try.prog 50 #[.agg #[.int .i64 a0_0, .int .i64 a0_1, .int .i64 a0_2, .int .i64 a0_3, .slice A0_4 l0_4.length c0_4]] w fun e w' => e = .returned (.tuple #[.pointer none, .int .i64 r]) ∧ Below w.heap.size w w' := by
  have hu := Try.underlying33
  go_enter Try.func50, Try.ntmps50
  have HR := Lib.hid hr0_4
  have HH := Lib.hid h
  clear hr0_4 h
  go_wp2_with fail
  refine (floor_Scene_check.calls a0_0 a0_1 a0_2 a0_3 A0_4 c0_4 l0_4 r _ (Kd.C_below HR.out ((Below.refl _ w).alloc (Nat.le_refl _) _)) hc0_4 HH.out).mono ?_
  rintro e w' ⟨rfl, hb⟩
  have hr2 : (r == 0) = false := by simpa using hr
  have HB := Lib.hid hb
  clear hb
  go_wp2_with fail
  go_ret2
  exact ⟨rfl, ((Below.refl _ w).alloc (Nat.le_refl _) _).trans (HB.out.mono (by simp))⟩

set_option maxRecDepth 100000 in
set_option maxHeartbeats 1000000 in
theorem checked.good (n : Nat) (a0_1 a0_2 a0_3 : Int) (A0_4 : Option Addr) (c0_4 : Nat) (l0_4 : List S52) (w : World) (hr0_4 : Kd.C k52 w A0_4 l0_4.length l0_4) (hc0_4 : l0_4.length ≤ c0_4) (h : floor_Scene_check.f n a0_1 a0_2 a0_3 l0_4 = some 0) :
    Calls Try.prog 50 #[.agg #[.int .i64 n, .int .i64 a0_1, .int .i64 a0_2, .int .i64 a0_3, .slice A0_4 l0_4.length c0_4]] w fun e w' =>
      ∃ g i, e = .returned (.tuple #[.pointer (some ⟨g, 0, none⟩), .int .i64 (if i = l0_4.length then 0 else 10)]) ∧ Below w.heap.size w w' ∧ Looked n a0_1 a0_2 a0_3 A0_4 c0_4 l0_4 g i w.heap.size w' := by
  have hu := Try.underlying33
  obtain ⟨hl, ⟨n', hn', _, hn⟩, _⟩ := check_ok h
  obtain rfl : n = n' := by omega
  go_enter Try.func50, Try.ntmps50
  have HR := Lib.hid hr0_4
  have HH := Lib.hid h
  clear hr0_4 h hn'
  go_wp2_with fail
  refine (floor_Scene_check.calls n a0_1 a0_2 a0_3 A0_4 c0_4 l0_4 0 _ (Kd.C_below HR.out ((Below.refl _ w).alloc (Nat.le_refl _) _)) hc0_4 HH.out).mono ?_
  rintro e w1 ⟨rfl, hb⟩
  have hb1 : Below w.heap.size w w1 := ((Below.refl _ w).alloc (Nat.le_refl _) _).trans (hb.mono (by simp))
  have hx := (hb.block w.heap.size (by simp)).trans (World.alloc_heap_new w _)
  have e0 := cell_of hx (i := 0) rfl
  have e1 := cell_of hx (i := 1) rfl
  have e2 := cell_of hx (i := 2) rfl
  have e3 := cell_of hx (i := 3) rfl
  have e4 := cell_of hx (i := 4) rfl
  simp only [List.getElem_toArray, List.getElem_cons_zero, List.getElem_cons_succ] at e0 e1 e2 e3 e4
  have HB1 := Lib.hid hb1
  clear hb hb1 hx
  go_wp2_with fail
  refine (look.calls n hn a0_1 a0_2 a0_3 A0_4 c0_4 l0_4 hl w1 (Kd.C_below HR.out HB1.out)).mono ?_
  rintro e w2 ⟨g, i, rfl, hb2, hL⟩
  have hL' := hL
  obtain ⟨sb, cS, bs, hne, hcase⟩ := hL'
  have hob : w2.heap[g]? = some (.cells #[.int .i64 n, .int .i64 a0_1, .int .i64 a0_2, .int .i64 a0_3, .slice A0_4 l0_4.length c0_4, .slice (some ⟨sb, 0, none⟩) (i + 1 : Nat) cS, .int .i64 i] 107 (0, 0)) := by
    rcases hcase with ⟨_, h⟩ | ⟨_, _, h⟩ <;> exact h.obj
  have HL := Lib.hid hL
  have HB2 := Lib.hid hb2
  have HOB := Lib.hid hob
  clear hL hb2 hob hne hcase e0 e1 e2 e3 e4
  go_wp2_with fail
  refine (whole.calls n a0_1 a0_2 a0_3 A0_4 l0_4.length c0_4 g _ i w2 HOB.out).mono ?_
  rintro e w3 ⟨rfl, hb3⟩
  have hb13 : Below w.heap.size w w3 := (HB1.out.trans (HB2.out.mono HB1.out.size)).trans (hb3.mono (Nat.le_trans HB1.out.size HB2.out.size))
  have hL3 : Looked n a0_1 a0_2 a0_3 A0_4 c0_4 l0_4 g i w.heap.size w3 := HL.out.later HB1.out.size hb3
  have HB13 := Lib.hid hb13
  have HL3 := Lib.hid hL3
  clear hb3 hb13 hL3
  by_cases hi : i = l0_4.length
  · have hd : decide (i = l0_4.length) = true := by simp [hi]
    rw [hd]
    go_wp2_with fail
    go_ret2
    exact ⟨g, i, by rw [if_pos hi]; rfl, HB13.out, HL3.out⟩
  · have hd : decide (i = l0_4.length) = false := by simp [hi]
    rw [hd]
    go_wp2_with fail
    go_ret2
    exact ⟨g, i, by rw [if_neg hi]; rfl, HB13.out, HL3.out⟩
end Go.Proofs.Ytdnjmhhjjbdieaa.Q
end

section
/- A drawn region, in the wide fence or in a loop's round, by the printed words for the plain mode. -/
namespace Go.Proofs.Ytdnjmhhjjbdieaa.Q
open Go.RowKit Go.Shelf Go.Proofs.YtdnjmhhjjbdieaaW.PrintWords Go.Proofs.YtdnjmhhjjbdieaaW.PrintLast
set_option linter.unusedVariables false

theorem rowsIn_round {l m : Nat} {P : Program} {row : String} {args : Array Value} {w : World} {R : Value → World → Prop} (h : Rows P row args w R) : RowsIn (Fence.wide.inRound l) m P row args w R := fun c cs _ => by
  obtain ⟨v, w', r, s⟩ := h c cs
  exact ⟨v, w', r, stepsIn_wide.2 s⟩

section
variable {P : Program} {ops : Array Oper} {md : Region.Mode} {l m : Nat} {Q : Exit → Act → World → Prop}

theorem wpIn_of_wp_round {o : Oper} (hnd : ∀ c, o.op ≠ .defer c) {a : Act} {w : World} {K : Act → World → Prop} (hh : o.wp P a w K Q) (hQ : ¬ LetsOut Q) : o.wpIn (Fence.wide.inRound l) m P a w K Q := by
  unfold Oper.wp at hh
  unfold Oper.wpIn
  refine ⟨fun f _ => trivial, ?_⟩
  rw [Oper.semAt_eq _ _ _ hnd]
  generalize (execOp a.eval o).run P w = r at *
  cases r with
  | ok n w' =>
    cases n <;> simp only [Oper.upon] at hh <;> simp only [Oper.uponIn]
    case enter f args => exact ⟨fun hd => by simp [Fence.wide] at hd, (WideLike.round l).calls hh⟩
    case row row args => exact ⟨fun hd => by simp [Fence.wide] at hd, rowsIn_round hh⟩
    all_goals first | exact hh | exact hh.elim
  | halt x w' => cases x <;> simp only [Oper.upon] at hh <;> first | exact hh | exact hh.elim

theorem wpOpIn_of_wpOp (hnd : noDefer ops = true) {i : Nat} {a : Act} {w : World} {K K' : Act → World → Prop} (h : ∀ a w, K a w → K' a w) (hQ : ¬ LetsOut Q) (hh : wpOp P ops Q i K a w) : wpOpIn (Fence.wide.inRound l) m P ops Q i K' a w := by
  unfold wpOp at hh
  unfold wpOpIn
  split
  · rename_i ho; simp only [ho] at hh; exact h _ _ hh
  · rename_i o ho
    simp only [ho] at hh
    split
    · rename_i hw
      simp only [hw, if_true] at hh
      rcases hh with hh | hh
      · exact Oper.wpIn_mono h (wpIn_of_wp_round (noDefer_spec hnd ho) hh hQ)
      · exact (hQ hh.2).elim
    · rename_i hw
      simp only [hw] at hh
      exact ⟨fun f _ => trivial, h _ _ hh⟩

theorem wpAnyIn_of_any (hnd : noDefer ops = true) (hQ : ¬ LetsOut Q) : ∀ (fuel : Nat) (listed : Array Bool) (a : Act) (w : World), wpAny P md ops Q fuel listed a w → wpAnyIn (Fence.wide.inRound l) m P md ops Q fuel listed a w
  | 0, _, _, _, h => h
  | fuel + 1, _, _, _, h => ⟨h.1, fun i hi => wpOpIn_of_wpOp hnd (fun a' w' h' => wpAnyIn_of_any hnd hQ fuel _ a' w' h') hQ (h.2 i hi)⟩

/-- A region that draws, in a round: begun by the printed words (then 'take_', 'one_' .. up to 'done_'). -/
theorem startIn_ {id n : Nat} {a : Act} {w : World} {S : World → Prop} {ds : List Nat} (T : Act → World → Prop) (L : Array Bool) (hm : P.follows .mixedOrders = true) (hnd : noDefer ops = true) (hn : ops.size = n) (hl : Array.replicate n false = L) (hS : S w.drew)
    (h : S w.drew → wpAnyLast P .any ops (onlyNormal T) S ds n L a w.drew) (hT : ∀ a' w', T a' w' → Q .normal a' w') : (Code.region id ops true).wpIn (Fence.wide.inRound l) m P Q a w := by
  subst hn
  subst hl
  refine wpIn_mono (wpIn_region_any hm (wpAnyIn_of_any hnd (fun ⟨a, w, h⟩ => h) _ _ _ _ (wpAny_of_last _ _ _ _ (h hS)))) (fun e a' w' h' => ?_)
  cases e <;> first | exact hT a' w' h' | exact h'.elim
end
end Go.Proofs.Ytdnjmhhjjbdieaa.Q
end

section
/- Sets of persons as numbers. -/
namespace Go.Proofs.Ytdnjmhhjjbdieaa.Q
open Go.RowKit Go.Shelf
set_option linter.unusedVariables false

theorem bits_and_u16_nat (a b : Nat) (ha : a < 65536) (hb : b < 65536) : bits .and .u16 (a : Int) (b : Int) = ((a &&& b : Nat) : Int) := by
  have hx : a &&& b < 2 ^ 16 := Nat.and_lt_two_pow _ (by omega)
  have h1 : (BitVec.ofInt 16 (a : Int)).toNat = a := by
    rw [BitVec.ofInt_natCast, BitVec.toNat_ofNat]; exact Nat.mod_eq_of_lt (by omega)
  have h2 : (BitVec.ofInt 16 (b : Int)).toNat = b := by
    rw [BitVec.ofInt_natCast, BitVec.toNat_ofNat]; exact Nat.mod_eq_of_lt (by omega)
  show IntKind.u16.wrap ((BitVec.ofInt 16 (a : Int) &&& BitVec.ofInt 16 (b : Int)).toNat : Int) = _
  rw [BitVec.toNat_and, h1, h2, IntKind.wrap_u16]
  omega
theorem bits_or_u16_nat (a b : Nat) (ha : a < 65536) (hb : b < 65536) : bits .or .u16 (a : Int) (b : Int) = ((a ||| b : Nat) : Int) := by
  have hx : a ||| b < 2 ^ 16 := Nat.or_lt_two_pow (by omega) (by omega)
  have h1 : (BitVec.ofInt 16 (a : Int)).toNat = a := by
    rw [BitVec.ofInt_natCast, BitVec.toNat_ofNat]; exact Nat.mod_eq_of_lt (by omega)
  have h2 : (BitVec.ofInt 16 (b : Int)).toNat = b := by
    rw [BitVec.ofInt_natCast, BitVec.toNat_ofNat]; exact Nat.mod_eq_of_lt (by omega)
  show IntKind.u16.wrap ((BitVec.ofInt 16 (a : Int) ||| BitVec.ofInt 16 (b : Int)).toNat : Int) = _
  rw [BitVec.toNat_or, h1, h2, IntKind.wrap_u16]
  omega

/-- Where a person, or nobody, stands in a set. -/
def pidx (q : Int) : Nat := if q = -1 then 15 else q.toNat
theorem pidx_lt {q : Int} (h1 : -1 ≤ q) (h2 : q ≤ 14) : pidx q < 16 := by unfold pidx; split <;> omega
theorem pidx_inj {p q : Int} (h1 : -1 ≤ p) (h2 : p ≤ 14) (h3 : -1 ≤ q) (h4 : q ≤ 14) (h : pidx p = pidx q) : p = q := by
  unfold pidx at h; split at h <;> split at h <;> omega
theorem bitOf_nat {q : Int} (h1 : -1 ≤ q) (h2 : q ≤ 14) : bitOf q = ((2 ^ pidx q : Nat) : Int) := by
  have hc : ∀ k : Fin 16, bitOf ((k : Nat) - 1 : Int) = ((2 ^ pidx ((k : Nat) - 1 : Int) : Nat) : Int) := by decide
  have := hc ⟨(q + 1).toNat, by omega⟩
  rwa [show (((q + 1).toNat : Nat) : Int) - 1 = q by omega] at this

/-- v is the set of those of whom P is true. -/
def IsSet (v : Int) (P : Int → Prop) : Prop := ∃ m : Nat, v = m ∧ m < 65536 ∧ ∀ q, -1 ≤ q → q ≤ 14 → (m.testBit (pidx q) = true ↔ P q)

theorem IsSet.congr {v : Int} {P Q : Int → Prop} (h : IsSet v P) (hq : ∀ q, -1 ≤ q → q ≤ 14 → (P q ↔ Q q)) : IsSet v Q := by
  obtain ⟨m, h1, h2, h3⟩ := h
  exact ⟨m, h1, h2, fun q a b => (h3 q a b).trans (hq q a b)⟩
theorem isSet_zero : IsSet 0 (fun _ => False) := ⟨0, rfl, by omega, fun q _ _ => by simp⟩
theorem IsSet.or {v : Int} {P : Int → Prop} (h : IsSet v P) {q : Int} (h1 : -1 ≤ q) (h2 : q ≤ 14) : IsSet (Go.bits .or .u16 v (bitOf q)) (fun p => P p ∨ p = q) := by
  obtain ⟨m, rfl, hm, hp⟩ := h
  have hl := pidx_lt h1 h2
  have h2l : 2 ^ pidx q < 65536 := Nat.lt_of_lt_of_le (Nat.pow_lt_pow_right (by omega) hl) (by decide)
  refine ⟨m ||| 2 ^ pidx q, ?_, ?_, fun p a b => ?_⟩
  · rw [bitOf_nat h1 h2, bits_or_u16_nat _ _ hm h2l]
  · exact Nat.or_lt_two_pow (n := 16) hm h2l
  · rw [Nat.testBit_or, Nat.testBit_two_pow, Bool.or_eq_true, hp p a b, decide_eq_true_eq]
    exact or_congr Iff.rfl ⟨fun e => (pidx_inj h1 h2 a b e).symm, fun e => by rw [e]⟩
theorem IsSet.unique {v v' : Int} {P : Int → Prop} (h : IsSet v P) (h' : IsSet v' P) : v = v' := by
  obtain ⟨m, rfl, hm, hp⟩ := h
  obtain ⟨m', rfl, hm', hp'⟩ := h'
  congr 1
  apply Nat.eq_of_testBit_eq
  intro k
  by_cases hk : k < 16
  · have key : ∃ q : Int, -1 ≤ q ∧ q ≤ 14 ∧ pidx q = k := by
      by_cases h15 : k = 15
      · exact ⟨-1, by omega, by omega, by subst h15; rfl⟩
      · exact ⟨k, by omega, by omega, by unfold pidx; rw [if_neg (by omega)]; omega⟩
    obtain ⟨q, a, b, rfl⟩ := key
    have := (hp q a b).trans (hp' q a b).symm
    cases h1 : m.testBit (pidx q) <;> cases h2 : m'.testBit (pidx q) <;> simp [h1, h2] at this ⊢
  · have h16 : ∀ x : Nat, x < 65536 → x.testBit k = false := fun x hx => Nat.testBit_lt_two_pow (Nat.lt_of_lt_of_le hx (Nat.le_trans (by decide : 65536 ≤ 2 ^ 16) (Nat.pow_le_pow_right (by omega) (by omega))))
    rw [h16 m hm, h16 m' hm']
theorem inSet_nat {m : Nat} (hm : m < 65536) {q : Int} (h1 : -1 ≤ q) (h2 : q ≤ 14) : inSet m q = m.testBit (pidx q) := by
  have h2l : 2 ^ pidx q < 65536 := Nat.lt_of_lt_of_le (Nat.pow_lt_pow_right (by omega) (pidx_lt h1 h2)) (by decide)
  unfold inSet
  rw [bitOf_nat h1 h2, bits_and_u16_nat _ _ hm h2l]
  cases h : m.testBit (pidx q)
  · have : m &&& 2 ^ pidx q = 0 := by
      apply Nat.eq_of_testBit_eq
      intro k
      rw [Nat.testBit_and, Nat.testBit_two_pow]
      by_cases e : pidx q = k
      · subst e; simp [h]
      · simp [e]
    rw [this]; rfl
  · have : m &&& 2 ^ pidx q ≠ 0 := fun e => by
      have h3 : (m &&& 2 ^ pidx q).testBit (pidx q) = true := by rw [Nat.testBit_and, Nat.testBit_two_pow, h]; simp
      rw [e] at h3; simp at h3
    simpa using this
theorem IsSet.mem {v : Int} {P : Int → Prop} (h : IsSet v P) {q : Int} (h1 : -1 ≤ q) (h2 : q ≤ 14) : inSet v q = true ↔ P q := by
  obtain ⟨m, rfl, hm, hp⟩ := h
  rw [inSet_nat hm h1 h2]; exact hp q h1 h2

/-- The set of some persons. -/
def orOf (ps : List Int) : Int := ps.foldl (fun a q => Go.bits .or .u16 a (bitOf q)) 0
theorem orOf_from (ps : List Int) : ∀ (v : Int) (P : Int → Prop), IsSet v P → (∀ q ∈ ps, -1 ≤ q ∧ q ≤ 14) → IsSet (ps.foldl (fun a q => Go.bits .or .u16 a (bitOf q)) v) (fun p => P p ∨ p ∈ ps) := by
  induction ps with
  | nil => intro v P h _; exact h.congr (fun q _ _ => by simp)
  | cons a ps ih =>
    intro v P h hr
    have ha := hr a (by simp)
    refine (ih _ _ (h.or ha.1 ha.2) (fun q hq => hr q (by simp [hq]))).congr (fun q _ _ => ?_)
    simp only [List.mem_cons]
    exact or_assoc
theorem orOf_isSet {ps : List Int} (h : ∀ q ∈ ps, -1 ≤ q ∧ q ≤ 14) : IsSet (orOf ps) (fun p => p ∈ ps) := (orOf_from ps 0 _ isSet_zero h).congr (fun q _ _ => by simp)
end Go.Proofs.Ytdnjmhhjjbdieaa.Q
end

section
/- The walk of Who: the innermost loop. -/
namespace Go.Proofs.Ytdnjmhhjjbdieaa.Q
open Go.RowKit Go.Shelf Go.Proofs.YtdnjmhhjjbdieaaW.PrintWords Go.Proofs.YtdnjmhhjjbdieaaW.PrintLast
set_option linter.unusedVariables false
set_option linter.unusedSimpArgs false
attribute [local go_sem] Oper.semAt_some


/-- Block ob holds so many pairs of sets. -/
def Out (ob len : Nat) (F : Nat → Int × Int) (w : World) : Prop :=
  ∃ cs : Array Value, w.heap[ob]? = some (.cells cs 54 (0, 0)) ∧ cs.size = len * 2 ∧ ∀ j, j < len → cs[j * 2]? = some (.int .u16 (F j).1) ∧ cs[j * 2 + 1]? = some (.int .u16 (F j).2)

def upd (F : Nat → Int × Int) (j : Nat) (v : Int × Int) : Nat → Int × Int := fun k => if k = j then v else F k

theorem Out.set0 {ob len : Nat} {F : Nat → Int × Int} {w : World} (h : Out ob len F w) {j : Nat} (hj : j < len) (v : Int) : Out ob len (upd F j (v, (F j).2)) (w.setCell ⟨ob, j * 2, none⟩ (.int .u16 v)) := by
  obtain ⟨cs, h1, h2, h3⟩ := h
  refine ⟨_, heap_set h1 _ _, by simpa using h2, fun k hk => ?_⟩
  have hl : j * 2 < cs.size := by omega
  by_cases e : k = j
  · subst e
    refine ⟨?_, ?_⟩
    · rw [Array.getElem?_setIfInBounds_self_of_lt hl]; simp [upd]
    · rw [Array.getElem?_setIfInBounds_ne (by omega)]; simpa [upd] using (h3 k hk).2
  · refine ⟨?_, ?_⟩
    · rw [Array.getElem?_setIfInBounds_ne (by omega)]; simpa [upd, e] using (h3 k hk).1
    · rw [Array.getElem?_setIfInBounds_ne (by omega)]; simpa [upd, e] using (h3 k hk).2
theorem Out.set1 {ob len : Nat} {F : Nat → Int × Int} {w : World} (h : Out ob len F w) {j : Nat} (hj : j < len) (v : Int) : Out ob len (upd F j ((F j).1, v)) (w.setCell ⟨ob, j * 2 + 1, none⟩ (.int .u16 v)) := by
  obtain ⟨cs, h1, h2, h3⟩ := h
  refine ⟨_, heap_set h1 _ _, by simpa using h2, fun k hk => ?_⟩
  have hl : j * 2 + 1 < cs.size := by omega
  by_cases e : k = j
  · subst e
    refine ⟨?_, ?_⟩
    · rw [Array.getElem?_setIfInBounds_ne (by omega)]; simpa [upd] using (h3 k hk).1
    · rw [Array.getElem?_setIfInBounds_self_of_lt hl]; simp [upd]
  · refine ⟨?_, ?_⟩
    · rw [Array.getElem?_setIfInBounds_ne (by omega)]; simpa [upd, e] using (h3 k hk).1
    · rw [Array.getElem?_setIfInBounds_ne (by omega)]; simpa [upd, e] using (h3 k hk).2
theorem Out.cell0 {ob len : Nat} {F : Nat → Int × Int} {w : World} (h : Out ob len F w) {j : Nat} (hj : j < len) : w.cell? ⟨ob, j * 2, none⟩ = some (.int .u16 (F j).1) := by
  obtain ⟨cs, h1, h2, h3⟩ := h
  exact cell_of h1 (h3 j hj).1
theorem Out.cell1 {ob len : Nat} {F : Nat → Int × Int} {w : World} (h : Out ob len F w) {j : Nat} (hj : j < len) : w.cell? ⟨ob, j * 2 + 1, none⟩ = some (.int .u16 (F j).2) := by
  obtain ⟨cs, h1, h2, h3⟩ := h
  exact cell_of h1 (h3 j hj).2
theorem Out.free {ob len : Nat} {F : Nat → Int × Int} {w : World} (h : Out ob len F w) (k : Nat) : w.frozen? ⟨ob, k, none⟩ = false := by
  obtain ⟨cs, h1, h2, h3⟩ := h
  exact not_frozen h1
theorem Out.lt {ob len : Nat} {F : Nat → Int × Int} {w : World} (h : Out ob len F w) : ob < w.heap.size := by
  obtain ⟨cs, h1, h2, h3⟩ := h
  exact (Array.getElem?_eq_some_iff.1 h1).1
theorem Out.same {ob len : Nat} {F : Nat → Int × Int} {w w' : World} (h : Out ob len F w) (hb : w'.heap[ob]? = w.heap[ob]?) : Out ob len F w' := by
  obtain ⟨cs, h1, h2, h3⟩ := h
  exact ⟨cs, hb.trans h1, h2, h3⟩
theorem ownFrom_out {γ : Type} {B ob len : Nat} {F : γ → Nat → Int × Int} : OwnFrom B (fun (s : γ) W => Out ob len (F s) W) :=
  fun s W W' row hs hg hr => by
    obtain ⟨cs, h1, h2, h3⟩ := hs
    exact ⟨cs, (ownFrom_cells (fun (_ : Unit) => cs) 54 () W W' row h1 hg hr), h2, h3⟩

/-- Who may have the floor, and who may be heard, among the first states. -/
def holdBy (least most short : Int) (n : Nat) (mf mh : Int) (S T : St → Prop) (q : Int) : Prop := ∃ x, S x ∧ ∃ p ∈ partsOf least most short x mf mh n, T p.2 ∧ p.1.1 = q
def voiceBy (least most short : Int) (n : Nat) (mf mh : Int) (S T : St → Prop) (q : Int) : Prop := ∃ x, S x ∧ ∃ p ∈ partsOf least most short x mf mh n, T p.2 ∧ p.1.2 = q

set_option maxRecDepth 100000 in
set_option maxHeartbeats 4000000 in
theorem who.fill (n : Nat) (hn : n ≤ 12) (least most short mf mh : Int) (vv : Value) (S T : St → Prop) (i : Nat) (hi : i ≤ 45) (hS : ∀ x, S x → Small x i)
    (sc xc oc ic cm g sb lenS cS ob len j bi bj rb lo cnt : Nat) (gcs : Array Value) (F0 : Nat → Int × Int) (ds : List Deferred) (Q : Exit → Act → World → Prop) (v0 v2 v3 v5 v9 v10 v11 v12 v13 v14 v15 v16 v17 v18 v19 v20 v21 v22 v23 v24 v25 v26 v27 v28 v29 v30 v31 v32 v33 v34 v35 v36 v37 v38 v40 v41 v42 v43 v44 v45 v46 v47 v48 v49 v50 v51 v52 v53 v54 v55 v56 v57 v58 v59 v60 v61 v62 v63 v64 v65 v66 v67 v68 v69 v70 v71 v72 v73 v74 v75 v76 v77 v78 v79 v80 v81 v82 v83 : Value) (W : World)
    (hr : RangeIs EB W bi rb (setOf S) (fun x => setOf S x ≠ none) cnt) (hb : MapIs EB W bj (setOf T)) (hbn : bi ≠ bj) (hrj : rb ≠ bj)
    (h1 : W.heap[sc]? = some (.cells #[.int .i64 n, .int .i64 least, .int .i64 most, .int .i64 short, vv] 33 (0, 0)))
    (h2 : W.heap[cm]? = some (.cells #[.int .u16 mf, .int .u16 mh] 52 (0, 0)))
    (h3 : W.heap[xc]? = some (.cells #[.pointer (some ⟨g, 0, none⟩)] 101 (0, 0)))
    (h4 : W.heap[oc]? = some (.cells #[.slice (some ⟨ob, 0, none⟩) len len] 27 (0, 0)))
    (h5 : W.heap[ic]? = some (.cells #[.int .i64 j] 3 (0, 0)))
    (h6 : W.heap[g]? = some (.cells gcs 107 (0, 0))) (h6' : gcs[5]? = some (.slice (some ⟨sb, 0, none⟩) lenS cS))
    (h7 : W.cell? ⟨sb, j + 1, none⟩ = some (.map (some bj))) (h7' : sb ≠ ob) (hj : j < len) (hl : len ≤ 40) (hlS : j + 1 < lenS) (hlS2 : lenS ≤ 100)
    (hsb : ∃ cur, W.heap[sb]? = some (.cells cur 104 (0, 0)))
    (hO : Out ob len F0 W) (hO1 : IsSet (F0 j).1 (fun _ => False)) (hO2 : IsSet (F0 j).2 (fun _ => False))
    (hlo : lo ≤ W.heap.size) (hds : Coll lo W.heap.size ds W)
    (hdone : ∀ (ds' : List Deferred) (u9 u10 u11 u40 u41 u42 u43 u44 u45 u46 u47 u50 u51 u52 u53 u54 u55 u56 u57 u58 u59 u60 u61 u62 u63 u64 u65 u66 u67 u68 u69 u70 u71 u72 u73 u74 u75 u76 u77 u78 u79 u80 u81 : Value) (F : Nat → Int × Int) (W' : World), Fr (fun k => k = ob ∨ k = rb) W W' → Out ob len F W' → (∀ k, k ≠ j → F k = F0 k) → IsSet (F j).1 (holdBy least most short n mf mh S T) → IsSet (F j).2 (voiceBy least most short n mf mh S T) →
      MapIs EB W' bi (setOf S) → Coll lo W'.heap.size ds' W' → Q .normal { tmps := (List.toArray (v0 :: (.pointer (some ⟨sc, 0, none⟩)) :: v2 :: v3 :: (.pointer (some ⟨xc, 0, none⟩)) :: v5 :: (.pointer (some ⟨oc, 0, none⟩)) :: (.pointer (some ⟨ic, 0, none⟩)) :: (.pointer (some ⟨cm, 0, none⟩)) :: u9 :: u10 :: u11 :: v12 :: v13 :: v14 :: v15 :: v16 :: v17 :: v18 :: v19 :: v20 :: v21 :: v22 :: v23 :: v24 :: v25 :: v26 :: v27 :: v28 :: v29 :: v30 :: v31 :: v32 :: v33 :: v34 :: v35 :: v36 :: v37 :: v38 :: (.pointer (some ⟨rb, 0, none⟩)) :: u40 :: u41 :: u42 :: u43 :: u44 :: u45 :: u46 :: u47 :: v48 :: v49 :: u50 :: u51 :: u52 :: u53 :: u54 :: u55 :: u56 :: u57 :: u58 :: u59 :: u60 :: u61 :: u62 :: u63 :: u64 :: u65 :: u66 :: u67 :: u68 :: u69 :: u70 :: u71 :: u72 :: u73 :: u74 :: u75 :: u76 :: u77 :: u78 :: u79 :: u80 :: u81 :: v82 :: v83 :: [])), defers := ds' } W') :
    (blockOf 2 Try.f18).wpIn Fence.wide 0 Try.prog (Exit.inBlock 2 Q) { tmps := (List.toArray (v0 :: (.pointer (some ⟨sc, 0, none⟩)) :: v2 :: v3 :: (.pointer (some ⟨xc, 0, none⟩)) :: v5 :: (.pointer (some ⟨oc, 0, none⟩)) :: (.pointer (some ⟨ic, 0, none⟩)) :: (.pointer (some ⟨cm, 0, none⟩)) :: v9 :: v10 :: v11 :: v12 :: v13 :: v14 :: v15 :: v16 :: v17 :: v18 :: v19 :: v20 :: v21 :: v22 :: v23 :: v24 :: v25 :: v26 :: v27 :: v28 :: v29 :: v30 :: v31 :: v32 :: v33 :: v34 :: v35 :: v36 :: v37 :: v38 :: (.pointer (some ⟨rb, 0, none⟩)) :: v40 :: v41 :: v42 :: v43 :: v44 :: v45 :: v46 :: v47 :: v48 :: v49 :: v50 :: v51 :: v52 :: v53 :: v54 :: v55 :: v56 :: v57 :: v58 :: v59 :: v60 :: v61 :: v62 :: v63 :: v64 :: v65 :: v66 :: v67 :: v68 :: v69 :: v70 :: v71 :: v72 :: v73 :: v74 :: v75 :: v76 :: v77 :: v78 :: v79 :: v80 :: v81 :: v82 :: v83 :: [])), defers := ds } W := by
  conv => arg 4; whnf
  have hmx : Try.prog.follows .mixedOrders = true := by kernel_rfl
  have hu := Try.underlying33
  have hu1 := Try.underlying109
  have hu2 := Try.underlying52
  have hu3 := Try.underlying107
  have hu4 := Try.underlying54
  have hu5 := Try.underlying65
  have ksc : sc < W.heap.size := (Array.getElem?_eq_some_iff.1 h1).1
  have kcm : cm < W.heap.size := (Array.getElem?_eq_some_iff.1 h2).1
  have kxc : xc < W.heap.size := (Array.getElem?_eq_some_iff.1 h3).1
  have koc : oc < W.heap.size := (Array.getElem?_eq_some_iff.1 h4).1
  have kic : ic < W.heap.size := (Array.getElem?_eq_some_iff.1 h5).1
  have kg : g < W.heap.size := (Array.getElem?_eq_some_iff.1 h6).1
  obtain ⟨ocs, hocs, _, _⟩ := id hO
  have no : ∀ {k : Nat} {cs : Array Value} {t : TypeId}, W.heap[k]? = some (.cells cs t (0, 0)) → t ≠ 54 → ¬ (k = ob ∨ k = rb) := fun hk ht h => by
    rcases h with rfl | rfl
    · rw [hocs] at hk; cases hk; exact ht rfl
    · obtain ⟨o, e, ec⟩ := hr.iter; rw [hk] at e; cases e; cases ec
  have nosc := no h1 (by decide)
  have nocm := no h2 (by decide)
  have noxc := no h3 (by decide)
  have nooc := no h4 (by decide)
  have noic := no h5 (by decide)
  have nog := no h6 (by decide)
  obtain ⟨scur, hscur⟩ := hsb
  have nosb := no hscur (by decide)
  have norb : rb ≠ ob := fun e => by
    subst e
    obtain ⟨o, e, ec⟩ := hr.iter; rw [hocs] at e; cases e; cases ec
  have nobi : bi ≠ ob := fun e => by
    subst e
    obtain ⟨es, c, e⟩ := hr.mapIs.isMap; rw [hocs] at e; cases e
  have nobj : ¬ (bj = ob ∨ bj = rb) := fun h => by
    rcases h with rfl | rfl
    · obtain ⟨es, c, e⟩ := hb.isMap; rw [hocs] at e; cases e
    · exact hrj rfl
  have H1 := Lib.hid h1
  have H2 := Lib.hid h2
  have H3 := Lib.hid h3
  have H4 := Lib.hid h4
  have H5 := Lib.hid h5
  have H6 := Lib.hid h6
  have H7 := Lib.hid h7
  have HB := Lib.hid hb
  have HO := Lib.hid hocs
  clear h1 h2 h3 h4 h5 h6 h7 hscur hb hocs no
  refine wpIn_loop_lay (fun (tT : List Value) (a' : Act) (wv : World) => ∃ (dfs : List Deferred) (u9 u10 u11 u40 u41 u42 u43 u44 u45 u46 u47 u50 u51 u52 u53 u54 u55 u56 u57 u58 u59 u60 u61 u62 u63 u64 u65 u66 u67 u68 u69 u70 u71 u72 u73 u74 u75 u76 u77 u78 u79 u80 u81 : Value), ((fun dfs w' => ∃ L cnt F, RangeIs EB w' bi rb (setOf S) L cnt ∧ Out ob len F w' ∧ (∀ k, k ≠ j → F k = F0 k) ∧ IsSet (F j).1 (holdBy least most short n mf mh (fun x => S x ∧ ¬ L x) T) ∧ IsSet (F j).2 (voiceBy least most short n mf mh (fun x => S x ∧ ¬ L x) T) ∧
      Fr (fun k => k = ob ∨ k = rb) W w' ∧ Coll lo w'.heap.size dfs w')  dfs wv) ∧ a' = { tmps := (lay [none, none, none, none, none, none, none, none, none, some u9, some u10, some u11, none, none, none, none, none, none, none, none, none, none, none, none, none, none, none, none, none, none, none, none, none, none, none, none, none, none, none, none, some u40, some u41, some u42, some u43, some u44, some u45, some u46, some u47, none, none, some u50, some u51, some u52, some u53, some u54, some u55, some u56, some u57, some u58, some u59, some u60, some u61, some u62, some u63, some u64, some u65, some u66, some u67, some u68, some u69, some u70, some u71, some u72, some u73, some u74, some u75, some u76, some u77, some u78, some u79, some u80, some u81] tT).toArray, defers := dfs }) (fun (a' : Act) (wv : World) => (fun w' => w'.rangeLeft bi rb)  wv) ?atStart ?round
  case' atStart =>
    dsimp only [lay]
    (repeat apply Exists.intro)
    refine ⟨?_, rfl⟩
  case' round =>
    dsimp only [lay]
    intro _ wr hinv
    obtain ⟨dfs, hinv⟩ := hinv
    obtain ⟨u9, hinv⟩ := hinv
    obtain ⟨u10, hinv⟩ := hinv
    obtain ⟨u11, hinv⟩ := hinv
    obtain ⟨u40, hinv⟩ := hinv
    obtain ⟨u41, hinv⟩ := hinv
    obtain ⟨u42, hinv⟩ := hinv
    obtain ⟨u43, hinv⟩ := hinv
    obtain ⟨u44, hinv⟩ := hinv
    obtain ⟨u45, hinv⟩ := hinv
    obtain ⟨u46, hinv⟩ := hinv
    obtain ⟨u47, hinv⟩ := hinv
    obtain ⟨u50, hinv⟩ := hinv
    obtain ⟨u51, hinv⟩ := hinv
    obtain ⟨u52, hinv⟩ := hinv
    obtain ⟨u53, hinv⟩ := hinv
    obtain ⟨u54, hinv⟩ := hinv
    obtain ⟨u55, hinv⟩ := hinv
    obtain ⟨u56, hinv⟩ := hinv
    obtain ⟨u57, hinv⟩ := hinv
    obtain ⟨u58, hinv⟩ := hinv
    obtain ⟨u59, hinv⟩ := hinv
    obtain ⟨u60, hinv⟩ := hinv
    obtain ⟨u61, hinv⟩ := hinv
    obtain ⟨u62, hinv⟩ := hinv
    obtain ⟨u63, hinv⟩ := hinv
    obtain ⟨u64, hinv⟩ := hinv
    obtain ⟨u65, hinv⟩ := hinv
    obtain ⟨u66, hinv⟩ := hinv
    obtain ⟨u67, hinv⟩ := hinv
    obtain ⟨u68, hinv⟩ := hinv
    obtain ⟨u69, hinv⟩ := hinv
    obtain ⟨u70, hinv⟩ := hinv
    obtain ⟨u71, hinv⟩ := hinv
    obtain ⟨u72, hinv⟩ := hinv
    obtain ⟨u73, hinv⟩ := hinv
    obtain ⟨u74, hinv⟩ := hinv
    obtain ⟨u75, hinv⟩ := hinv
    obtain ⟨u76, hinv⟩ := hinv
    obtain ⟨u77, hinv⟩ := hinv
    obtain ⟨u78, hinv⟩ := hinv
    obtain ⟨u79, hinv⟩ := hinv
    obtain ⟨u80, hinv⟩ := hinv
    obtain ⟨u81, hinv⟩ := hinv
    obtain ⟨hrel, ha⟩ := hinv
    subst ha
    try dsimp only
  case atStart =>
    refine ⟨_, cnt, F0, hr, hO, fun _ _ => rfl, hO1.congr (fun q _ _ => ⟨False.elim, fun ⟨x, hx, _⟩ => hx.2 (setOf_ne.2 hx.1)⟩), hO2.congr (fun q _ _ => ⟨False.elim, fun ⟨x, hx, _⟩ => hx.2 (setOf_ne.2 hx.1)⟩), Fr.refl _ _, hds⟩
  case round =>
    obtain ⟨L, cn2, F, hR, hOu, hFo, hI1, hI2, hF, hC⟩ := hrel
    clear hr hO hO1 hO2 hds
    rcases hR.next 0 with ⟨hall, hrun⟩ | ⟨x, v, W1, cnt1, hLx, hMx, hbx, hrun, hR1, hlt, hg1, hs1, hen⟩
    · gi_wp2
      have hno : ∀ x, S x ∧ ¬ L x ↔ S x := fun x => ⟨fun h => h.1, fun h => ⟨h, fun hL => setOf_ne.2 h (hall x hL)⟩⟩
      exact hdone dfs _ _ _ _ _ _ _ _ _ _ _ _ _ _ _ _ _ _ _ _ _ _ _ _ _ _ _ _ _ _ _ _ _ _ _ _ _ _ _ _ _ _ _ F wr hF hOu hFo (hI1.congr (fun q _ _ => exists_congr (fun x => and_congr (hno x) Iff.rfl))) (hI2.congr (fun q _ _ => exists_congr (fun x => and_congr (hno x) Iff.rfl))) hR.mapIs hC
    · simp only [encSt] at hrun hen
      have F1 := hF.trans (Fr.grown hg1 (fun r e => by cases e; exact .inr rfl))
      have e10 := F1.cell (cell_of H1.out (i := 0) rfl) nosc
      have e11 := F1.cell (cell_of H1.out (i := 1) rfl) nosc
      have e12 := F1.cell (cell_of H1.out (i := 2) rfl) nosc
      have e13 := F1.cell (cell_of H1.out (i := 3) rfl) nosc
      have e14 := F1.cell (cell_of H1.out (i := 4) rfl) nosc
      have e20 := F1.cell (cell_of H2.out (i := 0) rfl) nocm
      have e21 := F1.cell (cell_of H2.out (i := 1) rfl) nocm
      simp only [List.getElem_toArray, List.getElem_cons_zero, List.getElem_cons_succ] at e10 e11 e12 e13 e14 e20 e21
      have hsW := F1.size
      have k1 : sc < W1.heap.size := by omega
      have k2 : cm < W1.heap.size := by omega
      have hO1 : Out ob len F W1 := hOu.same (hg1.block _ hOu.lt (fun e => norb (Option.some.inj e).symm))
      have hC1 : Coll lo W1.heap.size dfs W1 := (hC.same (SameMarks.grown hg1 (fun r e => by cases e; exact hR.noMark))).up (by omega)
      have HF1 := Lib.hid F1
      have HO1 := Lib.hid hO1
      have HC1 := Lib.hid hC1
      have HR1 := Lib.hid hR1
      have HI1 := Lib.hid hI1
      have HI2 := Lib.hid hI2
      have HFO := Lib.hid hFo
      have hSx := setOf_some hMx
      have HLE := Lib.hid hR.left_eq
      clear F1 hO1 hC1 hR1 hs1 hF hOu hC hR hg1 hMx hI1 hI2 hFo
      gi_wp2
      obtain ⟨W2, hW2⟩ : ∃ W2, W1.alloc (.cells #[.int .i64 x.holder, .int .i64 x.turn, .int .i64 x.short, .bool x.own] 109) = W2 := ⟨_, rfl⟩
      have hb12 : Below W1.heap.size W1 W2 := by rw [← hW2]; exact (Below.refl _ W1).alloc (Nat.le_refl _) _
      have hW2s : W2.heap.size = W1.heap.size + 1 := by rw [← hW2]; simp
      rw [hW2]
      have HB12 := Lib.hid hb12
      have HW2s := Lib.hid hW2s
      clear hW2 hb12 hW2s e10 e11 e12 e13 e14 e20 e21
      refine ⟨trivial, rfl, (callsIn_wide.2 (parts.calls' n least most short mf mh vv x W2)).mono ?_⟩
      rintro e W3 ⟨rfl, hPA⟩
      have hb13 : Below W1.heap.size W1 W3 := HB12.out.trans (hPA.below.mono (by have := HW2s.out; omega))
      have hs3 := hPA.size
      have hs2 := HW2s.out
      have hs1 : W1.heap.size < W3.heap.size := by omega
      have hf3 : Fr (fun k => k = ob ∨ k = rb) W W3 := HF1.out.trans (Fr.of_below hb13 (fun k q1 q2 => by omega))
      have hR3 : RangeIs EB W3 bi rb (setOf S) (fun y => L y ∧ y ≠ x) cnt1 := HR1.out.same (hb13.block _ HR1.out.mapIs.lt) (hb13.block _ HR1.out.lt)
      have hO3 : Out ob len F W3 := HO1.out.same (hb13.block _ HO1.out.lt)
      have hC3 : Coll lo W1.heap.size dfs W3 := HC1.out.same (SameMarks.below hb13 (Nat.le_refl _))
      have HF3 := Lib.hid hf3
      have HR3 := Lib.hid hR3
      have HO3 := Lib.hid hO3
      have HC3 := Lib.hid hC3
      have HS3 := Lib.hid hs3
      have HS2 := Lib.hid hs2
      have HS1 := Lib.hid hs1
      clear hf3 hR3 hO3 hC3 hb13 hs3 hs2 hs1
      gi_wp2
      have hx0 := hS x hSx
      have hs3 := HS3.out
      have hs2 := HS2.out
      have hs1 := HS1.out
      have hlO := HO3.out.lt
      have hlR := HR3.out.lt
      have hli := HR3.out.mapIs.lt
      refine wpIn_iter (gf := 73) (lb := #[.pointer (some ⟨W2.heap.size, 0, none⟩), .pointer (some ⟨W2.heap.size + 2, 0, none⟩), .pointer (some ⟨W2.heap.size + 3, 0, none⟩), .pointer (some ⟨W2.heap.size + 1, 0, none⟩)]) rfl (enters_of Try.func73 (by kernel_rfl) rfl)
        (hPA.iter hn hx0 (by omega)) (Nat.le_refl _) (fun _ _ => rfl) (fun k hk => by have := hk.2; omega) (fun _ => rfl)
        (fun pre W' => (Fr (fun k => k = ob ∨ k = rb) W W' ∧ RangeIs EB W' bi rb (setOf S) (fun y => L y ∧ y ≠ x) cnt1 ∧ Coll lo W1.heap.size dfs W' ∧ W3.heap.size ≤ W'.heap.size) ∧
          ∃ F, Out ob len F W' ∧ (∀ k, k ≠ j → F k = F0 k) ∧ IsSet (F j).1 (fun q => holdBy least most short n mf mh (fun x => S x ∧ ¬ L x) T q ∨ ∃ p ∈ pre, T p.2 ∧ p.1.1 = q) ∧ IsSet (F j).2 (fun q => voiceBy least most short n mf mh (fun x => S x ∧ ¬ L x) T q ∨ ∃ p ∈ pre, T p.2 ∧ p.1.2 = q))
        (fun c pre W' => False)
        (OwnFrom.and (OwnFrom.and (ownFrom_fr (by have := HF3.out.size; omega)) (OwnFrom.and (ownFrom_range (by omega) (by omega)) (OwnFrom.and (ownFrom_coll (by omega)) ownFrom_size))) (fun s A A' row hs hg hr => by obtain ⟨F, q1, q2⟩ := hs; exact ⟨F, ownFrom_out (F := fun (_ : Unit) => F) () A A' row q1 hg hr, q2⟩))
        (fun c => ownFrom_pure _ _)
        ⟨⟨HF3.out, HR3.out, HC3.out, Nat.le_refl _⟩, F, HO3.out, HFO.out, by simpa using HI1.out, by simpa using HI2.out⟩
        (fun pre p a' W' => ∃ B, W3.heap.size ≤ B ∧ W'.heap[B]? = some (.cells #[.int .i64 p.1.1, .int .i64 p.1.2] 65 (0, 0)) ∧ W'.heap[B + 1]? = some (.cells #[.int .i64 p.2.holder, .int .i64 p.2.turn, .int .i64 p.2.short, .bool p.2.own] 109 (0, 0)) ∧ a' = { tmps := (List.toArray (v0 :: (.pointer (some ⟨sc, 0, none⟩)) :: v2 :: v3 :: (.pointer (some ⟨xc, 0, none⟩)) :: v5 :: (.pointer (some ⟨oc, 0, none⟩)) :: (.pointer (some ⟨ic, 0, none⟩)) :: (.pointer (some ⟨cm, 0, none⟩)) :: (.pointer (some ⟨W1.heap.size, 0, none⟩)) :: (.pointer (some ⟨B, 0, none⟩)) :: (.pointer (some ⟨B + 1, 0, none⟩)) :: v12 :: v13 :: v14 :: v15 :: v16 :: v17 :: v18 :: v19 :: v20 :: v21 :: v22 :: v23 :: v24 :: v25 :: v26 :: v27 :: v28 :: v29 :: v30 :: v31 :: v32 :: v33 :: v34 :: v35 :: v36 :: v37 :: v38 :: (.pointer (some ⟨rb, 0, none⟩)) :: (.tuple #[.bool true, .agg #[.int .i64 x.holder, .int .i64 x.turn, .int .i64 x.short, .bool x.own], EB.enc v]) :: (.bool true) :: (.tuple #[.agg #[.int .i64 x.holder, .int .i64 x.turn, .int .i64 x.short, .bool x.own], EB.enc v]) :: (.agg #[.int .i64 x.holder, .int .i64 x.turn, .int .i64 x.short, .bool x.own]) :: (.agg #[.int .i64 n, .int .i64 least, .int .i64 most, .int .i64 short, vv]) :: (.agg #[.int .i64 x.holder, .int .i64 x.turn, .int .i64 x.short, .bool x.own]) :: (.agg #[.int .u16 mf, .int .u16 mh]) :: (.func (.func 73) #[] #[.pointer (some ⟨W2.heap.size, 0, none⟩), .pointer (some ⟨W2.heap.size + 2, 0, none⟩), .pointer (some ⟨W2.heap.size + 3, 0, none⟩), .pointer (some ⟨W2.heap.size + 1, 0, none⟩)]) :: (.agg #[.int .i64 p.1.1, .int .i64 p.1.2]) :: (.agg #[.int .i64 p.2.holder, .int .i64 p.2.turn, .int .i64 p.2.short, .bool p.2.own]) :: u50 :: u51 :: u52 :: u53 :: u54 :: u55 :: u56 :: u57 :: u58 :: u59 :: u60 :: u61 :: u62 :: u63 :: u64 :: u65 :: u66 :: u67 :: u68 :: u69 :: u70 :: u71 :: u72 :: u73 :: u74 :: u75 :: u76 :: u77 :: u78 :: u79 :: u80 :: u81 :: v82 :: v83 :: [])), defers := [] })
        (fun pre p a' _ A A' row hs hg hr => by obtain ⟨B, e1, e2, e3, e4⟩ := hs; exact ⟨B, e1, ownFrom_cells (fun (_ : Unit) => #[.int .i64 p.1.1, .int .i64 p.1.2]) 65 () A A' row e2 hg hr, ownFrom_cells (fun (_ : Unit) => #[.int .i64 p.2.holder, .int .i64 p.2.turn, .int .i64 p.2.short, .bool p.2.own]) 109 () A A' row e3 hg hr, e4⟩)
        ?assign ?body ?done ?stop
      case assign =>
        rintro l1 pre p post W4 K hx' ⟨⟨hI1, hI2, hI3, hI4⟩, F4, hI5, hI6⟩ hK
        have HI := Lib.hid (⟨hI1, hI2, hI3, hI4⟩ : Fr (fun k => k = ob ∨ k = rb) W W4 ∧ _ ∧ _ ∧ _)
        have HI5 := Lib.hid hI5
        have HI6 := Lib.hid hI6
        clear hI1 hI2 hI3 hI4 hI5 hI6 hs3 hs2 hs1
        simp only [encPart, encSt]
        gi_wp2
        have hI := HI.out
        have hb2 : Below W4.heap.size W4 ((W4.alloc (.cells #[.int .i64 p.1.1, .int .i64 p.1.2] 65)).alloc (.cells #[.int .i64 p.2.holder, .int .i64 p.2.turn, .int .i64 p.2.short, .bool p.2.own] 109)) := ((Below.refl _ W4).alloc (Nat.le_refl _) _).alloc (by simp) _
        exact hK _ _ (KeptC.below hb2 (Nat.le_refl _)) ⟨⟨hI.1.trans (Fr.of_below hb2 (fun k q1 q2 => by omega)), hI.2.1.same (hb2.block _ hI.2.1.mapIs.lt) (hb2.block _ hI.2.1.lt), hI.2.2.1.same (SameMarks.below hb2 (Nat.le_refl _)), by have := hI.2.2.2; have := hb2.size; omega⟩, F4, HI5.out.same (hb2.block _ HI5.out.lt), HI6.out⟩ ⟨_, hI.2.2.2, heap_old (heap_new rfl), heap_new (by simp), rfl⟩
      case body =>
        rintro l1 pre p post a' W4 hx' hl1 ⟨r1, hr1⟩ ⟨hI, F4, hI5, hI6, hI7, hI8⟩ ⟨B, hB, hbB, hbB1, rfl⟩
        have hpm : p ∈ partsOf least most short x mf mh n := by rw [hx']; simp
        have hsp : Small p.2 (i + 1) := small_parts hn hx0 hpm
        obtain ⟨m1, m2, _⟩ := mem_partsOf.1 hpm
        obtain ⟨a1, a2, _⟩ := mem_upTo.1 m1
        obtain ⟨b1, b2, _⟩ := mem_upTo.1 m2
        have hMj4 : MapIs EB W4 bj (setOf T) := HB.out.same (hI.1.same bj HB.out.lt nobj)
        have hlk : (Instr.lookup 104 (.map (some bj)) (.agg #[.int .i64 p.2.holder, .int .i64 p.2.turn, .int .i64 p.2.short, .bool p.2.own]) false).run Try.prog W4.drew = .ok (.bool (setOf T p.2).isSome) W4.drew := by
          have := ((hMj4.same (w' := W4.drew) rfl).look p.2 (hsp.box (by omega)))
          cases hMp : setOf T p.2 <;> (rw [hMp] at this; exact this)
        have e3 := hI.1.cell (cell_of H3.out (i := 0) rfl) noxc
        have e4 := hI.1.cell (cell_of H4.out (i := 0) rfl) nooc
        have e5 := hI.1.cell (cell_of H5.out (i := 0) rfl) noic
        have e6 := hI.1.cell (cell_of H6.out h6') nog
        have e7 := hI.1.cell H7.out nosb
        have f0 := cell_of hbB (i := 0) rfl
        have f1 := cell_of hbB (i := 1) rfl
        have f2 := cell_of hbB1 (i := 0) rfl
        have f3 := cell_of hbB1 (i := 1) rfl
        have f4 := cell_of hbB1 (i := 2) rfl
        have f5 := cell_of hbB1 (i := 3) rfl
        simp only [List.getElem_toArray, List.getElem_cons_zero, List.getElem_cons_succ] at e3 e4 e5 f0 f1 f2 f3 f4 f5
        obtain ⟨j2, hj2⟩ : ∃ j2, j + 1 = j2 := ⟨_, rfl⟩
        rw [hj2] at e7
        have hwr : IntKind.i64.wrap ((j : Int) + 1) = (j2 : Int) := by simp [IntKind.wrap, IntKind.bits, IntKind.signed]; omega
        have hjl2 : (j2 : Int) < lenS := by omega
        have hjl : (j : Int) < len := by omega
        have o0 := hI5.cell0 hj
        have o1 := hI5.cell1 hj
        have g0 := hI5.free (j * 2)
        have g1 := hI5.free (j * 2 + 1)
        have HI := Lib.hid hI
        have HI5 := Lib.hid hI5
        have HI6 := Lib.hid hI6
        have HI7 := Lib.hid hI7
        have HI8 := Lib.hid hI8
        have HPM := Lib.hid hpm
        have HX' := Lib.hid hx'
        clear hI hI5 hI6 hI7 hI8 hpm hx' hMj4 hr1 hbB hbB1 m1 m2 hs1 hs2 hs3 hj2
        gi_wp2
        refine wpIn_region_still (.round l1) hmx (by kernel_rfl) (by kernel_rfl) ?_
        repeat still_step
        refine wpStill_nil ?_
        cases hMp : setOf T p.2 with
        | none =>
          simp only [hMp, Option.isSome_none]
          clear hlk
          gi_wp2
          have hI := HI.out
          have hnT : ¬ T p.2 := fun h => setOf_ne.2 h hMp
          refine ⟨KeptC.drew _ _ _, ⟨hI.1.trans (Fr.drew _), hI.2.1.same rfl rfl, hI.2.2.1.same (SameMarks.drew _), hI.2.2.2⟩, F4, HI5.out.same rfl, HI6.out, HI7.out.congr (fun q _ _ => ?_), HI8.out.congr (fun q _ _ => ?_)⟩
          · exact or_congr Iff.rfl ⟨fun ⟨r, hr, h⟩ => ⟨r, by simp [hr], h⟩, fun ⟨r, hr, h⟩ => by
              rcases List.mem_append.1 hr with hr | hr
              · exact ⟨r, hr, h⟩
              · rw [List.mem_singleton.1 hr] at h; exact (hnT h.1).elim⟩
          · exact or_congr Iff.rfl ⟨fun ⟨r, hr, h⟩ => ⟨r, by simp [hr], h⟩, fun ⟨r, hr, h⟩ => by
              rcases List.mem_append.1 hr with hr | hr
              · exact ⟨r, hr, h⟩
              · rw [List.mem_singleton.1 hr] at h; exact (hnT h.1).elim⟩
        | some u =>
          simp only [hMp, Option.isSome_some]
          clear hlk
          gi_wp2
          refine wpIn_region_still_tail (.round l1) 11 hmx (by kernel_rfl) (by kernel_rfl) ?_
          simp only [List.take_succ_cons, List.take_zero, List.drop_succ_cons, List.drop_zero]
          repeat still_step
          still_call (bit.calls _ _ (by omega) (by omega)).mono (fun e w' h => ⟨h.1, h.2.symm⟩)
          repeat still_step
          refine wpStill_nil ?_
          gi_wp2
          have hBW : ¬ (B = ob ∨ B = rb) := fun h => by have := HS3.out; have := HS1.out; rcases h with h | h <;> omega
          obtain ⟨v1, hv1⟩ : ∃ v1, Go.bits .or .u16 (F4 j).1 (bitOf p.1.1) = v1 := ⟨_, rfl⟩
          rw [hv1]
          obtain ⟨W5, hW5⟩ : ∃ W5, (W4.setCell ⟨ob, j * 2, none⟩ (.int .u16 v1)).drew.drew = W5 := ⟨_, rfl⟩
          rw [hW5]
          have hF45x : Fr (fun k => k = ob) W4 W5 := by rw [← hW5]; exact ((Fr.setCell (X := fun k => k = ob) W4 ⟨ob, j * 2, none⟩ _ rfl).trans (Fr.drew _)).trans (Fr.drew _)
          have hF45 : Fr (fun k => k = ob ∨ k = rb) W4 W5 := hF45x.mono (fun k _ h => .inl h)
          have HF45x := Lib.hid hF45x
          clear hF45x
          have hO5 : Out ob len (upd F4 j (v1, (F4 j).2)) W5 := by rw [← hW5]; exact (HI5.out.set0 hj v1).same rfl
          have hk5 : KeptC (partsC W2.heap.size) W3.heap.size W4 W5 := by
            rw [← hW5]
            exact (KeptC.setCell (B := W3.heap.size) W4 ⟨ob, j * 2, none⟩ _ (fun hc => by have h : W2.heap.size ≤ ob := hc.1; have := HO1.out.lt; have := HS2.out; omega) (by show ob < W3.heap.size; exact hlO)).trans ((KeptC.drew _ _ _).trans (KeptC.drew _ _ _))
          have hm5 : SameMarks W4 W5 := by rw [← hW5]; exact (SameMarks.setCell _ _ _).trans ((SameMarks.drew _).trans (SameMarks.drew _))
          have ee4 := hF45.cell e4 nooc
          have ee5 := hF45.cell e5 noic
          have ff1 := hF45.cell f1 hBW
          have oo1 := hO5.cell1 hj
          have gg1 := hO5.free (j * 2 + 1)
          have hu5' : (upd F4 j (v1, (F4 j).2) j).2 = (F4 j).2 := by simp [upd]
          rw [hu5'] at oo1
          have HF45 := Lib.hid hF45
          have HO5 := Lib.hid hO5
          have HK5 := Lib.hid hk5
          have HM5 := Lib.hid hm5
          have HV1 := Lib.hid hv1
          clear hF45 hO5 hk5 hm5 hv1 hW5 e3 e4 e5 e6 e7 f0 f1 f2 f3 f4 f5 o0 o1 g0 g1
          gi_wp2
          refine wpIn_region_still_tail (.round l1) 11 hmx (by kernel_rfl) (by kernel_rfl) ?_
          simp only [List.take_succ_cons, List.take_zero, List.drop_succ_cons, List.drop_zero]
          repeat still_step
          still_call (bit.calls _ _ (by omega) (by omega)).mono (fun e w' h => ⟨h.1, h.2.symm⟩)
          repeat still_step
          refine wpStill_nil ?_
          gi_wp2
          obtain ⟨v2, hv2⟩ : ∃ v2, Go.bits .or .u16 (F4 j).2 (bitOf p.1.2) = v2 := ⟨_, rfl⟩
          rw [hv2]
          have hI := HI.out
          have hF46 : Fr (fun k => k = ob ∨ k = rb) W4 (W5.setCell ⟨ob, j * 2 + 1, none⟩ (.int .u16 v2)).drew := (HF45.out.trans (Fr.setCell _ _ _ (.inl rfl))).trans (Fr.drew _)
          have hO6 : Out ob len (upd (upd F4 j (v1, (F4 j).2)) j ((upd F4 j (v1, (F4 j).2) j).1, v2)) (W5.setCell ⟨ob, j * 2 + 1, none⟩ (.int .u16 v2)).drew := (HO5.out.set1 hj v2).same rfl
          have hk6 : KeptC (partsC W2.heap.size) W3.heap.size W4 (W5.setCell ⟨ob, j * 2 + 1, none⟩ (.int .u16 v2)).drew :=
            HK5.out.trans ((KeptC.setCell (B := W3.heap.size) W5 ⟨ob, j * 2 + 1, none⟩ _ (fun hc => by have h : W2.heap.size ≤ ob := hc.1; have := HO1.out.lt; have := HS2.out; omega) (by show ob < W3.heap.size; exact hlO)).trans (KeptC.drew _ _ _))
          have hm6 : SameMarks W4 (W5.setCell ⟨ob, j * 2 + 1, none⟩ (.int .u16 v2)).drew := HM5.out.trans ((SameMarks.setCell _ _ _).trans (SameMarks.drew _))
          have hR6 : RangeIs EB (W5.setCell ⟨ob, j * 2 + 1, none⟩ (.int .u16 v2)).drew bi rb (setOf S) (fun y => L y ∧ y ≠ x) cnt1 := by
            have hset : ∀ (k : Nat), k ≠ ob → k < W4.heap.size → (W5.setCell ⟨ob, j * 2 + 1, none⟩ (.int .u16 v2)).drew.heap[k]? = W4.heap[k]? := fun k hk hkl => by
              refine (Below.heap_setCell _ _ _ _ hk).trans ?_
              exact HF45x.out.same k hkl hk
            exact hI.2.1.same (hset bi nobi hI.2.1.mapIs.lt) (hset rb norb hI.2.1.lt)
          have hT : T p.2 := setOf_some hMp
          refine ⟨hk6, ⟨hI.1.trans hF46, hR6, hI.2.2.1.same hm6, by have := hF46.size; have := hI.2.2.2; omega⟩, _, hO6, fun k hk => by simp [upd, hk]; exact HI6.out k hk, ?_, ?_⟩
          · have := HI7.out.or a1 (by omega : p.1.1 ≤ 14)
            rw [HV1.out] at this
            simp only [upd, if_true]
            exact this.congr (fun q _ _ => ⟨fun h => by
              rcases h with (h | ⟨r, hr, h⟩) | rfl
              · exact .inl h
              · exact .inr ⟨r, by simp [hr], h⟩
              · exact .inr ⟨p, by simp, hT, rfl⟩, fun h => by
              rcases h with h | ⟨r, hr, h⟩
              · exact .inl (.inl h)
              · rcases List.mem_append.1 hr with hr | hr
                · exact .inl (.inr ⟨r, hr, h⟩)
                · rw [List.mem_singleton.1 hr] at h; exact .inr h.2.symm⟩)
          · have := HI8.out.or b1 (by omega : p.1.2 ≤ 14)
            rw [hv2] at this
            simp only [upd, if_true]
            exact this.congr (fun q _ _ => ⟨fun h => by
              rcases h with (h | ⟨r, hr, h⟩) | rfl
              · exact .inl h
              · exact .inr ⟨r, by simp [hr], h⟩
              · exact .inr ⟨p, by simp, hT, rfl⟩, fun h => by
              rcases h with h | ⟨r, hr, h⟩
              · exact .inl (.inl h)
              · rcases List.mem_append.1 hr with hr | hr
                · exact .inl (.inr ⟨r, hr, h⟩)
                · rw [List.mem_singleton.1 hr] at h; exact .inr h.2.symm⟩)
      case done =>
        rintro D W5 hD ⟨hI, F5, hO5, hf5, hI7, hI8⟩ hK
        gi_wp2
        refine ⟨?_, ?measure⟩
        · (repeat apply Exists.intro)
          refine ⟨?_, rfl⟩
          have hDl : D < W5.heap.size := (Array.getElem?_eq_some_iff.1 hK).1
          have key : ∀ (f : (Int × Int) × St → Int) (q : Int), ((∃ z, (S z ∧ ¬ L z) ∧ ∃ p ∈ partsOf least most short z mf mh n, T p.2 ∧ f p = q) ∨ ∃ p ∈ partsOf least most short x mf mh n, T p.2 ∧ f p = q) ↔ ∃ z, (S z ∧ ¬ (L z ∧ z ≠ x)) ∧ ∃ p ∈ partsOf least most short z mf mh n, T p.2 ∧ f p = q := fun f q => by
            constructor
            · rintro (⟨z, ⟨q1, q2⟩, q3⟩ | q3)
              · exact ⟨z, ⟨q1, fun h => q2 h.1⟩, q3⟩
              · exact ⟨x, ⟨hSx, fun h => h.2 rfl⟩, q3⟩
            · rintro ⟨z, ⟨q1, q2⟩, q3⟩
              by_cases e : z = x
              · subst e; exact .inr q3
              · exact .inl ⟨z, ⟨q1, fun h => q2 ⟨h, e⟩⟩, q3⟩
          exact ⟨_, cnt1, F5, hI.2.1, hO5, hf5, hI7.congr (fun q _ _ => key (fun p => p.1.1) q), hI8.congr (fun q _ _ => key (fun p => p.1.2) q), hI.1, hI.2.2.1.push (by have := HF3.out.size; omega) (by omega) hDl hK⟩
        case measure =>
          rw [hI.2.1.left_eq, HLE.out]; exact hlt
      case stop =>
        rintro D c pre p post W5 hD hx' hf hK
        exact hf.elim
end Go.Proofs.Ytdnjmhhjjbdieaa.Q
end

section
/- The walk of Who: the rounds over the moments. -/
namespace Go.Proofs.Ytdnjmhhjjbdieaa.Q
open Go.RowKit Go.Shelf Go.Proofs.YtdnjmhhjjbdieaaW.PrintWords Go.Proofs.YtdnjmhhjjbdieaaW.PrintLast
set_option linter.unusedVariables false
set_option linter.unusedSimpArgs false
attribute [local go_sem] Oper.semAt_some


/-- What Who has found of a moment. -/
def Found (least most short : Int) (n : Nat) (l : List S52) (j : Nat) (v : Int × Int) : Prop :=
  ∀ m, l[j]? = some m → IsSet v.1 (holdBy least most short n m.f0 m.f1 (pruned least most short n l 0 j) (pruned least most short n l 0 (j + 1))) ∧
    IsSet v.2 (voiceBy least most short n m.f0 m.f1 (pruned least most short n l 0 j) (pruned least most short n l 0 (j + 1)))

set_option maxRecDepth 100000 in
set_option maxHeartbeats 4000000 in
theorem who.rounds (n : Nat) (hn : n ≤ 12) (least most short : Int) (A : Option Addr) (c : Nat) (l : List S52) (hl : l.length ≤ 40)
    (sc xc oc g sb cS ob lo : Nat) (bs : List Nat) (Q : Exit → Act → World → Prop) (v0 v2 v3 v5 v7 v8 v9 v10 v11 v12 v13 v14 v15 v16 v17 v18 v19 v20 v21 v22 v23 v24 v28 v29 v30 v31 v32 v33 v34 v35 v36 v37 v38 v39 v40 v41 v42 v43 v44 v45 v46 v47 v48 v49 v50 v51 v52 v53 v54 v55 v56 v57 v58 v59 v60 v61 v62 v63 v64 v65 v66 v67 v68 v69 v70 v71 v72 v73 v74 v75 v76 v77 v78 v79 v80 v81 v82 v83 : Value) (W : World)
    (hA : Kd.C k52 W A l.length l) (hAo : ∀ ad, A = some ad → 0 < l.length → ad.block ≠ ob)
    (h1 : W.heap[sc]? = some (.cells #[.int .i64 n, .int .i64 least, .int .i64 most, .int .i64 short, .slice A l.length c] 33 (0, 0)))
    (h3 : W.heap[xc]? = some (.cells #[.pointer (some ⟨g, 0, none⟩)] 101 (0, 0)))
    (h4 : W.heap[oc]? = some (.cells #[.slice (some ⟨ob, 0, none⟩) l.length l.length] 27 (0, 0)))
    (hs : Seen n least most short A l.length c g sb cS l.length lo bs (pruned least most short n l 0) W)
    (hO : Out ob l.length (fun _ => (0, 0)) W) (hlo : lo ≤ W.heap.size)
    (hdone : ∀ (ds' : List Deferred) (u7 u8 u9 u10 u11 u27 u28 u29 u30 u31 u32 u33 u34 u35 u36 u37 u38 u39 u40 u41 u42 u43 u44 u45 u46 u47 u50 u51 u52 u53 u54 u55 u56 u57 u58 u59 u60 u61 u62 u63 u64 u65 u66 u67 u68 u69 u70 u71 u72 u73 u74 u75 u76 u77 u78 u79 u80 u81 u82 : Value) (F : Nat → Int × Int) (W' : World), Fr (fun k => k = ob) W W' → Out ob l.length F W' → (∀ j, j < l.length → Found least most short n l j (F j)) → Coll W.heap.size W'.heap.size ds' W' →
      Q .normal { tmps := (List.toArray (v0 :: (.pointer (some ⟨sc, 0, none⟩)) :: v2 :: v3 :: (.pointer (some ⟨xc, 0, none⟩)) :: v5 :: (.pointer (some ⟨oc, 0, none⟩)) :: u7 :: u8 :: u9 :: u10 :: u11 :: v12 :: v13 :: v14 :: v15 :: v16 :: v17 :: v18 :: v19 :: v20 :: v21 :: v22 :: v23 :: v24 :: (.slice A l.length c) :: (.int .i64 l.length) :: u27 :: u28 :: u29 :: u30 :: u31 :: u32 :: u33 :: u34 :: u35 :: u36 :: u37 :: u38 :: u39 :: u40 :: u41 :: u42 :: u43 :: u44 :: u45 :: u46 :: u47 :: v48 :: v49 :: u50 :: u51 :: u52 :: u53 :: u54 :: u55 :: u56 :: u57 :: u58 :: u59 :: u60 :: u61 :: u62 :: u63 :: u64 :: u65 :: u66 :: u67 :: u68 :: u69 :: u70 :: u71 :: u72 :: u73 :: u74 :: u75 :: u76 :: u77 :: u78 :: u79 :: u80 :: u81 :: u82 :: v83 :: [])), defers := ds' } W') :
    (blockOf 0 Try.f18).wpIn Fence.wide 0 Try.prog (Exit.inBlock 0 Q) { tmps := (List.toArray (v0 :: (.pointer (some ⟨sc, 0, none⟩)) :: v2 :: v3 :: (.pointer (some ⟨xc, 0, none⟩)) :: v5 :: (.pointer (some ⟨oc, 0, none⟩)) :: v7 :: v8 :: v9 :: v10 :: v11 :: v12 :: v13 :: v14 :: v15 :: v16 :: v17 :: v18 :: v19 :: v20 :: v21 :: v22 :: v23 :: v24 :: (.slice A l.length c) :: (.int .i64 l.length) :: (.int .i64 0) :: v28 :: v29 :: v30 :: v31 :: v32 :: v33 :: v34 :: v35 :: v36 :: v37 :: v38 :: v39 :: v40 :: v41 :: v42 :: v43 :: v44 :: v45 :: v46 :: v47 :: v48 :: v49 :: v50 :: v51 :: v52 :: v53 :: v54 :: v55 :: v56 :: v57 :: v58 :: v59 :: v60 :: v61 :: v62 :: v63 :: v64 :: v65 :: v66 :: v67 :: v68 :: v69 :: v70 :: v71 :: v72 :: v73 :: v74 :: v75 :: v76 :: v77 :: v78 :: v79 :: v80 :: v81 :: v82 :: v83 :: [])), defers := [] } W := by
  conv => arg 4; whnf
  have hmx : Try.prog.follows .mixedOrders = true := by kernel_rfl
  have hu := Try.underlying33
  have hu1 := Try.underlying109
  have hu2 := Try.underlying52
  have hu3 := Try.underlying107
  have H1 := Lib.hid h1
  have H3 := Lib.hid h3
  have H4 := Lib.hid h4
  have HA := Lib.hid hA
  have HS := Lib.hid hs
  obtain ⟨ocs, hocs, _, _⟩ := id hO
  have HOC := Lib.hid hocs
  have ksc : sc < W.heap.size := (Array.getElem?_eq_some_iff.1 h1).1
  have kxc : xc < W.heap.size := (Array.getElem?_eq_some_iff.1 h3).1
  have koc : oc < W.heap.size := (Array.getElem?_eq_some_iff.1 h4).1
  have kg : g < W.heap.size := (Array.getElem?_eq_some_iff.1 hs.obj).1
  have no : ∀ {k : Nat} {cs : Array Value} {t : TypeId}, W.heap[k]? = some (.cells cs t (0, 0)) → t ≠ 54 → k ≠ ob := fun hk ht h => by
    subst h; rw [hocs] at hk; cases hk; exact ht rfl
  have nosc := no h1 (by decide)
  have noxc := no h3 (by decide)
  have nooc := no h4 (by decide)
  have nog := no hs.obj (by decide)
  have hsbh : ∃ cur, W.heap[sb]? = some (.cells cur 104 (0, 0)) := by
    rcases hs.row.2 with ⟨q, _⟩ | ⟨g', cap, cur, r1, r2, r3, _⟩
    · cases q
    · cases r1; exact ⟨cur, r3⟩
  obtain ⟨scur, hscur⟩ := hsbh
  have nosb := no hscur (by decide)
  have HSC := Lib.hid hscur
  have nomap : ∀ {b : Nat} {M : St → Option Unit}, MapIs EB W b M → b ≠ ob := fun hM e => by
    subst e; obtain ⟨es, cl, hm⟩ := hM.isMap; rw [hocs] at hm; cases hm
  clear h1 h3 h4 hA hs hocs hscur no
  refine wpIn_loop_lay (fun (tT : List Value) (a' : Act) (wv : World) => ∃ (dfs : List Deferred) (u7 u8 u9 u10 u11 u27 u28 u29 u30 u31 u32 u33 u34 u35 u36 u37 u38 u39 u40 u41 u42 u43 u44 u45 u46 u47 u50 u51 u52 u53 u54 u55 u56 u57 u58 u59 u60 u61 u62 u63 u64 u65 u66 u67 u68 u69 u70 u71 u72 u73 u74 u75 u76 u77 u78 u79 u80 u81 u82 : Value), ((fun u27 dfs w' => ∃ (k : Nat) (F : Nat → Int × Int), u27 = .int .i64 k ∧ k ≤ l.length ∧ Fr (fun k => k = ob) W w' ∧ Coll W.heap.size w'.heap.size dfs w' ∧ Out ob l.length F w' ∧ (∀ j, j < k → Found least most short n l j (F j)) ∧ (∀ j, k ≤ j → F j = (0, 0))) u27 dfs wv) ∧ a' = { tmps := (lay [none, none, none, none, none, none, none, some u7, some u8, some u9, some u10, some u11, none, none, none, none, none, none, none, none, none, none, none, none, none, none, none, some u27, some u28, some u29, some u30, some u31, some u32, some u33, some u34, some u35, some u36, some u37, some u38, some u39, some u40, some u41, some u42, some u43, some u44, some u45, some u46, some u47, none, none, some u50, some u51, some u52, some u53, some u54, some u55, some u56, some u57, some u58, some u59, some u60, some u61, some u62, some u63, some u64, some u65, some u66, some u67, some u68, some u69, some u70, some u71, some u72, some u73, some u74, some u75, some u76, some u77, some u78, some u79, some u80, some u81, some u82] tT).toArray, defers := dfs }) (fun (a' : Act) (wv : World) => (fun u27 w' => l.length - (intOf u27).toNat) (Array.getD a'.tmps 27 undef) wv) ?atStart ?round
  case' atStart =>
    dsimp only [lay]
    (repeat apply Exists.intro)
    refine ⟨?_, rfl⟩
  case' round =>
    dsimp only [lay]
    intro _ wr hinv
    obtain ⟨dfs, hinv⟩ := hinv
    obtain ⟨u7, hinv⟩ := hinv
    obtain ⟨u8, hinv⟩ := hinv
    obtain ⟨u9, hinv⟩ := hinv
    obtain ⟨u10, hinv⟩ := hinv
    obtain ⟨u11, hinv⟩ := hinv
    obtain ⟨u27, hinv⟩ := hinv
    obtain ⟨u28, hinv⟩ := hinv
    obtain ⟨u29, hinv⟩ := hinv
    obtain ⟨u30, hinv⟩ := hinv
    obtain ⟨u31, hinv⟩ := hinv
    obtain ⟨u32, hinv⟩ := hinv
    obtain ⟨u33, hinv⟩ := hinv
    obtain ⟨u34, hinv⟩ := hinv
    obtain ⟨u35, hinv⟩ := hinv
    obtain ⟨u36, hinv⟩ := hinv
    obtain ⟨u37, hinv⟩ := hinv
    obtain ⟨u38, hinv⟩ := hinv
    obtain ⟨u39, hinv⟩ := hinv
    obtain ⟨u40, hinv⟩ := hinv
    obtain ⟨u41, hinv⟩ := hinv
    obtain ⟨u42, hinv⟩ := hinv
    obtain ⟨u43, hinv⟩ := hinv
    obtain ⟨u44, hinv⟩ := hinv
    obtain ⟨u45, hinv⟩ := hinv
    obtain ⟨u46, hinv⟩ := hinv
    obtain ⟨u47, hinv⟩ := hinv
    obtain ⟨u50, hinv⟩ := hinv
    obtain ⟨u51, hinv⟩ := hinv
    obtain ⟨u52, hinv⟩ := hinv
    obtain ⟨u53, hinv⟩ := hinv
    obtain ⟨u54, hinv⟩ := hinv
    obtain ⟨u55, hinv⟩ := hinv
    obtain ⟨u56, hinv⟩ := hinv
    obtain ⟨u57, hinv⟩ := hinv
    obtain ⟨u58, hinv⟩ := hinv
    obtain ⟨u59, hinv⟩ := hinv
    obtain ⟨u60, hinv⟩ := hinv
    obtain ⟨u61, hinv⟩ := hinv
    obtain ⟨u62, hinv⟩ := hinv
    obtain ⟨u63, hinv⟩ := hinv
    obtain ⟨u64, hinv⟩ := hinv
    obtain ⟨u65, hinv⟩ := hinv
    obtain ⟨u66, hinv⟩ := hinv
    obtain ⟨u67, hinv⟩ := hinv
    obtain ⟨u68, hinv⟩ := hinv
    obtain ⟨u69, hinv⟩ := hinv
    obtain ⟨u70, hinv⟩ := hinv
    obtain ⟨u71, hinv⟩ := hinv
    obtain ⟨u72, hinv⟩ := hinv
    obtain ⟨u73, hinv⟩ := hinv
    obtain ⟨u74, hinv⟩ := hinv
    obtain ⟨u75, hinv⟩ := hinv
    obtain ⟨u76, hinv⟩ := hinv
    obtain ⟨u77, hinv⟩ := hinv
    obtain ⟨u78, hinv⟩ := hinv
    obtain ⟨u79, hinv⟩ := hinv
    obtain ⟨u80, hinv⟩ := hinv
    obtain ⟨u81, hinv⟩ := hinv
    obtain ⟨u82, hinv⟩ := hinv
    obtain ⟨hrel, ha⟩ := hinv
    subst ha
    try dsimp only
  case atStart =>
    exact ⟨0, _, rfl, Nat.zero_le _, Fr.refl _ _, Coll.nil _ _ _, hO, fun j hj => by omega, fun _ _ => rfl⟩
  case round =>
    obtain ⟨k, F, rfl, hk, hF, hC, hOu, hfd, hz⟩ := hrel
    clear hO
    by_cases hlt : k < l.length
    · have hSz := hF.size
      have hx : Kd.C k52 W A l.length l := HA.out
      obtain ⟨ad, rfl, m0, m1⟩ := at_T52 hx k (by omega) (by omega)
      have hrd : rd_T52 l (k : Int) = l[k] := by simp [rd_T52, List.getD, hlt]
      rw [hrd, Int.toNat_natCast] at m0 m1
      obtain ⟨⟨mf, mh⟩, hm⟩ : ∃ m, l[k] = m := ⟨_, rfl⟩
      rw [hm] at m0 m1
      simp only [] at m0 m1
      have hadb : (ad.add (k * 2)).block ≠ ob := by
        have := hAo ad rfl (by omega)
        unfold Addr.add; split <;> simpa using this
      have m0' := hF.cell m0 hadb
      have m1' := hF.cell m1 hadb
      have hk2 : (k : Int) < l.length := by omega
      have hi2 : (ad.add (k * 2)).block < wr.heap.size := World.block_lt_of_cell? wr _ m0'
      have hi3 : (ad.add (k * 2)).block < wr.heap.size + 1 := by omega
      have hi4 : (ad.add (k * 2)).block < wr.heap.size + 1 + 1 := by omega
      have HF := Lib.hid hF
      have HC := Lib.hid hC
      have HO := Lib.hid hOu
      have HFD := Lib.hid hfd
      have HZ := Lib.hid hz
      clear hF hC hOu hfd hz m0 m1 hrd hx
      gi_wp2
      obtain ⟨W1, hW1⟩ : ∃ W1, (wr.alloc (.cells #[.int .i64 k] 3)).alloc (.cells #[.int .u16 mf, .int .u16 mh] 52) = W1 := ⟨_, rfl⟩
      have hb1 : Below wr.heap.size wr W1 := by rw [← hW1]; exact ((Below.refl _ wr).alloc (Nat.le_refl _) _).alloc (by simp) _
      have hs1 : W1.heap.size = wr.heap.size + 2 := by rw [← hW1]; simp
      have hic : W1.heap[wr.heap.size]? = some (.cells #[.int .i64 k] 3 (0, 0)) := by rw [← hW1]; exact heap_old (heap_new rfl)
      have hcm : W1.heap[wr.heap.size + 1]? = some (.cells #[.int .u16 mf, .int .u16 mh] 52 (0, 0)) := by rw [← hW1]; exact heap_new (by simp)
      rw [hW1]
      have hF1 : Fr (fun k => k = ob) W W1 := HF.out.trans (Fr.of_below hb1 (fun k q1 q2 => by omega))
      have hSeen := HS.out
      have hbL := hSeen.len
      obtain ⟨bi, hbi⟩ : ∃ b, bs[k]? = some b := ⟨_, List.getElem?_eq_getElem (by omega)⟩
      obtain ⟨bj, hbj⟩ : ∃ b, bs[k + 1]? = some b := ⟨_, List.getElem?_eq_getElem (by omega)⟩
      have hbij : bi ≠ bj := fun e => by
        subst e
        have h1 := List.getElem?_eq_some_iff.1 hbi
        have h2 := List.getElem?_eq_some_iff.1 hbj
        exact (List.pairwise_iff_getElem.1 hSeen.nodup) k (k + 1) h1.1 h2.1 (by omega) (h1.2.trans h2.2.symm)
      have hMi := (hSeen.maps k bi hbi).2
      have hMj := (hSeen.maps (k + 1) bj hbj).2
      have hMi1 := hMi.same (hF1.same _ hMi.lt (nomap hMi))
      have hMj1 := hMj.same (hF1.same _ hMj.lt (nomap hMj))
      obtain ⟨W2, cnt, hrng, hR2, hg2, hs2⟩ := (hMi1.same (w' := W1.drew) rfl).range
      have hrng : (Instr.range 104 (.map (some bi))).run Try.prog W1.drew = .ok (.pointer (some ⟨W1.heap.size, 0, none⟩)) W2 := hrng
      have hxc1 := (hF1.same _ kxc noxc).trans H3.out
      have hobj1 := (hF1.same _ kg nog).trans hSeen.obj
      have e3 := cell_of hxc1 (i := 0) rfl
      have e5 := cell_of hobj1 (i := 5) rfl
      have e7 := cell_of hic (i := 0) rfl
      have ei := hF1.cell (hSeen.cell hbi) nosb
      simp only [List.getElem_toArray, List.getElem_cons_zero, List.getElem_cons_succ] at e3 e5 e7
      have hk3 : (k : Int) < (l.length : Int) + 1 := by omega
      have hk4 : (k : Int) < ((l.length + 1 : Nat) : Int) := by omega
      have HB1 := Lib.hid hb1
      have HS1 := Lib.hid hs1
      have HIC := Lib.hid hic
      have HCM := Lib.hid hcm
      have HF1 := Lib.hid hF1
      have HR2 := Lib.hid hR2
      have HG2 := Lib.hid hg2
      have HS2 := Lib.hid hs2
      have HMJ := Lib.hid hMj1
      clear hb1 hs1 hic hcm hF1 hR2 hg2 hs2 hMj1 hMi1 hMi hMj hxc1 hobj1 hW1 hSeen m0' m1'
      gi_wp2
      refine wpIn_region_still_tail .wide 7 hmx (by kernel_rfl) (by kernel_rfl) ?_
      simp only [List.take_succ_cons, List.take_zero, List.drop_succ_cons, List.drop_zero]
      repeat still_step
      refine wpStill_nil ?_
      gi_wp2
      have hSeen := HS.out
      have hs1 := HS1.out
      have hs2 : W2.heap.size = W1.heap.size + 1 := HS2.out
      have hF12 : Fr (fun _ => False) W1 W2 := (Fr.drew W1).trans (Fr.grown HG2.out (fun r e => by cases e))
      have hF02 : Fr (fun k => k = ob) W W2 := HF1.out.trans (hF12.mono (fun k _ h => h.elim))
      have hFr2 : Fr (fun _ => False) wr W2 := (Fr.of_below HB1.out (fun k q1 q2 => by omega)).trans hF12
      have hob2 : Out ob l.length F W2 := HO.out.same (hFr2.same _ HO.out.lt (by simp))
      have hsbc : ∃ cur, W2.heap[sb]? = some (.cells cur 104 (0, 0)) := ⟨scur, (hF02.same _ (Array.getElem?_eq_some_iff.1 HSC.out).1 nosb).trans HSC.out⟩
      have hz0 := HZ.out k (Nat.le_refl _)
      have hbjl := hSeen.maplt (List.mem_of_getElem? hbj)
      refine who.fill (Q := _) n hn least most short mf mh _ (pruned least most short n l 0 k) (pruned least most short n l 0 (k + 1)) k (by omega) (fun x hx => fwd_small hn k x hx.1) sc xc oc wr.heap.size (wr.heap.size + 1) g sb (l.length + 1) cS ob l.length k bi bj W1.heap.size W.heap.size cnt _ F dfs _ _ _ _ _ _ _ _ _ _ _ _ _ _ _ _ _ _ _ _ _ _ _ _ _ _ _ _ _ _ _ _ _ _ _ _ _ _ _ _ _ _ _ _ _ _ _ _ _ _ _ _ _ _ _ _ _ _ _ _ _ _ _ _ _ _ _ _ _ _ _ _ _ _ _ _ _ _ W2
        HR2.out (HMJ.out.same (hF12.same _ HMJ.out.lt (by simp))) hbij (by omega) ((hF02.same _ ksc nosc).trans H1.out) ((hF12.same _ (by omega) (by simp)).trans HCM.out) ((hF02.same _ kxc noxc).trans H3.out) ((hF02.same _ koc nooc).trans H4.out) ((hF12.same _ (by omega) (by simp)).trans HIC.out) ((hF02.same _ kg nog).trans hSeen.obj) rfl (hF02.cell (hSeen.cell hbj) nosb) nosb hlt hl (by omega) (by omega) hsbc
        hob2 (by rw [hz0]; exact isSet_zero) (by rw [hz0]; exact isSet_zero) (by have := hF02.size; omega) ((HC.out.same (SameMarks.fr hFr2 (fun k h => h.elim))).up (by omega)) ?_
      rintro ds3 t9 t10 t11 t40 t41 t42 t43 t44 t45 t46 t47 t50 t51 t52 t53 t54 t55 t56 t57 t58 t59 t60 t61 t62 t63 t64 t65 t66 t67 t68 t69 t70 t71 t72 t73 t74 t75 t76 t77 t78 t79 t80 t81 F3 W3 hF3 hO3 hf3 hI1 hI2 hM3 hC3
      have hF03 : Fr (fun k => k = ob) W W3 := ⟨hF3.os.trans hF02.os, hF3.tape.trans hF02.tape, hF3.output.trans hF02.output, Nat.le_trans hF02.size hF3.size, fun q hq hx => (hF3.same q (by have := hF02.size; omega) (fun h => by have := HF1.out.size; rcases h with h | h <;> omega)).trans (hF02.same q hq hx)⟩
      have HF03 := Lib.hid hF03
      have HO3 := Lib.hid hO3
      have HC3 := Lib.hid hC3
      have HI1 := Lib.hid hI1
      have HI2 := Lib.hid hI2
      have HF3' := Lib.hid hf3
      have hwr : IntKind.i64.wrap ((k : Int) + 1) = (k : Int) + 1 := by simp [IntKind.wrap, IntKind.bits, IntKind.signed]; omega
      clear hF3 hF03 hO3 hC3 hI1 hI2 hf3 hF12 hF02 hFr2 hob2 hsbc hs1 hs2 hz0 hrng hM3 ei e3 e5 e7
      gi_wp2
      refine ⟨?_, ?measure⟩
      · (repeat apply Exists.intro)
        refine ⟨?_, rfl⟩
        refine ⟨k + 1, F3, by simp, by omega, HF03.out, HC3.out, HO3.out, fun j hj => ?_, fun j hj => ?_⟩
        · by_cases e : j = k
          · subst e
            intro m hm'
            have : m = ⟨mf, mh⟩ := by rw [List.getElem?_eq_getElem hlt, hm] at hm'; exact (Option.some.inj hm').symm
            subst this
            exact ⟨HI1.out, HI2.out⟩
          · rw [HF3'.out j e]; exact HFD.out j (by omega)
        · rw [HF3'.out j (by omega)]; exact HZ.out j (by omega)
      case measure =>
        simp [intOf]
        omega
    · obtain rfl : k = l.length := by omega
      gi_wp2
      exact hdone dfs _ _ _ _ _ _ _ _ _ _ _ _ _ _ _ _ _ _ _ _ _ _ _ _ _ _ _ _ _ _ _ _ _ _ _ _ _ _ _ _ _ _ _ _ _ _ _ _ _ _ _ _ _ _ _ _ _ _ _ F wr hF hOu hfd hC
end Go.Proofs.Ytdnjmhhjjbdieaa.Q
end

section
/- Who: what it returns, as a list; its walk. -/
namespace Go.Proofs.Ytdnjmhhjjbdieaa.Q
open Go.RowKit Go.Shelf Go.Proofs.YtdnjmhhjjbdieaaW.PrintWords Go.Proofs.YtdnjmhhjjbdieaaW.PrintLast
set_option linter.unusedVariables false
set_option linter.unusedSimpArgs false
attribute [local go_sem] Oper.semAt_some


/-! ### the states, as lists -/
def addSt (S : List St) (y : St) : List St := if y ∈ S then S else S ++ [y]
theorem mem_addAll (ys : List St) : ∀ (S : List St) (x : St), x ∈ ys.foldl addSt S ↔ x ∈ S ∨ x ∈ ys := by
  induction ys with
  | nil => intro S x; simp
  | cons y ys ih =>
    intro S x
    rw [List.foldl_cons, ih]
    have h : x ∈ addSt S y ↔ x ∈ S ∨ x = y := by
      unfold addSt
      split
      · rename_i hy
        exact ⟨.inl, fun h => h.elim id (fun e => e ▸ hy)⟩
      · simp
    rw [h, List.mem_cons, or_assoc]
def nextL (least most short : Int) (n : Nat) (m : S52) (S : List St) : List St := (S.flatMap fun x => (partsOf least most short x m.f0 m.f1 n).map (·.2)).foldl addSt []
theorem mem_nextL {least most short : Int} {n : Nat} {m : S52} {S : List St} {y : St} : y ∈ nextL least most short n m S ↔ nexts least most short n m.f0 m.f1 (fun x => x ∈ S) y := by
  unfold nextL nexts
  rw [mem_addAll]
  simp only [List.not_mem_nil, false_or, List.mem_flatMap, List.mem_map]
def fwdL (least most short : Int) (n : Nat) (l : List S52) : Nat → List St
  | 0 => [beginSt]
  | j + 1 => match l[j]? with | some m => nextL least most short n m (fwdL least most short n l j) | none => []
theorem mem_fwdL {least most short : Int} {n : Nat} {l : List S52} : ∀ (j : Nat) (y : St), y ∈ fwdL least most short n l j ↔ fwd least most short n l j y
  | 0, y => by simp [fwdL, fwd]
  | j + 1, y => by
    cases hm : l[j]? with
    | none => simp [fwdL, fwd, hm]
    | some m =>
      simp only [fwdL, fwd, hm, mem_nextL]
      unfold nexts
      exact exists_congr (fun x => and_congr (mem_fwdL j x) Iff.rfl)
def tellB (least most short : Int) (n : Nat) : List S52 → St → Bool
  | [], _ => true
  | m :: l, x => (partsOf least most short x m.f0 m.f1 n).any fun p => tellB least most short n l p.2
theorem tellB_iff {least most short : Int} {n : Nat} : ∀ (l : List S52) (x : St), tellB least most short n l x = true ↔ tellable least most short n l x
  | [], x => by simp [tellB, tellable]
  | m :: l, x => by
    simp only [tellB, tellable, List.any_eq_true]
    exact exists_congr (fun p => and_congr Iff.rfl (tellB_iff l p.2))
def prunedL (least most short : Int) (n : Nat) (l : List S52) (j : Nat) : List St := (fwdL least most short n l j).filter (tellB least most short n (l.drop j))
theorem mem_prunedL {least most short : Int} {n : Nat} {l : List S52} {j : Nat} {y : St} : y ∈ prunedL least most short n l j ↔ pruned least most short n l 0 j y := by
  unfold prunedL pruned
  rw [List.mem_filter, mem_fwdL, tellB_iff]
  exact and_congr Iff.rfl ⟨fun h _ => h, fun h => h (Nat.zero_le _)⟩

/-- The parts of a moment that lie on a telling. -/
def goodParts (least most short : Int) (n : Nat) (l : List S52) (j : Nat) (m : S52) : List (Int × Int) :=
  (prunedL least most short n l j).flatMap fun x => ((partsOf least most short x m.f0 m.f1 n).filter fun p => decide (p.2 ∈ prunedL least most short n l (j + 1))).map (·.1)
theorem mem_goodParts {least most short : Int} {n : Nat} {l : List S52} {j : Nat} {m : S52} {q : Int × Int} : q ∈ goodParts least most short n l j m ↔
    ∃ x, pruned least most short n l 0 j x ∧ ∃ p ∈ partsOf least most short x m.f0 m.f1 n, pruned least most short n l 0 (j + 1) p.2 ∧ p.1 = q := by
  unfold goodParts
  rw [List.mem_flatMap]
  refine exists_congr (fun x => and_congr mem_prunedL ?_)
  rw [List.mem_map]
  refine exists_congr (fun p => ?_)
  rw [List.mem_filter, decide_eq_true_eq, mem_prunedL, and_assoc]
/-- Who may have the floor, and be heard, in a moment. -/
def toldOf (least most short : Int) (n : Nat) (l : List S52) (j : Nat) : S54 :=
  match l[j]? with
  | some m => ⟨orOf ((goodParts least most short n l j m).map (·.1)), orOf ((goodParts least most short n l j m).map (·.2))⟩
  | none => ⟨0, 0⟩
theorem good_range {least most short : Int} {n : Nat} (hn : n ≤ 12) {l : List S52} {j : Nat} {m : S52} {q : Int × Int} (h : q ∈ goodParts least most short n l j m) : (-1 ≤ q.1 ∧ q.1 < n) ∧ (-1 ≤ q.2 ∧ q.2 < n) := by
  obtain ⟨x, _, p, hp, _, rfl⟩ := mem_goodParts.1 h
  obtain ⟨h1, h2, _⟩ := mem_partsOf.1 hp
  have a := mem_upTo.1 h1
  have b := mem_upTo.1 h2
  omega
theorem found_told {least most short : Int} {n : Nat} (hn : n ≤ 12) {l : List S52} {j : Nat} (hj : j < l.length) {v : Int × Int} (h : Found least most short n l j v) : v = ((toldOf least most short n l j).f0, (toldOf least most short n l j).f1) := by
  obtain ⟨h1, h2⟩ := h l[j] (List.getElem?_eq_getElem hj)
  have e : toldOf least most short n l j = ⟨orOf ((goodParts least most short n l j l[j]).map (·.1)), orOf ((goodParts least most short n l j l[j]).map (·.2))⟩ := by
    unfold toldOf; rw [List.getElem?_eq_getElem hj]
  have k1 : IsSet (orOf ((goodParts least most short n l j l[j]).map (·.1))) (holdBy least most short n l[j].f0 l[j].f1 (pruned least most short n l 0 j) (pruned least most short n l 0 (j + 1))) :=
    (orOf_isSet (fun q hq => by obtain ⟨r, hr, rfl⟩ := List.mem_map.1 hq; have := good_range hn hr; omega)).congr (fun q _ _ => by
      rw [List.mem_map]
      exact ⟨fun ⟨r, hr, e⟩ => by obtain ⟨x, hx, p, hp, ht, rfl⟩ := mem_goodParts.1 hr; exact ⟨x, hx, p, hp, ht, e⟩, fun ⟨x, hx, p, hp, ht, e⟩ => ⟨p.1, mem_goodParts.2 ⟨x, hx, p, hp, ht, rfl⟩, e⟩⟩)
  have k2 : IsSet (orOf ((goodParts least most short n l j l[j]).map (·.2))) (voiceBy least most short n l[j].f0 l[j].f1 (pruned least most short n l 0 j) (pruned least most short n l 0 (j + 1))) :=
    (orOf_isSet (fun q hq => by obtain ⟨r, hr, rfl⟩ := List.mem_map.1 hq; have := good_range hn hr; omega)).congr (fun q _ _ => by
      rw [List.mem_map]
      exact ⟨fun ⟨r, hr, e⟩ => by obtain ⟨x, hx, p, hp, ht, rfl⟩ := mem_goodParts.1 hr; exact ⟨x, hx, p, hp, ht, e⟩, fun ⟨x, hx, p, hp, ht, e⟩ => ⟨p.1, mem_goodParts.2 ⟨x, hx, p, hp, ht, rfl⟩, e⟩⟩)
  rw [e]
  exact Prod.ext (h1.unique k1) (h2.unique k2)

/-- Can the scene be told? -/
theorem fwd_later {least most short : Int} {n : Nat} {l : List S52} {i : Nat} (h : ∀ x, ¬ fwd least most short n l i x) : ∀ d x, ¬ fwd least most short n l (i + d) x
  | 0, x => h x
  | d + 1, x => fun hx => by
    have hx : fwd least most short n l ((i + d) + 1) x := hx
    cases hm : l[i + d]? with
    | none => simp [fwd, hm] at hx
    | some m =>
      simp only [fwd, hm] at hx
      obtain ⟨y, hy, _⟩ := hx
      exact fwd_later h d y hy

/-- What Who returns. -/
def floor_Who.f (a0_0 a0_1 a0_2 a0_3 : Int) (l0_4 : List S52) : Option (List S54 × Int) :=
  match floor_Scene_check.f a0_0 a0_1 a0_2 a0_3 l0_4 with
  | none => none
  | some r => if r = 0 then
      if (fwdL a0_1 a0_2 a0_3 a0_0.toNat l0_4 l0_4.length).isEmpty then some ([], 10) else some ((List.range l0_4.length).map (toldOf a0_1 a0_2 a0_3 a0_0.toNat l0_4), 0)
    else some ([], r)

theorem fwdL_empty {least most short : Int} {n : Nat} {l : List S52} {j : Nat} : (fwdL least most short n l j).isEmpty = true ↔ ∀ x, ¬ fwd least most short n l j x := by
  rw [List.isEmpty_iff, List.eq_nil_iff_forall_not_mem]
  exact forall_congr' (fun x => not_congr (mem_fwdL j x))

theorem take_two {α : Type} {l : List α} {k : Nat} {a b : α} (h0 : l[k]? = some a) (h1 : l[k + 1]? = some b) : (l.drop k).take 2 = [a, b] := by
  obtain ⟨k0, rfl⟩ := List.getElem?_eq_some_iff.1 h0
  obtain ⟨k1, rfl⟩ := List.getElem?_eq_some_iff.1 h1
  rw [List.drop_eq_getElem_cons k0, List.drop_eq_getElem_cons k1]
  rfl

/-- The pairs, as the kit reads them. -/
theorem Out.told {ob : Nat} {F : Nat → Int × Int} {ts : List S54} {w : World} {base : Nat} (h : Out ob ts.length F w) (hb : base ≤ ob) (hF : ∀ j t, ts[j]? = some t → F j = (t.f0, t.f1)) (hl : ts.length ≤ 40) :
    Kd.R k54 54 w base (fun _ => True) (.slice (some ⟨ob, 0, none⟩) ts.length ts.length) ts := by
  obtain ⟨cs, h1, h2, h3⟩ := h
  have hz : k54.sz = 2 := rfl
  have hcl : cs.toList.length = ts.length * k54.sz := by rw [hz]; simpa using h2
  refine ⟨fun _ _ => trivial, cs.toList, ⟨hcl, .inr ⟨ob, ts.length, cs, rfl, hb, h1, Nat.le_refl _, by unfold maxLen; omega, h2, ?_⟩⟩, hcl, fun j p hp => ?_⟩
  · rw [hz]; exact List.take_of_length_le (by simp; omega)
  · obtain ⟨hj, _⟩ := List.getElem?_eq_some_iff.1 hp
    obtain ⟨c0, c1⟩ := h3 j hj
    rw [hF j p hp] at c0 c1
    have e : (cs.toList.drop (j * 2)).take 2 = [.int .u16 p.f0, .int .u16 p.f1] := take_two (by simpa using c0) (by simpa using c1)
    show k54.M _ _ _ p ((cs.toList.drop (j * 2)).take 2)
    rw [e]
    exact ⟨[.int .u16 p.f0], [.int .u16 p.f1], rfl, rfl, rfl⟩
end Go.Proofs.Ytdnjmhhjjbdieaa.Q
end

section
/- The walk of Tell: the choice of a part in a moment. -/
namespace Go.Proofs.Ytdnjmhhjjbdieaa.Q
open Go.RowKit Go.Shelf Go.Proofs.YtdnjmhhjjbdieaaW.PrintWords Go.Proofs.YtdnjmhhjjbdieaaW.PrintLast
set_option linter.unusedVariables false
set_option linter.unusedSimpArgs false
attribute [local go_sem] Oper.semAt_some


theorem ownFrom_R {γ α : Type} {d : Kd α} {e B base : Nat} {v : Value} {xs : List α} : OwnFrom B (fun (_ : γ) W => d.R e W base (fun _ => True) v xs) := fun s W W' row hs hg hr =>
  Kd.R_mono (Kd.R_step (Kd.R_bound hs) (fun k hk hl => hg.block k hl (fun e2 => by
    obtain ⟨_, _, _, q, _, cells, hc⟩ := hk
    obtain ⟨_, o, ho, hoc⟩ := hr k e2.symm
    rw [hc] at ho; cases ho; cases hoc))) (fun _ _ => trivial)

/-- What has been told behind a moment: x the state before it, T the states that the rest can be told from. -/
def Picked (least most short mf mh : Int) (n : Nat) (x : St) (T : St → Prop) (ps ps' : List S65) (x' : St) : Prop :=
  (∃ pre p post, partsOf least most short x mf mh n = pre ++ p :: post ∧ (∀ q ∈ pre, ¬ T q.2) ∧ T p.2 ∧ ps' = ps ++ [⟨p.1.1, p.1.2⟩] ∧ x' = p.2) ∨
  ((∀ q ∈ partsOf least most short x mf mh n, ¬ T q.2) ∧ ps' = ps ∧ x' = x)

set_option maxRecDepth 100000 in
set_option maxHeartbeats 4000000 in
theorem tell.pick (n : Nat) (hn : n ≤ 12) (least most short mf mh : Int) (vv : Value) (x : St) (T : St → Prop) (i : Nat) (hi : i ≤ 45) (hx : Small x i)
    (xc oc atc ic g sb lenS cS j bj lo : Nat) (gcs : Array Value) (ov : Value) (ps : List S65) (ds : List Deferred) (Q : Exit → Act → World → Prop) (v0 v1 v2 v3 v5 v9 v10 v11 v12 v13 v14 v15 v16 v17 v18 v19 v20 v21 v22 v23 v24 v25 v26 v27 v28 v29 v30 v31 v33 v34 v35 v36 v37 v38 v39 v40 v41 v42 v43 v44 v45 v46 v47 v48 v49 v50 v51 : Value) (W0 W : World)
    (hPA : PartsAt n least most short mf mh vv x W0 W) (hb : MapIs EB W0 bj (setOf T))
    (h3 : W0.heap[xc]? = some (.cells #[.pointer (some ⟨g, 0, none⟩)] 101 (0, 0)))
    (h4 : W0.heap[oc]? = some (.cells #[ov] 61 (0, 0)))
    (ha : W0.heap[atc]? = some (.cells #[.int .i64 x.holder, .int .i64 x.turn, .int .i64 x.short, .bool x.own] 109 (0, 0)))
    (h5 : W0.heap[ic]? = some (.cells #[.int .i64 j] 3 (0, 0)))
    (h6 : W0.heap[g]? = some (.cells gcs 107 (0, 0))) (h6' : gcs[5]? = some (.slice (some ⟨sb, 0, none⟩) lenS cS))
    (h7 : W0.cell? ⟨sb, j + 1, none⟩ = some (.map (some bj))) (hlS : j + 1 < lenS) (hlS2 : lenS ≤ 100)
    (hR : Kd.R k65 65 W0 lo (fun _ => True) ov ps) (hps : ps.length ≤ 100) (hlo : lo ≤ W0.heap.size) (hds : Coll lo W0.heap.size ds W0)
    (hdone : ∀ (ds' : List Deferred) (ov' : Value) (ps' : List S65) (x' : St) (W' : World), Picked least most short mf mh n x T ps ps' x' → Fr (fun k => k = oc ∨ k = atc ∨ ov.ownBlock = some k) W0 W' →
      W'.heap[oc]? = some (.cells #[ov'] 61 (0, 0)) → W'.heap[atc]? = some (.cells #[.int .i64 x'.holder, .int .i64 x'.turn, .int .i64 x'.short, .bool x'.own] 109 (0, 0)) → Kd.R k65 65 W' lo (fun _ => True) ov' ps' → Coll lo W'.heap.size ds' W' →
      Q .normal { tmps := (List.toArray (v0 :: v1 :: v2 :: v3 :: (.pointer (some ⟨xc, 0, none⟩)) :: v5 :: (.pointer (some ⟨oc, 0, none⟩)) :: (.pointer (some ⟨atc, 0, none⟩)) :: (.pointer (some ⟨ic, 0, none⟩)) :: v9 :: v10 :: v11 :: v12 :: v13 :: v14 :: v15 :: v16 :: v17 :: v18 :: v19 :: v20 :: v21 :: v22 :: v23 :: v24 :: v25 :: v26 :: v27 :: v28 :: v29 :: v30 :: v31 :: (.func (.func 73) #[] #[.pointer (some ⟨W0.heap.size, 0, none⟩), .pointer (some ⟨W0.heap.size + 2, 0, none⟩), .pointer (some ⟨W0.heap.size + 3, 0, none⟩), .pointer (some ⟨W0.heap.size + 1, 0, none⟩)]) :: v33 :: v34 :: v35 :: v36 :: v37 :: v38 :: v39 :: v40 :: v41 :: v42 :: v43 :: v44 :: v45 :: v46 :: v47 :: v48 :: v49 :: v50 :: v51 :: [])), defers := ds' } W') :
    (blockOf 2 Try.f31).wpIn Fence.wide 0 Try.prog (Exit.inBlock 2 Q) { tmps := (List.toArray (v0 :: v1 :: v2 :: v3 :: (.pointer (some ⟨xc, 0, none⟩)) :: v5 :: (.pointer (some ⟨oc, 0, none⟩)) :: (.pointer (some ⟨atc, 0, none⟩)) :: (.pointer (some ⟨ic, 0, none⟩)) :: v9 :: v10 :: v11 :: v12 :: v13 :: v14 :: v15 :: v16 :: v17 :: v18 :: v19 :: v20 :: v21 :: v22 :: v23 :: v24 :: v25 :: v26 :: v27 :: v28 :: v29 :: v30 :: v31 :: (.func (.func 73) #[] #[.pointer (some ⟨W0.heap.size, 0, none⟩), .pointer (some ⟨W0.heap.size + 2, 0, none⟩), .pointer (some ⟨W0.heap.size + 3, 0, none⟩), .pointer (some ⟨W0.heap.size + 1, 0, none⟩)]) :: v33 :: v34 :: v35 :: v36 :: v37 :: v38 :: v39 :: v40 :: v41 :: v42 :: v43 :: v44 :: v45 :: v46 :: v47 :: v48 :: v49 :: v50 :: v51 :: [])), defers := ds } W := by
  conv => arg 4; whnf
  have hmx : Try.prog.follows .mixedOrders = true := by kernel_rfl
  have hu1 := Try.underlying109
  have hu3 := Try.underlying107
  have hu5 := Try.underlying65
  have hbW := hPA.below
  have hsW := hPA.size
  have hFW : Fr (fun _ => False) W0 W := Fr.of_below hbW (fun k q1 q2 => by omega)
  have koc := (Array.getElem?_eq_some_iff.1 h4).1
  have katc := (Array.getElem?_eq_some_iff.1 ha).1
  have kxc := (Array.getElem?_eq_some_iff.1 h3).1
  have kic := (Array.getElem?_eq_some_iff.1 h5).1
  have kg := (Array.getElem?_eq_some_iff.1 h6).1
  have g3 := (hbW.block _ kxc).trans h3
  have g4 := (hbW.block _ koc).trans h4
  have ga := (hbW.block _ katc).trans ha
  have g5 := (hbW.block _ kic).trans h5
  have g6 := (hbW.block _ kg).trans h6
  have g7 := hFW.cell h7 (by simp)
  have hbM : MapIs EB W bj (setOf T) := hb.same (hbW.block _ hb.lt)
  have hRW : Kd.R k65 65 W lo (fun _ => True) ov ps := Kd.R_below hR hbW
  have hov : ∀ k, ov.ownBlock = some k → k < W0.heap.size ∧ k ≠ oc ∧ k ≠ atc := fun k hk => by
    obtain ⟨_, _, hl, q, hq, cells, hc⟩ := (Kd.R_bound hR).1 k hk
    have hq1 : q = 65 := by simpa [k65, Kd.iso, Kd.pair, Kd.int, Kd.scalar] using hq
    subst hq1
    refine ⟨hl, fun e => ?_, fun e => ?_⟩
    · subst e; rw [h4] at hc; cases hc
    · subst e; rw [ha] at hc; cases hc
  have hdW : Coll lo W.heap.size ds W := (hds.same (SameMarks.below hbW (Nat.le_refl _))).up (by omega)
  have hoa : oc ≠ atc := fun e => by subst e; rw [h4] at ha; cases ha
  have H3 := Lib.hid g3
  have H4 := Lib.hid g4
  have HA := Lib.hid ga
  have H5 := Lib.hid g5
  have H6 := Lib.hid g6
  have H7 := Lib.hid g7
  have HM := Lib.hid hbM
  have HR := Lib.hid hRW
  have HOV := Lib.hid hov
  have HDW := Lib.hid hdW
  have HFW := Lib.hid hFW
  have HSW := Lib.hid hsW
  have HOA := Lib.hid hoa
  clear h3 h4 ha h5 h6 h7 g3 g4 ga g5 g6 g7 hbM hb hRW hR hov hds hdW hFW hbW hsW hoa
  gi_wp2
  have hsW := HSW.out
  refine wpIn_iter (gf := 73) (lb := #[.pointer (some ⟨W0.heap.size, 0, none⟩), .pointer (some ⟨W0.heap.size + 2, 0, none⟩), .pointer (some ⟨W0.heap.size + 3, 0, none⟩), .pointer (some ⟨W0.heap.size + 1, 0, none⟩)]) rfl (enters_of Try.func73 (by decide) rfl)
    (hPA.iter hn hx (by omega)) (Nat.le_refl _) (fun _ _ => rfl) (fun k hk => by have := hk.2; omega) (fun _ => rfl)
    (fun pre W' => (∀ q ∈ pre, ¬ T q.2) ∧ Fr (fun _ => False) W W')
    (fun c pre W' => c = .exit 2 ∧ ∃ q p, pre = q ++ [p] ∧ (∀ r ∈ q, ¬ T r.2) ∧ T p.2 ∧ ∃ ov', Fr (fun k => k = oc ∨ k = atc ∨ ov.ownBlock = some k) W W' ∧ W'.heap[oc]? = some (.cells #[ov'] 61 (0, 0)) ∧
      W'.heap[atc]? = some (.cells #[.int .i64 p.2.holder, .int .i64 p.2.turn, .int .i64 p.2.short, .bool p.2.own] 109 (0, 0)) ∧ Kd.R k65 65 W' lo (fun _ => True) ov' (ps ++ [⟨p.1.1, p.1.2⟩]))
    (OwnFrom.and (ownFrom_pure _ _) (ownFrom_fr (Nat.le_refl _)))
    (fun c => fun s A A' row hs hg hr => by
      obtain ⟨q0, q, p, q1, q2, q3, ov', q4, q5, q6, q7⟩ := hs
      exact ⟨q0, q, p, q1, q2, q3, ov', ownFrom_fr (Nat.le_refl _) () A A' row q4 hg hr, ownFrom_cells (fun (_ : Unit) => #[ov']) 61 () A A' row q5 hg hr,
        ownFrom_cells (fun (_ : Unit) => #[.int .i64 p.2.holder, .int .i64 p.2.turn, .int .i64 p.2.short, .bool p.2.own]) 109 () A A' row q6 hg hr, ownFrom_R () A A' row q7 hg hr⟩)
    ⟨(fun q hq => by cases hq), Fr.refl _ _⟩
    (fun pre p a' W' => ∃ B, W.heap.size ≤ B ∧ W'.heap[B]? = some (.cells #[.int .i64 p.1.1, .int .i64 p.1.2] 65 (0, 0)) ∧ W'.heap[B + 1]? = some (.cells #[.int .i64 p.2.holder, .int .i64 p.2.turn, .int .i64 p.2.short, .bool p.2.own] 109 (0, 0)) ∧ a' = { tmps := (List.toArray (v0 :: v1 :: v2 :: v3 :: (.pointer (some ⟨xc, 0, none⟩)) :: v5 :: (.pointer (some ⟨oc, 0, none⟩)) :: (.pointer (some ⟨atc, 0, none⟩)) :: (.pointer (some ⟨ic, 0, none⟩)) :: v9 :: (.pointer (some ⟨B, 0, none⟩)) :: (.pointer (some ⟨B + 1, 0, none⟩)) :: v12 :: v13 :: v14 :: v15 :: v16 :: v17 :: v18 :: v19 :: v20 :: v21 :: v22 :: v23 :: v24 :: v25 :: v26 :: v27 :: v28 :: v29 :: v30 :: v31 :: (.func (.func 73) #[] #[.pointer (some ⟨W0.heap.size, 0, none⟩), .pointer (some ⟨W0.heap.size + 2, 0, none⟩), .pointer (some ⟨W0.heap.size + 3, 0, none⟩), .pointer (some ⟨W0.heap.size + 1, 0, none⟩)]) :: (.agg #[.int .i64 p.1.1, .int .i64 p.1.2]) :: (.agg #[.int .i64 p.2.holder, .int .i64 p.2.turn, .int .i64 p.2.short, .bool p.2.own]) :: v35 :: v36 :: v37 :: v38 :: v39 :: v40 :: v41 :: v42 :: v43 :: v44 :: v45 :: v46 :: v47 :: v48 :: v49 :: v50 :: v51 :: [])), defers := [] })
    (fun pre p a' _ A A' row hs hg hr => by obtain ⟨B, e1, e2, e3, e4⟩ := hs; exact ⟨B, e1, ownFrom_cells (fun (_ : Unit) => #[.int .i64 p.1.1, .int .i64 p.1.2]) 65 () A A' row e2 hg hr, ownFrom_cells (fun (_ : Unit) => #[.int .i64 p.2.holder, .int .i64 p.2.turn, .int .i64 p.2.short, .bool p.2.own]) 109 () A A' row e3 hg hr, e4⟩)
    ?assign ?body ?done ?stop
  case assign =>
    rintro l1 pre p post W4 K hx' ⟨hI1, hI2⟩ hK
    have HI1 := Lib.hid hI1
    have HI2 := Lib.hid hI2
    clear hI1 hI2
    simp only [encPart, encSt]
    gi_wp2
    have hb2 : Below W4.heap.size W4 ((W4.alloc (.cells #[.int .i64 p.1.1, .int .i64 p.1.2] 65)).alloc (.cells #[.int .i64 p.2.holder, .int .i64 p.2.turn, .int .i64 p.2.short, .bool p.2.own] 109)) := ((Below.refl _ W4).alloc (Nat.le_refl _) _).alloc (by simp) _
    exact hK _ _ (KeptC.below hb2 (Nat.le_refl _)) ⟨HI1.out, HI2.out.trans (Fr.of_below hb2 (fun k q1 q2 => by omega))⟩ ⟨W4.heap.size, HI2.out.size, heap_old (heap_new rfl), heap_new (by simp), rfl⟩
  case body =>
    rintro l1 pre p post a' W4 hx' hl1 ⟨r1, hr1⟩ ⟨hI1, hI2⟩ ⟨B, hB, hbB, hbB1, rfl⟩
    have hpm : p ∈ partsOf least most short x mf mh n := by rw [hx']; simp
    have hsp : Small p.2 (i + 1) := small_parts hn hx hpm
    obtain ⟨m1, m2, _⟩ := mem_partsOf.1 hpm
    obtain ⟨a1, a2, _⟩ := mem_upTo.1 m1
    obtain ⟨b1, b2, _⟩ := mem_upTo.1 m2
    have hMj4 : MapIs EB W4 bj (setOf T) := HM.out.same (hI2.same bj HM.out.lt (by simp))
    have hlk : (Instr.lookup 104 (.map (some bj)) (.agg #[.int .i64 p.2.holder, .int .i64 p.2.turn, .int .i64 p.2.short, .bool p.2.own]) false).run Try.prog W4.drew = .ok (.bool (setOf T p.2).isSome) W4.drew := by
      have := ((hMj4.same (w' := W4.drew) rfl).look p.2 (hsp.box (by omega)))
      cases hMp : setOf T p.2 <;> (rw [hMp] at this; exact this)
    have e3 := hI2.cell (cell_of H3.out (i := 0) rfl) (by simp)
    have e5 := hI2.cell (cell_of H5.out (i := 0) rfl) (by simp)
    have e6 := hI2.cell (cell_of H6.out h6') (by simp)
    have e7 := hI2.cell H7.out (by simp)
    have f0 := cell_of hbB (i := 0) rfl
    have f1 := cell_of hbB (i := 1) rfl
    have f2 := cell_of hbB1 (i := 0) rfl
    have f3 := cell_of hbB1 (i := 1) rfl
    have f4 := cell_of hbB1 (i := 2) rfl
    have f5 := cell_of hbB1 (i := 3) rfl
    simp only [List.getElem_toArray, List.getElem_cons_zero, List.getElem_cons_succ] at e3 e5 f0 f1 f2 f3 f4 f5
    obtain ⟨j2, hj2⟩ : ∃ j2, j + 1 = j2 := ⟨_, rfl⟩
    rw [hj2] at e7
    have hwr : IntKind.i64.wrap ((j : Int) + 1) = (j2 : Int) := by simp [IntKind.wrap, IntKind.bits, IntKind.signed]; omega
    have hjl2 : (j2 : Int) < lenS := by omega
    have HI1 := Lib.hid hI1
    have HI2 := Lib.hid hI2
    have HPM := Lib.hid hpm
    have HX' := Lib.hid hx'
    have HBB := Lib.hid hbB
    have HBB1 := Lib.hid hbB1
    clear hI1 hI2 hpm hx' hMj4 hr1 hbB hbB1 m1 m2 hj2 hsW
    gi_wp2
    refine wpIn_region_still (.round l1) hmx (by kernel_rfl) (by kernel_rfl) ?_
    repeat still_step
    refine wpStill_nil ?_
    cases hMp : setOf T p.2 with
    | none =>
      simp only [hMp, Option.isSome_none]
      clear hlk
      gi_wp2
      have hnT : ¬ T p.2 := fun h => setOf_ne.2 h hMp
      refine ⟨KeptC.drew _ _ _, fun q hq => ?_, HI2.out.trans (Fr.drew _)⟩
      rcases List.mem_append.1 hq with hq | hq
      · exact HI1.out q hq
      · rw [List.mem_singleton.1 hq]; exact hnT
    | some u =>
      simp only [hMp, Option.isSome_some]
      clear hlk
      have hT : T p.2 := setOf_some hMp
      have HT := Lib.hid hT
      clear hT hMp
      gi_wp2
      have hI2 := HI2.out
      have hsW := HSW.out
      have hz4 := hI2.size
      have hF4 : Below W.heap.size W W4 := hI2.below (Nat.le_refl _) (by simp)
      have eo := hI2.cell (cell_of H4.out (i := 0) rfl) (by simp)
      have go0 := not_frozen (i := 0) ((hF4.block _ (Array.getElem?_eq_some_iff.1 H4.out).1).trans H4.out)
      simp only [List.getElem_toArray, List.getElem_cons_zero] at eo
      have hBl := (Array.getElem?_eq_some_iff.1 HBB.out).1
      have hBl1 := (Array.getElem?_eq_some_iff.1 HBB1.out).1
      have hRw : Kd.R k65 65 W4.drew.drew lo (fun _ => True) ov ps := Kd.R_below HR.out (hF4.drew.drew)
      have HBB := HBB.out
      have HBB1 := HBB1.out
      refine startIn_ (n := 7) (S := fun w' => w'.cell? ⟨B, 0, none⟩ = some (.int .i64 p.1.1) ∧ w'.cell? ⟨B, 1, none⟩ = some (.int .i64 p.1.2) ∧ w'.cell? ⟨B + 1, 0, none⟩ = some (.int .i64 p.2.holder) ∧ w'.cell? ⟨B + 1, 1, none⟩ = some (.int .i64 p.2.turn) ∧ w'.cell? ⟨B + 1, 2, none⟩ = some (.int .i64 p.2.short) ∧ w'.cell? ⟨B + 1, 3, none⟩ = some (.bool p.2.own)) (ds := [6])
        (fun _ w' => KeptC (partsC W0.heap.size) W.heap.size W4 w' ∧ ∃ ov', Fr (fun k => k = oc ∨ k = atc ∨ ov.ownBlock = some k) W w' ∧ w'.heap[oc]? = some (.cells #[ov'] 61 (0, 0)) ∧
          w'.heap[atc]? = some (.cells #[.int .i64 p.2.holder, .int .i64 p.2.turn, .int .i64 p.2.short, .bool p.2.own] 109 (0, 0)) ∧ Kd.R k65 65 w' lo (fun _ => True) ov' (ps ++ [⟨p.1.1, p.1.2⟩]))
        #[false, false, false, false, false, false, false] hmx (by kernel_rfl) rfl rfl ⟨f0, f1, f2, f3, f4, f5⟩ (fun hHeld => ?_) ?cont
      case cont =>
        rintro a' w' ⟨hk, hov'⟩
        gi_wp2
        exact ⟨hk, rfl, pre, p, rfl, HI1.out, HT.out, hov'⟩
      refine take_ (i := 1) (N := some 46) (v := ?_) (a' := ?_) #[false, true, false, false, false, false, false] rfl rfl (by kernel_rfl) (fun _ _ _ h => h) (Or.inl ⟨by rfl, ?_⟩) hHeld ?_ ?_
      rotate_left
      · rintro w' ⟨s0, s1, s2, s3, s4, s5⟩
        go_simp
        with_reducible rfl
      rotate_left
      · simp only [Act.put, List.setIfInBounds_toArray, List.set_cons_zero, List.set_cons_succ]
        rfl
      refine take_ (i := 4) (N := some 49) (v := ?_) (a' := ?_) #[false, true, false, false, true, false, false] rfl rfl (by kernel_rfl) (fun _ _ _ h => h) (Or.inl ⟨by rfl, ?_⟩) hHeld ?_ ?_
      rotate_left
      · rintro w' ⟨s0, s1, s2, s3, s4, s5⟩
        go_simp
        with_reducible rfl
      rotate_left
      · simp only [Act.put, List.setIfInBounds_toArray, List.set_cons_zero, List.set_cons_succ]
        rfl
      have hoz : oc < W4.heap.size := by have := (Array.getElem?_eq_some_iff.1 H4.out).1; omega
      have haz : atc < W4.heap.size := by have := (Array.getElem?_eq_some_iff.1 HA.out).1; omega
      have hS : ∀ w' : World, w'.heap[B]? = W4.heap[B]? → w'.heap[B + 1]? = W4.heap[B + 1]? → w'.cell? ⟨B, 0, none⟩ = some (.int .i64 p.1.1) ∧ w'.cell? ⟨B, 1, none⟩ = some (.int .i64 p.1.2) ∧ w'.cell? ⟨B + 1, 0, none⟩ = some (.int .i64 p.2.holder) ∧ w'.cell? ⟨B + 1, 1, none⟩ = some (.int .i64 p.2.turn) ∧ w'.cell? ⟨B + 1, 2, none⟩ = some (.int .i64 p.2.short) ∧ w'.cell? ⟨B + 1, 3, none⟩ = some (.bool p.2.own) := fun w' q1 q2 =>
        ⟨cell_of (q1.trans HBB) rfl, cell_of (q1.trans HBB) rfl, cell_of (q2.trans HBB1) rfl, cell_of (q2.trans HBB1) rfl, cell_of (q2.trans HBB1) rfl, cell_of (q2.trans HBB1) rfl⟩
      refine two_ (i := 0) (j := 2) (Ni := some 45) (Nj := some 47) #[true, true, false, false, true, false, false] #[false, true, true, false, true, false, false] rfl rfl rfl rfl (by kernel_rfl) (by decide) (by decide) (fun K hK => ?_) (fun K hK => ?_)
      · refine value_ (w1 := ?_) (v := ?_) (by rfl) rfl ?_ ?_
        rotate_left 2
        · go_simp
          constructor
          · rfl
          · rfl
        refine hK.out _ _ (hS _ rfl rfl) (fun hHeld => ?_)
        clear hK K
        refine norm_ (a' := ?_) ?_ ?_
        rotate_left
        · show Act.put _ (some 45) _ = _
          simp only [Act.put, List.setIfInBounds_toArray, List.set_cons_zero, List.set_cons_succ]
          rfl
        refine one_ (i := 2) (N := some 47) #[true, true, true, false, true, false, false] rfl rfl (by kernel_rfl) (by decide) (fun K hK => ?_)
        refine value_ (w1 := ?_) (v := ?_) (by rfl) rfl ?_ ?_
        rotate_left 2
        · go_simp
          constructor
          · rfl
          · rfl
        refine hK.out _ _ (hS _ (Below.heap_alloc _ _ _ hBl) (Below.heap_alloc _ _ _ hBl1)) (fun hHeld => ?_)
        clear hK K
        refine norm_ (a' := ?_) ?_ ?_
        rotate_left
        · show Act.put _ (some 47) _ = _
          simp only [Act.put, List.setIfInBounds_toArray, List.set_cons_zero, List.set_cons_succ]
          rfl
        refine one_ (i := 3) (N := some 48) #[true, true, true, true, true, false, false] rfl rfl (by kernel_rfl) (by decide) (fun K hK => ?_)
        refine Kd.R_append_step k65 (w0 := W4.drew.drew) (W := W4.drew.drew) lo (by rfl) (.tmp 45) (.tmp 47) 61 65 (.agg #[(.int .i64 0), (.int .i64 0)]) 16 rfl Try.underlying61 info65 rfl (by decide) (by omega) ov ps (⟨p.1.1, p.1.2⟩ : S65) [.int .i64 p.1.1, .int .i64 p.1.2] (fun _ => True) (fun _ => False) rfl rfl (k65_mkM _ _ _ (⟨p.1.1, p.1.2⟩ : S65)) (fun _ hk => hk.elim) (fun _ _ => trivial) hRw (Below.refl _ _) (by show lo ≤ W4.heap.size; omega) (by omega) ?_
        intro v1 W6 hR6 _ hg6 hat6
        obtain ⟨A1, cp1, rfl⟩ := Kd.R_slice hR6
        obtain ⟨v1, hv1⟩ : ∃ v1, Value.slice A1 (ps ++ [(⟨p.1.1, p.1.2⟩ : S65)]).length cp1 = v1 := ⟨_, rfl⟩
        have hov := HOV.out
        have hneB : some B ≠ ov.ownBlock := fun e => by have := (hov B e.symm).1; omega
        have hneB1 : some (B + 1) ≠ ov.ownBlock := fun e => by have := (hov (B + 1) e.symm).1; omega
        have hneo : some oc ≠ ov.ownBlock := fun e => (hov oc e.symm).2.1 rfl
        have hnea : some atc ≠ ov.ownBlock := fun e => (hov atc e.symm).2.2 rfl
        have q6B := hg6.block B hBl hneB
        have q6B1 := hg6.block (B + 1) hBl1 hneB1
        have q6o := ((hg6.block oc hoz hneo).trans (hF4.block _ (Array.getElem?_eq_some_iff.1 H4.out).1)).trans H4.out
        have q6a := ((hg6.block atc haz hnea).trans (hF4.block _ (Array.getElem?_eq_some_iff.1 HA.out).1)).trans HA.out
        rw [hv1] at hR6 hat6 ⊢
        refine hK.out _ _ (hS _ q6B q6B1) (fun hHeld => ?_)
        clear hK K
        refine norm_ (a' := ?_) ?_ ?_
        rotate_left
        · show Act.put _ (some 48) _ = _
          simp only [Act.put, List.setIfInBounds_toArray, List.set_cons_zero, List.set_cons_succ]
          rfl
        refine one_ (i := 5) (N := none) #[true, true, true, true, true, true, false] rfl rfl (by kernel_rfl) (by decide) (fun K hK => ?_)
        have c6o := cell_of q6o (i := 0) rfl
        have z6o := not_frozen (i := 0) q6o
        simp only [List.getElem_toArray, List.getElem_cons_zero] at c6o
        refine skip_ (w1 := W6.setCell ⟨oc, 0, none⟩ v1) (by rfl) rfl ?_ ?_
        · rw [← hv1]; go_simp
        have hHs := HOA.out
        have q7a := (Below.heap_setCell W6 ⟨oc, 0, none⟩ v1 atc (fun e => hHs e.symm)).trans q6a
        have q7o := heap_set q6o 0 v1
        refine hK.out _ _ (hS _ ((Below.heap_setCell W6 ⟨oc, 0, none⟩ v1 B (fun e => by subst e; omega)).trans q6B) ((Below.heap_setCell W6 ⟨oc, 0, none⟩ v1 (B + 1) (fun e => by have : B + 1 = oc := e; omega)).trans q6B1)) (fun hHeld => ?_)
        clear hK K
        refine last_ (i := 6) (N := none) #[true, true, true, true, true, true, true] rfl rfl (by kernel_rfl) (by decide) (fun K hK => ?_)
        obtain ⟨W7, hW7⟩ : ∃ W7, W6.setCell ⟨oc, 0, none⟩ v1 = W7 := ⟨_, rfl⟩
        rw [hW7] at q7a q7o ⊢
        have c0 := cell_of q7a (i := 0) rfl
        have c1 := cell_of q7a (i := 1) rfl
        have c2 := cell_of q7a (i := 2) rfl
        have c3 := cell_of q7a (i := 3) rfl
        have z0 := not_frozen (i := 0) q7a
        have z1 := not_frozen (i := 1) q7a
        have z2 := not_frozen (i := 2) q7a
        have z3 := not_frozen (i := 3) q7a
        simp only [List.getElem_toArray, List.getElem_cons_zero, List.getElem_cons_succ] at c0 c1 c2 c3
        refine skip_ (w1 := (((W7.setCell ⟨atc, 0, none⟩ (.int .i64 p.2.holder)).setCell ⟨atc, 1, none⟩ (.int .i64 p.2.turn)).setCell ⟨atc, 2, none⟩ (.int .i64 p.2.short)).setCell ⟨atc, 3, none⟩ (.bool p.2.own)) (by rfl) rfl ?_ ?_
        · go_simp
        refine hK.out _ _ (done_ (by kernel_rfl) ?_)
        have hHs := HOA.out
        have hFx : Fr (fun k => k = oc ∨ k = atc ∨ ov.ownBlock = some k) W4 W7 := by
          rw [← hW7]
          exact (((Fr.drew W4).trans (Fr.drew _)).trans (Fr.grown hg6 (fun r e => .inr (.inr e)))).trans (Fr.setCell _ _ _ (.inl rfl))
        have hkx : KeptC (partsC W0.heap.size) W.heap.size W4 W7 := by
          rw [← hW7]
          refine (((KeptC.drew _ _ _).trans (KeptC.drew _ _ _)).trans (KeptC.grown hg6 (fun k e => ?_))).trans (KeptC.setCell _ _ _ (fun hc => ?_) (by show oc < W.heap.size; have := (Array.getElem?_eq_some_iff.1 H4.out).1; omega))
          · have := (hov k e).1
            exact ⟨fun hc => by have : W0.heap.size ≤ k := hc.1; omega, by omega⟩
          · have : W0.heap.size ≤ oc := hc.1
            omega
        have hR7 : Kd.R k65 65 W7 lo (fun _ => True) v1 (ps ++ [⟨p.1.1, p.1.2⟩]) := by
          rw [← hW7]
          exact Kd.R_set hR6 q6o (fun q hq => by
            have hq1 : q = 65 := by simpa [k65, Kd.iso, Kd.pair, Kd.int, Kd.scalar] using hq
            subst hq1; decide) 0 v1
        have hty : ∀ q, q ∈ 65 :: (k65).E → q ≠ 109 := fun q hq => by
          have hq1 : q = 65 := by simpa [k65, Kd.iso, Kd.pair, Kd.int, Kd.scalar] using hq
          subst hq1; decide
        have r0 := heap_set q7a 0 (.int .i64 p.2.holder)
        have r1 := heap_set r0 1 (.int .i64 p.2.turn)
        have r2 := heap_set r1 2 (.int .i64 p.2.short)
        have r3 := heap_set r2 3 (.bool p.2.own)
        have kz : ¬ partsC W0.heap.size atc := fun hc => by have : W0.heap.size ≤ atc := hc.1; omega
        have kz2 : atc < W.heap.size := by have := (Array.getElem?_eq_some_iff.1 HA.out).1; omega
        refine ⟨(((hkx.trans (KeptC.setCell _ _ _ kz kz2)).trans (KeptC.setCell _ _ _ kz kz2)).trans (KeptC.setCell _ _ _ kz kz2)).trans (KeptC.setCell _ _ _ kz kz2), v1,
          (((((hI2.mono (fun k _ h => h.elim)).trans hFx).trans (Fr.setCell _ _ _ (.inr (.inl rfl)))).trans (Fr.setCell _ _ _ (.inr (.inl rfl)))).trans (Fr.setCell _ _ _ (.inr (.inl rfl)))).trans (Fr.setCell _ _ _ (.inr (.inl rfl))), ?_, ?_, ?_⟩
        · refine (Below.heap_setCell _ _ _ _ hHs).trans ((Below.heap_setCell _ _ _ _ hHs).trans ((Below.heap_setCell _ _ _ _ hHs).trans ((Below.heap_setCell _ _ _ _ hHs).trans ?_)))
          simpa using q7o
        · simpa using r3
        · exact Kd.R_set (Kd.R_set (Kd.R_set (Kd.R_set hR7 q7a hty 0 _) r0 hty 1 _) r1 hty 2 _) r2 hty 3 _
      · refine value_ (w1 := ?_) (v := ?_) (by rfl) rfl ?_ ?_
        rotate_left 2
        · go_simp
          constructor
          · rfl
          · rfl
        refine hK.out _ _ (hS _ (Below.heap_alloc _ _ _ hBl) (Below.heap_alloc _ _ _ hBl1)) (fun hHeld => ?_)
        clear hK K
        refine norm_ (a' := ?_) ?_ ?_
        rotate_left
        · show Act.put _ (some 47) _ = _
          simp only [Act.put, List.setIfInBounds_toArray, List.set_cons_zero, List.set_cons_succ]
          rfl
        refine one_ (i := 0) (N := some 45) #[true, true, true, false, true, false, false] rfl rfl (by kernel_rfl) (by decide) (fun K hK => ?_)
        refine value_ (w1 := ?_) (v := ?_) (by rfl) rfl ?_ ?_
        rotate_left 2
        · go_simp
          constructor
          · rfl
          · rfl
        refine hK.out _ _ (hS _ (Below.heap_alloc _ _ _ hBl) (Below.heap_alloc _ _ _ hBl1)) (fun hHeld => ?_)
        clear hK K
        refine norm_ (a' := ?_) ?_ ?_
        rotate_left
        · show Act.put _ (some 45) _ = _
          simp only [Act.put, List.setIfInBounds_toArray, List.set_cons_zero, List.set_cons_succ]
          rfl
        refine one_ (i := 3) (N := some 48) #[true, true, true, true, true, false, false] rfl rfl (by kernel_rfl) (by decide) (fun K hK => ?_)
        refine Kd.R_append_step k65 (w0 := W4.drew.drew) (W := W4.drew.drew) lo (by rfl) (.tmp 45) (.tmp 47) 61 65 (.agg #[(.int .i64 0), (.int .i64 0)]) 16 rfl Try.underlying61 info65 rfl (by decide) (by omega) ov ps (⟨p.1.1, p.1.2⟩ : S65) [.int .i64 p.1.1, .int .i64 p.1.2] (fun _ => True) (fun _ => False) rfl rfl (k65_mkM _ _ _ (⟨p.1.1, p.1.2⟩ : S65)) (fun _ hk => hk.elim) (fun _ _ => trivial) hRw (Below.refl _ _) (by show lo ≤ W4.heap.size; omega) (by omega) ?_
        intro v1 W6 hR6 _ hg6 hat6
        obtain ⟨A1, cp1, rfl⟩ := Kd.R_slice hR6
        obtain ⟨v1, hv1⟩ : ∃ v1, Value.slice A1 (ps ++ [(⟨p.1.1, p.1.2⟩ : S65)]).length cp1 = v1 := ⟨_, rfl⟩
        have hov := HOV.out
        have hneB : some B ≠ ov.ownBlock := fun e => by have := (hov B e.symm).1; omega
        have hneB1 : some (B + 1) ≠ ov.ownBlock := fun e => by have := (hov (B + 1) e.symm).1; omega
        have hneo : some oc ≠ ov.ownBlock := fun e => (hov oc e.symm).2.1 rfl
        have hnea : some atc ≠ ov.ownBlock := fun e => (hov atc e.symm).2.2 rfl
        have q6B := hg6.block B hBl hneB
        have q6B1 := hg6.block (B + 1) hBl1 hneB1
        have q6o := ((hg6.block oc hoz hneo).trans (hF4.block _ (Array.getElem?_eq_some_iff.1 H4.out).1)).trans H4.out
        have q6a := ((hg6.block atc haz hnea).trans (hF4.block _ (Array.getElem?_eq_some_iff.1 HA.out).1)).trans HA.out
        rw [hv1] at hR6 hat6 ⊢
        refine hK.out _ _ (hS _ q6B q6B1) (fun hHeld => ?_)
        clear hK K
        refine norm_ (a' := ?_) ?_ ?_
        rotate_left
        · show Act.put _ (some 48) _ = _
          simp only [Act.put, List.setIfInBounds_toArray, List.set_cons_zero, List.set_cons_succ]
          rfl
        refine one_ (i := 5) (N := none) #[true, true, true, true, true, true, false] rfl rfl (by kernel_rfl) (by decide) (fun K hK => ?_)
        have c6o := cell_of q6o (i := 0) rfl
        have z6o := not_frozen (i := 0) q6o
        simp only [List.getElem_toArray, List.getElem_cons_zero] at c6o
        refine skip_ (w1 := W6.setCell ⟨oc, 0, none⟩ v1) (by rfl) rfl ?_ ?_
        · rw [← hv1]; go_simp
        have hHs := HOA.out
        have q7a := (Below.heap_setCell W6 ⟨oc, 0, none⟩ v1 atc (fun e => hHs e.symm)).trans q6a
        have q7o := heap_set q6o 0 v1
        refine hK.out _ _ (hS _ ((Below.heap_setCell W6 ⟨oc, 0, none⟩ v1 B (fun e => by subst e; omega)).trans q6B) ((Below.heap_setCell W6 ⟨oc, 0, none⟩ v1 (B + 1) (fun e => by have : B + 1 = oc := e; omega)).trans q6B1)) (fun hHeld => ?_)
        clear hK K
        refine last_ (i := 6) (N := none) #[true, true, true, true, true, true, true] rfl rfl (by kernel_rfl) (by decide) (fun K hK => ?_)
        obtain ⟨W7, hW7⟩ : ∃ W7, W6.setCell ⟨oc, 0, none⟩ v1 = W7 := ⟨_, rfl⟩
        rw [hW7] at q7a q7o ⊢
        have c0 := cell_of q7a (i := 0) rfl
        have c1 := cell_of q7a (i := 1) rfl
        have c2 := cell_of q7a (i := 2) rfl
        have c3 := cell_of q7a (i := 3) rfl
        have z0 := not_frozen (i := 0) q7a
        have z1 := not_frozen (i := 1) q7a
        have z2 := not_frozen (i := 2) q7a
        have z3 := not_frozen (i := 3) q7a
        simp only [List.getElem_toArray, List.getElem_cons_zero, List.getElem_cons_succ] at c0 c1 c2 c3
        refine skip_ (w1 := (((W7.setCell ⟨atc, 0, none⟩ (.int .i64 p.2.holder)).setCell ⟨atc, 1, none⟩ (.int .i64 p.2.turn)).setCell ⟨atc, 2, none⟩ (.int .i64 p.2.short)).setCell ⟨atc, 3, none⟩ (.bool p.2.own)) (by rfl) rfl ?_ ?_
        · go_simp
        refine hK.out _ _ (done_ (by kernel_rfl) ?_)
        have hHs := HOA.out
        have hFx : Fr (fun k => k = oc ∨ k = atc ∨ ov.ownBlock = some k) W4 W7 := by
          rw [← hW7]
          exact (((Fr.drew W4).trans (Fr.drew _)).trans (Fr.grown hg6 (fun r e => .inr (.inr e)))).trans (Fr.setCell _ _ _ (.inl rfl))
        have hkx : KeptC (partsC W0.heap.size) W.heap.size W4 W7 := by
          rw [← hW7]
          refine (((KeptC.drew _ _ _).trans (KeptC.drew _ _ _)).trans (KeptC.grown hg6 (fun k e => ?_))).trans (KeptC.setCell _ _ _ (fun hc => ?_) (by show oc < W.heap.size; have := (Array.getElem?_eq_some_iff.1 H4.out).1; omega))
          · have := (hov k e).1
            exact ⟨fun hc => by have : W0.heap.size ≤ k := hc.1; omega, by omega⟩
          · have : W0.heap.size ≤ oc := hc.1
            omega
        have hR7 : Kd.R k65 65 W7 lo (fun _ => True) v1 (ps ++ [⟨p.1.1, p.1.2⟩]) := by
          rw [← hW7]
          exact Kd.R_set hR6 q6o (fun q hq => by
            have hq1 : q = 65 := by simpa [k65, Kd.iso, Kd.pair, Kd.int, Kd.scalar] using hq
            subst hq1; decide) 0 v1
        have hty : ∀ q, q ∈ 65 :: (k65).E → q ≠ 109 := fun q hq => by
          have hq1 : q = 65 := by simpa [k65, Kd.iso, Kd.pair, Kd.int, Kd.scalar] using hq
          subst hq1; decide
        have r0 := heap_set q7a 0 (.int .i64 p.2.holder)
        have r1 := heap_set r0 1 (.int .i64 p.2.turn)
        have r2 := heap_set r1 2 (.int .i64 p.2.short)
        have r3 := heap_set r2 3 (.bool p.2.own)
        have kz : ¬ partsC W0.heap.size atc := fun hc => by have : W0.heap.size ≤ atc := hc.1; omega
        have kz2 : atc < W.heap.size := by have := (Array.getElem?_eq_some_iff.1 HA.out).1; omega
        refine ⟨(((hkx.trans (KeptC.setCell _ _ _ kz kz2)).trans (KeptC.setCell _ _ _ kz kz2)).trans (KeptC.setCell _ _ _ kz kz2)).trans (KeptC.setCell _ _ _ kz kz2), v1,
          (((((hI2.mono (fun k _ h => h.elim)).trans hFx).trans (Fr.setCell _ _ _ (.inr (.inl rfl)))).trans (Fr.setCell _ _ _ (.inr (.inl rfl)))).trans (Fr.setCell _ _ _ (.inr (.inl rfl)))).trans (Fr.setCell _ _ _ (.inr (.inl rfl))), ?_, ?_, ?_⟩
        · refine (Below.heap_setCell _ _ _ _ hHs).trans ((Below.heap_setCell _ _ _ _ hHs).trans ((Below.heap_setCell _ _ _ _ hHs).trans ((Below.heap_setCell _ _ _ _ hHs).trans ?_)))
          simpa using q7o
        · simpa using r3
        · exact Kd.R_set (Kd.R_set (Kd.R_set (Kd.R_set hR7 q7a hty 0 _) r0 hty 1 _) r1 hty 2 _) r2 hty 3 _
  case done =>
    rintro D W5 hD ⟨hI1, hI2⟩ hK
    gi_wp2
    have hsW := HSW.out
    have hDl : D < W5.heap.size := (Array.getElem?_eq_some_iff.1 hK).1
    have hz5 := hI2.size
    have hF5 : Below W.heap.size W W5 := hI2.below (Nat.le_refl _) (by simp)
    exact hdone _ ov ps x W5 (.inr ⟨hI1, rfl, rfl⟩) ((HFW.out.trans hI2).mono (fun k _ h => h.elim)) ((hF5.block _ (Array.getElem?_eq_some_iff.1 H4.out).1).trans H4.out) ((hF5.block _ (Array.getElem?_eq_some_iff.1 HA.out).1).trans HA.out) (Kd.R_below HR.out hF5)
      ((HDW.out.same (SameMarks.below hF5 (Nat.le_refl _))).push (by omega) hD hDl hK)
  case stop =>
    rintro D c pre p post W5 hD hx' ⟨rfl, q, p', hq, hn', hT, ov', hF, hoc, hat, hR'⟩ hK
    obtain ⟨rfl, hpp⟩ := List.append_inj' hq rfl
    obtain rfl : p = p' := by simpa using hpp
    gi_wp2
    have hsW := HSW.out
    have hDl : D < W5.heap.size := (Array.getElem?_eq_some_iff.1 hK).1
    have hz5 := hF.size
    have hov := HOV.out
    exact hdone _ ov' _ p.2 W5 (.inl ⟨_, p, post, hx', hn', hT, rfl, rfl⟩) ((HFW.out.mono (fun k _ h => h.elim)).trans hF) hoc hat hR'
      ((HDW.out.same (SameMarks.fr hF (fun k h e => by
        rcases h with rfl | rfl | h
        · rw [H4.out] at e; cases e
        · rw [HA.out] at e; cases e
        · obtain ⟨_, _, hl, q, hq, cells, hc⟩ := (Kd.R_bound HR.out).1 k h
          rw [hc] at e; cases e))).push (by omega) hD hDl hK)
end Go.Proofs.Ytdnjmhhjjbdieaa.Q
end

section
/- The walk of Tell: what it returns, the rounds over the moments. -/
namespace Go.Proofs.Ytdnjmhhjjbdieaa.Q
open Go.RowKit Go.Shelf Go.Proofs.YtdnjmhhjjbdieaaW.PrintWords Go.Proofs.YtdnjmhhjjbdieaaW.PrintLast
set_option linter.unusedVariables false
set_option linter.unusedSimpArgs false
attribute [local go_sem] Oper.semAt_some


/-- What Tell has told of the first moments, and the state behind them. -/
def tellTo (least most short : Int) (n : Nat) (l : List S52) : Nat → List S65 × St
  | 0 => ([], beginSt)
  | k + 1 => match l[k]? with
    | none => tellTo least most short n l k
    | some m => match (partsOf least most short (tellTo least most short n l k).2 m.f0 m.f1 n).find? (fun p => tellB least most short n (l.drop (k + 1)) p.2) with
      | none => tellTo least most short n l k
      | some p => ((tellTo least most short n l k).1 ++ [⟨p.1.1, p.1.2⟩], p.2)

theorem tellTo_length (least most short : Int) (n : Nat) (l : List S52) : ∀ k, (tellTo least most short n l k).1.length ≤ k
  | 0 => Nat.le_refl _
  | k + 1 => by
    have ih := tellTo_length least most short n l k
    simp only [tellTo]
    split
    · omega
    · split
      · omega
      · simp; omega

theorem picked_tellTo {least most short : Int} {n : Nat} {l : List S52} {k : Nat} (hk : k < l.length) {ps' : List S65} {x' : St} (hf : fwd least most short n l k (tellTo least most short n l k).2)
    (h : Picked least most short l[k].f0 l[k].f1 n (tellTo least most short n l k).2 (pruned least most short n l 0 (k + 1)) (tellTo least most short n l k).1 ps' x') :
    tellTo least most short n l (k + 1) = (ps', x') := by
  have key : ∀ q ∈ partsOf least most short (tellTo least most short n l k).2 l[k].f0 l[k].f1 n, pruned least most short n l 0 (k + 1) q.2 ↔ tellB least most short n (l.drop (k + 1)) q.2 = true := fun q hq => by
    rw [tellB_iff]
    refine ⟨fun h => h.2 (Nat.zero_le _), fun h => ⟨?_, fun _ => h⟩⟩
    simp only [fwd, List.getElem?_eq_getElem hk]
    exact ⟨_, hf, q, hq, rfl⟩
  simp only [tellTo, List.getElem?_eq_getElem hk]
  rcases h with ⟨pre, p, post, hx, hn, hT, rfl, rfl⟩ | ⟨hn, rfl, rfl⟩
  · have hp : p ∈ partsOf least most short (tellTo least most short n l k).2 l[k].f0 l[k].f1 n := by rw [hx]; simp
    have : (partsOf least most short (tellTo least most short n l k).2 l[k].f0 l[k].f1 n).find? (fun p => tellB least most short n (l.drop (k + 1)) p.2) = some p := by
      rw [List.find?_eq_some_iff_append]
      refine ⟨(key p hp).1 hT, pre, post, hx, fun q hq => ?_⟩
      have hq' : q ∈ partsOf least most short (tellTo least most short n l k).2 l[k].f0 l[k].f1 n := by rw [hx]; simp [hq]
      have h1 := hn q hq
      rw [key q hq'] at h1
      simpa using h1
    rw [this]
  · have : (partsOf least most short (tellTo least most short n l k).2 l[k].f0 l[k].f1 n).find? (fun p => tellB least most short n (l.drop (k + 1)) p.2) = none := by
      rw [List.find?_eq_none]
      intro q hq h1
      exact hn q hq ((key q hq).2 h1)
    rw [this]

theorem picked_fwd {least most short : Int} {n : Nat} {l : List S52} {k : Nat} (hk : k < l.length) {ps ps' : List S65} {x x' : St} {T : St → Prop} (hf : fwd least most short n l k x)
    (hsome : ∃ p ∈ partsOf least most short x l[k].f0 l[k].f1 n, T p.2) (h : Picked least most short l[k].f0 l[k].f1 n x T ps ps' x') : fwd least most short n l (k + 1) x' := by
  simp only [fwd, List.getElem?_eq_getElem hk]
  rcases h with ⟨pre, p, post, hx, hn, hT, rfl, rfl⟩ | ⟨hn, rfl, rfl⟩
  · exact ⟨x, hf, p, by rw [hx]; simp, rfl⟩
  · obtain ⟨p, hp, hT⟩ := hsome
    exact (hn p hp hT).elim

theorem fwd_tell {least most short : Int} {n : Nat} {l : List S52} : ∀ (k d : Nat) (y : St), k + d = l.length → fwd least most short n l l.length y → ∃ x, fwd least most short n l k x ∧ tellable least most short n (l.drop k) x
  | k, 0, y, h, hf => by
    obtain rfl : k = l.length := by omega
    exact ⟨y, hf, by rw [List.drop_length]; trivial⟩
  | k, d + 1, y, h, hf => by
    obtain ⟨x, hx, ht⟩ := fwd_tell (k + 1) d y (by omega) hf
    have hk : k < l.length := by omega
    simp only [fwd, List.getElem?_eq_getElem hk] at hx
    obtain ⟨z, hz, p, hp, rfl⟩ := hx
    refine ⟨z, hz, ?_⟩
    rw [List.drop_eq_getElem_cons hk]
    exact ⟨p, hp, ht⟩

/-- What can be told: each moment is. -/
theorem tellTo_good {least most short : Int} {n : Nat} {l : List S52} (h : tellable least most short n l beginSt) : ∀ k, k ≤ l.length →
    fwd least most short n l k (tellTo least most short n l k).2 ∧ tellable least most short n (l.drop k) (tellTo least most short n l k).2 ∧ (tellTo least most short n l k).1.length = k
  | 0, _ => ⟨rfl, h, rfl⟩
  | k + 1, hk => by
    obtain ⟨h1, h2, h3⟩ := tellTo_good h k (by omega)
    have hk' : k < l.length := by omega
    rw [List.drop_eq_getElem_cons hk'] at h2
    obtain ⟨p, hp, ht⟩ := h2
    simp only [tellTo, List.getElem?_eq_getElem hk']
    cases hf : (partsOf least most short (tellTo least most short n l k).2 l[k].f0 l[k].f1 n).find? (fun p => tellB least most short n (l.drop (k + 1)) p.2) with
    | none => exact absurd (tellB_iff _ _ |>.2 ht) (by simpa using List.find?_eq_none.1 hf p hp)
    | some q =>
      have hq := List.mem_of_find?_eq_some hf
      have hT : tellB least most short n (l.drop (k + 1)) q.2 = true := by simpa using List.find?_some hf
      refine ⟨?_, (tellB_iff _ _).1 hT, by simp [h3]⟩
      simp only [fwd, List.getElem?_eq_getElem hk']
      exact ⟨_, h1, q, hq, rfl⟩

set_option maxRecDepth 100000 in
set_option maxHeartbeats 4000000 in
theorem tell.rounds (n : Nat) (hn : n ≤ 12) (least most short : Int) (A : Option Addr) (c : Nat) (l : List S52) (hl : l.length ≤ 40) (htl : tellable least most short n l beginSt)
    (sc xc oc atc g sb cS lo : Nat) (bs : List Nat) (Q : Exit → Act → World → Prop) (v0 v2 v3 v5 v8 v9 v10 v11 v12 v13 v14 v15 v16 v17 v18 v19 v20 v21 v25 v26 v27 v28 v29 v30 v31 v32 v33 v34 v35 v36 v37 v38 v39 v40 v41 v42 v43 v44 v45 v46 v47 v48 v49 v50 v51 : Value) (W : World)
    (hA : Kd.C k52 W A l.length l) (hAo : ∀ ad, A = some ad → 0 < l.length → ad.block ≠ oc ∧ ad.block ≠ atc)
    (h1 : W.heap[sc]? = some (.cells #[.int .i64 n, .int .i64 least, .int .i64 most, .int .i64 short, .slice A l.length c] 33 (0, 0)))
    (h3 : W.heap[xc]? = some (.cells #[.pointer (some ⟨g, 0, none⟩)] 101 (0, 0)))
    (h4 : W.heap[oc]? = some (.cells #[.slice none 0 0] 61 (0, 0)))
    (ha : W.heap[atc]? = some (.cells #[.int .i64 beginSt.holder, .int .i64 beginSt.turn, .int .i64 beginSt.short, .bool beginSt.own] 109 (0, 0)))
    (hs : Seen n least most short A l.length c g sb cS l.length lo bs (pruned least most short n l 0) W) (hlo : lo ≤ W.heap.size)
    (hdone : ∀ (ds' : List Deferred) (ov : Value) (u8 u9 u10 u11 u24 u25 u26 u27 u28 u29 u30 u31 u32 u35 u36 u37 u38 u39 u40 u41 u42 u43 u44 u45 u46 u47 u48 u49 u50 : Value) (W' : World), Fr (fun k => k = oc ∨ k = atc) W W' → W'.heap[oc]? = some (.cells #[ov] 61 (0, 0)) →
      Kd.R k65 65 W' W.heap.size (fun _ => True) ov (tellTo least most short n l l.length).1 → Coll W.heap.size W'.heap.size ds' W' → Q .normal { tmps := (List.toArray (v0 :: (.pointer (some ⟨sc, 0, none⟩)) :: v2 :: v3 :: (.pointer (some ⟨xc, 0, none⟩)) :: v5 :: (.pointer (some ⟨oc, 0, none⟩)) :: (.pointer (some ⟨atc, 0, none⟩)) :: u8 :: u9 :: u10 :: u11 :: v12 :: v13 :: v14 :: v15 :: v16 :: v17 :: v18 :: v19 :: v20 :: v21 :: (.slice A l.length c) :: (.int .i64 l.length) :: u24 :: u25 :: u26 :: u27 :: u28 :: u29 :: u30 :: u31 :: u32 :: v33 :: v34 :: u35 :: u36 :: u37 :: u38 :: u39 :: u40 :: u41 :: u42 :: u43 :: u44 :: u45 :: u46 :: u47 :: u48 :: u49 :: u50 :: v51 :: [])), defers := ds' } W') :
    (blockOf 0 Try.f31).wpIn Fence.wide 0 Try.prog (Exit.inBlock 0 Q) { tmps := (List.toArray (v0 :: (.pointer (some ⟨sc, 0, none⟩)) :: v2 :: v3 :: (.pointer (some ⟨xc, 0, none⟩)) :: v5 :: (.pointer (some ⟨oc, 0, none⟩)) :: (.pointer (some ⟨atc, 0, none⟩)) :: v8 :: v9 :: v10 :: v11 :: v12 :: v13 :: v14 :: v15 :: v16 :: v17 :: v18 :: v19 :: v20 :: v21 :: (.slice A l.length c) :: (.int .i64 l.length) :: (.int .i64 0) :: v25 :: v26 :: v27 :: v28 :: v29 :: v30 :: v31 :: v32 :: v33 :: v34 :: v35 :: v36 :: v37 :: v38 :: v39 :: v40 :: v41 :: v42 :: v43 :: v44 :: v45 :: v46 :: v47 :: v48 :: v49 :: v50 :: v51 :: [])), defers := [] } W := by
  conv => arg 4; whnf
  have hmx : Try.prog.follows .mixedOrders = true := by kernel_rfl
  have hu := Try.underlying33
  have hu1 := Try.underlying109
  have hu2 := Try.underlying52
  have hu3 := Try.underlying107
  have H1 := Lib.hid h1
  have H3 := Lib.hid h3
  have H4 := Lib.hid h4
  have HAT := Lib.hid ha
  have HA := Lib.hid hA
  have HS := Lib.hid hs
  have HTL := Lib.hid htl
  have ksc : sc < W.heap.size := (Array.getElem?_eq_some_iff.1 h1).1
  have kxc : xc < W.heap.size := (Array.getElem?_eq_some_iff.1 h3).1
  have koc : oc < W.heap.size := (Array.getElem?_eq_some_iff.1 h4).1
  have katc : atc < W.heap.size := (Array.getElem?_eq_some_iff.1 ha).1
  have kg : g < W.heap.size := (Array.getElem?_eq_some_iff.1 hs.obj).1
  have no : ∀ {k : Nat} {cs : Array Value} {t : TypeId}, W.heap[k]? = some (.cells cs t (0, 0)) → t ≠ 61 → t ≠ 109 → ¬ (k = oc ∨ k = atc) := fun hk ht ht2 h => by
    rcases h with rfl | rfl
    · rw [h4] at hk; cases hk; exact ht rfl
    · rw [ha] at hk; cases hk; exact ht2 rfl
  have nosc := no h1 (by decide) (by decide)
  have noxc := no h3 (by decide) (by decide)
  have nog := no hs.obj (by decide) (by decide)
  have hsbh : ∃ cur, W.heap[sb]? = some (.cells cur 104 (0, 0)) := by
    rcases hs.row.2 with ⟨q, _⟩ | ⟨g', cap, cur, r1, r2, r3, _⟩
    · cases q
    · cases r1; exact ⟨cur, r3⟩
  obtain ⟨scur, hscur⟩ := hsbh
  have nosb := no hscur (by decide) (by decide)
  have nomap : ∀ {b : Nat} {M : St → Option Unit}, MapIs EB W b M → ¬ (b = oc ∨ b = atc) := fun hM e => by
    obtain ⟨es, cl, hm⟩ := hM.isMap
    rcases e with rfl | rfl
    · rw [h4] at hm; cases hm
    · rw [ha] at hm; cases hm
  clear h1 h3 hA hs hscur no htl
  refine wpIn_loop_lay (fun (tT : List Value) (a' : Act) (wv : World) => ∃ (dfs : List Deferred) (u8 u9 u10 u11 u24 u25 u26 u27 u28 u29 u30 u31 u32 u35 u36 u37 u38 u39 u40 u41 u42 u43 u44 u45 u46 u47 u48 u49 u50 : Value), ((fun u24 dfs w' => ∃ (k : Nat) (ov : Value), u24 = .int .i64 k ∧ k ≤ l.length ∧ Fr (fun k => k = oc ∨ k = atc) W w' ∧ Coll W.heap.size w'.heap.size dfs w' ∧ w'.heap[oc]? = some (.cells #[ov] 61 (0, 0)) ∧ w'.heap[atc]? = some (.cells #[.int .i64 (tellTo least most short n l k).2.holder, .int .i64 (tellTo least most short n l k).2.turn, .int .i64 (tellTo least most short n l k).2.short, .bool (tellTo least most short n l k).2.own] 109 (0, 0)) ∧ Kd.R k65 65 w' W.heap.size (fun _ => True) ov (tellTo least most short n l k).1 ∧ fwd least most short n l k (tellTo least most short n l k).2) u24 dfs wv) ∧ a' = { tmps := (lay [none, none, none, none, none, none, none, none, some u8, some u9, some u10, some u11, none, none, none, none, none, none, none, none, none, none, none, none, some u24, some u25, some u26, some u27, some u28, some u29, some u30, some u31, some u32, none, none, some u35, some u36, some u37, some u38, some u39, some u40, some u41, some u42, some u43, some u44, some u45, some u46, some u47, some u48, some u49, some u50] tT).toArray, defers := dfs }) (fun (a' : Act) (wv : World) => (fun u24 w' => l.length - (intOf u24).toNat) (Array.getD a'.tmps 24 undef) wv) ?atStart ?round
  case' atStart =>
    dsimp only [lay]
    (repeat apply Exists.intro)
    refine ⟨?_, rfl⟩
  case' round =>
    dsimp only [lay]
    intro _ wr hinv
    obtain ⟨dfs, hinv⟩ := hinv
    obtain ⟨u8, hinv⟩ := hinv
    obtain ⟨u9, hinv⟩ := hinv
    obtain ⟨u10, hinv⟩ := hinv
    obtain ⟨u11, hinv⟩ := hinv
    obtain ⟨u24, hinv⟩ := hinv
    obtain ⟨u25, hinv⟩ := hinv
    obtain ⟨u26, hinv⟩ := hinv
    obtain ⟨u27, hinv⟩ := hinv
    obtain ⟨u28, hinv⟩ := hinv
    obtain ⟨u29, hinv⟩ := hinv
    obtain ⟨u30, hinv⟩ := hinv
    obtain ⟨u31, hinv⟩ := hinv
    obtain ⟨u32, hinv⟩ := hinv
    obtain ⟨u35, hinv⟩ := hinv
    obtain ⟨u36, hinv⟩ := hinv
    obtain ⟨u37, hinv⟩ := hinv
    obtain ⟨u38, hinv⟩ := hinv
    obtain ⟨u39, hinv⟩ := hinv
    obtain ⟨u40, hinv⟩ := hinv
    obtain ⟨u41, hinv⟩ := hinv
    obtain ⟨u42, hinv⟩ := hinv
    obtain ⟨u43, hinv⟩ := hinv
    obtain ⟨u44, hinv⟩ := hinv
    obtain ⟨u45, hinv⟩ := hinv
    obtain ⟨u46, hinv⟩ := hinv
    obtain ⟨u47, hinv⟩ := hinv
    obtain ⟨u48, hinv⟩ := hinv
    obtain ⟨u49, hinv⟩ := hinv
    obtain ⟨u50, hinv⟩ := hinv
    obtain ⟨hrel, ha⟩ := hinv
    subst ha
    try dsimp only
  case atStart =>
    exact ⟨0, .slice none 0 0, rfl, Nat.zero_le _, Fr.refl _ _, Coll.nil _ _ _, h4, ha, Kd.R_nil _ _ _ _ _, rfl⟩
  case round =>
    obtain ⟨k, ov, rfl, hk, hF, hC, hoc, hat, hR, hfw⟩ := hrel
    clear h4 ha
    by_cases hlt : k < l.length
    · have hSz := hF.size
      have hx : Kd.C k52 W A l.length l := HA.out
      obtain ⟨ad, rfl, m0, m1⟩ := at_T52 hx k (by omega) (by omega)
      have hrd : rd_T52 l (k : Int) = l[k] := by simp [rd_T52, List.getD, hlt]
      rw [hrd, Int.toNat_natCast] at m0 m1
      obtain ⟨⟨mf, mh⟩, hm⟩ : ∃ m, l[k] = m := ⟨_, rfl⟩
      rw [hm] at m0 m1
      simp only [] at m0 m1
      have hadb : ¬ ((ad.add (k * 2)).block = oc ∨ (ad.add (k * 2)).block = atc) := by
        have := hAo ad rfl (by omega)
        have hbl : (ad.add (k * 2)).block = ad.block := by unfold Addr.add; split <;> rfl
        rw [hbl]; exact fun h => h.elim this.1 this.2
      have m0' := hF.cell m0 hadb
      have m1' := hF.cell m1 hadb
      have hk2 : (k : Int) < l.length := by omega
      have hi2 : (ad.add (k * 2)).block < wr.heap.size := World.block_lt_of_cell? wr _ m0'
      have hi3 : (ad.add (k * 2)).block < wr.heap.size + 1 := by omega
      have hi4 : (ad.add (k * 2)).block < wr.heap.size + 1 + 1 := by omega
      obtain ⟨x, hx0⟩ : ∃ x, (tellTo least most short n l k).2 = x := ⟨_, rfl⟩
      rw [hx0] at hat hfw
      have e10 := hF.cell (cell_of H1.out (i := 0) rfl) nosc
      have e11 := hF.cell (cell_of H1.out (i := 1) rfl) nosc
      have e12 := hF.cell (cell_of H1.out (i := 2) rfl) nosc
      have e13 := hF.cell (cell_of H1.out (i := 3) rfl) nosc
      have e14 := hF.cell (cell_of H1.out (i := 4) rfl) nosc
      have e20 := cell_of hat (i := 0) rfl
      have e21 := cell_of hat (i := 1) rfl
      have e22 := cell_of hat (i := 2) rfl
      have e23 := cell_of hat (i := 3) rfl
      simp only [List.getElem_toArray, List.getElem_cons_zero, List.getElem_cons_succ] at e10 e11 e12 e13 e14 e20 e21 e22 e23
      have ks2 : sc < wr.heap.size := by omega
      have ka2 : atc < wr.heap.size := by omega
      have ks3 : sc < wr.heap.size + 1 := by omega
      have ka3 : atc < wr.heap.size + 1 := by omega
      have ks4 : sc < wr.heap.size + 1 + 1 := by omega
      have ka4 : atc < wr.heap.size + 1 + 1 := by omega
      have hpsl := tellTo_length least most short n l k
      have hsx := fwd_small hn k x hfw
      have HF := Lib.hid hF
      have HC := Lib.hid hC
      have HOC := Lib.hid hoc
      have HATR := Lib.hid hat
      have HR := Lib.hid hR
      have HFW := Lib.hid hfw
      have HX0 := Lib.hid hx0
      have HM := Lib.hid hm
      clear hF hC hoc hat hR hfw m0 m1 hrd hx hm hx0
      gi_wp2
      obtain ⟨W1, hW1⟩ : ∃ W1, (wr.alloc (.cells #[.int .i64 k] 3)).alloc (.cells #[.int .u16 mf, .int .u16 mh] 52) = W1 := ⟨_, rfl⟩
      have hb1 : Below wr.heap.size wr W1 := by rw [← hW1]; exact ((Below.refl _ wr).alloc (Nat.le_refl _) _).alloc (by simp) _
      have hs1 : W1.heap.size = wr.heap.size + 2 := by rw [← hW1]; simp
      have hic : W1.heap[wr.heap.size]? = some (.cells #[.int .i64 k] 3 (0, 0)) := by rw [← hW1]; exact heap_old (heap_new rfl)
      rw [hW1]
      refine ⟨trivial, rfl, (callsIn_wide.2 (parts.calls' n least most short mf mh _ x W1)).mono ?_⟩
      rintro e W3 ⟨rfl, hPA⟩
      have HS1 := Lib.hid hs1
      clear hs1
      gi_wp2
      have hs1 := HS1.out
      have hm := HM.out
      have hF1 : Fr (fun k => k = oc ∨ k = atc) W W1 := HF.out.trans (Fr.of_below hb1 (fun k q1 q2 => by omega))
      have hSeen := HS.out
      have hbL := hSeen.len
      obtain ⟨bj, hbj⟩ : ∃ b, bs[k + 1]? = some b := ⟨_, List.getElem?_eq_getElem (by omega)⟩
      have hMj := (hSeen.maps (k + 1) bj hbj).2
      have hMj1 := hMj.same (hF1.same _ hMj.lt (nomap hMj))
      refine tell.pick (Q := _) n hn least most short mf mh _ x (pruned least most short n l 0 (k + 1)) k (by omega) hsx xc oc atc wr.heap.size g sb (l.length + 1) cS k bj W.heap.size _ ov (tellTo least most short n l k).1 dfs _ _ _ _ _ _ _ _ _ _ _ _ _ _ _ _ _ _ _ _ _ _ _ _ _ _ _ _ _ _ _ _ _ _ _ _ _ _ _ _ _ _ _ _ _ _ _ W1 W3
        hPA hMj1 ((hF1.same _ kxc noxc).trans H3.out) ((hb1.block _ (by omega)).trans HOC.out) ((hb1.block _ (by omega)).trans HATR.out) hic ((hF1.same _ kg nog).trans hSeen.obj) rfl (hF1.cell (hSeen.cell hbj) nosb) (by omega) (by omega)
        (Kd.R_below HR.out hb1) (by omega) (by omega) ((HC.out.same (SameMarks.below hb1 (Nat.le_refl _))).up (by omega)) ?_
      rintro ds3 ov3 ps3 x3 W4 hpk hF4 hoc4 hat4 hR4 hC4
      have hpk' : Picked least most short l[k].f0 l[k].f1 n (tellTo least most short n l k).2 (pruned least most short n l 0 (k + 1)) (tellTo least most short n l k).1 ps3 x3 := by rw [hm, HX0.out]; exact hpk
      have htt := picked_tellTo hlt (by rw [HX0.out]; exact HFW.out) hpk'
      have hF04 : Fr (fun k => k = oc ∨ k = atc) W W4 :=
        ⟨hF4.os.trans hF1.os, hF4.tape.trans hF1.tape, hF4.output.trans hF1.output, Nat.le_trans hF1.size hF4.size, fun q hq hnx => (hF4.same q (by have := hF1.size; omega) (fun h => by
          rcases h with h | h | h
          · exact hnx (.inl h)
          · exact hnx (.inr h)
          · have := ((Kd.R_bound HR.out).1 q h).2.1; omega)).trans (hF1.same q hq hnx)⟩
      have hwr : IntKind.i64.wrap ((k : Int) + 1) = (k : Int) + 1 := by simp [IntKind.wrap, IntKind.bits, IntKind.signed]; omega
      have hgood := tellTo_good HTL.out (k + 1) (by omega)
      rw [htt] at hgood
      have HF04 := Lib.hid hF04
      have HOC4 := Lib.hid hoc4
      have HAT4 := Lib.hid hat4
      have HR4 := Lib.hid hR4
      have HC4 := Lib.hid hC4
      have HTT := Lib.hid htt
      have HGO := Lib.hid hgood
      clear hF04 hF4 hoc4 hat4 hR4 hC4 htt hgood hpk hpk' hF1 hMj hMj1 hPA hb1 hs1 hic hW1 hm hSeen
      gi_wp2
      refine ⟨?_, ?measure⟩
      · (repeat apply Exists.intro)
        refine ⟨?_, ⟨rfl, rfl, rfl, rfl, rfl⟩, rfl⟩
        have htt := HTT.out
        refine ⟨k + 1, by simp, by omega, HF04.out, HC4.out, ov3, HOC4.out, ?_, ?_, ?_⟩
        · rw [htt]; exact HAT4.out
        · rw [htt]; exact HR4.out
        · rw [htt]; exact HGO.out.1
      case measure =>
        simp [intOf]
        omega
    · obtain rfl : k = l.length := by omega
      gi_wp2
      exact hdone dfs ov _ _ _ _ _ _ _ _ _ _ _ _ _ _ _ _ _ _ _ _ _ _ _ _ _ _ _ _ _ wr hF hoc hR hC
end Go.Proofs.Ytdnjmhhjjbdieaa.Q
end

section
/- Tell: what it returns; its walk. -/
namespace Go.Proofs.Ytdnjmhhjjbdieaa.Q
open Go.RowKit Go.Shelf Go.Proofs.YtdnjmhhjjbdieaaW.PrintWords Go.Proofs.YtdnjmhhjjbdieaaW.PrintLast
set_option linter.unusedVariables false
set_option linter.unusedSimpArgs false
attribute [local go_sem] Oper.semAt_some

def floor_Tell.f (a0_0 a0_1 a0_2 a0_3 : Int) (l0_4 : List S52) : Option (List S65 × Int) :=
  match floor_Scene_check.f a0_0 a0_1 a0_2 a0_3 l0_4 with
  | none => none
  | some r => if r = 0 then
      if (fwdL a0_1 a0_2 a0_3 a0_0.toNat l0_4 l0_4.length).isEmpty then some ([], 10) else some ((tellTo a0_1 a0_2 a0_3 a0_0.toNat l0_4 l0_4.length).1, 0)
    else some ([], r)

set_option maxRecDepth 100000 in
set_option maxHeartbeats 4000000 in
theorem floor_Tell.calls (a0_0 a0_1 a0_2 a0_3 : Int) (A0_4 : Option Addr) (c0_4 : Nat) (l0_4 : List S52) (r1 : List S65) (r2 : Int) (w : World) (hr0_4 : Kd.C k52 w A0_4 l0_4.length l0_4) (hc0_4 : l0_4.length ≤ c0_4)
    (h : floor_Tell.f a0_0 a0_1 a0_2 a0_3 l0_4 = some (r1, r2)) :
    Calls Try.prog 31 #[.agg #[.int .i64 a0_0, .int .i64 a0_1, .int .i64 a0_2, .int .i64 a0_3, .slice A0_4 l0_4.length c0_4]] w fun e w' => ∃ v0_ : Value, e = .returned (.tuple #[v0_, .int .i64 r2]) ∧ Kd.R k65 65 w' w.heap.size (fun _ => True) v0_ r1 ∧ Below w.heap.size w w' := by
  have hu := Try.underlying33
  have hu1 := Try.underlying109
  refine (callsIn_wide (n := 0)).1 ?_
  refine callsIn_of_wp_marks Try.func31 rfl trivial ?_ rfl
  simp only [Try.ntmps31, List.size_toArray, List.length_cons, List.length_nil, Nat.reduceAdd, Nat.reduceSub, Array.replicate_succ, Array.replicate_zero, List.push_toArray, List.append_toArray, List.nil_append, List.cons_append]
  unfold floor_Tell.f at h
  obtain ⟨W0, hW0⟩ : ∃ W0, w.alloc (.cells #[.int .i64 a0_0, .int .i64 a0_1, .int .i64 a0_2, .int .i64 a0_3, .slice A0_4 l0_4.length c0_4] 33) = W0 := ⟨_, rfl⟩
  have hs0 : W0.heap.size = w.heap.size + 1 := by rw [← hW0]; simp
  have hsc0 : W0.heap[w.heap.size]? = some (.cells #[.int .i64 a0_0, .int .i64 a0_1, .int .i64 a0_2, .int .i64 a0_3, .slice A0_4 l0_4.length c0_4] 33 (0, 0)) := by rw [← hW0]; exact heap_new rfl
  have hb0 : Below w.heap.size w W0 := by rw [← hW0]; exact (Below.refl _ w).alloc (Nat.le_refl _) _
  have e0 := cell_of hsc0 (i := 0) rfl
  have e1 := cell_of hsc0 (i := 1) rfl
  have e2 := cell_of hsc0 (i := 2) rfl
  have e3 := cell_of hsc0 (i := 3) rfl
  have e4 := cell_of hsc0 (i := 4) rfl
  simp only [List.getElem_toArray, List.getElem_cons_zero, List.getElem_cons_succ] at e0 e1 e2 e3 e4
  have HS0 := Lib.hid hs0
  have HSC0 := Lib.hid hsc0
  have HB0 := Lib.hid hb0
  have HR := Lib.hid (Kd.C_below hr0_4 hb0)
  have HR' := Lib.hid hr0_4
  clear hs0 hsc0 hb0 hr0_4
  gi_wp2
  clear hW0
  cases hck : floor_Scene_check.f a0_0 a0_1 a0_2 a0_3 l0_4 with
  | none => rw [hck] at h; cases h
  | some r =>
    rw [hck] at h
    simp only [] at h
    have HCK := Lib.hid hck
    have HH := Lib.hid h
    clear hck h
    by_cases hr : r = 0
    · subst hr
      obtain ⟨hl, ⟨n, rfl, hn1, hn⟩, _⟩ := check_ok HCK.out
      have hnn : (n : Int).toNat = n := Int.toNat_natCast n
      refine ⟨trivial, rfl, (callsIn_wide.2 (checked.good n a0_1 a0_2 a0_3 A0_4 c0_4 l0_4 W0 HR.out hc0_4 HCK.out)).mono ?_⟩
      rintro e W1 ⟨g, i, rfl, hb1, hL⟩
      obtain ⟨sb, cS, bs, hne, hcase⟩ := hL
      have h' := HH.out
      rw [if_pos rfl, hnn] at h'
      have HB1 := Lib.hid hb1
      have HNE := Lib.hid hne
      clear hb1 hne HH
      by_cases hi : i = l0_4.length
      · rcases hcase with ⟨_, hSe⟩ | ⟨hi', _⟩
        · subst hi
          have hem : ¬ (fwdL a0_1 a0_2 a0_3 n l0_4 l0_4.length).isEmpty = true := fun hc => by
            obtain ⟨x, hx⟩ := HNE.out _ (Nat.le_refl _)
            exact fwdL_empty.1 hc x hx
          rw [if_neg hem] at h'
          obtain ⟨rfl, rfl⟩ := Prod.mk.inj (Option.some.inj h')
          rw [if_pos rfl]
          have htl : tellable a0_1 a0_2 a0_3 n l0_4 beginSt := by
            obtain ⟨x, hx⟩ := HNE.out _ (Nat.le_refl _)
            obtain ⟨y, hy, ht⟩ := fwd_tell 0 l0_4.length x (by omega) hx
            obtain rfl : y = beginSt := hy
            exact ht
          have hz1 := HB1.out.size
          have hz0 := HS0.out
          have f4 : W1.cell? ⟨w.heap.size, 4, none⟩ = _ := (HB1.out.cell (p := ⟨w.heap.size, 4, none⟩) (by show w.heap.size < W0.heap.size; omega)).trans e4
          have q0 : w.heap.size < W1.heap.size := by omega
          have q1 : w.heap.size < W1.heap.size + 1 := by omega
          have q2 : w.heap.size < W1.heap.size + 1 + 1 := by omega
          have q3 : w.heap.size < W1.heap.size + 1 + 1 + 1 := by omega
          have q4 : w.heap.size < W1.heap.size + 1 + 1 + 1 + 1 := by omega
          have HSE := Lib.hid hSe
          have HZ1 := Lib.hid hz1
          have HZ0 := Lib.hid hz0
          have HTL := Lib.hid htl
          clear h' hem e0 e1 e2 e3 e4 hSe hz1 hz0 htl
          gi_wp2
          refine ⟨trivial, rfl, (callsIn_wide.2 (begin.calls _)).mono ?_⟩
          rintro e W2 ⟨rfl, rfl⟩
          gi_wp2
          have hz1 := HZ1.out
          have hz0 := HZ0.out
          obtain ⟨Wz, hWz⟩ : ∃ Wz, ((((W1.alloc (.cells #[.pointer (some ⟨g, 0, none⟩)] 101)).alloc (.cells #[.slice none 0 0] 61)).alloc (.cells #[.int .i64 (-2), .int .i64 0, .int .i64 0, .bool false] 109)).alloc (.cells #[.int .i64 (-2), .int .i64 0, .int .i64 0, .bool false] 109)) = Wz := ⟨_, rfl⟩
          rw [hWz]
          have hbz : Below W1.heap.size W1 Wz := by rw [← hWz]; exact ((((Below.refl _ W1).alloc (Nat.le_refl _) _).alloc (by simp) _).alloc (by simp; omega) _).alloc (by simp; omega) _
          have hzz : Wz.heap.size = W1.heap.size + 4 := by rw [← hWz]; simp
          have hxc : Wz.heap[W1.heap.size]? = some (.cells #[.pointer (some ⟨g, 0, none⟩)] 101 (0, 0)) := by rw [← hWz]; exact heap_old (heap_old (heap_old (heap_new rfl)))
          have hoc : Wz.heap[W1.heap.size + 1]? = some (.cells #[.slice none 0 0] 61 (0, 0)) := by rw [← hWz]; exact heap_old (heap_old (heap_new (by simp)))
          have hat : Wz.heap[W1.heap.size + 1 + 1 + 1]? = some (.cells #[.int .i64 (-2), .int .i64 0, .int .i64 0, .bool false] 109 (0, 0)) := by rw [← hWz]; exact heap_new (by simp)
          have hb0z : Below W0.heap.size W0 Wz := HB1.out.trans (hbz.mono hz1)
          have ez4 : Wz.cell? ⟨w.heap.size, 4, none⟩ = _ := (hbz.cell (p := ⟨w.heap.size, 4, none⟩) q0).trans f4
          have HBZ := Lib.hid hbz
          have HZZ := Lib.hid hzz
          have HXC := Lib.hid hxc
          have HOC := Lib.hid hoc
          have HAT := Lib.hid hat
          have HB0Z := Lib.hid hb0z
          clear hbz hzz hxc hoc hat hb0z hWz f4 ez4
          have hz1 := HZ1.out
          have hz0 := HZ0.out
          have hzz := HZZ.out
          refine tell.rounds (Q := _) n hn a0_1 a0_2 a0_3 A0_4 c0_4 l0_4 hl HTL.out w.heap.size W1.heap.size (W1.heap.size + 1) (W1.heap.size + 1 + 1 + 1) g sb cS W0.heap.size bs _ _ _ _ _ _ _ _ _ _ _ _ _ _ _ _ _ _ _ _ _ _ _ _ _ _ _ _ _ _ _ _ _ _ _ _ _ _ _ _ _ _ _ _ _ Wz
            (Kd.C_below HR.out HB0Z.out) (fun ad had hlen => by
              subst had
              obtain ⟨ad', e, m0, _⟩ := at_T52 HR'.out 0 (by omega) (by omega)
              cases e
              have := World.block_lt_of_cell? w _ m0
              have hbl : (ad.add 0).block = ad.block := by unfold Addr.add; split <;> rfl
              simp at this
              omega)
            ((HB0Z.out.block _ (by omega)).trans HSC0.out) HXC.out HOC.out HAT.out (HSE.out.below HBZ.out) (by omega) ?_
          rintro ds3 ov u8 u9 u10 u11 u24 u25 u26 u27 u28 u29 u30 u31 u32 u35 u36 u37 u38 u39 u40 u41 u42 u43 u44 u45 u46 u47 u48 u49 u50 W2 hF hoc2 hR2 hC
          have eo := cell_of hoc2 (i := 0) rfl
          simp only [List.getElem_toArray, List.getElem_cons_zero] at eo
          have HF := Lib.hid hF
          have HR2 := Lib.hid hR2
          have HC := Lib.hid hC
          obtain ⟨A2, c2, hov⟩ := Kd.R_slice hR2
          subst hov
          clear hF hR2 hC hoc2
          gi_wp2
          have hzz := HZZ.out
          have hz1 := HZ1.out
          have hz0 := HZ0.out
          refine leave_marks _ _ HC.out (fun W4 hF4 => ⟨_, results_tmp2 rfl _ _ _, _, rfl, ?_, ?_⟩)
          · have hR4 := Kd.R_mono (Kd.R_step (Kd.R_bound HR2.out) (w1 := W4) (fun k hk hkl => hF4.same k hkl (fun h => by
              obtain ⟨_, _, _, q, _, cells, hc⟩ := hk
              rw [hc] at h; cases h.2.2))) (fun _ _ => trivial)
            exact Kd.R_lower hR4 (by omega)
          · have h02 : Below w.heap.size w Wz := HB0.out.trans (HB0Z.out.mono HB0.out.size)
            exact (h02.trans ((HF.out.below (n := w.heap.size) (by omega) (fun k hk => by omega)))).trans (hF4.below (n := w.heap.size) (by have := HF.out.size; omega) (fun k hk h => by omega))
        · omega
      · rcases hcase with ⟨hi', _⟩ | ⟨hi', hno, _⟩
        · exact absurd hi' hi
        · have hem : (fwdL a0_1 a0_2 a0_3 n l0_4 l0_4.length).isEmpty = true := fwdL_empty.2 (fun x => by
            have := fwd_later hno (l0_4.length - (i + 1)) x
            rwa [show i + 1 + (l0_4.length - (i + 1)) = l0_4.length by omega] at this)
          rw [if_pos hem] at h'
          obtain ⟨rfl, rfl⟩ := Prod.mk.inj (Option.some.inj h')
          rw [if_neg hi]
          clear h' hem hno
          gi_wp2
          refine ⟨_, results_tmp2 rfl _ _ _, _, rfl, Kd.R_nil _ _ _ _ _, ?_⟩
          exact (HB0.out.trans (HB1.out.mono HB0.out.size)).alloc (Nat.le_trans HB0.out.size HB1.out.size) _
    · have h' := HH.out
      rw [if_neg hr] at h'
      obtain ⟨rfl, rfl⟩ := Prod.mk.inj (Option.some.inj h')
      have hr2 : (r == 0) = false := by simpa using hr
      clear h' HH
      refine ⟨trivial, rfl, (callsIn_wide.2 (checked.bad a0_0 a0_1 a0_2 a0_3 A0_4 c0_4 l0_4 r W0 HR.out hc0_4 HCK.out hr)).mono ?_⟩
      rintro e W1 ⟨rfl, hb1⟩
      have HB1 := Lib.hid hb1
      clear hb1
      gi_wp2
      refine ⟨_, results_tmp2 rfl _ _ _, _, rfl, Kd.R_nil _ _ _ _ _, ?_⟩
      exact (HB0.out.trans (HB1.out.mono HB0.out.size)).alloc (Nat.le_trans HB0.out.size HB1.out.size) _
end Go.Proofs.Ytdnjmhhjjbdieaa.Q
end
