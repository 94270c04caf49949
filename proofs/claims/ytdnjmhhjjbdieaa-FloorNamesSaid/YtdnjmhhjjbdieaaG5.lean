/- Texts of a proof, joined: see the last one. -/
import Derived.Test.YtdnjmhhjjbdieaaG1
import Derived.Test.YtdnjmhhjjbdieaaG4
import Derived.Carry
import Derived.Maps.AppendAt
import Derived.Deep.RegionLaw
import Derived.Deep.RegionWith
import Derived.LoopTactic
import Derived.Lib.Hide
namespace Go.Proofs.YtdnjmhhjjbdieaaW.PrintLast
end Go.Proofs.YtdnjmhhjjbdieaaW.PrintLast
namespace Go.Proofs.YtdnjmhhjjbdieaaW.PrintWords
end Go.Proofs.YtdnjmhhjjbdieaaW.PrintWords
section
namespace Go.Proofs.Ytdnjmhhjjbdieaa.Q
open Go.RowKit Go.Shelf Go.Proofs.YtdnjmhhjjbdieaaW.PrintWords Go.Proofs.YtdnjmhhjjbdieaaW.PrintLast
set_option linter.unusedVariables false
set_option linter.unusedSimpArgs false
attribute [local go_sem] Oper.semAt_some
noncomputable def setOf (S : St → Prop) : St → Option Unit := fun x => by classical exact if S x then some () else none
theorem setOf_ne {S : St → Prop} {x : St} : setOf S x ≠ none ↔ S x := by unfold setOf; split <;> simp_all
theorem setOf_some {S : St → Prop} {x : St} {u : Unit} (h : setOf S x = some u) : S x := setOf_ne.1 (by rw [h]; simp)
theorem setOf_congr {S T : St → Prop} (h : ∀ x, S x ↔ T x) : setOf S = setOf T := by
  have : S = T := funext fun x => propext (h x)
  rw [this]
theorem setOf_none : setOf (fun _ => False) = fun _ => none := by funext x; simp [setOf]
theorem setOf_add {S : St → Prop} {x : St} : (fun y => if y = x then some () else setOf S y) = setOf (fun y => S y ∨ y = x) := by
  funext y
  by_cases e : y = x
  · rw [if_pos e]; unfold setOf; rw [if_pos (.inr e)]
  · rw [if_neg e]; unfold setOf; split <;> rename_i h
    · rw [if_pos (.inl h)]
    · rw [if_neg (fun q => q.elim h e)]
theorem ownFrom_map {β γ : Type} {E : Elem β} {B b : Nat} {M : γ → St → Option β} (hb : b < B) : OwnFrom B (fun (s : γ) W => MapIs E W b (M s)) :=
  fun s W W' row hs hg hr => hs.kept hg (fun e => by have := (hr b e.symm).1; omega)
theorem ownFrom_range {β γ : Type} {E : Elem β} {B b r cnt : Nat} {M : St → Option β} {L : St → Prop} (hb : b < B) (hr' : r < B) : OwnFrom B (fun (_ : γ) W => RangeIs E W b r M L cnt) :=
  fun s W W' row hs hg hr => hs.kept hg (fun e => by have := (hr b e.symm).1; omega) (fun e => by have := (hr r e.symm).1; omega)
structure PartsAt (n : Nat) (least most short mf mh : Int) (vv : Value) (x : St) (W W3 : World) : Prop where
  hb0 : W3.heap[W.heap.size]? = some (.cells #[.int .i64 n, .int .i64 least, .int .i64 most, .int .i64 short, vv] 33 (0, 0))
  hb1 : W3.heap[W.heap.size + 1]? = some (.cells #[.int .i64 x.holder, .int .i64 x.turn, .int .i64 x.short, .bool x.own] 109 (0, 0))
  hb2 : W3.heap[W.heap.size + 2]? = some (.cells #[.int .u16 mf, .int .u16 mh] 52 (0, 0))
  hb3 : W3.heap[W.heap.size + 3]? = some (.cells #[.func (.func 67) #[.agg #[.int .i64 n, .int .i64 least, .int .i64 most, .int .i64 short, vv]] #[]] 129 (0, 0))
  size : W3.heap.size = W.heap.size + 4
  below : Below W.heap.size W W3
theorem parts.calls' (n : Nat) (least most short mf mh : Int) (vv : Value) (x : St) (W : World) :
    Calls Try.prog 51 #[.agg #[.int .i64 n, .int .i64 least, .int .i64 most, .int .i64 short, vv], .agg #[.int .i64 x.holder, .int .i64 x.turn, .int .i64 x.short, .bool x.own], .agg #[.int .u16 mf, .int .u16 mh]] W fun e w' =>
      e = .returned (.func (.func 73) #[] #[.pointer (some ⟨W.heap.size, 0, none⟩), .pointer (some ⟨W.heap.size + 2, 0, none⟩), .pointer (some ⟨W.heap.size + 3, 0, none⟩), .pointer (some ⟨W.heap.size + 1, 0, none⟩)]) ∧ PartsAt n least most short mf mh vv x W w' := by
  refine (parts.calls n least most short mf mh vv x W).mono ?_
  rintro e W3 ⟨rfl, hW3⟩
  exact ⟨rfl, by rw [hW3]; exact heap_old (heap_old (heap_old (heap_new rfl))), by rw [hW3]; exact heap_old (heap_old (heap_new (by simp))), by rw [hW3]; exact heap_old (heap_new (by simp)), by rw [hW3]; exact heap_new (by simp), by rw [hW3]; simp,
    by rw [hW3]; exact ((((Below.refl _ W).alloc (by omega) _).alloc (by simp) _).alloc (by simp; omega) _).alloc (by simp; omega) _⟩
theorem PartsAt.iter {n : Nat} {least most short mf mh : Int} {vv : Value} {x : St} {W W3 : World} (h : PartsAt n least most short mf mh vv x W W3) (hn : n ≤ 12) {i : Nat} (hx : Small x i) (hi : i ≤ 100) :
    IterK Try.prog 73 #[.pointer (some ⟨W.heap.size, 0, none⟩), .pointer (some ⟨W.heap.size + 2, 0, none⟩), .pointer (some ⟨W.heap.size + 3, 0, none⟩), .pointer (some ⟨W.heap.size + 1, 0, none⟩)] encPart (partsOf least most short x mf mh n) (partsC W.heap.size) W3 :=
  parts1.iter n hn least most short mf mh vv x hx.t1 (by have := hx.t2; omega) hx.s1 (by have := hx.s2; omega) W.heap.size W3 h.hb0 h.hb1 h.hb2 h.hb3
def nexts (least most short : Int) (n : Nat) (mf mh : Int) (S : St → Prop) (y : St) : Prop := ∃ x, S x ∧ ∃ p ∈ partsOf least most short x mf mh n, p.2 = y
set_option maxRecDepth 100000 in
set_option maxHeartbeats 4000000 in
theorem look.fill (n : Nat) (hn : n ≤ 12) (least most short mf mh : Int) (vv : Value) (S : St → Prop) (i : Nat) (hi : i ≤ 45) (hS : ∀ x, S x → Small x i)
    (sc cm cn bi bn rb lo cnt : Nat) (ds : List Deferred) (Q : Exit → Act → World → Prop) (v0 v2 v3 v4 v7 v8 v9 v10 v11 v12 v13 v14 v15 v16 v17 v18 v19 v20 v21 v22 v23 v24 v25 v26 v27 v28 v29 v30 v31 v32 v33 v34 v35 v36 v38 v39 v40 v41 v42 v43 v44 v45 v46 v47 v48 v49 v50 v51 v52 v53 v54 v55 v56 v57 v58 v59 v60 v61 v62 v63 v64 v65 v66 v67 v68 v69 v70 v71 v72 v73 v74 v75 v76 v77 v78 v79 v80 v81 v82 v83 v84 v85 v86 v87 v88 v89 v90 v91 v92 v93 v94 v95 v96 v97 v98 v99 v100 v101 v102 v103 v104 v105 v106 : Value) (W : World)
    (hr : RangeIs EB W bi rb (setOf S) (fun x => setOf S x ≠ none) cnt) (hb : MapIs EB W bn (fun _ => none)) (hbn : bi ≠ bn)
    (h1 : W.heap[sc]? = some (.cells #[.int .i64 n, .int .i64 least, .int .i64 most, .int .i64 short, vv] 33 (0, 0)))
    (h2 : W.heap[cm]? = some (.cells #[.int .u16 mf, .int .u16 mh] 52 (0, 0)))
    (h3 : W.heap[cn]? = some (.cells #[.map (some bn)] 104 (0, 0)))
    (hlo : lo ≤ W.heap.size) (hds : Coll lo W.heap.size ds W)
    (hdone : ∀ (ds' : List Deferred) (u7 u9 u38 u39 u40 u41 u42 u43 u44 u45 u48 u49 : Value) (W' : World), Fr (fun k => k = bn ∨ k = rb) W W' → MapIs EB W' bi (setOf S) → MapIs EB W' bn (setOf (nexts least most short n mf mh S)) → Coll lo W'.heap.size ds' W' →
      Q .normal { tmps := (List.toArray (v0 :: (.pointer (some ⟨sc, 0, none⟩)) :: v2 :: v3 :: v4 :: (.pointer (some ⟨cm, 0, none⟩)) :: (.pointer (some ⟨cn, 0, none⟩)) :: u7 :: v8 :: u9 :: v10 :: v11 :: v12 :: v13 :: v14 :: v15 :: v16 :: v17 :: v18 :: v19 :: v20 :: v21 :: v22 :: v23 :: v24 :: v25 :: v26 :: v27 :: v28 :: v29 :: v30 :: v31 :: v32 :: v33 :: v34 :: v35 :: v36 :: (.pointer (some ⟨rb, 0, none⟩)) :: u38 :: u39 :: u40 :: u41 :: u42 :: u43 :: u44 :: u45 :: v46 :: v47 :: u48 :: u49 :: v50 :: v51 :: v52 :: v53 :: v54 :: v55 :: v56 :: v57 :: v58 :: v59 :: v60 :: v61 :: v62 :: v63 :: v64 :: v65 :: v66 :: v67 :: v68 :: v69 :: v70 :: v71 :: v72 :: v73 :: v74 :: v75 :: v76 :: v77 :: v78 :: v79 :: v80 :: v81 :: v82 :: v83 :: v84 :: v85 :: v86 :: v87 :: v88 :: v89 :: v90 :: v91 :: v92 :: v93 :: v94 :: v95 :: v96 :: v97 :: v98 :: v99 :: v100 :: v101 :: v102 :: v103 :: v104 :: v105 :: v106 :: [])), defers := ds' } W') :
    (blockOf 2 Try.f71).wpIn Fence.wide 0 Try.prog (Exit.inBlock 2 Q) { tmps := (List.toArray (v0 :: (.pointer (some ⟨sc, 0, none⟩)) :: v2 :: v3 :: v4 :: (.pointer (some ⟨cm, 0, none⟩)) :: (.pointer (some ⟨cn, 0, none⟩)) :: v7 :: v8 :: v9 :: v10 :: v11 :: v12 :: v13 :: v14 :: v15 :: v16 :: v17 :: v18 :: v19 :: v20 :: v21 :: v22 :: v23 :: v24 :: v25 :: v26 :: v27 :: v28 :: v29 :: v30 :: v31 :: v32 :: v33 :: v34 :: v35 :: v36 :: (.pointer (some ⟨rb, 0, none⟩)) :: v38 :: v39 :: v40 :: v41 :: v42 :: v43 :: v44 :: v45 :: v46 :: v47 :: v48 :: v49 :: v50 :: v51 :: v52 :: v53 :: v54 :: v55 :: v56 :: v57 :: v58 :: v59 :: v60 :: v61 :: v62 :: v63 :: v64 :: v65 :: v66 :: v67 :: v68 :: v69 :: v70 :: v71 :: v72 :: v73 :: v74 :: v75 :: v76 :: v77 :: v78 :: v79 :: v80 :: v81 :: v82 :: v83 :: v84 :: v85 :: v86 :: v87 :: v88 :: v89 :: v90 :: v91 :: v92 :: v93 :: v94 :: v95 :: v96 :: v97 :: v98 :: v99 :: v100 :: v101 :: v102 :: v103 :: v104 :: v105 :: v106 :: [])), defers := ds } W := by
  conv => arg 4; whnf
  have hu := Try.underlying33
  have hu1 := Try.underlying109
  have hu2 := Try.underlying52
  have ksc : sc < W.heap.size := (Array.getElem?_eq_some_iff.1 h1).1
  have kcm : cm < W.heap.size := (Array.getElem?_eq_some_iff.1 h2).1
  have kcn : cn < W.heap.size := (Array.getElem?_eq_some_iff.1 h3).1
  have nosc : ¬ (sc = bn ∨ sc = rb) := fun h => by
    rcases h with rfl | rfl
    · obtain ⟨es, c, e⟩ := hb.isMap; rw [h1] at e; cases e
    · obtain ⟨o, e, ec⟩ := hr.iter; rw [h1] at e; cases e; cases ec
  have nocm : ¬ (cm = bn ∨ cm = rb) := fun h => by
    rcases h with rfl | rfl
    · obtain ⟨es, c, e⟩ := hb.isMap; rw [h2] at e; cases e
    · obtain ⟨o, e, ec⟩ := hr.iter; rw [h2] at e; cases e; cases ec
  have nocn : ¬ (cn = bn ∨ cn = rb) := fun h => by
    rcases h with rfl | rfl
    · obtain ⟨es, c, e⟩ := hb.isMap; rw [h3] at e; cases e
    · obtain ⟨o, e, ec⟩ := hr.iter; rw [h3] at e; cases e; cases ec
  have norb : rb ≠ bn := fun h => by
    subst h
    obtain ⟨es, c, e⟩ := hb.isMap
    obtain ⟨D, left, ⟨es, clock, since, seen, c0, q1, q2, q3, q4, q5, q6⟩, ht, hl⟩ := hr
    rw [q5] at e; cases e
  have H1 := Lib.hid h1
  have H2 := Lib.hid h2
  have H3 := Lib.hid h3
  clear h1 h2 h3
  refine wpIn_loop_lay (fun (tT : List Value) (a' : Act) (wv : World) => ∃ (dfs : List Deferred) (u7 u9 u38 u39 u40 u41 u42 u43 u44 u45 u48 u49 : Value), ((fun dfs w' => ∃ L cnt, RangeIs EB w' bi rb (setOf S) L cnt ∧ MapIs EB w' bn (setOf (nexts least most short n mf mh (fun x => S x ∧ ¬ L x))) ∧ Fr (fun k => k = bn ∨ k = rb) W w' ∧ Coll lo w'.heap.size dfs w')  dfs wv) ∧ a' = { tmps := (lay [none, none, none, none, none, none, none, some u7, none, some u9, none, none, none, none, none, none, none, none, none, none, none, none, none, none, none, none, none, none, none, none, none, none, none, none, none, none, none, none, some u38, some u39, some u40, some u41, some u42, some u43, some u44, some u45, none, none, some u48, some u49] tT).toArray, defers := dfs }) (fun (a' : Act) (wv : World) => (fun w' => w'.rangeLeft bi rb)  wv) ?atStart ?round
  case' atStart =>
    dsimp only [lay]
    (repeat apply Exists.intro)
    refine ⟨?_, rfl⟩
  case' round =>
    dsimp only [lay]
    intro _ wr hinv
    obtain ⟨dfs, hinv⟩ := hinv
    obtain ⟨u7, hinv⟩ := hinv
    obtain ⟨u9, hinv⟩ := hinv
    obtain ⟨u38, hinv⟩ := hinv
    obtain ⟨u39, hinv⟩ := hinv
    obtain ⟨u40, hinv⟩ := hinv
    obtain ⟨u41, hinv⟩ := hinv
    obtain ⟨u42, hinv⟩ := hinv
    obtain ⟨u43, hinv⟩ := hinv
    obtain ⟨u44, hinv⟩ := hinv
    obtain ⟨u45, hinv⟩ := hinv
    obtain ⟨u48, hinv⟩ := hinv
    obtain ⟨u49, hinv⟩ := hinv
    obtain ⟨hrel, ha⟩ := hinv
    subst ha
    try dsimp only
  case atStart =>
    refine ⟨_, cnt, hr, ?_, Fr.refl _ _, hds⟩
    rw [setOf_congr (T := fun _ => False) (fun x => ⟨fun ⟨x, ⟨h1, h2⟩, _⟩ => h2 (setOf_ne.2 h1), fun h => h.elim⟩), setOf_none]
    exact hb
  case round =>
    obtain ⟨L, cn2, hR, hB, hF, hC⟩ := hrel
    rcases hR.next 0 with ⟨hall, hrun⟩ | ⟨x, v, W1, cnt1, hLx, hMx, hbx, hrun, hR1, hlt, hg1, hs1, hen⟩
    · gi_wp2
      refine hdone dfs _ _ _ _ _ _ _ _ _ _ _ _ wr hF hR.mapIs ?_ hC
      rwa [setOf_congr (T := nexts least most short n mf mh S) (fun y => ⟨fun ⟨x, ⟨q1, q2⟩, q3⟩ => ⟨x, q1, q3⟩, fun ⟨x, q1, q3⟩ => ⟨x, ⟨q1, fun q2 => setOf_ne.2 q1 (hall x q2)⟩, q3⟩⟩)] at hB
    · simp only [encSt] at hrun hen
      have F1 := hF.trans (Fr.grown hg1 (fun r e => by cases e; exact .inr rfl))
      have e10 := F1.cell (cell_of H1.out (i := 0) rfl) nosc
      have e11 := F1.cell (cell_of H1.out (i := 1) rfl) nosc
      have e12 := F1.cell (cell_of H1.out (i := 2) rfl) nosc
      have e13 := F1.cell (cell_of H1.out (i := 3) rfl) nosc
      have e14 := F1.cell (cell_of H1.out (i := 4) rfl) nosc
      have e20 := F1.cell (cell_of H2.out (i := 0) rfl) nocm
      have e21 := F1.cell (cell_of H2.out (i := 1) rfl) nocm
      have E30 := Lib.hid (F1.cell (cell_of H3.out (i := 0) rfl) nocn)
      simp only [List.getElem_toArray, List.getElem_cons_zero, List.getElem_cons_succ] at e10 e11 e12 e13 e14 e20 e21
      have hsW := F1.size
      have k1 : sc < W1.heap.size := by omega
      have k2 : cm < W1.heap.size := by omega
      have k3 : cn < W1.heap.size := by omega
      have hB1 : MapIs EB W1 bn (setOf (nexts least most short n mf mh (fun x => S x ∧ ¬ L x))) := hB.kept hg1 (fun e => norb (Option.some.inj e).symm)
      have hC1 : Coll lo W1.heap.size dfs W1 := (hC.same (SameMarks.grown hg1 (fun r e => by cases e; exact hR.noMark))).up (by omega)
      have HF1 := Lib.hid F1
      have HB1 := Lib.hid hB1
      have HC1 := Lib.hid hC1
      have HR1 := Lib.hid hR1
      have HS := Lib.hid hs1
      have hSx := setOf_some hMx
      have HLE := Lib.hid hR.left_eq
      clear F1 hB1 hC1 hR1 hs1 hF hB hC hR hg1 hMx
      gi_wp2
      obtain ⟨W2, hW2⟩ : ∃ W2, W1.alloc (.cells #[.int .i64 x.holder, .int .i64 x.turn, .int .i64 x.short, .bool x.own] 109) = W2 := ⟨_, rfl⟩
      have hW2s : W2.heap.size = W1.heap.size + 1 := by rw [← hW2]; simp
      have hW2f : Fr (fun k => k = bn ∨ k = rb) W W2 := by rw [← hW2]; exact HF1.out.trans (Fr.alloc _ _)
      have hW2R : RangeIs EB W2 bi rb (setOf S) (fun y => L y ∧ y ≠ x) cnt1 := by rw [← hW2]; exact HR1.out.same (Below.heap_alloc _ _ _ HR1.out.mapIs.lt) (Below.heap_alloc _ _ _ HR1.out.lt)
      have hW2B : MapIs EB W2 bn (setOf (nexts least most short n mf mh (fun x => S x ∧ ¬ L x))) := by rw [← hW2]; exact HB1.out.same (Below.heap_alloc _ _ _ HB1.out.lt)
      have hW2C : Coll lo W1.heap.size dfs W2 := by rw [← hW2]; exact HC1.out.same (SameMarks.alloc _ _)
      rw [hW2]
      have HW2s := Lib.hid hW2s
      have HW2f := Lib.hid hW2f
      have HW2R := Lib.hid hW2R
      have HW2B := Lib.hid hW2B
      have HW2C := Lib.hid hW2C
      clear hW2 hW2s hW2f hW2R hW2B hW2C e10 e11 e12 e13 e14 e20 e21
      refine ⟨trivial, rfl, (callsIn_wide.2 (parts.calls' n least most short mf mh vv x W2)).mono ?_⟩
      rintro e W3 ⟨rfl, hPA⟩
      have hs3 := hPA.size
      have hBe := hPA.below
      have hf3 : Fr (fun k => k = bn ∨ k = rb) W W3 := HW2f.out.trans (Fr.of_below hBe (fun k q1 q2 => by omega))
      have hR3 : RangeIs EB W3 bi rb (setOf S) (fun y => L y ∧ y ≠ x) cnt1 := HW2R.out.same (hBe.block _ HW2R.out.mapIs.lt) (hBe.block _ HW2R.out.lt)
      have hB3 : MapIs EB W3 bn (setOf (nexts least most short n mf mh (fun x => S x ∧ ¬ L x))) := HW2B.out.same (hBe.block _ HW2B.out.lt)
      have hC3 : Coll lo W1.heap.size dfs W3 := HW2C.out.same (SameMarks.below hBe (Nat.le_refl _))
      have HF3 := Lib.hid hf3
      have HR3 := Lib.hid hR3
      have HB3 := Lib.hid hB3
      have HC3 := Lib.hid hC3
      have HBE := Lib.hid hBe
      have HS3 := Lib.hid hs3
      clear hf3 hR3 hB3 hC3 hBe hs3
      gi_wp2
      have hx0 := hS x hSx
      have ht1 := hx0.t1
      have ht2 := hx0.t2
      have hs1 := hx0.s1
      have hs2 := hx0.s2
      have hs3 := HS3.out
      have hs4 := HW2s.out
      have hlB := HB3.out.lt
      have hlR := HR3.out.lt
      have hli := HR3.out.mapIs.lt
      refine wpIn_iter (gf := 73) (lb := #[.pointer (some ⟨W2.heap.size, 0, none⟩), .pointer (some ⟨W2.heap.size + 2, 0, none⟩), .pointer (some ⟨W2.heap.size + 3, 0, none⟩), .pointer (some ⟨W2.heap.size + 1, 0, none⟩)]) rfl (enters_of Try.func73 (by kernel_rfl) rfl)
        (hPA.iter hn hx0 (by omega)) (Nat.le_refl _) (fun _ _ => rfl) (fun k hk => by have := hk.2; omega) (fun _ => rfl)
        (fun pre W' => (Fr (fun k => k = bn ∨ k = rb) W W' ∧ RangeIs EB W' bi rb (setOf S) (fun y => L y ∧ y ≠ x) cnt1 ∧ Coll lo W1.heap.size dfs W' ∧ W3.heap.size ≤ W'.heap.size) ∧
          MapIs EB W' bn (setOf (fun y => nexts least most short n mf mh (fun x => S x ∧ ¬ L x) y ∨ ∃ p ∈ pre, p.2 = y)))
        (fun c pre W' => False)
        (OwnFrom.and (OwnFrom.and (ownFrom_fr (by have := HF3.out.size; omega)) (OwnFrom.and (ownFrom_range (by omega) (by omega)) (OwnFrom.and (ownFrom_coll (by omega)) ownFrom_size))) (ownFrom_map (by omega)))
        (fun c => ownFrom_pure _ _)
        ⟨⟨HF3.out, HR3.out, HC3.out, Nat.le_refl _⟩, by simpa using HB3.out⟩
        (fun pre p a' W' => ∃ B, W3.heap.size ≤ B ∧ W'.heap[B]? = some (.cells #[.int .i64 p.2.holder, .int .i64 p.2.turn, .int .i64 p.2.short, .bool p.2.own] 109 (0, 0)) ∧ a' = { tmps := (List.toArray (v0 :: (.pointer (some ⟨sc, 0, none⟩)) :: v2 :: v3 :: v4 :: (.pointer (some ⟨cm, 0, none⟩)) :: (.pointer (some ⟨cn, 0, none⟩)) :: (.pointer (some ⟨W1.heap.size, 0, none⟩)) :: v8 :: (.pointer (some ⟨B, 0, none⟩)) :: v10 :: v11 :: v12 :: v13 :: v14 :: v15 :: v16 :: v17 :: v18 :: v19 :: v20 :: v21 :: v22 :: v23 :: v24 :: v25 :: v26 :: v27 :: v28 :: v29 :: v30 :: v31 :: v32 :: v33 :: v34 :: v35 :: v36 :: (.pointer (some ⟨rb, 0, none⟩)) :: (.tuple #[.bool true, .agg #[.int .i64 x.holder, .int .i64 x.turn, .int .i64 x.short, .bool x.own], EB.enc v]) :: (.bool true) :: (.tuple #[.agg #[.int .i64 x.holder, .int .i64 x.turn, .int .i64 x.short, .bool x.own], EB.enc v]) :: (.agg #[.int .i64 x.holder, .int .i64 x.turn, .int .i64 x.short, .bool x.own]) :: (.agg #[.int .i64 n, .int .i64 least, .int .i64 most, .int .i64 short, vv]) :: (.agg #[.int .i64 x.holder, .int .i64 x.turn, .int .i64 x.short, .bool x.own]) :: (.agg #[.int .u16 mf, .int .u16 mh]) :: (.func (.func 73) #[] #[.pointer (some ⟨W2.heap.size, 0, none⟩), .pointer (some ⟨W2.heap.size + 2, 0, none⟩), .pointer (some ⟨W2.heap.size + 3, 0, none⟩), .pointer (some ⟨W2.heap.size + 1, 0, none⟩)]) :: (.agg #[.int .i64 p.1.1, .int .i64 p.1.2]) :: (.agg #[.int .i64 p.2.holder, .int .i64 p.2.turn, .int .i64 p.2.short, .bool p.2.own]) :: u48 :: u49 :: v50 :: v51 :: v52 :: v53 :: v54 :: v55 :: v56 :: v57 :: v58 :: v59 :: v60 :: v61 :: v62 :: v63 :: v64 :: v65 :: v66 :: v67 :: v68 :: v69 :: v70 :: v71 :: v72 :: v73 :: v74 :: v75 :: v76 :: v77 :: v78 :: v79 :: v80 :: v81 :: v82 :: v83 :: v84 :: v85 :: v86 :: v87 :: v88 :: v89 :: v90 :: v91 :: v92 :: v93 :: v94 :: v95 :: v96 :: v97 :: v98 :: v99 :: v100 :: v101 :: v102 :: v103 :: v104 :: v105 :: v106 :: [])), defers := [] })
        (fun pre p a' _ A A' row hs hg hr => by obtain ⟨B, e1, e2, e3⟩ := hs; exact ⟨B, e1, ownFrom_cells (fun (_ : Unit) => #[.int .i64 p.2.holder, .int .i64 p.2.turn, .int .i64 p.2.short, .bool p.2.own]) 109 () A A' row e2 hg hr, e3⟩)
        ?assign ?body ?done ?stop
      case assign =>
        rintro l1 pre p post W4 K hx' ⟨⟨hI1, hI2, hI3, hI4⟩, hI5⟩ hK
        have HI := Lib.hid (⟨hI1, hI2, hI3, hI4⟩ : Fr (fun k => k = bn ∨ k = rb) W W4 ∧ _ ∧ _ ∧ _)
        have HI5 := Lib.hid hI5
        clear hI1 hI2 hI3 hI4 hI5 hs3 hs4
        simp only [encPart, encSt]
        gi_wp2
        have hI := HI.out
        exact hK _ _ (KeptC.alloc _ _ _ _) ⟨⟨hI.1.trans (Fr.alloc _ _), hI.2.1.same (Below.heap_alloc _ _ _ hI.2.1.mapIs.lt) (Below.heap_alloc _ _ _ hI.2.1.lt), hI.2.2.1.same (SameMarks.alloc _ _), by have := hI.2.2.2; simp; omega⟩, HI5.out.same (Below.heap_alloc _ _ _ HI5.out.lt)⟩ ⟨_, hI.2.2.2, heap_new rfl, rfl⟩
      case body =>
        rintro l1 pre p post a' W4 hx' hl1 ⟨r1, hr1⟩ ⟨hI, hI5⟩ ⟨B, hB, hbB, rfl⟩
        have hsp : Small p.2 (i + 1) := small_parts hn hx0 (by rw [hx']; simp)
        obtain ⟨W5, hup, hM5, hg5, ht5, hs5⟩ := hI5.update p.2 (hsp.box (by omega)) ()
        have hup : (Instr.mapUpdate 104 (.map (some bn)) (.agg #[.int .i64 p.2.holder, .int .i64 p.2.turn, .int .i64 p.2.short, .bool p.2.own]) (.bool true)).run Try.prog W4 = .ok () W5 := hup
        have e30 := hI.1.cell (cell_of H3.out (i := 0) rfl) nocn
        simp only [List.getElem_toArray, List.getElem_cons_zero] at e30
        have eB0 := cell_of hbB (i := 0) rfl
        have eB1 := cell_of hbB (i := 1) rfl
        have eB2 := cell_of hbB (i := 2) rfl
        have eB3 := cell_of hbB (i := 3) rfl
        have HI := Lib.hid hI
        have HM5 := Lib.hid hM5
        have HG5 := Lib.hid hg5
        have hnm := hI5.noMark
        have HS5 := Lib.hid hs5
        clear hI hI5 hM5 hg5 ht5 hs3 hs4 hr1 hbB hs5
        gi_wp2
        have hI := HI.out
        have hz := hI.2.2.2
        have hg5 := HG5.out
        refine ⟨KeptC.grown hg5 (fun k e => by cases e; exact ⟨fun hc => by have := hc.1; have := HW2B.out.lt; omega, hlB⟩), ⟨hI.1.trans (Fr.grown hg5 (fun r e => by cases e; exact .inl rfl)), hI.2.1.kept hg5 (fun e => hbn (Option.some.inj e)) (fun e => norb (Option.some.inj e)), hI.2.2.1.same (SameMarks.grown hg5 (fun r e => by cases e; exact hnm)), by have := HS5.out; omega⟩, ?_⟩
        have hM5 := HM5.out
        rw [setOf_add] at hM5
        rwa [setOf_congr (T := fun y => nexts least most short n mf mh (fun x => S x ∧ ¬ L x) y ∨ ∃ q ∈ pre ++ [p], q.2 = y) (fun y => ⟨fun h => by
          rcases h with (h | ⟨q, hq, rfl⟩) | rfl
          · exact .inl h
          · exact .inr ⟨q, by simp [hq], rfl⟩
          · exact .inr ⟨p, by simp, rfl⟩, fun h => by
          rcases h with h | ⟨q, hq, rfl⟩
          · exact .inl (.inl h)
          · rcases List.mem_append.1 hq with hq | hq
            · exact .inl (.inr ⟨q, hq, rfl⟩)
            · rw [List.mem_singleton.1 hq]; exact .inr rfl⟩)] at hM5
      case done =>
        rintro D W5 hD ⟨hI, hI5⟩ hK
        gi_wp2
        refine ⟨?_, ?measure⟩
        · (repeat apply Exists.intro)
          refine ⟨?_, rfl⟩
          have hDl : D < W5.heap.size := (Array.getElem?_eq_some_iff.1 hK).1
          refine ⟨_, cnt1, hI.2.1, ?_, hI.1, hI.2.2.1.push (by have := HF3.out.size; omega) (by omega) hDl hK⟩
          rwa [setOf_congr (T := nexts least most short n mf mh (fun z => S z ∧ ¬ (L z ∧ z ≠ x))) (fun y => ⟨fun h => by
            rcases h with ⟨z, ⟨q1, q2⟩, q3⟩ | ⟨q, hq, rfl⟩
            · exact ⟨z, ⟨q1, fun h => q2 h.1⟩, q3⟩
            · exact ⟨x, ⟨hSx, fun h => h.2 rfl⟩, q, hq, rfl⟩, fun ⟨z, ⟨q1, q2⟩, q3⟩ => by
            by_cases e : z = x
            · subst e; obtain ⟨q, hq, hqy⟩ := q3; exact .inr ⟨q, hq, hqy⟩
            · exact .inl ⟨z, ⟨q1, fun h => q2 ⟨h, e⟩⟩, q3⟩⟩)] at hI5
        case measure =>
          rw [hI.2.1.left_eq, HLE.out]; exact hlt
      case stop =>
        rintro D c pre p post W5 hD hx' hf hK
        exact hf.elim
end Go.Proofs.Ytdnjmhhjjbdieaa.Q
end
section
namespace Go.Proofs.Ytdnjmhhjjbdieaa.Q
open Go.RowKit Go.Shelf Go.Proofs.YtdnjmhhjjbdieaaW.PrintWords Go.Proofs.YtdnjmhhjjbdieaaW.PrintLast
set_option linter.unusedVariables false
set_option linter.unusedSimpArgs false
attribute [local go_sem] Oper.semAt_some
attribute [local go_sem] run_makeMap
def beginSt : St := ⟨-2, 0, 0, false⟩
theorem beginSt_small (i : Nat) : Small beginSt i := Small.zero _ _ (by omega) (by omega)
def fwd (least most short : Int) (n : Nat) (l : List S52) : Nat → St → Prop
  | 0 => fun y => y = beginSt
  | j + 1 => match l[j]? with | some m => nexts least most short n m.f0 m.f1 (fwd least most short n l j) | none => fun _ => False
theorem nexts_small {least most short : Int} {n : Nat} (hn : n ≤ 12) {mf mh : Int} {S : St → Prop} {i : Nat} (hS : ∀ x, S x → Small x i) (y : St) (h : nexts least most short n mf mh S y) : Small y (i + 1) := by
  obtain ⟨x, hx, p, hp, rfl⟩ := h
  exact small_parts hn (hS x hx) hp
theorem fwd_small {least most short : Int} {n : Nat} (hn : n ≤ 12) {l : List S52} : ∀ (j : Nat) (y : St), fwd least most short n l j y → Small y j
  | 0, y, h => by cases h; exact beginSt_small 0
  | j + 1, y, h => by
    cases hm : l[j]? with
    | none => simp [fwd, hm] at h
    | some m =>
      simp only [fwd, hm] at h
      exact nexts_small hn (fwd_small hn j) y h
structure Seen (n : Nat) (least most short : Int) (A : Option Addr) (len c g sb cS i lo : Nat) (bs : List Nat) (Ms : Nat → St → Prop) (w : World) : Prop where
  obj : w.heap[g]? = some (.cells #[.int .i64 n, .int .i64 least, .int .i64 most, .int .i64 short, .slice A len c, .slice (some ⟨sb, 0, none⟩) (i + 1 : Nat) cS, .int .i64 i] 107 (0, 0))
  row : w.ownsRow lo 104 1 (.slice (some ⟨sb, 0, none⟩) (i + 1 : Nat) cS) (i + 1) (bs.map fun b => .map (some b))
  maps : ∀ j b, bs[j]? = some b → lo ≤ b ∧ MapIs EB w b (setOf (Ms j))
  nodup : bs.Nodup
  glo : lo ≤ g
theorem Seen.len {n : Nat} {least most short : Int} {A : Option Addr} {len c g sb cS i lo : Nat} {bs : List Nat} {Ms : Nat → St → Prop} {w : World} (h : Seen n least most short A len c g sb cS i lo bs Ms w) : bs.length = i + 1 := by
  have := h.row.1
  simpa using this
theorem Seen.cell {n : Nat} {least most short : Int} {A : Option Addr} {len c g sb cS i lo : Nat} {bs : List Nat} {Ms : Nat → St → Prop} {w : World} (h : Seen n least most short A len c g sb cS i lo bs Ms w) {j b : Nat} (hj : bs[j]? = some b) :
    w.cell? ⟨sb, j, none⟩ = some (.map (some b)) := by
  have := h.row.cells (g := sb) rfl j (.map (some b)) (by simp [hj])
  rcases j with _ | j <;> simpa [Addr.add] using this
theorem Seen.rowlt {n : Nat} {least most short : Int} {A : Option Addr} {len c g sb cS i lo : Nat} {bs : List Nat} {Ms : Nat → St → Prop} {w : World} (h : Seen n least most short A len c g sb cS i lo bs Ms w) : sb < w.heap.size := by
  obtain ⟨b, hb⟩ : ∃ b, bs[0]? = some b := ⟨_, List.getElem?_eq_getElem (by have := h.len; omega)⟩
  exact World.block_lt_of_cell? w _ (h.cell hb)
theorem Seen.maplt {n : Nat} {least most short : Int} {A : Option Addr} {len c g sb cS i lo : Nat} {bs : List Nat} {Ms : Nat → St → Prop} {w : World} (h : Seen n least most short A len c g sb cS i lo bs Ms w) {b : Nat} (hb : b ∈ bs) : b < w.heap.size := by
  obtain ⟨j, hj⟩ := List.getElem?_of_mem hb
  exact (h.maps j b hj).2.lt
theorem Seen.same {n : Nat} {least most short : Int} {A : Option Addr} {len c g sb cS i lo : Nat} {bs : List Nat} {Ms : Nat → St → Prop} {w w' : World} (h : Seen n least most short A len c g sb cS i lo bs Ms w)
    (hg : w'.heap[g]? = w.heap[g]?) (hs : w'.heap[sb]? = w.heap[sb]?) (hb : ∀ b ∈ bs, w'.heap[b]? = w.heap[b]?) : Seen n least most short A len c g sb cS i lo bs Ms w' := by
  obtain ⟨h1, h2, h3, h4, h5⟩ := h
  refine ⟨hg.trans h1, ?_, fun j b hj => ⟨(h3 j b hj).1, (h3 j b hj).2.same (hb b (List.mem_of_getElem? hj))⟩, h4, h5⟩
  obtain ⟨q1, q2⟩ := h2
  refine ⟨q1, ?_⟩
  rcases q2 with q2 | ⟨g', cap, cur, e, r1, r2, r3, r4, r5, r6⟩
  · exact .inl q2
  · cases e
    exact .inr ⟨sb, cS, cur, rfl, r1, hs.trans r2, r3, r4, r5, r6⟩
theorem step_append_run {P : Program} {ops : Array Oper} {o : Oper} {a : Act} {w : World} {K : Act → World → Prop} {Q : Exit → Act → World → Prop} {E : Prop}
    (hg : o.guard = none) (s x : Operand) (t : TypeId) (hop : o.op = Op.call { callee := Callee.builtin Builtin.append, args := #[s, x], argTypes := #[t, t] })
    (v y v' : Value) (w' : World) (hs : a.eval s = v) (hx : a.eval x = y) (hr : (Builtin.append_ #[t, t] o.type #[v, y]).run P w = .ok v' w') (hK : K (a.put o.dst v') w') :
    if Region.wanted o (yielded ops a.tmps) = true then Oper.wp P o a w K Q else E := by
  have hw : Region.wanted o (yielded ops a.tmps) = true := by simp [Region.wanted, hg]
  rw [if_pos hw]
  unfold Oper.wp
  simp [execOp, hop, resolve, invoke, builtin, hs, hx, hr, Result.andThen]
  exact hK
@[reducible] def onlyNormal (S : Act → World → Prop) : Exit → Act → World → Prop := fun e a w => match e with | .normal => S a w | _ => False
theorem wpIn_cut {P : Program} {c : Code} {Q : Exit → Act → World → Prop} {a : Act} {w : World} (S : Act → World → Prop)
    (h : c.wp P (onlyNormal S) a w) (hS : ∀ a' w', S a' w' → Q .normal a' w') : c.wpIn Fence.wide 0 P Q a w := wpIn_wide.2 (Go.wpIn_mono (wpIn_wide (n := 0).2 h) (fun e a w h => by cases e <;> first | exact hS a w h | exact h.elim) |> wpIn_wide.1)
theorem info104 : (Try.prog.info? 104).map (fun i => (i.zero, i.size, i.bytes)) = some (some (.map none), 1, 8) := by kernel_rfl
set_option maxRecDepth 100000 in
theorem begin.calls (w : World) : Calls Try.prog 56 #[] w fun e w' => e = .returned (.agg #[.int .i64 (-2), .int .i64 0, .int .i64 0, .bool false]) ∧ w' = w.alloc (.cells #[.int .i64 (-2), .int .i64 0, .int .i64 0, .bool false] 109) := by
  have hu1 := Try.underlying109
  go_enter Try.func56, Try.ntmps56
  go_wp2
  refine bodyPost_ret (v := .agg #[.int .i64 (-2), .int .i64 0, .int .i64 0, .bool false]) (by simp [results, Try.results56, go_sem, hu1]) rfl ⟨rfl, rfl⟩
set_option maxRecDepth 100000 in
set_option maxHeartbeats 4000000 in
theorem look.rounds (n : Nat) (hn : n ≤ 12) (least most short : Int) (A : Option Addr) (c : Nat) (l : List S52) (hl : l.length ≤ 40)
    (sc g sb cS b0 lo : Nat) (Q : Exit → Act → World → Prop) (v0 v2 v4 v5 v6 v7 v8 v9 v10 v11 v12 v13 v14 v15 v16 v17 v18 v19 v23 v24 v25 v26 v27 v28 v29 v30 v31 v32 v33 v34 v35 v36 v37 v38 v39 v40 v41 v42 v43 v44 v45 v46 v47 v48 v49 v50 v51 v52 v53 v54 v55 v56 v57 v58 v59 v60 v61 v62 v63 v64 v65 v66 v67 v68 v69 v70 v71 v72 v73 v74 v75 v76 v77 v78 v79 v80 v81 v82 v83 v84 v85 v86 v87 v88 v89 v90 v91 v92 v93 v94 v95 v96 v97 v98 v99 v100 v101 v102 v103 v104 v105 v106 : Value) (w0 W : World)
    (hA : Kd.C k52 w0 A l.length l) (hlo : lo = w0.heap.size) (hsc : lo ≤ sc) (hF : Fr (fun _ => False) w0 W)
    (h1 : W.heap[sc]? = some (.cells #[.int .i64 n, .int .i64 least, .int .i64 most, .int .i64 short, .slice A l.length c] 33 (0, 0)))
    (hs : Seen n least most short A l.length c g sb cS 0 lo [b0] (fwd least most short n l) W)
    (hnorm : ∀ (ds' : List Deferred) (sb' cS' : Nat) (bs : List Nat) (u2 u5 u6 u7 u9 u23 u24 u25 u26 u27 u28 u29 u30 u31 u32 u33 u34 u35 u36 u37 u38 u39 u40 u41 u42 u43 u44 u45 u48 u49 u50 u51 u52 u53 u54 u55 u56 u57 u58 u59 u60 u61 u62 u63 u64 u65 u66 u67 u68 u69 u70 u71 : Value) (W' : World), Fr (fun _ => False) w0 W' → Coll lo W'.heap.size ds' W' →
      (∀ j, j ≤ l.length → ∃ x, fwd least most short n l j x) → Seen n least most short A l.length c g sb' cS' l.length lo bs (fwd least most short n l) W' →
      Q .normal { tmps := (List.toArray (v0 :: (.pointer (some ⟨sc, 0, none⟩)) :: u2 :: (.pointer (some ⟨g, 0, none⟩)) :: v4 :: u5 :: u6 :: u7 :: v8 :: u9 :: v10 :: v11 :: v12 :: v13 :: v14 :: v15 :: v16 :: v17 :: v18 :: v19 :: (.slice A l.length c) :: (.int .i64 l.length) :: (.int .i64 l.length) :: u23 :: u24 :: u25 :: u26 :: u27 :: u28 :: u29 :: u30 :: u31 :: u32 :: u33 :: u34 :: u35 :: u36 :: u37 :: u38 :: u39 :: u40 :: u41 :: u42 :: u43 :: u44 :: u45 :: v46 :: v47 :: u48 :: u49 :: u50 :: u51 :: u52 :: u53 :: u54 :: u55 :: u56 :: u57 :: u58 :: u59 :: u60 :: u61 :: u62 :: u63 :: u64 :: u65 :: u66 :: u67 :: u68 :: u69 :: u70 :: u71 :: v72 :: v73 :: v74 :: v75 :: v76 :: v77 :: v78 :: v79 :: v80 :: v81 :: v82 :: v83 :: v84 :: v85 :: v86 :: v87 :: v88 :: v89 :: v90 :: v91 :: v92 :: v93 :: v94 :: v95 :: v96 :: v97 :: v98 :: v99 :: v100 :: v101 :: v102 :: v103 :: v104 :: v105 :: v106 :: [])), defers := ds' } W')
    (hret : ∀ (i : Nat) (ds' : List Deferred) (sb' cS' : Nat) (bs : List Nat) (u5 u6 u7 u9 u23 u24 u25 u26 u27 u28 u29 u30 u31 u32 u33 u34 u35 u36 u37 u38 u39 u40 u41 u42 u43 u44 u45 u48 u49 u50 u51 u52 u53 u54 u55 u56 u57 u58 u59 u60 u61 u62 u63 u64 u65 u66 u67 u68 u69 u70 u71 : Value) (W' : World), i < l.length → Fr (fun _ => False) w0 W' → Coll lo W'.heap.size ds' W' →
      (∀ j, j ≤ i → ∃ x, fwd least most short n l j x) → (∀ x, ¬ fwd least most short n l (i + 1) x) → Seen n least most short A l.length c g sb' cS' i lo bs (fwd least most short n l) W' →
      Q .ret { tmps := (List.toArray (v0 :: (.pointer (some ⟨sc, 0, none⟩)) :: (.pointer (some ⟨g, 0, none⟩)) :: (.pointer (some ⟨g, 0, none⟩)) :: v4 :: u5 :: u6 :: u7 :: v8 :: u9 :: v10 :: v11 :: v12 :: v13 :: v14 :: v15 :: v16 :: v17 :: v18 :: v19 :: (.slice A l.length c) :: (.int .i64 l.length) :: (.int .i64 i) :: u23 :: u24 :: u25 :: u26 :: u27 :: u28 :: u29 :: u30 :: u31 :: u32 :: u33 :: u34 :: u35 :: u36 :: u37 :: u38 :: u39 :: u40 :: u41 :: u42 :: u43 :: u44 :: u45 :: v46 :: v47 :: u48 :: u49 :: u50 :: u51 :: u52 :: u53 :: u54 :: u55 :: u56 :: u57 :: u58 :: u59 :: u60 :: u61 :: u62 :: u63 :: u64 :: u65 :: u66 :: u67 :: u68 :: u69 :: u70 :: u71 :: v72 :: v73 :: v74 :: v75 :: v76 :: v77 :: v78 :: v79 :: v80 :: v81 :: v82 :: v83 :: v84 :: v85 :: v86 :: v87 :: v88 :: v89 :: v90 :: v91 :: v92 :: v93 :: v94 :: v95 :: v96 :: v97 :: v98 :: v99 :: v100 :: v101 :: v102 :: v103 :: v104 :: v105 :: v106 :: [])), defers := ds' } W') :
    (blockOf 0 Try.f71).wpIn Fence.wide 0 Try.prog (Exit.inBlock 0 Q) { tmps := (List.toArray (v0 :: (.pointer (some ⟨sc, 0, none⟩)) :: v2 :: (.pointer (some ⟨g, 0, none⟩)) :: v4 :: v5 :: v6 :: v7 :: v8 :: v9 :: v10 :: v11 :: v12 :: v13 :: v14 :: v15 :: v16 :: v17 :: v18 :: v19 :: (.slice A l.length c) :: (.int .i64 l.length) :: (.int .i64 0) :: v23 :: v24 :: v25 :: v26 :: v27 :: v28 :: v29 :: v30 :: v31 :: v32 :: v33 :: v34 :: v35 :: v36 :: v37 :: v38 :: v39 :: v40 :: v41 :: v42 :: v43 :: v44 :: v45 :: v46 :: v47 :: v48 :: v49 :: v50 :: v51 :: v52 :: v53 :: v54 :: v55 :: v56 :: v57 :: v58 :: v59 :: v60 :: v61 :: v62 :: v63 :: v64 :: v65 :: v66 :: v67 :: v68 :: v69 :: v70 :: v71 :: v72 :: v73 :: v74 :: v75 :: v76 :: v77 :: v78 :: v79 :: v80 :: v81 :: v82 :: v83 :: v84 :: v85 :: v86 :: v87 :: v88 :: v89 :: v90 :: v91 :: v92 :: v93 :: v94 :: v95 :: v96 :: v97 :: v98 :: v99 :: v100 :: v101 :: v102 :: v103 :: v104 :: v105 :: v106 :: [])), defers := [] } W := by
  conv => arg 4; whnf
  have hmx : Try.prog.follows .mixedOrders = true := by kernel_rfl
  have hu := Try.underlying33
  have hu1 := Try.underlying109
  have hu2 := Try.underlying52
  have hu3 := Try.underlying107
  have H1 := Lib.hid h1
  have HA := Lib.hid hA
  clear h1 hA
  refine wpIn_loop_lay (fun (tT : List Value) (a' : Act) (wv : World) => ∃ (dfs : List Deferred) (u2 u5 u6 u7 u9 u22 u23 u24 u25 u26 u27 u28 u29 u30 u31 u32 u33 u34 u35 u36 u37 u38 u39 u40 u41 u42 u43 u44 u45 u48 u49 u50 u51 u52 u53 u54 u55 u56 u57 u58 u59 u60 u61 u62 u63 u64 u65 u66 u67 u68 u69 u70 u71 : Value), ((fun u22 dfs w' => ∃ (k sb' cS' : Nat) (bs : List Nat), u22 = .int .i64 k ∧ k ≤ l.length ∧ Fr (fun _ => False) w0 w' ∧ Coll lo w'.heap.size dfs w' ∧ w'.heap[sc]? = some (.cells #[.int .i64 n, .int .i64 least, .int .i64 most, .int .i64 short, .slice A l.length c] 33 (0, 0)) ∧
      (∀ j, j ≤ k → ∃ x, fwd least most short n l j x) ∧ Seen n least most short A l.length c g sb' cS' k lo bs (fwd least most short n l) w') u22 dfs wv) ∧ a' = { tmps := (lay [none, none, some u2, none, none, some u5, some u6, some u7, none, some u9, none, none, none, none, none, none, none, none, none, none, none, none, some u22, some u23, some u24, some u25, some u26, some u27, some u28, some u29, some u30, some u31, some u32, some u33, some u34, some u35, some u36, some u37, some u38, some u39, some u40, some u41, some u42, some u43, some u44, some u45, none, none, some u48, some u49, some u50, some u51, some u52, some u53, some u54, some u55, some u56, some u57, some u58, some u59, some u60, some u61, some u62, some u63, some u64, some u65, some u66, some u67, some u68, some u69, some u70, some u71] tT).toArray, defers := dfs }) (fun (a' : Act) (wv : World) => (fun u22 w' => l.length - (intOf u22).toNat) (Array.getD a'.tmps 22 undef) wv) ?atStart ?round
  case' atStart =>
    dsimp only [lay]
    (repeat apply Exists.intro)
    refine ⟨?_, rfl⟩
  case' round =>
    dsimp only [lay]
    intro _ wr hinv
    obtain ⟨dfs, hinv⟩ := hinv
    obtain ⟨u2, hinv⟩ := hinv
    obtain ⟨u5, hinv⟩ := hinv
    obtain ⟨u6, hinv⟩ := hinv
    obtain ⟨u7, hinv⟩ := hinv
    obtain ⟨u9, hinv⟩ := hinv
    obtain ⟨u22, hinv⟩ := hinv
    obtain ⟨u23, hinv⟩ := hinv
    obtain ⟨u24, hinv⟩ := hinv
    obtain ⟨u25, hinv⟩ := hinv
    obtain ⟨u26, hinv⟩ := hinv
    obtain ⟨u27, hinv⟩ := hinv
    obtain ⟨u28, hinv⟩ := hinv
    obtain ⟨u29, hinv⟩ := hinv
    obtain ⟨u30, hinv⟩ := hinv
    obtain ⟨u31, hinv⟩ := hinv
    obtain ⟨u32, hinv⟩ := hinv
    obtain ⟨u33, hinv⟩ := hinv
    obtain ⟨u34, hinv⟩ := hinv
    obtain ⟨u35, hinv⟩ := hinv
    obtain ⟨u36, hinv⟩ := hinv
    obtain ⟨u37, hinv⟩ := hinv
    obtain ⟨u38, hinv⟩ := hinv
    obtain ⟨u39, hinv⟩ := hinv
    obtain ⟨u40, hinv⟩ := hinv
    obtain ⟨u41, hinv⟩ := hinv
    obtain ⟨u42, hinv⟩ := hinv
    obtain ⟨u43, hinv⟩ := hinv
    obtain ⟨u44, hinv⟩ := hinv
    obtain ⟨u45, hinv⟩ := hinv
    obtain ⟨u48, hinv⟩ := hinv
    obtain ⟨u49, hinv⟩ := hinv
    obtain ⟨u50, hinv⟩ := hinv
    obtain ⟨u51, hinv⟩ := hinv
    obtain ⟨u52, hinv⟩ := hinv
    obtain ⟨u53, hinv⟩ := hinv
    obtain ⟨u54, hinv⟩ := hinv
    obtain ⟨u55, hinv⟩ := hinv
    obtain ⟨u56, hinv⟩ := hinv
    obtain ⟨u57, hinv⟩ := hinv
    obtain ⟨u58, hinv⟩ := hinv
    obtain ⟨u59, hinv⟩ := hinv
    obtain ⟨u60, hinv⟩ := hinv
    obtain ⟨u61, hinv⟩ := hinv
    obtain ⟨u62, hinv⟩ := hinv
    obtain ⟨u63, hinv⟩ := hinv
    obtain ⟨u64, hinv⟩ := hinv
    obtain ⟨u65, hinv⟩ := hinv
    obtain ⟨u66, hinv⟩ := hinv
    obtain ⟨u67, hinv⟩ := hinv
    obtain ⟨u68, hinv⟩ := hinv
    obtain ⟨u69, hinv⟩ := hinv
    obtain ⟨u70, hinv⟩ := hinv
    obtain ⟨u71, hinv⟩ := hinv
    obtain ⟨hrel, ha⟩ := hinv
    subst ha
    try dsimp only
  case atStart =>
    have hstart : ∀ j, j ≤ 0 → ∃ x, fwd least most short n l j x := fun j hj => by
      obtain rfl : j = 0 := by omega
      exact ⟨beginSt, rfl⟩
    exact ⟨0, sb, cS, [b0], rfl, Nat.zero_le _, hF, Coll.nil _ _ _, H1.out, hstart, hs⟩
  case round =>
    obtain ⟨k, sb', cS', bs, rfl, hk, hF1, hC, hS1, hne, hSeen⟩ := hrel
    clear hs hF
    by_cases hlt : k < l.length
    · have hSz := hF1.size
      obtain ⟨ad, rfl, m0, m1⟩ := at_T52 HA.out k (by omega) (by omega)
      have hrd : rd_T52 l (k : Int) = l[k] := by simp [rd_T52, List.getD, hlt]
      rw [hrd, Int.toNat_natCast] at m0 m1
      obtain ⟨⟨mf, mh⟩, hm⟩ : ∃ m, l[k] = m := ⟨_, rfl⟩
      rw [hm] at m0 m1
      simp only [] at m0 m1
      have m0' := hF1.cell m0 (by simp)
      have m1' := hF1.cell m1 (by simp)
      have hk2 : (k : Int) < l.length := by omega
      have hi2 : (ad.add (k * 2)).block < wr.heap.size := World.block_lt_of_cell? wr _ m0'
      have hi3 : (ad.add (k * 2)).block < wr.heap.size + 1 := by omega
      have HF1 := Lib.hid hF1
      have HC := Lib.hid hC
      have HS := Lib.hid hSeen
      have HS1 := Lib.hid hS1
      have kg := (Array.getElem?_eq_some_iff.1 hSeen.obj).1
      clear hF1 hC hSeen hS1 m0 m1 hrd
      gi_wp2
      obtain ⟨W1, hW1⟩ : ∃ W1, ((wr.alloc (.cells #[.int .u16 mf, .int .u16 mh] 52)).alloc (.map #[] 0)).alloc (.cells #[.map (some (wr.heap.size + 1))] 104) = W1 := ⟨_, rfl⟩
      have hW1s : W1.heap.size = wr.heap.size + 3 := by rw [← hW1]; simp
      have hbel : Below wr.heap.size wr W1 := by
        rw [← hW1]; exact (((Below.refl _ wr).alloc (by omega) _).alloc (by simp) _).alloc (by simp; omega) _
      have hcm : W1.heap[wr.heap.size]? = some (.cells #[.int .u16 mf, .int .u16 mh] 52 (0, 0)) := by rw [← hW1]; exact heap_old (heap_old (heap_new rfl))
      have hbn : W1.heap[wr.heap.size + 1]? = some (.map #[] 0) := by rw [← hW1]; exact heap_old (heap_new (by simp))
      have hcn : W1.heap[wr.heap.size + 1 + 1]? = some (.cells #[.map (some (wr.heap.size + 1))] 104 (0, 0)) := by rw [← hW1]; exact heap_new (by simp)
      have hbnM : MapIs EB W1 (wr.heap.size + 1) (fun _ => none) := by
        have hm := MapIs.made (E := EB) (wr.alloc (.cells #[.int .u16 mf, .int .u16 mh] 52))
        rw [World.size_alloc] at hm
        rw [← hW1]
        exact hm.same (Below.heap_alloc _ _ _ (by simp))
      rw [hW1]
      have hSeen := HS.out
      have hsL := hSeen.len
      have hgl := (Array.getElem?_eq_some_iff.1 hSeen.obj).1
      have hS1 : Seen n least most short (some ad) l.length c g sb' cS' k lo bs (fwd least most short n l) W1 := hSeen.same (hbel.block _ kg) (hbel.block _ hSeen.rowlt) (fun b hb => hbel.block _ (hSeen.maplt hb))
      obtain ⟨bk, hbk⟩ : ∃ bk, bs[k]? = some bk := ⟨_, List.getElem?_eq_getElem (by omega)⟩
      have hMk := (hS1.maps k bk hbk).2
      obtain ⟨W2, cnt, hrng, hR2, hg2, hs2⟩ := (hMk.same (w' := W1.drew) rfl).range
      have hrng : (Instr.range 104 (.map (some bk))).run Try.prog W1.drew = .ok (.pointer (some ⟨W1.heap.size, 0, none⟩)) W2 := hrng
      have e5 := cell_of hS1.obj (i := 5) rfl
      have e6 := cell_of hS1.obj (i := 6) rfl
      have ek := hS1.cell hbk
      simp only [List.getElem_toArray, List.getElem_cons_zero, List.getElem_cons_succ] at e5 e6
      have hk3 : (k : Int) < (k : Int) + 1 := by omega
      have HS1' := Lib.hid hS1
      have HR2 := Lib.hid hR2
      have HG2 := Lib.hid hg2
      have HS2 := Lib.hid hs2
      have HBEL := Lib.hid hbel
      have HCM := Lib.hid hcm
      have HCN := Lib.hid hcn
      have HBN := Lib.hid hbnM
      have HW1s := Lib.hid hW1s
      clear hS1 hR2 hg2 hs2 hbel hcm hcn hbn hbnM hW1 hW1s hSeen hMk
      gi_wp2
      refine wpIn_region_still_tail .wide 10 hmx (by kernel_rfl) (by kernel_rfl) ?_
      simp only [List.take_succ_cons, List.take_zero, List.drop_succ_cons, List.drop_zero]
      repeat still_step
      refine wpStill_nil ?_
      gi_wp2
      have hSeen := HS.out
      have hsL := hSeen.len
      have hW1s := HW1s.out
      have hbkl : bk < wr.heap.size := hSeen.maplt (List.mem_of_getElem? hbk)
      have hg2 := HG2.out
      have hs2 : W2.heap.size = W1.heap.size + 1 := HS2.out
      have hF2 : Fr (fun _ => False) W1 W2 := (Fr.drew W1).trans (Fr.grown hg2 (fun r e => by cases e))
      have hFw : Fr (fun _ => False) wr W2 := (Fr.of_below HBEL.out (fun k q1 q2 => by omega)).trans hF2
      have hF0 : Fr (fun _ => False) w0 W2 := HF1.out.trans hFw
      have hbn2 : MapIs EB W2 (wr.heap.size + 1) (fun _ => none) := HBN.out.same (hF2.same _ (by omega) (by simp))
      have hcm2 := (hF2.same _ (by omega) (by simp)).trans HCM.out
      have hcn2 := (hF2.same _ (by omega) (by simp)).trans HCN.out
      have hsc2 := (hFw.same _ (Array.getElem?_eq_some_iff.1 HS1.out).1 (by simp)).trans HS1.out
      have hC2 : Coll lo W2.heap.size dfs W2 := (HC.out.same (SameMarks.fr hFw (fun k h => h.elim))).up (by omega)
      have hse2 : Seen n least most short (some ad) l.length c g sb' cS' k lo bs (fwd least most short n l) W2 := hSeen.same (hFw.same _ kg (by simp)) (hFw.same _ hSeen.rowlt (by simp)) (fun b hb => hFw.same _ (hSeen.maplt hb) (by simp))
      refine look.fill (Q := _) n hn least most short mf mh _ (fwd least most short n l k) k (by omega) (fun x hx => fwd_small hn k x hx) sc _ _ bk (wr.heap.size + 1) _ lo cnt dfs _ _ _ _ _ _ _ _ _ _ _ _ _ _ _ _ _ _ _ _ _ _ _ _ _ _ _ _ _ _ _ _ _ _ _ _ _ _ _ _ _ _ _ _ _ _ _ _ _ _ _ _ _ _ _ _ _ _ _ _ _ _ _ _ _ _ _ _ _ _ _ _ _ _ _ _ _ _ _ _ _ _ _ _ _ _ _ _ _ _ _ _ _ _ _ _ _ _ _ _ _ _ _ W2 HR2.out hbn2 (by omega) hsc2 hcm2 hcn2 (by have := hF0.size; omega) hC2 ?_
      rintro ds3 t7 t9 t38 t39 t40 t41 t42 t43 t44 t45 t48 t49 W3 hF3 hMk3 hM3 hC3
      have hfwd : fwd least most short n l (k + 1) = nexts least most short n mf mh (fwd least most short n l k) := by
        simp only [fwd, List.getElem?_eq_getElem hlt, hm]
      rw [← hfwd] at hM3
      have hW1c := (Array.getElem?_eq_some_iff.1 hcn2).1
      have hF3w : Fr (fun _ => False) wr W3 := ⟨hF3.os.trans hFw.os, hF3.tape.trans hFw.tape, hF3.output.trans hFw.output, Nat.le_trans hFw.size hF3.size, fun j hj _ => (hF3.same j (by omega) (fun h => by rcases h with h | h <;> omega)).trans (hFw.same j hj (by simp))⟩
      have hF30 : Fr (fun _ => False) w0 W3 := HF1.out.trans hF3w
      have hse3 : Seen n least most short (some ad) l.length c g sb' cS' k lo bs (fwd least most short n l) W3 := hSeen.same (hF3w.same _ kg (by simp)) (hF3w.same _ hSeen.rowlt (by simp)) (fun b hb => hF3w.same _ (hSeen.maplt hb) (by simp))
      have hsc3 := (hF3w.same _ (Array.getElem?_eq_some_iff.1 HS1.out).1 (by simp)).trans HS1.out
      have hcn3 := (hF3.same _ hW1c (fun h => by rcases h with h | h <;> omega)).trans hcn2
      have ecn := cell_of hcn3 (i := 0) rfl
      simp only [List.getElem_toArray, List.getElem_cons_zero] at ecn
      obtain ⟨nl, hnl, hlen, hzero⟩ := hM3.len 3
      have hlen : (Builtin.len_ #[104] 3 #[.map (some (wr.heap.size + 1))]).run Try.prog W3 = .ok (.int .i64 nl) W3 := hlen
      have hkl : wr.heap.size + 1 < W3.heap.size := hM3.lt
      have HF3w := Lib.hid hF3w
      have HF30 := Lib.hid hF30
      have HSE3 := Lib.hid hse3
      have HSC3 := Lib.hid hsc3
      have HM3 := Lib.hid hM3
      have HC3 := Lib.hid hC3
      clear hF3w hF30 hse3 hsc3 hcn3 hM3 hC3 hMk3 hF3 hcm2 hcn2 hsc2 hC2 hse2 hbn2 hFw hF0 hF2 hg2 hs2 hrng hsL hSeen hW1s ek e5 e6 m0' m1'
      by_cases hz : nl = 0
      · subst hz
        have hno := hzero.1 rfl
        gi_wp2
        exact hret k ds3 sb' cS' bs _ _ _ _ _ _ _ _ _ _ _ _ _ _ _ _ _ _ _ _ _ _ _ _ _ _ _ _ _ _ _ _ _ _ _ _ _ _ _ _ _ _ _ _ _ _ _ _ _ _ _ W3 hlt HF30.out HC3.out hne (fun x hx => by have := hno x; unfold setOf at this; rw [if_pos hx] at this; cases this) HSE3.out
      · have hnz : ¬ ((nl : Int) = 0) := by omega
        have hne1 : ∃ x, fwd least most short n l (k + 1) x := Classical.byContradiction (fun hc => hz (hzero.2 (fun x => by
          cases hx : setOf (fwd least most short n l (k + 1)) x with
          | none => rfl
          | some u => exact (hc ⟨x, setOf_some hx⟩).elim)))
        gi_wp2
        obtain ⟨W4, hW4⟩ : ∃ W4, W3.drew.alloc (.cells #[.map (some (wr.heap.size + 1))] 104) = W4 := ⟨_, rfl⟩
        have hbel4 : Below W3.heap.size W3 W4 := by rw [← hW4]; exact (Below.refl _ W3).drew.alloc (by simp) _
        have hs4 : W4.heap.size = W3.heap.size + 1 := by rw [← hW4]; simp
        have hse3 := HSE3.out
        have hgl3 := (Array.getElem?_eq_some_iff.1 hse3.obj).1
        have hse4 : Seen n least most short (some ad) l.length c g sb' cS' k lo bs (fwd least most short n l) W4 := hse3.same (hbel4.block _ hgl3) (hbel4.block _ hse3.rowlt) (fun b hb => hbel4.block _ (hse3.maplt hb))
        obtain ⟨inf, hinf, hif⟩ : ∃ i, Try.prog.info? 104 = some i ∧ (i.zero, i.size, i.bytes) = (some (.map none), 1, 8) := by
          have h := info104
          cases h2 : Try.prog.info? 104 with
          | none => rw [h2] at h; cases h
          | some i => rw [h2] at h; exact ⟨i, rfl, Option.some.inj h⟩
        simp only [Prod.mk.injEq] at hif
        have hlo3 := HF30.out.size
        obtain ⟨v', W5, happ, hrow5, hg5, hnil5, hat5⟩ := run_append_own_at (P := Try.prog) W4 lo 105 105 104 inf (.map none) 1 8 Try.underlying105 hinf hif.1 hif.2.1 hif.2.2 rfl (by omega)
          _ (k + 1) _ hse4.row ⟨W3.heap.size, 0, none⟩ 1 1 [.map (some (wr.heap.size + 1))] rfl (by rw [← hW4]; exact cell_one_new W3.drew _ _) (by simp [Value.oneCell']) (by unfold maxLen; omega) (by omega) (by omega)
        have hsl : ∃ sb2 cS2, v' = .slice (some ⟨sb2, 0, none⟩) (k + 1 + 1 : Nat) cS2 ∧ lo ≤ sb2 ∧ ∃ cur, W5.heap[sb2]? = some (.cells cur 104 (0, 0)) := by
          rcases hrow5.2 with ⟨_, h⟩ | ⟨g', cap, cur, r1, r2, r3, _⟩
          · omega
          · exact ⟨g', cap, r1, r2, cur, r3⟩
        obtain ⟨sb2, cS2, rfl, hsb2, cur2, hcur2⟩ := hsl
        have happ' : (Builtin.append_ #[105, 105] 105 #[.slice (some ⟨sb', 0, none⟩) (k + 1 : Nat) cS', .slice (some ⟨W3.heap.size, 0, none⟩) 1 1]).run Try.prog (W3.alloc (.cells #[.map (some (wr.heap.size + 1))] 104)).drew = .ok (.slice (some ⟨sb2, 0, none⟩) (k + 1 + 1 : Nat) cS2) W5 := by
          rw [show (W3.alloc (.cells #[.map (some (wr.heap.size + 1))] 104)).drew = W3.drew.alloc (.cells #[.map (some (wr.heap.size + 1))] 104) from rfl, hW4]; exact happ
        have hgs : g ≠ sb' := fun e => by
          have h1 := hse4.row.2
          rcases h1 with ⟨h, _⟩ | ⟨g', cap, cur, r1, r2, r3, _⟩
          · cases h
          · cases r1; rw [← e, hse4.obj] at r3; cases r3
        have hob5 : W5.heap[g]? = _ := (hg5.block g (by omega) (fun e => hgs (Option.some.inj e))).trans hse4.obj
        have e35 := cell_of hse3.obj (i := 5) rfl
        have e55 := cell_of hob5 (i := 5) rfl
        have e56 := cell_of hob5 (i := 6) rfl
        have f55 := not_frozen (i := 5) hob5
        have f56 := not_frozen (i := 6) hob5
        simp only [List.getElem_toArray, List.getElem_cons_zero, List.getElem_cons_succ] at e35 e55 e56
        have hg5l := (Array.getElem?_eq_some_iff.1 hob5).1
        have HOB5 := Lib.hid hob5
        have HROW5 := Lib.hid hrow5
        have HG5 := Lib.hid hg5
        have HSE4 := Lib.hid hse4
        have HAT5 := Lib.hid hat5
        have HB4 := Lib.hid hbel4
        have HS4 := Lib.hid hs4
        have HCUR := Lib.hid hcur2
        have hwr : IntKind.i64.wrap ((k : Int) + 1) = (k : Int) + 1 := by simp [IntKind.wrap, IntKind.bits, IntKind.signed]; omega
        clear hse3 hob5 hrow5 hg5 hse4 hat5 hbel4 hs4 hcur2 happ hW4 hnil5 hlen hzero
        refine wpIn_cut (fun a' w' => w' = W5.setCell ⟨g, 5, none⟩ (.slice (some ⟨sb2, 0, none⟩) (k + 1 + 1 : Nat) cS2) ∧ a' = { tmps := (List.toArray (v0 :: (.pointer (some ⟨sc, 0, none⟩)) :: u2 :: (.pointer (some ⟨g, 0, none⟩)) :: v4 :: (.pointer (some ⟨wr.heap.size, 0, none⟩)) :: (.pointer (some ⟨wr.heap.size + 1 + 1, 0, none⟩)) :: t7 :: v8 :: t9 :: v10 :: v11 :: v12 :: v13 :: v14 :: v15 :: v16 :: v17 :: v18 :: v19 :: (.slice (some ad) l.length c) :: (.int .i64 l.length) :: (.int .i64 k) :: (.bool true) :: (.pointer (some (ad.add (k * 2)))) :: (.agg #[.int .u16 mf, .int .u16 mh]) :: (.map (some (wr.heap.size + 1))) :: (.pointer (some ⟨g, 0, none⟩)) :: (.pointer (some ⟨g, 0, none⟩)) :: (.pointer (some ⟨g, 5, none⟩)) :: (.slice (some ⟨sb', 0, none⟩) (k + 1 : Nat) cS') :: (.pointer (some ⟨g, 0, none⟩)) :: (.pointer (some ⟨g, 0, none⟩)) :: (.pointer (some ⟨g, 6, none⟩)) :: (.int .i64 k) :: (.pointer (some ⟨sb', k, none⟩)) :: (.map (some bk)) :: (.pointer (some ⟨W1.heap.size, 0, none⟩)) :: t38 :: t39 :: t40 :: t41 :: t42 :: t43 :: t44 :: t45 :: v46 :: v47 :: t48 :: t49 :: (.map (some (wr.heap.size + 1))) :: (.int .i64 nl) :: (.bool false) :: u53 :: (.pointer (some ⟨g, 0, none⟩)) :: (.pointer (some ⟨g, 0, none⟩)) :: (.pointer (some ⟨g, 0, none⟩)) :: (.pointer (some ⟨g, 5, none⟩)) :: (.slice (some ⟨sb', 0, none⟩) (k + 1 : Nat) cS') :: (.map (some (wr.heap.size + 1))) :: (.slice (some ⟨W3.heap.size, 0, none⟩) 1 1) :: (.slice (some ⟨sb2, 0, none⟩) (k + 1 + 1 : Nat) cS2) :: (.pointer (some ⟨g, 0, none⟩)) :: (.pointer (some ⟨g, 5, none⟩)) :: u64 :: u65 :: u66 :: u67 :: u68 :: u69 :: u70 :: u71 :: v72 :: v73 :: v74 :: v75 :: v76 :: v77 :: v78 :: v79 :: v80 :: v81 :: v82 :: v83 :: v84 :: v85 :: v86 :: v87 :: v88 :: v89 :: v90 :: v91 :: v92 :: v93 :: v94 :: v95 :: v96 :: v97 :: v98 :: v99 :: v100 :: v101 :: v102 :: v103 :: v104 :: v105 :: v106 :: [])), defers := ds3 }) ?cutA ?cutB
        case cutA =>
          go_region_law (refine step_append_run (by rfl) (.tmp 58) (.tmp 60) 105 (by rfl) _ _ _ _ (by simp [Act.eval, Act.put]) (by simp [Act.eval, Act.put]) happ' ?_)
          all_goals exact ⟨rfl, rfl⟩
        case cutB =>
          rintro a' w' ⟨rfl, rfl⟩
          gi_wp2
          refine ⟨?_, ?measure⟩
          · (repeat apply Exists.intro)
            refine ⟨?_, rfl⟩
            obtain ⟨W7, hW7⟩ : ∃ W7, (W5.setCell ⟨g, 5, none⟩ (.slice (some ⟨sb2, 0, none⟩) (k + 1 + 1 : Nat) cS2)).setCell ⟨g, 6, none⟩ (.int .i64 ((k : Int) + 1)) = W7 := ⟨_, rfl⟩
            rw [hW7]
            have hse4 := HSE4.out
            have hrow5 := HROW5.out
            have hgg : g < W4.heap.size := (Array.getElem?_eq_some_iff.1 hse4.obj).1
            have hF47 : Fr (fun k => k = g ∨ k = sb') W4 W7 := by
              rw [← hW7]
              exact ((Fr.grown HG5.out (fun r e => by cases e; exact .inr rfl)).trans (Fr.setCell _ _ _ (.inl rfl))).trans (Fr.setCell _ _ _ (.inl rfl))
            have hF34 : Fr (fun _ => False) W3 W4 := Fr.of_below HB4.out (fun k q1 q2 => by omega)
            have hsbh : ∃ cur, W4.heap[sb']? = some (.cells cur 104 (0, 0)) ∧ lo ≤ sb' := by
              rcases hse4.row.2 with ⟨h, _⟩ | ⟨g', cap, cur, r1, r2, r3, _⟩
              · cases h
              · cases r1; exact ⟨cur, r3, r2⟩
            obtain ⟨cur4, hcur4, hsblo⟩ := hsbh
            have hglo := hse4.glo
            have hmk : SameMarks W4 W7 := SameMarks.fr hF47 (fun k h e => by
              rcases h with rfl | rfl
              · rw [hse4.obj] at e; cases e
              · rw [hcur4] at e; cases e)
            have hnomap : ∀ {b : Nat} {M : St → Option Unit}, MapIs EB W4 b M → ¬ (b = g ∨ b = sb') := fun hM h => by
              obtain ⟨es, cl, hm⟩ := hM.isMap
              rcases h with rfl | rfl
              · rw [hse4.obj] at hm; cases hm
              · rw [hcur4] at hm; cases hm
            have hmap : ∀ {b : Nat} {M : St → Option Unit}, MapIs EB W4 b M → MapIs EB W7 b M := fun hM => hM.same (hF47.same _ hM.lt (hnomap hM))
            have hF07 : Fr (fun _ => False) w0 W7 := by
              have hF04 := HF30.out.trans hF34
              exact ⟨hF47.os.trans hF04.os, hF47.tape.trans hF04.tape, hF47.output.trans hF04.output, Nat.le_trans hF04.size hF47.size, fun j hj _ => (hF47.same j (by have := hF04.size; omega) (fun h => by rcases h with h | h <;> omega)).trans (hF04.same j hj (by simp))⟩
            have hsc4 := (hF34.same _ (Array.getElem?_eq_some_iff.1 HSC3.out).1 (by simp)).trans HSC3.out
            have hsc7 := (hF47.same sc (Array.getElem?_eq_some_iff.1 hsc4).1 (fun h => by
              rcases h with rfl | rfl
              · rw [hse4.obj] at hsc4; cases hsc4
              · rw [hcur4] at hsc4; cases hsc4)).trans hsc4
            have hbnf : wr.heap.size + 1 ∉ bs := fun h => by have := HS.out.maplt h; omega
            refine ⟨k + 1, sb2, cS2, bs ++ [wr.heap.size + 1], by simp, by omega, hF07, (HC3.out.same ((SameMarks.fr hF34 (fun k h => h.elim)).trans hmk)).up (by have := hF34.size; have := hF47.size; omega), hsc7, fun j hj => ?_, ?_, ?_, fun j b hj => ?_, ?_, hglo⟩
            · rcases Nat.lt_or_ge k j with h | h
              · obtain rfl : j = k + 1 := by omega
                exact hne1
              · exact hne j h
            · have := heap_set (heap_set HOB5.out 5 (.slice (some ⟨sb2, 0, none⟩) (k + 1 + 1 : Nat) cS2)) 6 (.int .i64 ((k : Int) + 1))
              rw [hW7] at this
              simpa using this
            · rw [List.map_append]
              refine ⟨hrow5.1, ?_⟩
              rcases hrow5.2 with h | ⟨g', cap, cur, r1, r2, r3, r4⟩
              · exact .inl h
              · refine .inr ⟨g', cap, cur, r1, r2, ?_, r4⟩
                have hgne : g' ≠ g := fun e => by subst e; rw [HOB5.out] at r3; cases r3
                rw [← hW7]
                exact (Below.heap_setCell _ _ _ _ hgne).trans ((Below.heap_setCell _ _ _ _ hgne).trans r3)
            · rcases Nat.lt_or_ge j bs.length with h | h
              · rw [List.getElem?_append_left h] at hj
                have := hse4.maps j b hj
                exact ⟨this.1, hmap this.2⟩
              · rw [List.getElem?_append_right h] at hj
                have hbl := HS.out.len
                have hj0 : j - bs.length = 0 := by
                  rcases Nat.eq_zero_or_pos (j - bs.length) with h0 | h0
                  · exact h0
                  · rw [List.getElem?_eq_none (by simp; omega)] at hj; cases hj
                obtain rfl : j = k + 1 := by omega
                rw [hj0] at hj
                simp at hj
                subst hj
                have := HF1.out.size
                exact ⟨by omega, hmap (HM3.out.same (hF34.same _ HM3.out.lt (by simp)))⟩
            · exact List.nodup_append.2 ⟨hse4.nodup, by simp, fun a ha b hb e => by
                simp at hb
                subst hb; subst e
                exact hbnf ha⟩
          case measure =>
            simp [intOf]
            omega
    · obtain rfl : k = l.length := by omega
      gi_wp2
      exact hnorm dfs sb' cS' bs _ _ _ _ _ _ _ _ _ _ _ _ _ _ _ _ _ _ _ _ _ _ _ _ _ _ _ _ _ _ _ _ _ _ _ _ _ _ _ _ _ _ _ _ _ _ _ _ _ _ _ _ wr hF1 hC hne hSeen
end Go.Proofs.Ytdnjmhhjjbdieaa.Q
end
section
namespace Go.Proofs.Ytdnjmhhjjbdieaa.Q
open Go.RowKit Go.Shelf Go.Proofs.YtdnjmhhjjbdieaaW.PrintWords Go.Proofs.YtdnjmhhjjbdieaaW.PrintLast
set_option linter.unusedVariables false
set_option linter.unusedSimpArgs false
attribute [local go_sem] Oper.semAt_some
theorem setOf_none_iff {S : St → Prop} {x : St} : setOf S x = none ↔ ¬ S x := by unfold setOf; split <;> simp_all
def tellable (least most short : Int) (n : Nat) : List S52 → St → Prop
  | [], _ => True
  | m :: l, x => ∃ p ∈ partsOf least most short x m.f0 m.f1 n, tellable least most short n l p.2
def pruned (least most short : Int) (n : Nat) (l : List S52) (k j : Nat) (x : St) : Prop := fwd least most short n l j x ∧ (k ≤ j → tellable least most short n (l.drop j) x)
theorem tellable_iff {least most short : Int} {n : Nat} {l : List S52} {j : Nat} (hj : j < l.length) {x : St} (hx : fwd least most short n l j x) :
    tellable least most short n (l.drop j) x ↔ ∃ p ∈ partsOf least most short x l[j].f0 l[j].f1 n, setOf (pruned least most short n l (j + 1) (j + 1)) p.2 ≠ none := by
  rw [List.drop_eq_getElem_cons hj]
  simp only [tellable]
  constructor
  · rintro ⟨p, hp, ht⟩
    refine ⟨p, hp, setOf_ne.2 ⟨?_, fun _ => ht⟩⟩
    simp only [fwd, List.getElem?_eq_getElem hj]
    exact ⟨x, hx, p, hp, rfl⟩
  · rintro ⟨p, hp, hs⟩
    exact ⟨p, hp, (setOf_ne.1 hs).2 (Nat.le_refl _)⟩
set_option maxRecDepth 100000 in
set_option maxHeartbeats 4000000 in
theorem look.prune (n : Nat) (hn : n ≤ 12) (least most short : Int) (A : Option Addr) (c : Nat) (l : List S52) (hl : l.length ≤ 40)
    (g sb cS lo : Nat) (bs : List Nat) (ds : List Deferred) (Q : Exit → Act → World → Prop) (v0 v1 v2 v4 v5 v6 v7 v8 v9 v11 v12 v13 v14 v15 v16 v17 v18 v19 v20 v21 v22 v23 v24 v25 v26 v27 v28 v29 v30 v31 v32 v33 v34 v35 v36 v37 v38 v39 v40 v41 v42 v43 v44 v45 v46 v47 v48 v49 v50 v51 v52 v53 v54 v55 v56 v57 v58 v59 v60 v61 v62 v63 v64 v65 v66 v67 v68 v69 v70 v71 v72 v73 v74 v75 v76 v77 v78 v79 v80 v81 v82 v83 v84 v85 v86 v87 v88 v89 v90 v91 v92 v93 v94 v95 v96 v97 v98 v99 v100 v101 v102 v103 v104 v105 v106 : Value) (w0 W : World)
    (hA : Kd.C k52 w0 A l.length l) (hlo : lo = w0.heap.size) (hF : Fr (fun _ => False) w0 W) (hds : Coll lo W.heap.size ds W)
    (hs : Seen n least most short A l.length c g sb cS l.length lo bs (pruned least most short n l l.length) W)
    (hdone : ∀ (u10 u11 u77 u78 u79 u80 u81 u82 u83 u84 u85 u86 u87 u88 u89 u90 u91 u92 u93 u94 u95 u96 u97 u98 u99 u100 u101 u102 u103 u104 u105 : Value) (W' : World), Fr (fun _ => False) w0 W' → Coll lo W'.heap.size ds W' →
      Seen n least most short A l.length c g sb cS l.length lo bs (pruned least most short n l 0) W' → Q .normal { tmps := (List.toArray (v0 :: v1 :: v2 :: (.pointer (some ⟨g, 0, none⟩)) :: v4 :: v5 :: v6 :: v7 :: v8 :: v9 :: u10 :: u11 :: v12 :: v13 :: v14 :: v15 :: v16 :: v17 :: v18 :: v19 :: v20 :: v21 :: v22 :: v23 :: v24 :: v25 :: v26 :: v27 :: v28 :: v29 :: v30 :: v31 :: v32 :: v33 :: v34 :: v35 :: v36 :: v37 :: v38 :: v39 :: v40 :: v41 :: v42 :: v43 :: v44 :: v45 :: v46 :: v47 :: v48 :: v49 :: v50 :: v51 :: v52 :: v53 :: v54 :: v55 :: v56 :: v57 :: v58 :: v59 :: v60 :: v61 :: v62 :: v63 :: v64 :: v65 :: v66 :: v67 :: v68 :: v69 :: v70 :: v71 :: v72 :: v73 :: v74 :: v75 :: v76 :: u77 :: u78 :: u79 :: u80 :: u81 :: u82 :: u83 :: u84 :: u85 :: u86 :: u87 :: u88 :: u89 :: u90 :: u91 :: u92 :: u93 :: u94 :: u95 :: u96 :: u97 :: u98 :: u99 :: u100 :: u101 :: u102 :: u103 :: u104 :: u105 :: v106 :: [])), defers := ds } W') :
    (blockOf 6 Try.f71).wpIn Fence.wide 0 Try.prog (Exit.inBlock 6 Q) { tmps := (List.toArray (v0 :: v1 :: v2 :: (.pointer (some ⟨g, 0, none⟩)) :: v4 :: v5 :: v6 :: v7 :: v8 :: v9 :: (.int .i64 ((l.length : Int) - 1)) :: v11 :: v12 :: v13 :: v14 :: v15 :: v16 :: v17 :: v18 :: v19 :: v20 :: v21 :: v22 :: v23 :: v24 :: v25 :: v26 :: v27 :: v28 :: v29 :: v30 :: v31 :: v32 :: v33 :: v34 :: v35 :: v36 :: v37 :: v38 :: v39 :: v40 :: v41 :: v42 :: v43 :: v44 :: v45 :: v46 :: v47 :: v48 :: v49 :: v50 :: v51 :: v52 :: v53 :: v54 :: v55 :: v56 :: v57 :: v58 :: v59 :: v60 :: v61 :: v62 :: v63 :: v64 :: v65 :: v66 :: v67 :: v68 :: v69 :: v70 :: v71 :: v72 :: v73 :: v74 :: v75 :: v76 :: v77 :: v78 :: v79 :: v80 :: v81 :: v82 :: v83 :: v84 :: v85 :: v86 :: v87 :: v88 :: v89 :: v90 :: v91 :: v92 :: v93 :: v94 :: v95 :: v96 :: v97 :: v98 :: v99 :: v100 :: v101 :: v102 :: v103 :: v104 :: v105 :: v106 :: [])), defers := ds } W := by
  conv => arg 4; whnf
  have hmx : Try.prog.follows .mixedOrders = true := by kernel_rfl
  have hu1 := Try.underlying109
  have hu3 := Try.underlying107
  have HA := Lib.hid hA
  have HLO := Lib.hid hlo
  clear hA hlo
  refine wpIn_loop_lay (fun (tT : List Value) (a' : Act) (wv : World) => ∃ (dfs : List Deferred) (u10 u11 u77 u78 u79 u80 u81 u82 u83 u84 u85 u86 u87 u88 u89 u90 u91 u92 u93 u94 u95 u96 u97 u98 u99 u100 u101 u102 u103 u104 u105 : Value), ((fun u10 dfs w' => ∃ (k : Nat) (v : Int), u10 = .int .i64 v ∧ v = (k : Int) - 1 ∧ k ≤ l.length ∧ dfs = ds ∧ Fr (fun _ => False) w0 w' ∧ Coll lo w'.heap.size ds w' ∧
      Seen n least most short A l.length c g sb cS l.length lo bs (pruned least most short n l k) w') u10 dfs wv) ∧ a' = { tmps := (lay [none, none, none, none, none, none, none, none, none, none, some u10, some u11, none, none, none, none, none, none, none, none, none, none, none, none, none, none, none, none, none, none, none, none, none, none, none, none, none, none, none, none, none, none, none, none, none, none, none, none, none, none, none, none, none, none, none, none, none, none, none, none, none, none, none, none, none, none, none, none, none, none, none, none, none, none, none, none, none, some u77, some u78, some u79, some u80, some u81, some u82, some u83, some u84, some u85, some u86, some u87, some u88, some u89, some u90, some u91, some u92, some u93, some u94, some u95, some u96, some u97, some u98, some u99, some u100, some u101, some u102, some u103, some u104, some u105] tT).toArray, defers := dfs }) (fun (a' : Act) (wv : World) => (fun u10 w' => (intOf u10 + 1).toNat) (Array.getD a'.tmps 10 undef) wv) ?atStart ?round
  case' atStart =>
    dsimp only [lay]
    (repeat apply Exists.intro)
    refine ⟨?_, rfl⟩
  case' round =>
    dsimp only [lay]
    intro _ wr hinv
    obtain ⟨dfs, hinv⟩ := hinv
    obtain ⟨u10, hinv⟩ := hinv
    obtain ⟨u11, hinv⟩ := hinv
    obtain ⟨u77, hinv⟩ := hinv
    obtain ⟨u78, hinv⟩ := hinv
    obtain ⟨u79, hinv⟩ := hinv
    obtain ⟨u80, hinv⟩ := hinv
    obtain ⟨u81, hinv⟩ := hinv
    obtain ⟨u82, hinv⟩ := hinv
    obtain ⟨u83, hinv⟩ := hinv
    obtain ⟨u84, hinv⟩ := hinv
    obtain ⟨u85, hinv⟩ := hinv
    obtain ⟨u86, hinv⟩ := hinv
    obtain ⟨u87, hinv⟩ := hinv
    obtain ⟨u88, hinv⟩ := hinv
    obtain ⟨u89, hinv⟩ := hinv
    obtain ⟨u90, hinv⟩ := hinv
    obtain ⟨u91, hinv⟩ := hinv
    obtain ⟨u92, hinv⟩ := hinv
    obtain ⟨u93, hinv⟩ := hinv
    obtain ⟨u94, hinv⟩ := hinv
    obtain ⟨u95, hinv⟩ := hinv
    obtain ⟨u96, hinv⟩ := hinv
    obtain ⟨u97, hinv⟩ := hinv
    obtain ⟨u98, hinv⟩ := hinv
    obtain ⟨u99, hinv⟩ := hinv
    obtain ⟨u100, hinv⟩ := hinv
    obtain ⟨u101, hinv⟩ := hinv
    obtain ⟨u102, hinv⟩ := hinv
    obtain ⟨u103, hinv⟩ := hinv
    obtain ⟨u104, hinv⟩ := hinv
    obtain ⟨u105, hinv⟩ := hinv
    obtain ⟨hrel, ha⟩ := hinv
    subst ha
    try dsimp only
  case atStart =>
    exact ⟨l.length, _, rfl, rfl, Nat.le_refl _, rfl, hF, hds, hs⟩
  case round =>
    obtain ⟨k, v, rfl, hv, hk, hdse, hF1, hC, hSeen⟩ := hrel
    obtain rfl := hdse.symm
    obtain ⟨wo, rfl⟩ : ∃ wo, wo = wr := ⟨_, rfl⟩
    clear hs hF hds
    rcases k with _ | j
    · have hneg : ¬ (0 : Int) ≤ v := by omega
      clear hv
      gi_wp2
      exact hdone _ _ _ _ _ _ _ _ _ _ _ _ _ _ _ _ _ _ _ _ _ _ _ _ _ _ _ _ _ _ _ wo hF1 hC hSeen
    · obtain rfl : v = (j : Int) := by omega
      clear hv
      have hjl : j < l.length := by omega
      have hv0 : (0 : Int) ≤ j := by omega
      have hSz := hF1.size
      have hbL := hSeen.len
      obtain ⟨bi, hbi⟩ : ∃ b, bs[j]? = some b := ⟨_, List.getElem?_eq_getElem (by omega)⟩
      obtain ⟨bj, hbj⟩ : ∃ b, bs[j + 1]? = some b := ⟨_, List.getElem?_eq_getElem (by omega)⟩
      have hMi := (hSeen.maps j bi hbi).2
      obtain ⟨W2, cnt, hrng, hR2, hg2, hs2⟩ := hMi.range
      have hrng : (Instr.range 104 (.map (some bi))).run Try.prog wo = .ok (.pointer (some ⟨wo.heap.size, 0, none⟩)) W2 := hrng
      have e5 := cell_of hSeen.obj (i := 5) rfl
      have ei := hSeen.cell hbi
      simp only [List.getElem_toArray, List.getElem_cons_zero, List.getElem_cons_succ] at e5
      have hj3 : (j : Int) < (l.length : Int) + 1 := by omega
      have hj4 : (j : Int) < ((l.length + 1 : Nat) : Int) := by omega
      have hwr : IntKind.i64.wrap ((j : Int) - 1) = (j : Int) - 1 := by simp [IntKind.wrap, IntKind.bits, IntKind.signed]; omega
      have HF1 := Lib.hid hF1
      have HC := Lib.hid hC
      have HS := Lib.hid hSeen
      have HR2 := Lib.hid hR2
      have HG2 := Lib.hid hg2
      have HS2 := Lib.hid hs2
      clear hF1 hC hSeen hR2 hg2 hs2 hMi
      gi_wp2
      have hSeen := HS.out
      have hF12 : Fr (fun _ => False) wo W2 := Fr.grown HG2.out (fun r e => by cases e)
      have hs2 := HS2.out
      have hbil := hSeen.maplt (List.mem_of_getElem? hbi)
      have hbjl := hSeen.maplt (List.mem_of_getElem? hbj)
      have hgl := (Array.getElem?_eq_some_iff.1 hSeen.obj).1
      have hse2 : Seen n least most short A l.length c g sb cS l.length lo bs (pruned least most short n l (j + 1)) W2 := hSeen.same (hF12.same _ hgl (by simp)) (hF12.same _ hSeen.rowlt (by simp)) (fun b hb => hF12.same _ (hSeen.maplt hb) (by simp))
      have hC2 : Coll lo W2.heap.size ds W2 := (HC.out.same (SameMarks.fr hF12 (fun k h => h.elim))).up (by omega)
      have hF02 := HF1.out.trans hF12
      have hbij : bi ≠ bj := fun e => by
        subst e
        have h1 := List.getElem?_eq_some_iff.1 hbi
        have h2 := List.getElem?_eq_some_iff.1 hbj
        exact (List.pairwise_iff_getElem.1 hSeen.nodup) j (j + 1) h1.1 h2.1 (by omega) (h1.2.trans h2.2.symm)
      refine wpIn_loop_lay (fun (tT : List Value) (a' : Act) (wv : World) => ∃ (dfs : List Deferred) (u11 u89 u90 u91 u92 u93 u94 u95 u96 u97 u98 u99 u100 u101 u102 u103 u104 u105 : Value), ((fun dfs2 w' => dfs2 = ds ∧ ∃ L cnt, RangeIs EB w' bi wo.heap.size (setOf (fun x => fwd least most short n l j x ∧ (L x ∨ tellable least most short n (l.drop j) x))) L cnt ∧ Fr (fun k => k = bi ∨ k = wo.heap.size) W2 w')  dfs wv) ∧ a' = { tmps := (lay [none, none, none, none, none, none, none, none, none, none, none, some u11, none, none, none, none, none, none, none, none, none, none, none, none, none, none, none, none, none, none, none, none, none, none, none, none, none, none, none, none, none, none, none, none, none, none, none, none, none, none, none, none, none, none, none, none, none, none, none, none, none, none, none, none, none, none, none, none, none, none, none, none, none, none, none, none, none, none, none, none, none, none, none, none, none, none, none, none, none, some u89, some u90, some u91, some u92, some u93, some u94, some u95, some u96, some u97, some u98, some u99, some u100, some u101, some u102, some u103, some u104, some u105] tT).toArray, defers := dfs }) (fun (a' : Act) (wv : World) => (fun w' => w'.rangeLeft bi wo.heap.size)  wv) ?atStart ?round
      case' atStart =>
        dsimp only [lay]
        (repeat apply Exists.intro)
        refine ⟨?_, rfl⟩
      case' round =>
        dsimp only [lay]
        intro _ wr hinv
        obtain ⟨dfs, hinv⟩ := hinv
        obtain ⟨u11, hinv⟩ := hinv
        obtain ⟨u89, hinv⟩ := hinv
        obtain ⟨u90, hinv⟩ := hinv
        obtain ⟨u91, hinv⟩ := hinv
        obtain ⟨u92, hinv⟩ := hinv
        obtain ⟨u93, hinv⟩ := hinv
        obtain ⟨u94, hinv⟩ := hinv
        obtain ⟨u95, hinv⟩ := hinv
        obtain ⟨u96, hinv⟩ := hinv
        obtain ⟨u97, hinv⟩ := hinv
        obtain ⟨u98, hinv⟩ := hinv
        obtain ⟨u99, hinv⟩ := hinv
        obtain ⟨u100, hinv⟩ := hinv
        obtain ⟨u101, hinv⟩ := hinv
        obtain ⟨u102, hinv⟩ := hinv
        obtain ⟨u103, hinv⟩ := hinv
        obtain ⟨u104, hinv⟩ := hinv
        obtain ⟨u105, hinv⟩ := hinv
        obtain ⟨hrel, ha⟩ := hinv
        subst ha
        try dsimp only
      case atStart =>
        have hR := HR2.out
        have he : setOf (pruned least most short n l (j + 1) j) = setOf (fun x => fwd least most short n l j x ∧ ((setOf (pruned least most short n l (j + 1) j) x ≠ none) ∨ tellable least most short n (l.drop j) x)) :=
          setOf_congr (fun x => ⟨fun h => ⟨h.1, .inl (setOf_ne.2 h)⟩, fun h => ⟨h.1, fun hc => by omega⟩⟩)
        rw [he] at hR
        refine ⟨rfl, (fun x => setOf (pruned least most short n l (j + 1) j) x ≠ none), cnt, ?_, Fr.refl _ _⟩
        rw [← he] at hR ⊢
        exact hR
      case round =>
        obtain ⟨hd2, L, cn2, hR, hF3⟩ := hrel
        obtain rfl := hd2.symm
        have hse2 := hse2
        have hno2 : ∀ {k : Nat} {o : Obj}, W2.heap[k]? = some o → o.isCells = true → ¬ (k = bi ∨ k = wo.heap.size) := fun hk ho h => by
          rcases h with rfl | rfl
          · obtain ⟨es, cl, hm⟩ := (hSeen.maps j _ hbi).2.isMap
            rw [hF12.same _ hbil (by simp), hm] at hk; cases hk; cases ho
          · obtain ⟨o2, h1, h2⟩ := HR2.out.iter
            rw [h1] at hk; cases hk; rw [h2] at ho; cases ho
        have hsbh : ∃ cur, W2.heap[sb]? = some (.cells cur 104 (0, 0)) := by
          rcases hse2.row.2 with ⟨h, _⟩ | ⟨g', cap, cur, r1, r2, r3, _⟩
          · cases h
          · cases r1; exact ⟨cur, r3⟩
        obtain ⟨cur2, hcur2⟩ := hsbh
        have hg3 := (hF3.same g (Array.getElem?_eq_some_iff.1 hse2.obj).1 (hno2 hse2.obj rfl)).trans hse2.obj
        have hsz3 := hF3.size
        rcases hR.next 0 with ⟨hall, hrun⟩ | ⟨x, v, W3, cnt1, hLx, hMx, hbx, hrun, hR1, hlt, hg1, hs1, hen⟩
        · gi_wp2
          refine ⟨?_, ?measure⟩
          · (repeat apply Exists.intro)
            refine ⟨?_, rfl, rfl⟩
            have hlo := HLO.out
            have hsb3 := hF3.same sb (Array.getElem?_eq_some_iff.1 hcur2).1 (hno2 hcur2 rfl)
            have hF03 : Fr (fun _ => False) w0 wr := by
              have := HR2.out.lt
              have hlb := (hse2.maps j bi hbi).1
              exact ⟨hF3.os.trans hF02.os, hF3.tape.trans hF02.tape, hF3.output.trans hF02.output, Nat.le_trans hF02.size hF3.size, fun q hq _ => (hF3.same q (by have := hF02.size; omega) (fun h => by rcases h with h | h <;> omega)).trans (hF02.same q hq (by simp))⟩
            have hmk : SameMarks W2 wr := SameMarks.fr hF3 (fun k h => by
              rcases h with rfl | rfl
              · exact (hse2.maps j _ hbi).2.noMark
              · exact HR2.out.noMark)
            refine ⟨j, _, rfl, rfl, by omega, rfl, hF03, (hC2.same hmk).up (by omega), hg3, ?_, fun q b hq => ?_, hse2.nodup, hse2.glo⟩
            · obtain ⟨q1, q2⟩ := hse2.row
              refine ⟨q1, ?_⟩
              rcases q2 with q2 | ⟨g', cap, cur, e, r1, r2, r3, r4, r5, r6⟩
              · exact .inl q2
              · cases e
                exact .inr ⟨sb, cS, cur, rfl, r1, hsb3.trans r2, r3, r4, r5, r6⟩
            · by_cases hqj : q = j
              · subst hqj
                obtain rfl : b = bi := Option.some.inj (hq.symm.trans hbi)
                refine ⟨(hse2.maps q b hbi).1, ?_⟩
                have := hR.mapIs
                rwa [setOf_congr (T := pruned least most short n l q q) (fun x => ⟨fun h => ⟨h.1, fun _ => h.2.elim (fun hL => (setOf_none_iff.1 (hall x hL) ⟨h.1, .inl hL⟩).elim) id⟩, fun h => ⟨h.1, .inr (h.2 (Nat.le_refl _))⟩⟩)] at this
              · have hm := hse2.maps q b hq
                have hbne : b ≠ bi := fun e => by
                  subst e
                  have h1 := List.getElem?_eq_some_iff.1 hbi
                  have h2 := List.getElem?_eq_some_iff.1 hq
                  rcases Nat.lt_or_gt_of_ne hqj with h | h
                  · exact (List.pairwise_iff_getElem.1 hSeen.nodup) q j h2.1 h1.1 h (h2.2.trans h1.2.symm)
                  · exact (List.pairwise_iff_getElem.1 hSeen.nodup) j q h1.1 h2.1 h (h1.2.trans h2.2.symm)
                have hbl := hSeen.maplt (List.mem_of_getElem? hq)
                refine ⟨hm.1, ?_⟩
                have := hm.2.same (hF3.same b hm.2.lt (fun h => by rcases h with h | h <;> omega))
                rwa [setOf_congr (T := pruned least most short n l j q) (fun x => ⟨fun h => ⟨h.1, fun _ => h.2 (by omega)⟩, fun h => ⟨h.1, fun _ => h.2 (by omega)⟩⟩)] at this
          case measure =>
            simp [intOf]
            omega
        · simp only [encSt] at hrun hen
          have hlo := HLO.out
          have hlb := (hse2.maps j bi hbi).1
          have hf := setOf_some hMx
          have F3 : Fr (fun k => k = bi ∨ k = wo.heap.size) W2 W3 := hF3.trans (Fr.grown hg1 (fun r e => by cases e; exact .inr rfl))
          have hF03 : Fr (fun _ => False) w0 W3 :=
            ⟨F3.os.trans hF02.os, F3.tape.trans hF02.tape, F3.output.trans hF02.output, Nat.le_trans hF02.size F3.size, fun q hq _ => (F3.same q (by have := hF02.size; omega) (fun h => by rcases h with h | h <;> omega)).trans (hF02.same q hq (by simp))⟩
          have hsz3 := F3.size
          have HF03 := Lib.hid hF03
          have HF3 := Lib.hid F3
          have HR1 := Lib.hid hR1
          have HLE := Lib.hid hR.left_eq
          have HSE := Lib.hid hse2
          have HC2 := Lib.hid hC2
          have HCUR := Lib.hid hcur2
          have kg : g < W3.heap.size := by have := (Array.getElem?_eq_some_iff.1 hse2.obj).1; omega
          clear hF03 F3 hR1 hse2 hC2 hcur2 hg3 hF3 hR hF12 hF02 hs2 hs1 hg1
          gi_wp2
          obtain ⟨W4, hW4⟩ : ∃ W4, W3.alloc (.cells #[.int .i64 x.holder, .int .i64 x.turn, .int .i64 x.short, .bool x.own] 109) = W4 := ⟨_, rfl⟩
          have hb4 : Below W3.heap.size W3 W4 := by rw [← hW4]; exact (Below.refl _ W3).alloc (Nat.le_refl _) _
          have hs4 : W4.heap.size = W3.heap.size + 1 := by rw [← hW4]; simp
          have hx4 : W4.heap[W3.heap.size]? = some (.cells #[.int .i64 x.holder, .int .i64 x.turn, .int .i64 x.short, .bool x.own] 109 (0, 0)) := by rw [← hW4]; exact heap_new rfl
          rw [hW4]
          have hse2 := HSE.out
          have hF24 : Fr (fun k => k = bi ∨ k = wo.heap.size) W2 W4 := HF3.out.trans (Fr.of_below hb4 (fun k q1 q2 => by omega))
          have hobj4 := (hF24.same g (Array.getElem?_eq_some_iff.1 hse2.obj).1 (hno2 hse2.obj rfl)).trans hse2.obj
          have hej := (hF24.cell (hse2.cell hbj) (hno2 HCUR.out rfl))
          have hMj := (hse2.maps (j + 1) bj hbj).2
          have hMj4 : MapIs EB W4 bj (setOf (pruned least most short n l (j + 1) (j + 1))) := hMj.same (hF24.same bj hMj.lt (fun h => by rcases h with h | h <;> omega))
          have hA4 : Kd.C k52 W4 A l.length l := Kd.C_below HA.out ((HF03.out.trans (Fr.of_below hb4 (fun k q1 q2 => by omega))).below (Nat.le_refl _) (by simp))
          have hej0 : W4.cell? ⟨sb, 0 + (j + 1), none⟩ = some (.map (some bj)) := by rw [Nat.zero_add]; exact hej
          have hsm := (fwd_small hn j x hf.1)
          have hsm60 : Small x 60 := ⟨hsm.h1, hsm.h2, hsm.t1, by have := hsm.t2; omega, hsm.s1, by have := hsm.s2; omega⟩
          have hcl := leads.calls g n hn least most short (l.length : Int) A c l sb 0 (l.length + 1) cS j x bj (setOf (pruned least most short n l (j + 1) (j + 1))) W4 hobj4 hA4 hjl (by omega) (by omega) (by omega) hej0 hMj4 hsm60
          have HB4 := Lib.hid hb4
          have HS4 := Lib.hid hs4
          have HX4 := Lib.hid hx4
          clear hb4 hs4 hx4 hse2 hF24 hej hMj hMj4 hA4 hej0 hobj4
          refine ⟨trivial, rfl, (callsIn_wide.2 hcl).mono ?_⟩
          rintro e W5 ⟨r, rfl, hr, hb5⟩
          have hrt : r = true ↔ tellable least most short n (l.drop j) x := hr.trans (tellable_iff hjl hf.1).symm
          clear hr
          have hsz5 := hb5.size
          have hs4 := HS4.out
          have hF35 : Below W3.heap.size W3 W5 := HB4.out.trans (hb5.mono (by omega))
          have hF25 : Fr (fun k => k = bi ∨ k = wo.heap.size) W2 W5 := HF3.out.trans (Fr.of_below hF35 (fun k q1 q2 => by omega))
          have hR5 := HR1.out.same (w' := W5) (hF35.block _ HR1.out.mapIs.lt) (hF35.block _ HR1.out.lt)
          have hse2 := HSE.out
          cases r
          · have hnt : ¬ tellable least most short n (l.drop j) x := fun h => by cases hrt.2 h
            clear hrt
            have HNT := Lib.hid hnt
            clear hnt
            obtain ⟨W6, cnt2, hdel, hR6, hle6, ht6⟩ := (hR5.same (w' := W5.drew) rfl rfl).drop x hbx 0
            have hdel : (Builtin.delete_ #[104, 109] 0 #[.map (some bi), .agg #[.int .i64 x.holder, .int .i64 x.turn, .int .i64 x.short, .bool x.own]]).run Try.prog W5.drew = .ok (.tuple #[]) W6 := hdel
            have hg6 : W5.drew.grownBy W6 (some bi) := ht6.grown
            have ei5 := hF25.cell (hse2.cell hbi) (hno2 HCUR.out rfl)
            have ho5 := (hF25.same g (Array.getElem?_eq_some_iff.1 hse2.obj).1 (hno2 hse2.obj rfl)).trans hse2.obj
            have e55 := cell_of ho5 (i := 5) rfl
            have hx5 := (hb5.block _ (by omega)).trans HX4.out
            have ex0 := cell_of hx5 (i := 0) rfl
            have ex1 := cell_of hx5 (i := 1) rfl
            have ex2 := cell_of hx5 (i := 2) rfl
            have ex3 := cell_of hx5 (i := 3) rfl
            simp only [List.getElem_toArray, List.getElem_cons_zero, List.getElem_cons_succ] at e55 ex0 ex1 ex2 ex3
            have HF25 := Lib.hid hF25
            have HR6 := Lib.hid hR6
            have HG6 := Lib.hid hg6
            clear hF35 hF25 hR5 hR6 hg6 ht6 hse2 hx5 ho5 hs4 hsz5 hb5
            gi_wp2
            refine wpIn_region_still_tail .wide 8 hmx (by kernel_rfl) (by kernel_rfl) ?_
            simp only [List.take_succ_cons, List.take_zero, List.drop_succ_cons, List.drop_zero]
            repeat still_step
            refine wpStill_nil ?_
            gi_wp2
            refine ⟨?_, ?measure⟩
            · (repeat apply Exists.intro)
              refine ⟨?_, rfl⟩
              refine ⟨rfl, (fun y => (L y ∧ y ≠ x) ∧ y ≠ x), cnt2, ?_, (HF25.out.trans (Fr.drew _)).trans (Fr.grown HG6.out (fun r e => by cases e; exact .inl rfl))⟩
              have hR6 := HR6.out
              have hnt := HNT.out
              have he : (fun y => if y = x then none else setOf (fun x => fwd least most short n l j x ∧ (L x ∨ tellable least most short n (l.drop j) x)) y) = setOf (fun y => fwd least most short n l j y ∧ (((L y ∧ y ≠ x) ∧ y ≠ x) ∨ tellable least most short n (l.drop j) y)) := by
                funext y
                by_cases e : y = x
                · subst e
                  rw [if_pos rfl]
                  exact (setOf_none_iff.2 (fun h => h.2.elim (fun q => q.2 rfl) hnt)).symm
                · rw [if_neg e]
                  unfold setOf
                  by_cases hc : fwd least most short n l j y ∧ (L y ∨ tellable least most short n (l.drop j) y)
                  · rw [if_pos hc, if_pos ⟨hc.1, hc.2.elim (fun q => .inl ⟨⟨q, e⟩, e⟩) .inr⟩]
                  · rw [if_neg hc, if_neg (fun h => hc ⟨h.1, h.2.elim (fun q => .inl q.1.1) .inr⟩)]
              rw [he] at hR6
              exact hR6
            case measure =>
              rw [HR6.out.left_eq, HLE.out]
              omega
          · have HT := Lib.hid (hrt.1 rfl)
            clear hrt
            gi_wp2
            refine ⟨?_, ?measure⟩
            · (repeat apply Exists.intro)
              refine ⟨?_, rfl⟩
              refine ⟨rfl, (fun y => L y ∧ y ≠ x), cnt1, ?_, hF25⟩
              rwa [setOf_congr (T := fun y => fwd least most short n l j y ∧ ((L y ∧ y ≠ x) ∨ tellable least most short n (l.drop j) y)) (fun y => ⟨fun h => ⟨h.1, h.2.elim (fun q => by
                by_cases e : y = x
                · subst e; exact .inr HT.out
                · exact .inl ⟨q, e⟩) .inr⟩, fun h => ⟨h.1, h.2.elim (fun q => .inl q.1) .inr⟩⟩)] at hR5
            case measure =>
              rw [hR5.left_eq, HLE.out]
              omega
end Go.Proofs.Ytdnjmhhjjbdieaa.Q
end
section
namespace Go.Proofs.Ytdnjmhhjjbdieaa.Q
open Go.RowKit Go.Shelf Go.Proofs.YtdnjmhhjjbdieaaW.PrintWords Go.Proofs.YtdnjmhhjjbdieaaW.PrintLast
set_option linter.unusedVariables false
set_option linter.unusedSimpArgs false
attribute [local go_sem] Oper.semAt_some
attribute [local go_sem] run_makeMap
def Looked (n : Nat) (least most short : Int) (A : Option Addr) (c : Nat) (l : List S52) (g i lo : Nat) (w : World) : Prop :=
  ∃ (sb cS : Nat) (bs : List Nat), (∀ j, j ≤ i → ∃ x, fwd least most short n l j x) ∧
    ((i = l.length ∧ Seen n least most short A l.length c g sb cS i lo bs (pruned least most short n l 0) w) ∨
      (i < l.length ∧ (∀ x, ¬ fwd least most short n l (i + 1) x) ∧ Seen n least most short A l.length c g sb cS i lo bs (fwd least most short n l) w))
theorem Seen.congr {n : Nat} {least most short : Int} {A : Option Addr} {len c g sb cS i lo : Nat} {bs : List Nat} {Ms Ms' : Nat → St → Prop} {w : World} (h : Seen n least most short A len c g sb cS i lo bs Ms w)
    (hm : ∀ j x, Ms j x ↔ Ms' j x) : Seen n least most short A len c g sb cS i lo bs Ms' w :=
  ⟨h.obj, h.row, fun j b hj => ⟨(h.maps j b hj).1, by rw [← setOf_congr (hm j)]; exact (h.maps j b hj).2⟩, h.nodup, h.glo⟩
theorem Seen.leave {n : Nat} {least most short : Int} {A : Option Addr} {len c g sb cS i lo lo' hi : Nat} {bs : List Nat} {Ms : Nat → St → Prop} {w w' : World} (h : Seen n least most short A len c g sb cS i lo bs Ms w)
    (hF : Fr (fun k => lo' ≤ k ∧ k < hi ∧ w.heap[k]? = some (.deferred (some []))) w w') : Seen n least most short A len c g sb cS i lo bs Ms w' := by
  have hsb : ∃ cur, w.heap[sb]? = some (.cells cur 104 (0, 0)) := by
    rcases h.row.2 with ⟨q, _⟩ | ⟨g', cap, cur, r1, r2, r3, _⟩
    · cases q
    · cases r1; exact ⟨cur, r3⟩
  obtain ⟨cur, hcur⟩ := hsb
  refine h.same (hF.same _ (Array.getElem?_eq_some_iff.1 h.obj).1 (fun q => ?_)) (hF.same _ h.rowlt (fun q => ?_)) (fun b hb => hF.same _ (h.maplt hb) (fun q => ?_))
  · rw [h.obj] at q; cases q.2.2
  · rw [hcur] at q; cases q.2.2
  · obtain ⟨j, hj⟩ := List.getElem?_of_mem hb
    exact (h.maps j b hj).2.noMark q.2.2
theorem start_seen (n : Nat) (least most short : Int) (A : Option Addr) (c lo b0 : Nat) (l : List S52) (W2 : World) (hM : MapIs EB W2 b0 (setOf (fwd least most short n l 0))) (h1 : lo ≤ b0) (h2 : lo ≤ W2.heap.size) :
    Seen n least most short A l.length c (W2.heap.size + 1) W2.heap.size 1 0 lo [b0] (fwd least most short n l)
      ((W2.alloc (.cells #[.map (some b0)] 104)).alloc (.cells #[.int .i64 n, .int .i64 least, .int .i64 most, .int .i64 short, .slice A l.length c, .slice (some ⟨W2.heap.size, 0, none⟩) 1 1, .int .i64 0] 107)) :=
  ⟨heap_new (by simp), ⟨rfl, .inr ⟨W2.heap.size, 1, #[.map (some b0)], rfl, h2, heap_old (heap_new rfl), Nat.le_refl _, by unfold maxLen; omega, rfl, rfl⟩⟩, fun j b hj => by
    rcases j with _ | j
    · obtain rfl : b0 = b := by simpa using hj
      exact ⟨h1, hM.same ((Below.heap_alloc _ _ _ (by have := hM.lt; simp; omega)).trans (Below.heap_alloc _ _ _ hM.lt))⟩
    · simp at hj, by simp, by omega⟩
theorem start_map {W W2 : World} {b0 : Nat} {least most short : Int} {n : Nat} {l : List S52} (h : MapIs EB W2 b0 (fun y => if y = beginSt then some () else (fun _ => none) y)) : MapIs EB W2 b0 (setOf (fwd least most short n l 0)) := by
  rw [← setOf_none, setOf_add] at h
  rwa [setOf_congr (T := fwd least most short n l 0) (fun y => ⟨fun h => h.elim False.elim id, fun h => .inr h⟩)] at h
set_option maxRecDepth 100000 in
set_option maxHeartbeats 4000000 in
theorem look.calls (n : Nat) (hn : n ≤ 12) (least most short : Int) (A : Option Addr) (c : Nat) (l : List S52) (hl : l.length ≤ 40) (w : World) (hA : Kd.C k52 w A l.length l) :
    Calls Try.prog 71 #[.agg #[.int .i64 n, .int .i64 least, .int .i64 most, .int .i64 short, .slice A l.length c]] w fun e w' => ∃ g i, e = .returned (.pointer (some ⟨g, 0, none⟩)) ∧ Below w.heap.size w w' ∧ Looked n least most short A c l g i w.heap.size w' := by
  have hmx : Try.prog.follows .mixedOrders = true := by kernel_rfl
  have hu := Try.underlying33
  have hu1 := Try.underlying109
  have hu3 := Try.underlying107
  refine (callsIn_wide (n := 0)).1 ?_
  refine callsIn_of_wp_marks Try.func71 rfl trivial ?_ rfl
  simp only [Try.ntmps71, List.size_toArray, List.length_cons, List.length_nil, Nat.reduceAdd, Nat.reduceSub, Array.replicate_succ, Array.replicate_zero, List.push_toArray, List.append_toArray, List.nil_append, List.cons_append]
  gi_wp2
  have HA := Lib.hid hA
  obtain ⟨W0, hW0⟩ : ∃ W0, w.alloc (.cells #[.int .i64 n, .int .i64 least, .int .i64 most, .int .i64 short, .slice A l.length c] 33) = W0 := ⟨_, rfl⟩
  have hs0 : W0.heap.size = w.heap.size + 1 := by rw [← hW0]; simp
  have hsc0 : W0.heap[w.heap.size]? = some (.cells #[.int .i64 n, .int .i64 least, .int .i64 most, .int .i64 short, .slice A l.length c] 33 (0, 0)) := by rw [← hW0]; exact heap_new rfl
  have hF0 : Fr (fun _ => False) w W0 := by rw [← hW0]; exact Fr.alloc _ _
  rw [hW0]
  have HS0 := Lib.hid hs0
  have e0 := cell_of hsc0 (i := 0) rfl
  have e1 := cell_of hsc0 (i := 1) rfl
  have e2 := cell_of hsc0 (i := 2) rfl
  have e3 := cell_of hsc0 (i := 3) rfl
  have e4 := cell_of hsc0 (i := 4) rfl
  simp only [List.getElem_toArray, List.getElem_cons_zero, List.getElem_cons_succ] at e0 e1 e2 e3 e4
  have q0 : w.heap.size < W0.heap.size := by omega
  have q1 : w.heap.size < W0.heap.size + 1 := by omega
  have q2 : w.heap.size < W0.heap.size + 1 + 1 := by omega
  have HSC := Lib.hid hsc0
  clear hs0 hA hsc0
  have hmA : MapIs EB ((W0.alloc (.map #[] 0)).alloc (.cells #[.int .i64 (-2), .int .i64 0, .int .i64 0, .bool false] 109)).drew W0.heap.size (fun _ => none) := (MapIs.made W0).same (Below.heap_alloc _ _ _ (by simp))
  have hmB : MapIs EB ((W0.alloc (.cells #[.int .i64 (-2), .int .i64 0, .int .i64 0, .bool false] 109)).alloc (.map #[] 0)).drew (W0.heap.size + 1) (fun _ => none) := by
    have := MapIs.made (E := EB) (W0.alloc (.cells #[.int .i64 (-2), .int .i64 0, .int .i64 0, .bool false] 109))
    rw [World.size_alloc] at this
    exact this.same rfl
  obtain ⟨WA, hupA, hMA, hgA, _, hsA⟩ := hmA.update beginSt ((beginSt_small 0).box (by omega)) ()
  obtain ⟨WB, hupB, hMB, hgB, _, hsB⟩ := hmB.update beginSt ((beginSt_small 0).box (by omega)) ()
  have hupA : (Instr.mapUpdate 104 (.map (some W0.heap.size)) (.agg #[.int .i64 (-2), .int .i64 0, .int .i64 0, .bool false]) (.bool true)).run Try.prog ((W0.alloc (.map #[] 0)).alloc (.cells #[.int .i64 (-2), .int .i64 0, .int .i64 0, .bool false] 109)).drew = .ok () WA := hupA
  have hupB : (Instr.mapUpdate 104 (.map (some (W0.heap.size + 1))) (.agg #[.int .i64 (-2), .int .i64 0, .int .i64 0, .bool false]) (.bool true)).run Try.prog ((W0.alloc (.cells #[.int .i64 (-2), .int .i64 0, .int .i64 0, .bool false] 109)).alloc (.map #[] 0)).drew = .ok () WB := hupB
  have hMA' := start_map (W := W0) (least := least) (most := most) (short := short) (n := n) (l := l) hMA
  have hMB' := start_map (W := W0) (least := least) (most := most) (short := short) (n := n) (l := l) hMB
  have hFA : Fr (fun _ => False) W0 WA := Fr.mono (X := fun k => k = W0.heap.size) ((((Fr.alloc W0 (.map #[] 0)).trans (Fr.alloc _ _)).trans (Fr.drew _)).trans (Fr.grown hgA (fun r e => by cases e; rfl))) (fun k hk h => by omega)
  have hFB : Fr (fun _ => False) W0 WB := Fr.mono (X := fun k => k = W0.heap.size + 1) ((((Fr.alloc W0 _).trans (Fr.alloc _ (.map #[] 0))).trans (Fr.drew _)).trans (Fr.grown hgB (fun r e => by cases e; rfl))) (fun k hk h => by omega)
  have kA : w.heap.size < WA.heap.size := by have := hFA.size; omega
  have kB : w.heap.size < WB.heap.size := by have := hFB.size; omega
  have eA0 := hFA.cell e0 (by simp)
  have eA1 := hFA.cell e1 (by simp)
  have eA2 := hFA.cell e2 (by simp)
  have eA3 := hFA.cell e3 (by simp)
  have eA4 := hFA.cell e4 (by simp)
  have eB0 := hFB.cell e0 (by simp)
  have eB1 := hFB.cell e1 (by simp)
  have eB2 := hFB.cell e2 (by simp)
  have eB3 := hFB.cell e3 (by simp)
  have eB4 := hFB.cell e4 (by simp)
  have HFA := Lib.hid hFA
  have HFB := Lib.hid hFB
  have HMA := Lib.hid hMA'
  have HMB := Lib.hid hMB'
  clear hmA hmB hMA hgA hsA hMB hgB hsB hMA' hMB' hFA hFB
  obtain ⟨S, hS⟩ : ∃ S : Act → World → Prop, S = (fun a' w' => ∃ (g b0 sb : Nat) (t12 t13 t14 t15 t16 t17 t18 : Value), Fr (fun _ => False) W0 w' ∧ Seen n least most short A l.length c g sb 1 0 w.heap.size [b0] (fwd least most short n l) w' ∧ a' = { tmps := (List.toArray ((.agg #[.int .i64 n, .int .i64 least, .int .i64 most, .int .i64 short, .slice A l.length c]) :: (.pointer (some ⟨w.heap.size, 0, none⟩)) :: (.pointer none) :: (.pointer (some ⟨g, 0, none⟩)) :: undef :: undef :: undef :: undef :: undef :: undef :: undef :: undef :: t12 :: t13 :: t14 :: t15 :: t16 :: t17 :: t18 :: undef :: undef :: undef :: undef :: undef :: undef :: undef :: undef :: undef :: undef :: undef :: undef :: undef :: undef :: undef :: undef :: undef :: undef :: undef :: undef :: undef :: undef :: undef :: undef :: undef :: undef :: undef :: undef :: undef :: undef :: undef :: undef :: undef :: undef :: undef :: undef :: undef :: undef :: undef :: undef :: undef :: undef :: undef :: undef :: undef :: undef :: undef :: undef :: undef :: undef :: undef :: undef :: undef :: undef :: undef :: undef :: undef :: undef :: undef :: undef :: undef :: undef :: undef :: undef :: undef :: undef :: undef :: undef :: undef :: undef :: undef :: undef :: undef :: undef :: undef :: undef :: undef :: undef :: undef :: undef :: undef :: undef :: undef :: undef :: undef :: undef :: undef :: undef :: [])), defers := [] }) := ⟨_, rfl⟩
  have HSS := Lib.hid hS
  clear hS
  refine wpIn_cut S ?cutA ?cutB
  case cutA =>
    go_region_with (go_at_call 56; refine (begin.calls _).mono ?_; rintro e w' ⟨rfl, rfl⟩)
    all_goals rw [HSS.out]
    all_goals have hs0 := HS0.out
    all_goals first
      | exact ⟨WA.heap.size + 1, W0.heap.size, WA.heap.size, _, _, _, _, _, _, _, (HFA.out.trans (Fr.alloc _ _)).trans (Fr.alloc _ _), start_seen n least most short A c _ _ l WA HMA.out (by omega) (by omega), rfl⟩
      | exact ⟨WB.heap.size + 1, W0.heap.size + 1, WB.heap.size, _, _, _, _, _, _, _, (HFB.out.trans (Fr.alloc _ _)).trans (Fr.alloc _ _), start_seen n least most short A c _ _ l WB HMB.out (by omega) (by omega), rfl⟩
  case cutB =>
    intro a' w' h
    rw [HSS.out] at h
    obtain ⟨g, b0, sb, t12, t13, t14, t15, t16, t17, t18, hF1, hSe, rfl⟩ := h
    have f4 := hF1.cell e4 (by simp)
    have hsc1 := (hF1.same _ (Array.getElem?_eq_some_iff.1 HSC.out).1 (by simp)).trans HSC.out
    have hFw := hF0.trans hF1
    have HFw := Lib.hid hFw
    have HSC1 := Lib.hid hsc1
    have HSE := Lib.hid hSe
    clear HSS HMA HMB HFA HFB eA0 eA1 eA2 eA3 eA4 eB0 eB1 eB2 eB3 eB4 hupA hupB kA kB e0 e1 e2 e3 e4 hFw hsc1 hSe hF1 hF0 q0 q1 q2
    gi_wp2
    refine look.rounds n hn least most short A c l hl w.heap.size g sb 1 b0 w.heap.size _ _ _ _ _ _ _ _ _ _ _ _ _ _ _ _ _ _ _ _ _ _ _ _ _ _ _ _ _ _ _ _ _ _ _ _ _ _ _ _ _ _ _ _ _ _ _ _ _ _ _ _ _ _ _ _ _ _ _ _ _ _ _ _ _ _ _ _ _ _ _ _ _ _ _ _ _ _ _ _ _ _ _ _ _ _ _ _ _ _ _ _ _ _ _ _ _ _ _ _ _ _ _ w w' HA.out rfl (Nat.le_refl _) HFw.out HSC1.out HSE.out ?hnorm ?hret
    case hnorm =>
      intro ds' sb' cS' bs a2 a5 a6 a7 a9 a23 a24 a25 a26 a27 a28 a29 a30 a31 a32 a33 a34 a35 a36 a37 a38 a39 a40 a41 a42 a43 a44 a45 a48 a49 a50 a51 a52 a53 a54 a55 a56 a57 a58 a59 a60 a61 a62 a63 a64 a65 a66 a67 a68 a69 a70 a71 W' hF hC hne hSe2
      have e6 := cell_of hSe2.obj (i := 6) rfl
      simp only [List.getElem_toArray, List.getElem_cons_zero, List.getElem_cons_succ] at e6
      have hwr : IntKind.i64.wrap ((l.length : Int) - 1) = (l.length : Int) - 1 := by simp [IntKind.wrap, IntKind.bits, IntKind.signed]; omega
      have HF := Lib.hid hF
      have HC := Lib.hid hC
      have HSe2 := Lib.hid hSe2
      have HNE := Lib.hid hne
      clear hF hC hSe2 hne
      gi_wp2
      refine look.prune n hn least most short A c l hl g sb' cS' w.heap.size bs ds' _ _ _ _ _ _ _ _ _ _ _ _ _ _ _ _ _ _ _ _ _ _ _ _ _ _ _ _ _ _ _ _ _ _ _ _ _ _ _ _ _ _ _ _ _ _ _ _ _ _ _ _ _ _ _ _ _ _ _ _ _ _ _ _ _ _ _ _ _ _ _ _ _ _ _ _ _ _ _ _ _ _ _ _ _ _ _ _ _ _ _ _ _ _ _ _ _ _ _ _ _ _ _ _ _ _ w W' HA.out rfl HF.out HC.out (HSe2.out.congr (fun j x => ⟨fun h => ⟨h, fun hj => by rw [List.drop_eq_nil_of_le hj]; trivial⟩, fun h => h.1⟩)) ?_
      intro c10 c11 c77 c78 c79 c80 c81 c82 c83 c84 c85 c86 c87 c88 c89 c90 c91 c92 c93 c94 c95 c96 c97 c98 c99 c100 c101 c102 c103 c104 c105 W3 hF3 hC3 hSe3
      gi_wp2
      refine leave_marks _ _ hC3 (fun W4 hF4 => ⟨_, results_tmp rfl _ _ _, g, l.length, rfl, ?_, ?_⟩)
      · exact (hF3.below (Nat.le_refl _) (by simp)).trans (hF4.below hF3.size (fun k hk h => by omega))
      · exact ⟨sb', cS', bs, HNE.out, .inl ⟨rfl, hSe3.leave hF4⟩⟩
    case hret =>
      intro i ds' sb' cS' bs a5 a6 a7 a9 a23 a24 a25 a26 a27 a28 a29 a30 a31 a32 a33 a34 a35 a36 a37 a38 a39 a40 a41 a42 a43 a44 a45 a48 a49 a50 a51 a52 a53 a54 a55 a56 a57 a58 a59 a60 a61 a62 a63 a64 a65 a66 a67 a68 a69 a70 a71 W' hi hF hC hne hno hSe2
      gi_wp2
      refine leave_marks _ _ hC (fun W4 hF4 => ⟨_, results_tmp rfl _ _ _, g, i, rfl, ?_, ?_⟩)
      · exact (hF.below (Nat.le_refl _) (by simp)).trans (hF4.below hF.size (fun k hk h => by omega))
      · exact ⟨sb', cS', bs, hne, .inr ⟨hi, hno, hSe2.leave hF4⟩⟩
end Go.Proofs.Ytdnjmhhjjbdieaa.Q
end
section
namespace Go.Proofs.Ytdnjmhhjjbdieaa.Q
open Go.RowKit Go.Proofs.YtdnjmhhjjbdieaaW.PrintWords Go.Proofs.YtdnjmhhjjbdieaaW.PrintLast
set_option linter.unusedVariables false
set_option linter.unusedSimpArgs false
def momOk (known : Int) (m : S52) : Bool := Go.bits .andNot .u16 (Go.bits .or .u16 m.f0 m.f1) known == 0
set_option maxRecDepth 100000 in
set_option maxHeartbeats 400000 in
theorem check1.calls (m : S52) (K : Nat) (known : Int) (w : World) (hk : w.cell? ⟨K, 0, none⟩ = some (.int .u16 known)) :
    Calls Try.prog 75 #[.agg #[.int .u16 m.f0, .int .u16 m.f1], .pointer (some ⟨K, 0, none⟩)] w fun e w' => e = .returned (.bool (momOk known m)) ∧ Below w.heap.size w w' := by
  have hu := Try.underlying52
  have hk1 := World.block_lt_of_cell? w _ hk
  simp only at hk1
  go_enter Try.func75, Try.ntmps75
  go_wp2
  go_ret
  exact ⟨rfl, (Below.refl _ w).alloc (Nat.le_refl _) _⟩
set_option maxRecDepth 100000 in
set_option maxHeartbeats 400000 in
theorem all1.calls (m : S52) (F K : Nat) (known : Int) (w : World) (hf : w.cell? ⟨F, 0, none⟩ = some (.func (.func 75) #[] #[.pointer (some ⟨K, 0, none⟩)])) (hk : w.cell? ⟨K, 0, none⟩ = some (.int .u16 known)) :
    Calls Try.prog 85 #[.agg #[.int .u16 m.f0, .int .u16 m.f1], .pointer (some ⟨F, 0, none⟩)] w fun e w' => e = .returned (.bool (!momOk known m)) ∧ Below w.heap.size w w' := by
  have hu := Try.underlying52
  have hk1 := World.block_lt_of_cell? w _ hk
  have hf1 := World.block_lt_of_cell? w _ hf
  simp only at hk1 hf1
  go_enter Try.func85, Try.ntmps85
  go_wp2_with fail
  refine (check1.calls m K known _ ?_).mono ?_
  · go_simp
  rintro e w1 ⟨rfl, hb⟩
  go_wp2
  go_ret
  exact ⟨rfl, ((Below.refl _ w).alloc (Nat.le_refl _) _).trans (hb.mono (by simp))⟩
set_option maxRecDepth 100000 in
set_option maxHeartbeats 1000000 in
theorem index1.calls (A : Option Addr) (c : Nat) (l : List S52) (F K : Nat) (known : Int) (w : World) (hr : Kd.C k52 w A l.length l) (hl : l.length ≤ maxLen) (hf : w.cell? ⟨F, 0, none⟩ = some (.func (.func 75) #[] #[.pointer (some ⟨K, 0, none⟩)])) (hk : w.cell? ⟨K, 0, none⟩ = some (.int .u16 known)) :
    Calls Try.prog 88 #[.slice A l.length c, .func (.func 85) #[] #[.pointer (some ⟨F, 0, none⟩)]] w fun e w' => ∃ r : Int, e = .returned (.int .i64 r) ∧ (decide (0 ≤ r) = !l.all (momOk known)) ∧ Below w.heap.size w w' := by
  have hu := Try.underlying52
  have hk1 := World.block_lt_of_cell? w _ hk
  have hf1 := World.block_lt_of_cell? w _ hf
  simp only at hk1 hf1
  unfold maxLen at hl
  go_enter Try.func88, Try.ntmps88
  go_wp2_with fail
  go_loopw [8] (fun i wr => ∃ k : Nat, k ≤ l.length ∧ i = .int .i64 k ∧ (l.take k).all (momOk known) = true ∧ Below w.heap.size w wr) (fun i _ => l.length - (intOf i).toNat)
  case atStart => exact ⟨0, by omega, rfl, by simp, Below.refl _ _⟩
  case round =>
    obtain ⟨k, hkl, rfl, hall, hB⟩ := hrel
    by_cases hlt : k < l.length
    · obtain ⟨ad, rfl, hc0, hc1⟩ := at_T52 hr k (by omega) (by omega)
      have hx : rd_T52 l (k : Int) = l[k] := by simp [rd_T52, List.getD, hlt]
      rw [hx] at hc0 hc1
      have hc0' := (hB.cell (World.block_lt_of_cell? w _ hc0)).trans hc0
      have hc1' := (hB.cell (World.block_lt_of_cell? w _ hc1)).trans hc1
      rw [Int.toNat_natCast] at hc0' hc1'
      have hs := Lib.hid hall
      clear hall hc0 hc1 hx hr
      have hf' := (hB.cell hf1).trans hf
      have hk' := (hB.cell hk1).trans hk
      clear hf hk
      go_wp2_with fail
      refine (all1.calls l[k] F K known wr hf' hk').mono ?_
      rintro e w1 ⟨rfl, hb⟩
      have hB1 := hB.trans (hb.mono hB.size)
      cases hm : momOk known l[k]
      · have hm' := Lib.hid hm
        clear hm
        go_wp2
        go_ret
        refine ⟨_, rfl, ?_, hB1⟩
        have : l.all (momOk known) = false := List.all_eq_false.2 ⟨l[k], List.getElem_mem hlt, by rw [hm'.out]; simp⟩
        rw [this]; simp
      · have hm' := Lib.hid hm
        clear hm
        go_wp2
        go_roundw
        case rel => exact ⟨k + 1, by omega, by go_num, by rw [List.take_succ_eq_append_getElem hlt, List.all_append, hs.out]; simp [hm'.out], hB1⟩
        case measure => simp [intOf]; omega
    · go_wp2
      go_ret
      refine ⟨_, rfl, ?_, hB⟩
      rw [List.take_of_length_le (by omega)] at hall
      rw [hall]; simp
set_option maxRecDepth 100000 in
set_option maxHeartbeats 1000000 in
theorem contains1.calls (A : Option Addr) (c : Nat) (l : List S52) (F K : Nat) (known : Int) (w : World) (hr : Kd.C k52 w A l.length l) (hl : l.length ≤ maxLen) (hf : w.cell? ⟨F, 0, none⟩ = some (.func (.func 75) #[] #[.pointer (some ⟨K, 0, none⟩)])) (hk : w.cell? ⟨K, 0, none⟩ = some (.int .u16 known)) :
    Calls Try.prog 84 #[.slice A l.length c, .func (.func 85) #[] #[.pointer (some ⟨F, 0, none⟩)]] w fun e w' => e = .returned (.bool (!l.all (momOk known))) ∧ Below w.heap.size w w' := by
  go_enter Try.func84, Try.ntmps84
  go_wp2_with fail
  refine (index1.calls A c l F K known _ hr hl hf hk).mono ?_
  rintro e w1 ⟨r, rfl, hd, hb⟩
  have hd' := Lib.hid hd
  clear hd
  go_wp2
  go_ret
  exact ⟨by rw [← hd'.out]; rfl, hb⟩
set_option maxRecDepth 100000 in
set_option maxHeartbeats 1000000 in
theorem all.calls (A : Option Addr) (c : Nat) (l : List S52) (K : Nat) (known : Int) (w : World) (hr : Kd.C k52 w A l.length l) (hl : l.length ≤ maxLen) (hk : w.cell? ⟨K, 0, none⟩ = some (.int .u16 known)) :
    Calls Try.prog 76 #[.slice A l.length c, .func (.func 75) #[] #[.pointer (some ⟨K, 0, none⟩)]] w fun e w' => e = .returned (.bool (l.all (momOk known))) ∧ Below w.heap.size w w' := by
  have hk1 := World.block_lt_of_cell? w _ hk
  simp only at hk1
  have hbel : Below w.heap.size w (w.alloc (.cells #[.func (.func 75) #[] #[.pointer (some ⟨K, 0, none⟩)]] 137)) := (Below.refl _ w).alloc (Nat.le_refl _) _
  go_enter Try.func76, Try.ntmps76
  go_wp2_with fail
  refine (contains1.calls A c l w.heap.size K known _ (Kd.C_below hr hbel) hl ?_ ?_).mono ?_
  · go_simp
  · go_simp
  rintro e w1 ⟨rfl, hb⟩
  go_wp2
  go_ret
  exact ⟨by simp, hbel.trans (hb.mono (by simp))⟩
def win (n lo hi : Int) : Bool := decide (lo ≤ n) && decide (n ≤ hi)
set_option maxRecDepth 100000 in
set_option maxHeartbeats 400000 in
theorem within.calls (n lo hi : Int) (b : Bool) (w : World) (hb : win n lo hi = b) :
    Calls Try.prog 55 #[.int .i64 n, .int .i64 lo, .int .i64 hi] w fun e w' => e = .returned (.bool b) ∧ w = w' := by
  by_cases h1 : lo ≤ n
  · by_cases h2 : n ≤ hi
    · have hb' : b = true := by rw [← hb]; simp [win, h1, h2]
      subst hb'
      clear hb
      go_enter Try.func55, Try.ntmps55
      go_wp2
      go_ret
      exact ⟨by simp [h2], rfl⟩
    · have hb' : b = false := by rw [← hb]; simp [win, h1, h2]
      subst hb'
      clear hb
      go_enter Try.func55, Try.ntmps55
      go_wp2
      go_ret
      exact ⟨by simp [h2], rfl⟩
  · have hb' : b = false := by rw [← hb]; simp [win, h1]
    subst hb'
    clear hb
    go_enter Try.func55, Try.ntmps55
    go_wp2
    go_ret
    exact ⟨by simp, rfl⟩
def knownOf (p : Int) : Int := Go.bits .or .u16 32768 (IntKind.u16.wrap (IntKind.u16.wrap (2 ^ p.toNat) - 1))
def floor_Scene_check.f (a0_0 a0_1 a0_2 a0_3 : Int) (l0_4 : List S52) : Option Int :=
  if 40 < l0_4.length then some 3
  else if win a0_0 1 12 && win a0_2 1 20 && win a0_1 1 a0_2 && win a0_3 0 20 && l0_4.all (momOk (knownOf a0_0)) then some 0 else some 1
set_option maxRecDepth 100000 in
set_option maxHeartbeats 1000000 in
theorem floor_Scene_check.calls (a0_0 a0_1 a0_2 a0_3 : Int) (A0_4 : Option Addr) (c0_4 : Nat) (l0_4 : List S52) (r : Int) (w : World) (hr0_4 : Kd.C k52 w A0_4 l0_4.length l0_4) (hc0_4 : l0_4.length ≤ c0_4) (h : floor_Scene_check.f a0_0 a0_1 a0_2 a0_3 l0_4 = some r) :
    Calls Try.prog 54 #[.agg #[.int .i64 a0_0, .int .i64 a0_1, .int .i64 a0_2, .int .i64 a0_3, .slice A0_4 l0_4.length c0_4]] w fun e w' => e = .returned (.int .i64 r) ∧ Below w.heap.size w w' := by
  have hu := Try.underlying33
  have hR := Lib.hid hr0_4
  have hH := Lib.hid h
  clear hr0_4 h hc0_4
  by_cases c0 : 40 < l0_4.length
  · obtain rfl : r = 3 := by have := hH.out; simp [floor_Scene_check.f, c0] at this; exact this.symm
    clear hH hR
    go_enter Try.func54, Try.ntmps54
    go_wp2
    all_goals
      go_ret
      exact ⟨rfl, ((Below.refl _ w).alloc (Nat.le_refl _) _).alloc (by simp) _⟩
  · cases c1 : win a0_0 1 12
    · obtain rfl : r = 1 := by have := hH.out; simp [floor_Scene_check.f, c0, c1] at this; exact this.symm
      have C1 := Lib.hid c1
      clear hH hR c1
      go_enter Try.func54, Try.ntmps54
      go_wp2_with (go_at_call 55; refine (within.calls _ _ _ _ _ C1.out).mono ?_; rintro e w' ⟨rfl, rfl⟩)
      all_goals
        go_ret
        exact ⟨rfl, ((Below.refl _ w).alloc (Nat.le_refl _) _).alloc (by simp) _⟩
    · have hp : 1 ≤ a0_0 ∧ a0_0 ≤ 12 := by simpa [win] using c1
      obtain ⟨hp1, hp2⟩ := hp
      have hz : ¬ (a0_0 ≤ 0) := by omega
      have C1 := Lib.hid c1
      cases c2 : win a0_2 1 20
      · obtain rfl : r = 1 := by have := hH.out; simp [floor_Scene_check.f, c0, C1.out, c2] at this; exact this.symm
        have C2 := Lib.hid c2
        clear hH hR c1 c2
        go_enter Try.func54, Try.ntmps54
        go_wp2_with fail
        refine (within.calls _ _ _ _ _ C1.out).mono ?_
        rintro e w' ⟨rfl, rfl⟩
        go_wp2_with fail
        refine (within.calls _ _ _ _ _ C2.out).mono ?_
        rintro e w' ⟨rfl, rfl⟩
        go_wp2
        go_ret
        exact ⟨rfl, ((Below.refl _ w).alloc (Nat.le_refl _) _).alloc (by simp) _⟩
      have C2 := Lib.hid c2
      cases c3 : win a0_1 1 a0_2
      · obtain rfl : r = 1 := by have := hH.out; simp [floor_Scene_check.f, c0, C1.out, C2.out, c3] at this; exact this.symm
        have C3 := Lib.hid c3
        clear hH hR c1 c3
        go_enter Try.func54, Try.ntmps54
        go_wp2_with fail
        refine (within.calls _ _ _ _ _ C1.out).mono ?_
        rintro e w' ⟨rfl, rfl⟩
        go_wp2_with fail
        refine (within.calls _ _ _ _ _ C2.out).mono ?_
        rintro e w' ⟨rfl, rfl⟩
        go_wp2_with fail
        refine (within.calls _ _ _ _ _ C3.out).mono ?_
        rintro e w' ⟨rfl, rfl⟩
        go_wp2
        go_ret
        exact ⟨rfl, ((Below.refl _ w).alloc (Nat.le_refl _) _).alloc (by simp) _⟩
      have C3 := Lib.hid c3
      cases c4 : win a0_3 0 20
      · obtain rfl : r = 1 := by have := hH.out; simp [floor_Scene_check.f, c0, C1.out, C2.out, C3.out, c4] at this; exact this.symm
        have C4 := Lib.hid c4
        clear hH hR c1 c4
        go_enter Try.func54, Try.ntmps54
        go_wp2_with fail
        refine (within.calls _ _ _ _ _ C1.out).mono ?_
        rintro e w' ⟨rfl, rfl⟩
        go_wp2_with fail
        refine (within.calls _ _ _ _ _ C2.out).mono ?_
        rintro e w' ⟨rfl, rfl⟩
        go_wp2_with fail
        refine (within.calls _ _ _ _ _ C3.out).mono ?_
        rintro e w' ⟨rfl, rfl⟩
        go_wp2_with fail
        refine (within.calls _ _ _ _ _ C4.out).mono ?_
        rintro e w' ⟨rfl, rfl⟩
        go_wp2
        go_ret
        exact ⟨rfl, ((Below.refl _ w).alloc (Nat.le_refl _) _).alloc (by simp) _⟩
      have C4 := Lib.hid c4
      obtain ⟨b, hb⟩ : ∃ b, l0_4.all (momOk (knownOf a0_0)) = b := ⟨_, rfl⟩
      obtain rfl : r = (if b then 0 else 1) := by have := hH.out; simp only [floor_Scene_check.f, c0, C1.out, C2.out, C3.out, C4.out, hb] at this; cases b <;> simp at this <;> exact this.symm
      have Hb := Lib.hid hb
      clear hb hH c1 c2 c3 c4
      go_enter Try.func54, Try.ntmps54
      go_wp2_with fail
      refine (within.calls _ _ _ _ _ C1.out).mono ?_
      rintro e w' ⟨rfl, rfl⟩
      go_wp2_with fail
      refine (within.calls _ _ _ _ _ C2.out).mono ?_
      rintro e w' ⟨rfl, rfl⟩
      go_wp2_with fail
      refine (within.calls _ _ _ _ _ C3.out).mono ?_
      rintro e w' ⟨rfl, rfl⟩
      go_wp2_with fail
      refine (within.calls _ _ _ _ _ C4.out).mono ?_
      rintro e w' ⟨rfl, rfl⟩
      go_wp2_with fail
      refine (all.calls A0_4 c0_4 l0_4 (w.heap.size + 1) (knownOf a0_0) _ (Kd.C_below hR.out (((Below.refl _ w).alloc (Nat.le_refl _) _).alloc (by simp) _)) (by unfold maxLen; omega) ?_).mono ?_
      · unfold knownOf; go_simp
      rintro e w' ⟨rfl, hbel⟩
      rw [Hb.out]
      have hB := (((Below.refl _ w).alloc (Nat.le_refl _) (.cells #[.int .i64 a0_0, .int .i64 a0_1, .int .i64 a0_2, .int .i64 a0_3, .slice A0_4 l0_4.length c0_4] 33)).alloc (by simp) _).trans (hbel.mono (by simp; omega))
      cases b
      · go_wp2
        go_ret
        exact ⟨rfl, hB⟩
      · go_wp2
        go_ret
        exact ⟨rfl, hB⟩
end Go.Proofs.Ytdnjmhhjjbdieaa.Q
end
