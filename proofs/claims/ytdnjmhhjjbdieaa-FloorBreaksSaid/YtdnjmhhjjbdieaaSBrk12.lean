/- Texts of a proof, joined: see the last one. -/
import Derived.Test.YtdnjmhhjjbdieaaSBrk6
import Derived.Test.YtdnjmhhjjbdieaaSBrk11
import Derived.Carry
import Derived.Maps.AppendAt
import Derived.Maps.OwnIn
namespace Go.Proofs.YtdnjmhhjjbdieaaW.PrintLast
end Go.Proofs.YtdnjmhhjjbdieaaW.PrintLast
namespace Go.Proofs.YtdnjmhhjjbdieaaW.PrintWords
end Go.Proofs.YtdnjmhhjjbdieaaW.PrintWords
section
namespace Go.Proofs.Ytdnjmhhjjbdieaa.Q
open Go.RowKit Go.Shelf Go.Proofs.YtdnjmhhjjbdieaaW.PrintWords Go.Proofs.YtdnjmhhjjbdieaaW.PrintLast
set_option linter.unusedVariables false
set_option linter.unusedSimpArgs false
attribute [local go_sem] Oper.semAt_some
attribute [local go_sem] run_makeMap
def hcnt (least most short : Int) (n : Nat) (l : List S52) (person : Int) : Nat → St → Int → Prop
  | 0 => fun y c => y = beginSt ∧ c = 0
  | j + 1 => match l[j]? with | some m => cnts least most short n m.f0 m.f1 person (hcnt least most short n l person j) | none => fun _ _ => False
theorem hcnt_fwd {least most short : Int} {n : Nat} {l : List S52} {person : Int} : ∀ (j : Nat) (y : St) (c : Int), hcnt least most short n l person j y c → fwd least most short n l j y ∧ 0 ≤ c ∧ c ≤ j
  | 0, y, c, h => by obtain ⟨rfl, rfl⟩ := h; exact ⟨rfl, by omega, by omega⟩
  | j + 1, y, c, h => by
    cases hm : l[j]? with
    | none => simp [hcnt, hm] at h
    | some m =>
      simp only [hcnt, hm] at h
      obtain ⟨x, p, hp, hy, c', hc, rfl⟩ := h
      have := hcnt_fwd j x c' hc
      have hh : heldOne person p = 0 ∨ heldOne person p = 1 := by unfold heldOne; split <;> simp
      refine ⟨?_, by omega, by omega⟩
      simp only [fwd, hm]
      exact ⟨x, this.1, p, hp, hy⟩
theorem fwd_hcnt {least most short : Int} {n : Nat} {l : List S52} {person : Int} : ∀ (j : Nat) (y : St), fwd least most short n l j y → ∃ c, hcnt least most short n l person j y c
  | 0, y, h => ⟨0, h, rfl⟩
  | j + 1, y, h => by
    cases hm : l[j]? with
    | none => simp [fwd, hm] at h
    | some m =>
      simp only [fwd, hm] at h
      obtain ⟨x, hx, p, hp, hy⟩ := h
      obtain ⟨c, hc⟩ := fwd_hcnt (person := person) j x hx
      refine ⟨c + heldOne person p, ?_⟩
      simp only [hcnt, hm]
      exact ⟨x, p, hp, hy, c, hc, rfl⟩
set_option maxRecDepth 100000 in
set_option maxHeartbeats 4000000 in
theorem held.rounds (n : Nat) (hn : n ≤ 12) (least most short person : Int) (A : Option Addr) (c : Nat) (l : List S52) (hl : l.length ≤ 40)
    (sc pc b0 : Nat) (M0 : St → Option (Int × Int)) (Q : Exit → Act → World → Prop) (v0 v1 v4 v5 v6 v8 v9 v10 v11 v12 v13 v14 v15 v16 v17 v18 v19 v20 v21 v22 v23 v24 v25 v26 v27 v28 v29 v30 v31 v32 v33 v34 v35 v36 v37 v38 v42 v43 v44 v45 v46 v47 v48 v49 v50 v51 v52 v53 v54 v55 v56 v57 v58 v59 v60 v61 v62 v63 v64 v65 v66 v67 v68 v69 v70 v71 v72 v73 v74 v75 v76 v77 v78 v79 v80 v81 v82 v83 v84 v85 v86 v87 v88 v89 v90 v91 v92 v93 v94 v95 v96 v97 v98 v99 v100 v101 : Value) (W : World)
    (hA : Kd.C k52 W A l.length l)
    (h1 : W.heap[sc]? = some (.cells #[.int .i64 n, .int .i64 least, .int .i64 most, .int .i64 short, .slice A l.length c] 33 (0, 0)))
    (h4 : W.heap[pc]? = some (.cells #[.int .i64 person] 3 (0, 0)))
    (hM : MapIs EP W b0 M0) (hE : ∀ y, IsEnds (hcnt least most short n l person 0 y) (M0 y))
    (hdone : ∀ (ds' : List Deferred) (bi : Nat) (M' : St → Option (Int × Int)) (u9 u10 u11 u12 u13 u14 u15 u16 u41 u42 u43 u44 u45 u46 u47 u48 u49 u50 u51 u52 u53 u54 u55 u56 u57 u60 u61 u62 u63 u64 u65 u66 u67 u68 u69 u70 u71 u72 u73 u74 u75 u76 u77 : Value) (W' : World), Fr (fun _ => False) W W' → MapIs EP W' bi M' → (∀ y, IsEnds (hcnt least most short n l person l.length y) (M' y)) → Coll W.heap.size W'.heap.size ds' W' →
      Q .normal { tmps := (List.toArray (v0 :: v1 :: (.pointer (some ⟨sc, 0, none⟩)) :: (.pointer (some ⟨pc, 0, none⟩)) :: v4 :: v5 :: v6 :: (.map (some bi)) :: v8 :: u9 :: u10 :: u11 :: u12 :: u13 :: u14 :: u15 :: u16 :: v17 :: v18 :: v19 :: v20 :: v21 :: v22 :: v23 :: v24 :: v25 :: v26 :: v27 :: v28 :: v29 :: v30 :: v31 :: v32 :: v33 :: v34 :: v35 :: v36 :: v37 :: v38 :: (.slice A l.length c) :: (.int .i64 l.length) :: u41 :: u42 :: u43 :: u44 :: u45 :: u46 :: u47 :: u48 :: u49 :: u50 :: u51 :: u52 :: u53 :: u54 :: u55 :: u56 :: u57 :: v58 :: v59 :: u60 :: u61 :: u62 :: u63 :: u64 :: u65 :: u66 :: u67 :: u68 :: u69 :: u70 :: u71 :: u72 :: u73 :: u74 :: u75 :: u76 :: u77 :: v78 :: v79 :: v80 :: v81 :: v82 :: v83 :: v84 :: v85 :: v86 :: v87 :: v88 :: v89 :: v90 :: v91 :: v92 :: v93 :: v94 :: v95 :: v96 :: v97 :: v98 :: v99 :: v100 :: v101 :: [])), defers := ds' } W') :
    (blockOf 0 Try.f24).wpIn Fence.wide 0 Try.prog (Exit.inBlock 0 Q) { tmps := (List.toArray (v0 :: v1 :: (.pointer (some ⟨sc, 0, none⟩)) :: (.pointer (some ⟨pc, 0, none⟩)) :: v4 :: v5 :: v6 :: (.map (some b0)) :: v8 :: v9 :: v10 :: v11 :: v12 :: v13 :: v14 :: v15 :: v16 :: v17 :: v18 :: v19 :: v20 :: v21 :: v22 :: v23 :: v24 :: v25 :: v26 :: v27 :: v28 :: v29 :: v30 :: v31 :: v32 :: v33 :: v34 :: v35 :: v36 :: v37 :: v38 :: (.slice A l.length c) :: (.int .i64 l.length) :: (.int .i64 0) :: v42 :: v43 :: v44 :: v45 :: v46 :: v47 :: v48 :: v49 :: v50 :: v51 :: v52 :: v53 :: v54 :: v55 :: v56 :: v57 :: v58 :: v59 :: v60 :: v61 :: v62 :: v63 :: v64 :: v65 :: v66 :: v67 :: v68 :: v69 :: v70 :: v71 :: v72 :: v73 :: v74 :: v75 :: v76 :: v77 :: v78 :: v79 :: v80 :: v81 :: v82 :: v83 :: v84 :: v85 :: v86 :: v87 :: v88 :: v89 :: v90 :: v91 :: v92 :: v93 :: v94 :: v95 :: v96 :: v97 :: v98 :: v99 :: v100 :: v101 :: [])), defers := [] } W := by
  conv => arg 4; whnf
  have hmx : Try.prog.follows .mixedOrders = true := by kernel_rfl
  have hu := Try.underlying33
  have hu1 := Try.underlying109
  have hu2 := Try.underlying52
  have H1 := Lib.hid h1
  have H4 := Lib.hid h4
  have HA := Lib.hid hA
  have ksc : sc < W.heap.size := (Array.getElem?_eq_some_iff.1 h1).1
  have kpc : pc < W.heap.size := (Array.getElem?_eq_some_iff.1 h4).1
  clear h1 h4 hA
  refine wpIn_loop_lay (fun (tT : List Value) (a' : Act) (wv : World) => ∃ (dfs : List Deferred) (u7 u9 u10 u11 u12 u13 u14 u15 u16 u41 u42 u43 u44 u45 u46 u47 u48 u49 u50 u51 u52 u53 u54 u55 u56 u57 u60 u61 u62 u63 u64 u65 u66 u67 u68 u69 u70 u71 u72 u73 u74 u75 u76 u77 : Value), ((fun u7 u41 dfs w' => ∃ (k bi : Nat) (M : St → Option (Int × Int)), u41 = .int .i64 k ∧ u7 = .map (some bi) ∧ k ≤ l.length ∧ Fr (fun _ => False) W w' ∧ Coll W.heap.size w'.heap.size dfs w' ∧ MapIs EP w' bi M ∧ ∀ y, IsEnds (hcnt least most short n l person k y) (M y)) u7 u41 dfs wv) ∧ a' = { tmps := (lay [none, none, none, none, none, none, none, some u7, none, some u9, some u10, some u11, some u12, some u13, some u14, some u15, some u16, none, none, none, none, none, none, none, none, none, none, none, none, none, none, none, none, none, none, none, none, none, none, none, none, some u41, some u42, some u43, some u44, some u45, some u46, some u47, some u48, some u49, some u50, some u51, some u52, some u53, some u54, some u55, some u56, some u57, none, none, some u60, some u61, some u62, some u63, some u64, some u65, some u66, some u67, some u68, some u69, some u70, some u71, some u72, some u73, some u74, some u75, some u76, some u77] tT).toArray, defers := dfs }) (fun (a' : Act) (wv : World) => (fun u7 u41 w' => l.length - (intOf u41).toNat) (Array.getD a'.tmps 7 undef) (Array.getD a'.tmps 41 undef) wv) ?atStart ?round
  case' atStart =>
    dsimp only [lay]
    (repeat apply Exists.intro)
    refine ⟨?_, rfl⟩
  case' round =>
    dsimp only [lay]
    intro _ wr hinv
    obtain ⟨dfs, hinv⟩ := hinv
    obtain ⟨u7, hinv⟩ := hinv
    obtain ⟨u9, hinv⟩ := hinv
    obtain ⟨u10, hinv⟩ := hinv
    obtain ⟨u11, hinv⟩ := hinv
    obtain ⟨u12, hinv⟩ := hinv
    obtain ⟨u13, hinv⟩ := hinv
    obtain ⟨u14, hinv⟩ := hinv
    obtain ⟨u15, hinv⟩ := hinv
    obtain ⟨u16, hinv⟩ := hinv
    obtain ⟨u41, hinv⟩ := hinv
    obtain ⟨u42, hinv⟩ := hinv
    obtain ⟨u43, hinv⟩ := hinv
    obtain ⟨u44, hinv⟩ := hinv
    obtain ⟨u45, hinv⟩ := hinv
    obtain ⟨u46, hinv⟩ := hinv
    obtain ⟨u47, hinv⟩ := hinv
    obtain ⟨u48, hinv⟩ := hinv
    obtain ⟨u49, hinv⟩ := hinv
    obtain ⟨u50, hinv⟩ := hinv
    obtain ⟨u51, hinv⟩ := hinv
    obtain ⟨u52, hinv⟩ := hinv
    obtain ⟨u53, hinv⟩ := hinv
    obtain ⟨u54, hinv⟩ := hinv
    obtain ⟨u55, hinv⟩ := hinv
    obtain ⟨u56, hinv⟩ := hinv
    obtain ⟨u57, hinv⟩ := hinv
    obtain ⟨u60, hinv⟩ := hinv
    obtain ⟨u61, hinv⟩ := hinv
    obtain ⟨u62, hinv⟩ := hinv
    obtain ⟨u63, hinv⟩ := hinv
    obtain ⟨u64, hinv⟩ := hinv
    obtain ⟨u65, hinv⟩ := hinv
    obtain ⟨u66, hinv⟩ := hinv
    obtain ⟨u67, hinv⟩ := hinv
    obtain ⟨u68, hinv⟩ := hinv
    obtain ⟨u69, hinv⟩ := hinv
    obtain ⟨u70, hinv⟩ := hinv
    obtain ⟨u71, hinv⟩ := hinv
    obtain ⟨u72, hinv⟩ := hinv
    obtain ⟨u73, hinv⟩ := hinv
    obtain ⟨u74, hinv⟩ := hinv
    obtain ⟨u75, hinv⟩ := hinv
    obtain ⟨u76, hinv⟩ := hinv
    obtain ⟨u77, hinv⟩ := hinv
    obtain ⟨hrel, ha⟩ := hinv
    subst ha
    try dsimp only
  case atStart =>
    exact ⟨0, b0, M0, rfl, rfl, Nat.zero_le _, Fr.refl _ _, Coll.nil _ _ _, hM, hE⟩
  case round =>
    obtain ⟨k, bi, M, rfl, rfl, hk, hF, hC, hMk, hEk⟩ := hrel
    clear hM hE
    by_cases hlt : k < l.length
    · have hSz := hF.size
      have hx : Kd.C k52 W A l.length l := HA.out
      obtain ⟨ad, rfl, m0, m1⟩ := at_T52 hx k (by omega) (by omega)
      have hrd : rd_T52 l (k : Int) = l[k] := by simp [rd_T52, List.getD, hlt]
      rw [hrd, Int.toNat_natCast] at m0 m1
      obtain ⟨⟨mf, mh⟩, hm⟩ : ∃ m, l[k] = m := ⟨_, rfl⟩
      rw [hm] at m0 m1
      simp only [] at m0 m1
      have m0' := hF.cell m0 (by simp)
      have m1' := hF.cell m1 (by simp)
      have hk2 : (k : Int) < l.length := by omega
      have hi2 : (ad.add (k * 2)).block < wr.heap.size := World.block_lt_of_cell? wr _ m0'
      have hbil := hMk.lt
      obtain ⟨W1, hW1⟩ : ∃ W1, (((wr.alloc (.cells #[.int .u16 mf, .int .u16 mh] 52)).alloc (.map #[] 0)).alloc (.cells #[.map (some (wr.heap.size + 1))] 116)).alloc (.cells #[.func (.func 57) #[] #[.pointer (some ⟨wr.heap.size + 1 + 1, 0, none⟩)]] 119) = W1 := ⟨_, rfl⟩
      have hb1 : Below wr.heap.size wr W1 := by rw [← hW1]; exact ((((Below.refl _ wr).alloc (Nat.le_refl _) _).alloc (by simp) _).alloc (by simp; omega) _).alloc (by simp; omega) _
      have hs1 : W1.heap.size = wr.heap.size + 4 := by rw [← hW1]; simp
      have hcm : W1.heap[wr.heap.size]? = some (.cells #[.int .u16 mf, .int .u16 mh] 52 (0, 0)) := by rw [← hW1]; exact heap_old (heap_old (heap_old (heap_new rfl)))
      have hcn : W1.heap[wr.heap.size + 1 + 1]? = some (.cells #[.map (some (wr.heap.size + 1))] 116 (0, 0)) := by rw [← hW1]; exact heap_old (heap_new (by simp))
      have hjc : W1.heap[wr.heap.size + 1 + 1 + 1]? = some (.cells #[.func (.func 57) #[] #[.pointer (some ⟨wr.heap.size + 1 + 1, 0, none⟩)]] 119 (0, 0)) := by rw [← hW1]; exact heap_new (by simp)
      have hbn : MapIs EP W1 (wr.heap.size + 1) (fun _ => none) := by
        have hm := MapIs.made (E := EP) (wr.alloc (.cells #[.int .u16 mf, .int .u16 mh] 52))
        rw [World.size_alloc] at hm
        rw [← hW1]
        exact hm.same ((Below.heap_alloc _ _ _ (by simp)).trans (Below.heap_alloc _ _ _ (by simp)))
      have hMk1 := hMk.same (hb1.block _ hMk.lt)
      obtain ⟨W2, cnt, hrng, hR2, hg2, hs2⟩ := hMk1.range
      have hrng : (Instr.range 116 (.map (some bi))).run Try.prog W1 = .ok (.pointer (some ⟨W1.heap.size, 0, none⟩)) W2 := hrng
      have HF := Lib.hid hF
      have HC := Lib.hid hC
      have HMK := Lib.hid hMk
      have HEK := Lib.hid hEk
      have HB1 := Lib.hid hb1
      have HS1 := Lib.hid hs1
      have HCM := Lib.hid hcm
      have HCN := Lib.hid hcn
      have HJC := Lib.hid hjc
      have HBN := Lib.hid hbn
      have HR2 := Lib.hid hR2
      have HG2 := Lib.hid hg2
      have HS2 := Lib.hid hs2
      clear hF hC hMk hEk hb1 hs1 hcm hcn hjc hbn hR2 hg2 hs2 hMk1 m0 m1 hrd hx
      gi_wp2
      have hs1 := HS1.out
      have hs2 : W2.heap.size = W1.heap.size + 1 := HS2.out
      have hF12 : Fr (fun _ => False) W1 W2 := Fr.grown HG2.out (fun r e => by cases e)
      have hFr2 : Fr (fun _ => False) wr W2 := (Fr.of_below HB1.out (fun k q1 q2 => by omega)).trans hF12
      have hF02 : Fr (fun _ => False) W W2 := HF.out.trans hFr2
      have hML : (fun x => M x ≠ none) = fun x => M x ≠ none := rfl
      refine held.fill (Q := _) n hn least most short mf mh person _ (hcnt least most short n l person k) M k (by omega) (fun x c hc => ⟨fwd_small hn k x (hcnt_fwd k x c hc).1, (hcnt_fwd k x c hc).2⟩) HEK.out sc pc wr.heap.size (wr.heap.size + 1 + 1) (wr.heap.size + 1 + 1 + 1) bi (wr.heap.size + 1) W1.heap.size W.heap.size cnt dfs _ _ _ _ _ _ _ _ _ _ _ _ _ _ _ _ _ _ _ _ _ _ _ _ _ _ _ _ _ _ _ _ _ _ _ _ _ _ _ _ _ _ _ _ _ _ _ _ _ _ _ _ _ _ _ _ _ _ _ _ _ _ _ _ _ _ _ _ _ _ _ _ _ _ _ _ _ _ _ _ _ _ _ _ _ _ _ _ _ _ _ _ _ _ _ _ W2
        HR2.out (HBN.out.same (hF12.same _ (by omega) (by simp))) (by omega) ((hF02.same _ ksc (by simp)).trans H1.out) ((hF12.same _ (by omega) (by simp)).trans HCM.out) ((hF12.same _ (by omega) (by simp)).trans HCN.out) ((hF02.same _ kpc (by simp)).trans H4.out) ((hF12.same _ (by omega) (by simp)).trans HJC.out)
        (by have := hF02.size; omega) ((HC.out.same (SameMarks.fr hFr2 (fun k h => h.elim))).up (by omega)) ?_
      rintro ds3 t12 t13 t14 t15 t16 t49 t50 t51 t52 t53 t54 t55 t56 t57 t60 t61 t62 t63 t64 t65 t66 t67 t68 t69 t70 t71 t72 t73 t74 t75 M3 W3 hF3 hM3 hE3 hC3
      have hF03 : Fr (fun _ => False) W W3 := ⟨hF3.os.trans hF02.os, hF3.tape.trans hF02.tape, hF3.output.trans hF02.output, Nat.le_trans hF02.size hF3.size, fun q hq hx => (hF3.same q (by have := hF02.size; omega) (fun h => by have := HF.out.size; rcases h with h | h <;> omega)).trans (hF02.same q hq hx)⟩
      have hcn3 := (hF3.same (wr.heap.size + 1 + 1) (by omega) (fun h => by rcases h with h | h <;> omega)).trans ((hF12.same _ (by omega) (by simp)).trans HCN.out)
      have ecn := cell_of hcn3 (i := 0) rfl
      simp only [List.getElem_toArray, List.getElem_cons_zero] at ecn
      have HF03 := Lib.hid hF03
      have HM3 := Lib.hid hM3
      have HE3 := Lib.hid hE3
      have HC3 := Lib.hid hC3
      have hwr : IntKind.i64.wrap ((k : Int) + 1) = (k : Int) + 1 := by simp [IntKind.wrap, IntKind.bits, IntKind.signed]; omega
      clear hF3 hF03 hM3 hE3 hC3 hcn3 hF12 hFr2 hF02 hs1 hs2 hrng hML
      gi_wp2
      refine ⟨?_, ?measure⟩
      · (repeat apply Exists.intro)
        refine ⟨?_, rfl⟩
        refine ⟨k + 1, _, M3, by simp, rfl, by omega, HF03.out, HC3.out, HM3.out, fun y => ?_⟩
        have hh : hcnt least most short n l person (k + 1) y = cnts least most short n mf mh person (hcnt least most short n l person k) y := by
          simp only [hcnt, List.getElem?_eq_getElem hlt, hm]
        rw [hh]
        exact HE3.out y
      case measure =>
        simp [intOf]
        omega
    · obtain rfl : k = l.length := by omega
      gi_wp2
      exact hdone dfs bi M _ _ _ _ _ _ _ _ _ _ _ _ _ _ _ _ _ _ _ _ _ _ _ _ _ _ _ _ _ _ _ _ _ _ _ _ _ _ _ _ _ _ _ wr hF hMk hEk hC
end Go.Proofs.Ytdnjmhhjjbdieaa.Q
end
section
namespace Go.Proofs.Ytdnjmhhjjbdieaa.Q
open Go.RowKit Go.Shelf Go.Proofs.YtdnjmhhjjbdieaaW.PrintWords Go.Proofs.YtdnjmhhjjbdieaaW.PrintLast
set_option linter.unusedVariables false
set_option linter.unusedSimpArgs false
attribute [local go_sem] Oper.semAt_some
theorem RangeIs.cnt_le {β : Type} {E : Elem β} {w : World} {b r cnt : Nat} {M : St → Option β} {L : St → Prop} (h : RangeIs E w b r M L cnt) : cnt ≤ KB := by
  obtain ⟨D, left, ⟨es, clock, since, seen, c0, h1, h2, h3, h4, h5, h6, h7, h8⟩, ht, hl⟩ := h
  rw [← h7]
  refine Nat.le_trans ?_ h3
  unfold leftOf
  exact Array.size_filter_le
theorem wpListIn_append_run {F : Fence} {m : Nat} {P : Program} {ops : Array Oper} {rest : List Oper} {o : Oper} {a : Act} {w : World} {Q : Exit → Act → World → Prop} (hgd : o.guard = none) (s x : Operand) (t : TypeId)
    (ho : o.op = .call { callee := .builtin .append, args := #[s, x], argTypes := #[t, t] }) (v y v' : Value) (w' : World) (hs : a.eval s = v) (hx : a.eval x = y)
    (hr : (Builtin.append_ #[t, t] o.type #[v, y]).run P w = .ok v' w') (h : wpListIn F m P ops Q rest (a.put o.dst v') w') : wpListIn F m P ops Q (o :: rest) a w := by
  refine wpListIn_plain hgd fun K hK => ?_
  unfold Oper.wpIn
  refine ⟨by simp [Oper.about, ho, resolve, Target.leads, Sem.run_pure], ?_⟩
  rw [Oper.semAt_plain F _ _ (by rw [ho]; intro c hc'; cases hc')]
  simp [execOp, ho, resolve, invoke, builtin, hs, hx, hr, Result.andThen]
  exact hK _ _ h
theorem infoInt : (Try.prog.info? 3).map (fun i => (i.zero, i.size, i.bytes)) = some (some (.int .i64 0), 1, 8) := by kernel_rfl
set_option maxRecDepth 100000 in
set_option maxHeartbeats 4000000 in
theorem held.collect (bi rb cnt lo : Nat) (M : St → Option (Int × Int)) (ds : List Deferred) (Q : Exit → Act → World → Prop) (v0 v1 v2 v3 v4 v5 v6 v8 v9 v10 v11 v12 v13 v14 v15 v16 v18 v19 v20 v21 v22 v23 v24 v25 v26 v27 v28 v29 v30 v31 v32 v33 v34 v35 v36 v37 v38 v39 v40 v41 v42 v43 v44 v45 v46 v47 v48 v49 v50 v51 v52 v53 v54 v55 v56 v57 v58 v59 v60 v61 v62 v63 v64 v65 v66 v67 v68 v69 v70 v71 v72 v73 v74 v75 v76 v77 v78 v79 v80 v81 v82 v84 v85 v86 v87 v88 v89 v90 v91 v92 v93 v94 v95 v96 v97 v98 v99 v100 v101 : Value) (W : World)
    (hr : RangeIs EP W bi rb M (fun x => M x ≠ none) cnt) (hlo : lo ≤ W.heap.size)
    (hdone : ∀ (lv : Value) (xs : List Int) (u19 u84 u85 u86 u87 u88 u89 u90 u91 u92 u93 u94 : Value) (W' : World), Fr (fun k => k = rb) W W' → xs.length ≤ 2 * KB → World.ownsRow W' W.heap.size 3 1 lv xs.length (xs.map (.int .i64)) → (∀ c, c ∈ xs ↔ ∃ x v, M x = some v ∧ (c = v.1 ∨ c = v.2)) →
      Q .normal { tmps := (List.toArray (v0 :: v1 :: v2 :: v3 :: v4 :: v5 :: v6 :: (.map (some bi)) :: v8 :: v9 :: v10 :: v11 :: v12 :: v13 :: v14 :: v15 :: v16 :: lv :: v18 :: u19 :: v20 :: v21 :: v22 :: v23 :: v24 :: v25 :: v26 :: v27 :: v28 :: v29 :: v30 :: v31 :: v32 :: v33 :: v34 :: v35 :: v36 :: v37 :: v38 :: v39 :: v40 :: v41 :: v42 :: v43 :: v44 :: v45 :: v46 :: v47 :: v48 :: v49 :: v50 :: v51 :: v52 :: v53 :: v54 :: v55 :: v56 :: v57 :: v58 :: v59 :: v60 :: v61 :: v62 :: v63 :: v64 :: v65 :: v66 :: v67 :: v68 :: v69 :: v70 :: v71 :: v72 :: v73 :: v74 :: v75 :: v76 :: v77 :: v78 :: v79 :: v80 :: v81 :: v82 :: (.pointer (some ⟨rb, 0, none⟩)) :: u84 :: u85 :: u86 :: u87 :: u88 :: u89 :: u90 :: u91 :: u92 :: u93 :: u94 :: v95 :: v96 :: v97 :: v98 :: v99 :: v100 :: v101 :: [])), defers := ds } W') :
    (blockOf 6 Try.f24).wpIn Fence.wide 0 Try.prog (Exit.inBlock 6 Q) { tmps := (List.toArray (v0 :: v1 :: v2 :: v3 :: v4 :: v5 :: v6 :: (.map (some bi)) :: v8 :: v9 :: v10 :: v11 :: v12 :: v13 :: v14 :: v15 :: v16 :: (.slice none 0 0) :: v18 :: v19 :: v20 :: v21 :: v22 :: v23 :: v24 :: v25 :: v26 :: v27 :: v28 :: v29 :: v30 :: v31 :: v32 :: v33 :: v34 :: v35 :: v36 :: v37 :: v38 :: v39 :: v40 :: v41 :: v42 :: v43 :: v44 :: v45 :: v46 :: v47 :: v48 :: v49 :: v50 :: v51 :: v52 :: v53 :: v54 :: v55 :: v56 :: v57 :: v58 :: v59 :: v60 :: v61 :: v62 :: v63 :: v64 :: v65 :: v66 :: v67 :: v68 :: v69 :: v70 :: v71 :: v72 :: v73 :: v74 :: v75 :: v76 :: v77 :: v78 :: v79 :: v80 :: v81 :: v82 :: (.pointer (some ⟨rb, 0, none⟩)) :: v84 :: v85 :: v86 :: v87 :: v88 :: v89 :: v90 :: v91 :: v92 :: v93 :: v94 :: v95 :: v96 :: v97 :: v98 :: v99 :: v100 :: v101 :: [])), defers := ds } W := by
  conv => arg 4; whnf
  have hmx : Try.prog.follows .mixedOrders = true := by kernel_rfl
  have hu1 := Try.underlying109
  have hu3 := Try.underlying115
  have hcl := hr.cnt_le
  refine wpIn_loop_lay (fun (tT : List Value) (a' : Act) (wv : World) => ∃ (dfs : List Deferred) (u17 u19 u84 u85 u86 u87 u88 u89 u90 u91 u92 u93 u94 : Value), ((fun u17 dfs w' => dfs = ds ∧ ∃ (L : St → Prop) (cnt2 : Nat) (xs : List Int), RangeIs EP w' bi rb M L cnt2 ∧ World.ownsRow w' W.heap.size 3 1 u17 xs.length (xs.map (.int .i64)) ∧ xs.length + 2 * cnt2 ≤ 2 * cnt ∧ Fr (fun k => k = rb) W w' ∧ ∀ c, c ∈ xs ↔ ∃ x v, (M x = some v ∧ ¬ L x) ∧ (c = v.1 ∨ c = v.2)) u17 dfs wv) ∧ a' = { tmps := (lay [none, none, none, none, none, none, none, none, none, none, none, none, none, none, none, none, none, some u17, none, some u19, none, none, none, none, none, none, none, none, none, none, none, none, none, none, none, none, none, none, none, none, none, none, none, none, none, none, none, none, none, none, none, none, none, none, none, none, none, none, none, none, none, none, none, none, none, none, none, none, none, none, none, none, none, none, none, none, none, none, none, none, none, none, none, none, some u84, some u85, some u86, some u87, some u88, some u89, some u90, some u91, some u92, some u93, some u94] tT).toArray, defers := dfs }) (fun (a' : Act) (wv : World) => (fun u17 w' => w'.rangeLeft bi rb) (Array.getD a'.tmps 17 undef) wv) ?atStart ?round
  case' atStart =>
    dsimp only [lay]
    (repeat apply Exists.intro)
    refine ⟨?_, rfl⟩
  case' round =>
    dsimp only [lay]
    intro _ wr hinv
    obtain ⟨dfs, hinv⟩ := hinv
    obtain ⟨u17, hinv⟩ := hinv
    obtain ⟨u19, hinv⟩ := hinv
    obtain ⟨u84, hinv⟩ := hinv
    obtain ⟨u85, hinv⟩ := hinv
    obtain ⟨u86, hinv⟩ := hinv
    obtain ⟨u87, hinv⟩ := hinv
    obtain ⟨u88, hinv⟩ := hinv
    obtain ⟨u89, hinv⟩ := hinv
    obtain ⟨u90, hinv⟩ := hinv
    obtain ⟨u91, hinv⟩ := hinv
    obtain ⟨u92, hinv⟩ := hinv
    obtain ⟨u93, hinv⟩ := hinv
    obtain ⟨u94, hinv⟩ := hinv
    obtain ⟨hrel, ha⟩ := hinv
    subst ha
    try dsimp only
  case atStart =>
    refine ⟨rfl, _, cnt, [], hr, World.ownsRow_nil W _ _ _, by simp, Fr.refl _ _, fun c => ⟨fun h => (by cases h), fun ⟨x, v, ⟨h1, h2⟩, _⟩ => (h2 (by rw [h1]; simp)).elim⟩⟩
  case round =>
    obtain ⟨hd2, L, cn2, xs, hR, hrow, hlen, hF, hmem⟩ := hrel
    obtain rfl := hd2.symm
    clear hr
    rcases hR.next 0 with ⟨hall, hrun⟩ | ⟨x, v, W1, cnt1, hLx, hMx, hbx, hrun, hR1, hlt, hg1, hs1, hen⟩
    · gi_wp2
      refine hdone _ xs _ _ _ _ _ _ _ _ _ _ _ _ wr hF (by omega) hrow (fun c => (hmem c).trans ⟨fun ⟨x, v, h1, h2⟩ => ⟨x, v, h1.1, h2⟩, fun ⟨x, v, h1, h2⟩ => ⟨x, v, ⟨h1, fun hL => ?_⟩, h2⟩⟩)
      rw [hall x hL] at h1; cases h1
    · simp only [encSt] at hrun hen
      replace hrun : (Instr.next (.pointer (some ⟨rb, 0, none⟩)) false 0).run Try.prog wr = .ok (.tuple #[.bool true, .agg #[.int .i64 x.holder, .int .i64 x.turn, .int .i64 x.short, .bool x.own], .agg #[.int .i64 v.1, .int .i64 v.2]]) W1 := hrun
      replace hen : (Instr.entry (.pointer (some ⟨rb, 0, none⟩))).run Try.prog W1 = .ok (.tuple #[.agg #[.int .i64 x.holder, .int .i64 x.turn, .int .i64 x.short, .bool x.own], .agg #[.int .i64 v.1, .int .i64 v.2]]) W1 := hen
      have hblk : ∀ k, u17.ownBlock = some k → k < wr.heap.size ∧ k ≠ rb ∧ W.heap.size ≤ k ∧ k ≠ bi := fun k hk => by
        rcases hrow.2 with ⟨e, _⟩ | ⟨g', cap, cur, e, r1, r2, _⟩
        · rw [e] at hk; cases hk
        · rw [e] at hk
          obtain rfl : g' = k := Option.some.inj hk
          refine ⟨(Array.getElem?_eq_some_iff.1 r2).1, fun e2 => ?_, r1, fun e2 => ?_⟩
          · subst e2
            obtain ⟨o, q, qc⟩ := hR.iter
            rw [r2] at q; cases q; cases qc
          · subst e2
            obtain ⟨es, cl, q⟩ := hR.mapIs.isMap
            rw [r2] at q; cases q
      obtain ⟨Wz, hWz⟩ : ∃ Wz, (W1.alloc (.cells #[.int .i64 v.1, .int .i64 v.2] 115)).alloc (.cells #[.int .i64 v.1, .int .i64 v.2] 3) = Wz := ⟨_, rfl⟩
      have hbz : Below W1.heap.size W1 Wz := by rw [← hWz]; exact ((Below.refl _ W1).alloc (Nat.le_refl _) _).alloc (by simp) _
      have hzz : Wz.heap.size = W1.heap.size + 2 := by rw [← hWz]; simp
      have hnz : Wz.heap[W1.heap.size + 1]? = some (.cells #[.int .i64 v.1, .int .i64 v.2] 3 (0, 0)) := by rw [← hWz]; exact heap_new (by simp)
      have hownz : Wz.ownsRow W.heap.size 3 1 u17 xs.length (xs.map (Value.int .i64)) := own_move hrow (fun k hk => by
        obtain ⟨h1, h2, h3, _⟩ := hblk k hk
        exact (hbz.block k (by omega)).trans (hg1.block k h1 (fun e => h2 (Option.some.inj e))))
      obtain ⟨inf, hinf, hif⟩ : ∃ i, Try.prog.info? 3 = some i ∧ (i.zero, i.size, i.bytes) = (some (.int .i64 0), 1, 8) := by
        have h := infoInt
        cases h2 : Try.prog.info? 3 with
        | none => rw [h2] at h; cases h
        | some i => rw [h2] at h; exact ⟨i, rfl, Option.some.inj h⟩
      simp only [Prod.mk.injEq] at hif
      have hkb : xs.length ≤ 2 * KB := by omega
      have hsW := hF.size
      obtain ⟨v', W5, happ, hrow5, hg5, _, hat5⟩ := run_append_own_at (P := Try.prog) Wz W.heap.size 120 120 3 inf (.int .i64 0) 1 8 Try.underlying120 hinf hif.1 hif.2.1 hif.2.2 rfl (by omega)
        u17 xs.length _ hownz ⟨W1.heap.size + 1, 0, none⟩ 2 2 [.int .i64 v.1, .int .i64 v.2] rfl (fun j u hj => by
          have : j = 0 ∨ j = 1 := by rcases Nat.lt_or_ge j 2 with h | h; · omega
                                     · rw [List.getElem?_eq_none (by simpa using h)] at hj; cases hj
          rcases this with rfl | rfl
          · cases hj; exact cell_of hnz rfl
          · cases hj; exact cell_of hnz rfl) (by simp [Value.oneCell']) (by unfold maxLen; unfold KB at hkb; omega) (by unfold KB at hkb; omega) (by omega)
      have HBZ := Lib.hid hbz
      have HZZ := Lib.hid hzz
      have HROW5 := Lib.hid hrow5
      have HG5 := Lib.hid hg5
      have HR1 := Lib.hid hR1
      have HF := Lib.hid hF
      have HMEM := Lib.hid hmem
      have HLEN := Lib.hid hlen
      have HLE := Lib.hid hR.left_eq
      have HBLK := Lib.hid hblk
      have HG1 := Lib.hid hg1
      have HAPP := Lib.hid happ
      have HMX := Lib.hid hMx
      have HS1 := Lib.hid hs1
      clear hs1 hbz hzz hrow5 hg5 hR1 hF hmem hlen hR hblk hg1 happ hMx hnz hownz hrow hat5 hd2 hkb hcl
      gi_wp2_with (gi_at_builtin; refine wpListIn_append_run (by rfl) (.tmp 88) (.tmp 93) 120 (by rfl) u17 (.slice (some ⟨W1.heap.size + 1, 0, none⟩) 2 2) _ _ (by first | rfl | simp [Act.eval]) (by first | rfl | simp [Act.eval]) (by first | exact HAPP.out | (rw [hWz]; exact HAPP.out)) ?_)
      have hs1 := HS1.out
      have hg5 := HG5.out
      have hgrow : ∀ k, k < wr.heap.size → u17.ownBlock ≠ some k → W5.heap[k]? = W1.heap[k]? := fun k hk hne =>
        (hg5.block k (by have := HBZ.out.size; omega) (fun e => hne e.symm)).trans (HBZ.out.block k (by omega))
      have hR5 : RangeIs EP W5 bi rb M (fun y => L y ∧ y ≠ x) cnt1 := HR1.out.same (hgrow bi (by have := HR1.out.mapIs.lt; omega) (fun e => (HBLK.out bi e).2.2.2 rfl)) (hgrow rb (by have := HR1.out.lt; omega) (fun e => (HBLK.out rb e).2.1 rfl))
      have hlen := HLEN.out
      have hle := HLE.out
      refine ⟨?_, ?measure⟩
      · (repeat apply Exists.intro)
        refine ⟨?_, rfl⟩
        refine ⟨rfl, _, cnt1, xs ++ [v.1, v.2], hR5, by simpa using HROW5.out, by simp; omega, ?_, fun c => ?_⟩
        · refine ⟨hg5.os.trans (HBZ.out.os.trans (HG1.out.os.trans HF.out.os)), hg5.tape.trans (HBZ.out.tape.trans (HG1.out.tape.trans HF.out.tape)), hg5.output.trans (HBZ.out.output.trans (HG1.out.output.trans HF.out.output)), by have := hg5.size; have := HBZ.out.size; omega, fun k hk hne => ?_⟩
          exact (hgrow k (by omega) (fun e => by have := (HBLK.out k e).2.2.1; omega)).trans ((HG1.out.block k (by omega) (fun e => hne (Option.some.inj e))).trans (HF.out.same k hk hne))
        · rw [List.mem_append, HMEM.out c]
          constructor
          · rintro (⟨z, u, ⟨h1, h2⟩, h3⟩ | hc)
            · exact ⟨z, u, ⟨h1, fun h => h2 h.1⟩, h3⟩
            · exact ⟨x, v, ⟨HMX.out, fun h => h.2 rfl⟩, by simpa using hc⟩
          · rintro ⟨z, u, ⟨h1, h2⟩, h3⟩
            by_cases e : z = x
            · subst e
              rw [HMX.out] at h1
              cases h1
              exact .inr (by simpa using h3)
            · exact .inl ⟨z, u, ⟨h1, fun h => h2 ⟨h, e⟩⟩, h3⟩
      case measure =>
        rw [hR5.left_eq, hle]; exact hlt
end Go.Proofs.Ytdnjmhhjjbdieaa.Q
end
section
namespace Go.Proofs.Ytdnjmhhjjbdieaa.Q
open Go.RowKit Go.Shelf Go.Proofs.YtdnjmhhjjbdieaaW.PrintWords Go.Proofs.YtdnjmhhjjbdieaaW.PrintLast
set_option linter.unusedVariables false
def addPr (S : List (St × Int)) (y : St × Int) : List (St × Int) := if y ∈ S then S else S ++ [y]
theorem mem_addPrs (ys : List (St × Int)) : ∀ (S : List (St × Int)) (x : St × Int), x ∈ ys.foldl addPr S ↔ x ∈ S ∨ x ∈ ys := by
  induction ys with
  | nil => intro S x; simp
  | cons y ys ih =>
    intro S x
    rw [List.foldl_cons, ih]
    have h : x ∈ addPr S y ↔ x ∈ S ∨ x = y := by
      unfold addPr
      split
      · rename_i hy
        exact ⟨.inl, fun h => h.elim id (fun e => e ▸ hy)⟩
      · simp
    rw [h, List.mem_cons, or_assoc]
def cntL (least most short : Int) (n : Nat) (l : List S52) (person : Int) : Nat → List (St × Int)
  | 0 => [(beginSt, 0)]
  | j + 1 => match l[j]? with
    | some m => ((cntL least most short n l person j).flatMap fun x => (partsOf least most short x.1 m.f0 m.f1 n).map fun p => (p.2, x.2 + heldOne person p)).foldl addPr []
    | none => []
theorem mem_cntL {least most short : Int} {n : Nat} {l : List S52} {person : Int} : ∀ (j : Nat) (y : St) (c : Int), (y, c) ∈ cntL least most short n l person j ↔ hcnt least most short n l person j y c
  | 0, y, c => by simp [cntL, hcnt]
  | j + 1, y, c => by
    cases hm : l[j]? with
    | none => simp [cntL, hcnt, hm]
    | some m =>
      simp only [cntL, hcnt, hm, cnts]
      rw [mem_addPrs, List.mem_flatMap]
      simp only [List.not_mem_nil, false_or]
      constructor
      · rintro ⟨⟨x, c'⟩, hx, hp⟩
        obtain ⟨p, hp, e⟩ := List.mem_map.1 hp
        injection e with e1 e2
        exact ⟨x, p, hp, e1, c', (mem_cntL j x c').1 hx, e2.symm⟩
      · rintro ⟨x, p, hp, e1, c', hc, e2⟩
        exact ⟨(x, c'), (mem_cntL j x c').2 hc, List.mem_map.2 ⟨p, hp, by rw [e1, e2]⟩⟩
def floor_Held.f (a0_0 a0_1 a0_2 a0_3 : Int) (l0_4 : List S52) (a1 : Int) : Option (Int × Int × Int) :=
  match floor_Scene_check.f a0_0 a0_1 a0_2 a0_3 l0_4 with
  | none => none
  | some r => if r = 0 then
      if win a1 0 (a0_0 - 1) = true then
        if (fwdL a0_1 a0_2 a0_3 a0_0.toNat l0_4 l0_4.length).isEmpty then some (0, 0, 10)
        else some ((endsOf ((cntL a0_1 a0_2 a0_3 a0_0.toNat l0_4 a1 l0_4.length).map (·.2))).1, (endsOf ((cntL a0_1 a0_2 a0_3 a0_0.toNat l0_4 a1 l0_4.length).map (·.2))).2, 0)
      else some (0, 0, 2)
    else some (0, 0, r)
theorem getD_mem {xs : List Int} {j : Nat} (h : j < xs.length) : xs.getD j 0 ∈ xs := by
  rw [List.getD_eq_getElem?_getD, List.getElem?_eq_getElem h]; exact List.getElem_mem h
theorem accMin_spec {xs : List Int} (h0 : 0 < xs.length) : ∀ k, k ≤ xs.length → accMin xs k ∈ xs ∧ ∀ j, j < k → accMin xs k ≤ xs.getD j 0
  | 0, _ => ⟨getD_mem h0, fun j hj => absurd hj (Nat.not_lt_zero j)⟩
  | k + 1, hk => by
    obtain ⟨h1, h2⟩ := accMin_spec h0 k (by omega)
    unfold accMin
    split
    · exact ⟨getD_mem (by omega), fun j hj => by
        rcases Nat.lt_or_ge j k with h | h
        · have := h2 j h; omega
        · obtain rfl : j = k := by omega
          exact Int.le_refl _⟩
    · exact ⟨h1, fun j hj => by
        rcases Nat.lt_or_ge j k with h | h
        · exact h2 j h
        · obtain rfl : j = k := by omega
          omega⟩
theorem accMax_spec {xs : List Int} (h0 : 0 < xs.length) : ∀ k, k ≤ xs.length → accMax xs k ∈ xs ∧ ∀ j, j < k → xs.getD j 0 ≤ accMax xs k
  | 0, _ => ⟨getD_mem h0, fun j hj => absurd hj (Nat.not_lt_zero j)⟩
  | k + 1, hk => by
    obtain ⟨h1, h2⟩ := accMax_spec h0 k (by omega)
    unfold accMax
    split
    · exact ⟨getD_mem (by omega), fun j hj => by
        rcases Nat.lt_or_ge j k with h | h
        · have := h2 j h; omega
        · obtain rfl : j = k := by omega
          exact Int.le_refl _⟩
    · exact ⟨h1, fun j hj => by
        rcases Nat.lt_or_ge j k with h | h
        · exact h2 j h
        · obtain rfl : j = k := by omega
          omega⟩
theorem endsOf_isEnds {xs : List Int} (h0 : 0 < xs.length) : IsEnds (fun c => c ∈ xs) (some (endsOf xs)) :=
  ⟨(accMin_spec h0 _ (Nat.le_refl _)).1, (accMax_spec h0 _ (Nat.le_refl _)).1, fun c hc => by
    obtain ⟨j, hj, rfl⟩ := List.getElem_of_mem hc
    have a := (accMin_spec h0 _ (Nat.le_refl _)).2 j hj
    have b := (accMax_spec h0 _ (Nat.le_refl _)).2 j hj
    rw [List.getD_eq_getElem?_getD, List.getElem?_eq_getElem hj] at a b
    exact ⟨a, b⟩⟩
theorem IsEnds.unique {S : Int → Prop} {v w : Int × Int} (h : IsEnds S (some v)) (h' : IsEnds S (some w)) : v = w := by
  have a := h.2.2 _ h'.1
  have b := h.2.2 _ h'.2.1
  have c := h'.2.2 _ h.1
  have d := h'.2.2 _ h.2.1
  exact Prod.ext (by omega) (by omega)
end Go.Proofs.Ytdnjmhhjjbdieaa.Q
end
section
namespace Go.Proofs.Ytdnjmhhjjbdieaa.Q
open Go.RowKit Go.Shelf Go.Proofs.YtdnjmhhjjbdieaaW.PrintWords Go.Proofs.YtdnjmhhjjbdieaaW.PrintLast
set_option linter.unusedVariables false
set_option linter.unusedSimpArgs false
attribute [local go_sem] Oper.semAt_some
attribute [local go_sem] run_makeMap
set_option maxRecDepth 100000 in
set_option maxHeartbeats 4000000 in
theorem floor_Held.calls (a0_0 a0_1 a0_2 a0_3 : Int) (A0_4 : Option Addr) (c0_4 : Nat) (l0_4 : List S52) (a1 r1 r2 r3 : Int) (w : World) (hr0_4 : Kd.C k52 w A0_4 l0_4.length l0_4) (hc0_4 : l0_4.length ≤ c0_4)
    (h : floor_Held.f a0_0 a0_1 a0_2 a0_3 l0_4 a1 = some (r1, r2, r3)) :
    Calls Try.prog 24 #[.agg #[.int .i64 a0_0, .int .i64 a0_1, .int .i64 a0_2, .int .i64 a0_3, .slice A0_4 l0_4.length c0_4], .int .i64 a1] w fun e w' => e = .returned (.tuple #[.agg #[.int .i64 r1, .int .i64 r2], .int .i64 r3]) ∧ Below w.heap.size w w' := by
  have hu := Try.underlying33
  have hu4 := Try.underlying42
  refine (callsIn_wide (n := 0)).1 ?_
  refine callsIn_of_wp_marks Try.func24 rfl trivial ?_ rfl
  simp only [Try.ntmps24, List.size_toArray, List.length_cons, List.length_nil, Nat.reduceAdd, Nat.reduceSub, Array.replicate_succ, Array.replicate_zero, List.push_toArray, List.append_toArray, List.nil_append, List.cons_append]
  unfold floor_Held.f at h
  have HR := Lib.hid hr0_4
  have HH := Lib.hid h
  clear hr0_4 h
  obtain ⟨W0, hW0⟩ : ∃ W0, ((w.alloc (.cells #[.int .i64 a0_0, .int .i64 a0_1, .int .i64 a0_2, .int .i64 a0_3, .slice A0_4 l0_4.length c0_4] 33)).alloc (.cells #[.int .i64 a1] 3)).alloc (.cells #[.int .i64 0, .int .i64 0] 42) = W0 := ⟨_, rfl⟩
  have hb0 : Below w.heap.size w W0 := by rw [← hW0]; exact (((Below.refl _ w).alloc (Nat.le_refl _) _).alloc (by simp) _).alloc (by simp; omega) _
  have hs0 : W0.heap.size = w.heap.size + 3 := by rw [← hW0]; simp
  have hsc0 : W0.heap[w.heap.size]? = some (.cells #[.int .i64 a0_0, .int .i64 a0_1, .int .i64 a0_2, .int .i64 a0_3, .slice A0_4 l0_4.length c0_4] 33 (0, 0)) := by rw [← hW0]; exact heap_old (heap_old (heap_new rfl))
  have hpc0 : W0.heap[w.heap.size + 1]? = some (.cells #[.int .i64 a1] 3 (0, 0)) := by rw [← hW0]; exact heap_old (heap_new (by simp))
  have hrc0 : W0.heap[w.heap.size + 1 + 1]? = some (.cells #[.int .i64 0, .int .i64 0] 42 (0, 0)) := by rw [← hW0]; exact heap_new (by simp)
  have e0 := cell_of hsc0 (i := 0) rfl
  have e1 := cell_of hsc0 (i := 1) rfl
  have e2 := cell_of hsc0 (i := 2) rfl
  have e3 := cell_of hsc0 (i := 3) rfl
  have e4 := cell_of hsc0 (i := 4) rfl
  simp only [List.getElem_toArray, List.getElem_cons_zero, List.getElem_cons_succ] at e0 e1 e2 e3 e4
  have HB0 := Lib.hid hb0
  have HS0 := Lib.hid hs0
  have HSC := Lib.hid hsc0
  have HPC := Lib.hid hpc0
  have HRC := Lib.hid hrc0
  clear hb0 hs0 hsc0 hpc0 hrc0
  gi_wp2
  clear hW0
  cases hck : floor_Scene_check.f a0_0 a0_1 a0_2 a0_3 l0_4 with
  | none => have h' := HH.out; rw [hck] at h'; cases h'
  | some r =>
    have HCK := Lib.hid hck
    have h' := HH.out
    rw [hck] at h'
    simp only [] at h'
    clear hck HH
    refine ⟨trivial, rfl, (callsIn_wide.2 (floor_Scene_check.calls a0_0 a0_1 a0_2 a0_3 A0_4 c0_4 l0_4 r W0 (Kd.C_below HR.out HB0.out) hc0_4 HCK.out)).mono ?_⟩
    rintro e W1 ⟨rfl, hb1⟩
    have hz := hb1.size
    have hs0 := HS0.out
    have hrc1 := (hb1.block _ (by omega)).trans HRC.out
    have c0 := cell_of hrc1 (i := 0) rfl
    have c1 := cell_of hrc1 (i := 1) rfl
    have f0 := not_frozen (i := 0) hrc1
    have f1 := not_frozen (i := 1) hrc1
    have HB1 := Lib.hid hb1
    by_cases hr : r = 0
    · subst hr
      obtain ⟨hl, ⟨n, rfl, hn1, hn⟩, _⟩ := check_ok HCK.out
      have hnn : (n : Int).toNat = n := Int.toNat_natCast n
      simp only [↓reduceIte, hnn] at h'
      have HH := Lib.hid h'
      have hwr : IntKind.i64.wrap ((n : Int) - 1) = (n : Int) - 1 := by simp [IntKind.wrap, IntKind.bits, IntKind.signed]; omega
      have hb01 := HB0.out.trans (hb1.mono HB0.out.size)
      have hpc1 := (hb1.block _ (by omega)).trans HPC.out
      have hsc1 := (hb1.block _ (by omega)).trans HSC.out
      have p0 := cell_of hpc1 (i := 0) rfl
      have s0 := cell_of hsc1 (i := 0) rfl
      simp only [List.getElem_toArray, List.getElem_cons_zero, List.getElem_cons_succ] at p0 s0
      have HB01 := Lib.hid hb01
      have HPC1 := Lib.hid hpc1
      have HSC1 := Lib.hid hsc1
      have HRC1 := Lib.hid hrc1
      clear hb1 hz hs0 hrc1 hb01 hpc1 hsc1 h' e0 e1 e2 e3 e4
      gi_wp2
      cases hw : win a1 0 ((n : Int) - 1) with
      | false =>
        refine ⟨trivial, rfl, (callsIn_wide.2 (within.calls a1 0 ((n : Int) - 1) false W1 hw)).mono ?_⟩
        rintro e w2 ⟨rfl, rfl⟩
        have h' := HH.out
        rw [hw] at h'
        simp only [Bool.false_eq_true, ↓reduceIte, Option.some.injEq, Prod.mk.injEq] at h'
        obtain ⟨rfl, rfl, rfl⟩ := h'
        clear HH
        gi_wp2
        obtain ⟨W2, hW2⟩ : ∃ W2, (W1.setCell ⟨w.heap.size + 1 + 1, 0, none⟩ (.int .i64 0)).setCell ⟨w.heap.size + 1 + 1, 1, none⟩ (.int .i64 0) = W2 := ⟨_, rfl⟩
        have hr2c : W2.heap[w.heap.size + 1 + 1]? = some (.cells #[.int .i64 0, .int .i64 0] 42 (0, 0)) := by
          rw [← hW2]; exact heap_set (heap_set HRC1.out 0 _) 1 _
        have hb2 : Below w.heap.size w W2 := by
          rw [← hW2]
          exact (HB01.out.setCell (p := ⟨w.heap.size + 1 + 1, 0, none⟩) (by show w.heap.size ≤ w.heap.size + 2; omega) _).setCell (p := ⟨w.heap.size + 1 + 1, 1, none⟩) (by show w.heap.size ≤ w.heap.size + 2; omega) _
        rw [hW2]
        have d0 := cell_of hr2c (i := 0) rfl
        have d1 := cell_of hr2c (i := 1) rfl
        simp only [List.getElem_toArray, List.getElem_cons_zero, List.getElem_cons_succ] at d0 d1
        refine ⟨.tuple #[.agg #[.int .i64 0, .int .i64 0], .int .i64 2], by simp [results, Try.results24, go_sem, hu4, d0, d1], rfl, hb2⟩
      | true =>
        refine ⟨trivial, rfl, (callsIn_wide.2 (within.calls a1 0 ((n : Int) - 1) true W1 hw)).mono ?_⟩
        rintro e w2 ⟨rfl, rfl⟩
        have h' := HH.out
        rw [hw] at h'
        simp only [↓reduceIte] at h'
        have HH' := Lib.hid h'
        have hmA : MapIs EP ((W1.alloc (.map #[] 0)).alloc (.cells #[.int .i64 (-2), .int .i64 0, .int .i64 0, .bool false] 109)) W1.heap.size (fun _ => none) := (MapIs.made W1).same (Below.heap_alloc _ _ _ (by simp))
        obtain ⟨WA, hupA, hMA, hgA, _, hsA⟩ := hmA.update beginSt ((beginSt_small 0).box (by omega)) (0, 0)
        have hupA : (Instr.mapUpdate 116 (.map (some W1.heap.size)) (.agg #[.int .i64 (-2), .int .i64 0, .int .i64 0, .bool false]) (.agg #[.int .i64 0, .int .i64 0])).run Try.prog ((W1.alloc (.map #[] 0)).alloc (.cells #[.int .i64 (-2), .int .i64 0, .int .i64 0, .bool false] 109)) = .ok () WA := hupA
        have HMA := Lib.hid hMA
        have HGA := Lib.hid hgA
        have HSA := Lib.hid hsA
        have hFA : Fr (fun _ => False) W1 WA := Fr.mono (X := fun k => k = W1.heap.size) (((Fr.alloc W1 (.map #[] 0)).trans (Fr.alloc _ _)).trans (Fr.grown hgA (fun r e => by cases e; rfl))) (fun k hk h => by omega)
        have hscA := (hFA.same _ (Array.getElem?_eq_some_iff.1 HSC1.out).1 (by simp)).trans HSC1.out
        have hpcA := (hFA.same _ (Array.getElem?_eq_some_iff.1 HPC1.out).1 (by simp)).trans HPC1.out
        have s4 := cell_of hscA (i := 4) rfl
        simp only [List.getElem_toArray, List.getElem_cons_zero, List.getElem_cons_succ] at s4
        have HFA := Lib.hid hFA
        have HSCA := Lib.hid hscA
        have HPCA := Lib.hid hpcA
        clear h' HH hmA hMA hgA hsA hFA hscA hpcA
        gi_wp2
        refine ⟨trivial, rfl, (callsIn_wide.2 (begin.calls _)).mono ?_⟩
        rintro e w' ⟨rfl, rfl⟩
        gi_wp2
        have hb0A : Below w.heap.size w WA := HB01.out.trans ((HFA.out.below (Nat.le_refl _) (by simp)).mono HB01.out.size)
        refine held.rounds n hn a0_1 a0_2 a0_3 a1 A0_4 c0_4 l0_4 hl w.heap.size (w.heap.size + 1) W1.heap.size _ _ _ _ _ _ _ _ _ _ _ _ _ _ _ _ _ _ _ _ _ _ _ _ _ _ _ _ _ _ _ _ _ _ _ _ _ _ _ _ _ _ _ _ _ _ _ _ _ _ _ _ _ _ _ _ _ _ _ _ _ _ _ _ _ _ _ _ _ _ _ _ _ _ _ _ _ _ _ _ _ _ _ _ _ _ _ _ _ _ _ _ _ _ _ _ _ _ WA (Kd.C_below HR.out hb0A) HSCA.out HPCA.out HMA.out (fun y => ?_) ?_
        · by_cases e : y = beginSt
          · rw [if_pos e]
            exact ⟨⟨e, rfl⟩, ⟨e, rfl⟩, fun c hc => by have := hc.2; show (0 : Int) ≤ c ∧ c ≤ 0; omega⟩
          · rw [if_neg e]
            exact fun c hc => e hc.1
        · rintro ds3 bi M' a9 a10 a11 a12 a13 a14 a15 a16 a41 a42 a43 a44 a45 a46 a47 a48 a49 a50 a51 a52 a53 a54 a55 a56 a57 a60 a61 a62 a63 a64 a65 a66 a67 a68 a69 a70 a71 a72 a73 a74 a75 a76 a77 W3 hF hM hE hC
          have hb03 : Below w.heap.size w W3 := hb0A.trans ((hF.below (Nat.le_refl _) (by simp)).mono hb0A.size)
          have hrcA := (HFA.out.same _ (Array.getElem?_eq_some_iff.1 HRC1.out).1 (by simp)).trans HRC1.out
          have hrc3 := (hF.same _ (Array.getElem?_eq_some_iff.1 hrcA).1 (by simp)).trans hrcA
          have z0 := cell_of hrc3 (i := 0) rfl
          have z1 := cell_of hrc3 (i := 1) rfl
          have g0 := not_frozen (i := 0) hrc3
          have g1 := not_frozen (i := 1) hrc3
          simp only [List.getElem_toArray, List.getElem_cons_zero, List.getElem_cons_succ] at z0 z1
          obtain ⟨nl, hnl, hlen, hzero⟩ := hM.len 3
          have hlen : (Builtin.len_ #[116] 3 #[.map (some bi)]).run Try.prog W3 = .ok (.int .i64 nl) W3 := hlen
          have HB03 := Lib.hid hb03
          have HRC3 := Lib.hid hrc3
          have HF3 := Lib.hid hF
          have HM3 := Lib.hid hM
          have HE3 := Lib.hid hE
          have HC3 := Lib.hid hC
          have HZ := Lib.hid hzero
          clear hb03 hrc3 hrcA hF hM hE hC hzero hb0A
          by_cases hz : nl = 0
          · subst hz
            have h' := HH'.out
            have hem : (fwdL a0_1 a0_2 a0_3 n l0_4 l0_4.length).isEmpty = true := fwdL_empty.2 (fun y hy => by
              obtain ⟨c, hc⟩ := fwd_hcnt (person := a1) l0_4.length y hy
              have := HE3.out y
              rw [HZ.out.1 rfl y] at this
              exact this c hc)
            rw [if_pos hem] at h'
            simp only [Option.some.injEq, Prod.mk.injEq] at h'
            obtain ⟨rfl, rfl, rfl⟩ := h'
            clear hem
            gi_wp2
            obtain ⟨W4, hW4⟩ : ∃ W4, (W3.setCell ⟨w.heap.size + 1 + 1, 0, none⟩ (.int .i64 0)).setCell ⟨w.heap.size + 1 + 1, 1, none⟩ (.int .i64 0) = W4 := ⟨_, rfl⟩
            have hr4 : W4.heap[w.heap.size + 1 + 1]? = some (.cells #[.int .i64 0, .int .i64 0] 42 (0, 0)) := by
              rw [← hW4]; exact heap_set (heap_set HRC3.out 0 _) 1 _
            have hb4 : Below w.heap.size w W4 := by
              rw [← hW4]
              exact (HB03.out.setCell (p := ⟨w.heap.size + 1 + 1, 0, none⟩) (by show w.heap.size ≤ w.heap.size + 2; omega) _).setCell (p := ⟨w.heap.size + 1 + 1, 1, none⟩) (by show w.heap.size ≤ w.heap.size + 2; omega) _
            have hC4 : Coll WA.heap.size W3.heap.size ds3 W4 := HC3.out.same (by rw [← hW4]; exact (SameMarks.setCell _ _ _).trans (SameMarks.setCell _ _ _))
            rw [hW4]
            refine leave_marks _ _ hC4 (fun W5 hF5 => ?_)
            have hr5 := (hF5.same _ (Array.getElem?_eq_some_iff.1 hr4).1 (fun q => by rw [hr4] at q; cases q.2.2)).trans hr4
            have d0 := cell_of hr5 (i := 0) rfl
            have d1 := cell_of hr5 (i := 1) rfl
            simp only [List.getElem_toArray, List.getElem_cons_zero, List.getElem_cons_succ] at d0 d1
            refine ⟨.tuple #[.agg #[.int .i64 0, .int .i64 0], .int .i64 10], by simp [results, Try.results24, go_sem, hu4, d0, d1], rfl, hb4.trans (hF5.below (n := w.heap.size) hb4.size (fun k hk q => by have := HB01.out.size; have := HFA.out.size; omega))⟩
          · have hnz : ¬ ((nl : Int) = 0) := by omega
            obtain ⟨W4, cnt, hrng, hR4, hg4, hs4⟩ := HM3.out.range
            have hrng : (Instr.range 116 (.map (some bi))).run Try.prog W3 = .ok (.pointer (some ⟨W3.heap.size, 0, none⟩)) W4 := hrng
            have HR4 := Lib.hid hR4
            have HG4 := Lib.hid hg4
            have HS4 := Lib.hid hs4
            clear hR4 hg4 hs4
            gi_wp2
            refine held.collect bi W3.heap.size cnt W3.heap.size M' ds3 _ _ _ _ _ _ _ _ _ _ _ _ _ _ _ _ _ _ _ _ _ _ _ _ _ _ _ _ _ _ _ _ _ _ _ _ _ _ _ _ _ _ _ _ _ _ _ _ _ _ _ _ _ _ _ _ _ _ _ _ _ _ _ _ _ _ _ _ _ _ _ _ _ _ _ _ _ _ _ _ _ _ _ _ _ _ _ _ _ _ _ _ _ _ _ _ _ _ _ _ W4 HR4.out (by have := HS4.out; omega) ?_
            rintro lv xs c19 c84 c85 c86 c87 c88 c89 c90 c91 c92 c93 c94 W5 hF5 hxl hrow hmem
            have hne : 0 < xs.length := by
              obtain ⟨x, v, hv⟩ : ∃ x v, M' x = some v := Classical.byContradiction (fun hc => hz (HZ.out.2 (fun x => by
                cases hx : M' x with
                | none => rfl
                | some v => exact (hc ⟨x, v, hx⟩).elim)))
              exact List.length_pos_of_mem ((hmem v.1).2 ⟨x, v, hv, .inl rfl⟩)
            obtain ⟨b, cap, rfl, hbl⟩ : ∃ b cap, lv = .slice (some ⟨b, 0, none⟩) xs.length cap ∧ W4.heap.size ≤ b := by
              rcases hrow.2 with ⟨_, q⟩ | ⟨g', cap, cur, r1, r2, r3, _⟩
              · omega
              · exact ⟨g', cap, r1, r2⟩
            have hcells : ∀ j, j < xs.length → W5.cell? ⟨b, j, none⟩ = some (.int .i64 (xs.getD j 0)) := fun j hj => by
              have := hrow.cells (g := b) rfl j (.int .i64 (xs.getD j 0)) (by simp [List.getD, hj])
              rcases j with _ | j <;> simpa [Addr.add] using this
            have hF45 : Fr (fun k => k = W3.heap.size) W4 W5 := hF5
            have HROW := Lib.hid hrow
            have HMEM := Lib.hid hmem
            have HF45 := Lib.hid hF45
            have HCE := Lib.hid hcells
            clear hrow hmem hF5 hF45 hcells
            gi_wp2
            refine ⟨trivial, rfl, (callsIn_wide.2 (ends.calls b cap xs hne (by unfold KB at hxl; omega) W5 HCE.out)).mono ?_⟩
            rintro e W6 ⟨rfl, hb6⟩
            obtain ⟨d, hd⟩ : ∃ d, endsOf xs = d := ⟨_, rfl⟩
            rw [hd]
            have hF34 : Fr (fun _ => False) W3 W4 := Fr.grown HG4.out (fun r e => by cases e)
            have hs6 := hb6.size
            have hF36 : Fr (fun k => k = W3.heap.size) W3 W6 := ((hF34.mono (fun k _ h => h.elim)).trans HF45.out).trans (Fr.of_below hb6 (fun k q1 q2 => by omega))
            have hlt := (Array.getElem?_eq_some_iff.1 HRC3.out).1
            have hr6 := (hF36.same _ hlt (by omega)).trans HRC3.out
            have y0 := cell_of hr6 (i := 0) rfl
            have y1 := cell_of hr6 (i := 1) rfl
            have l0 := not_frozen (i := 0) hr6
            have l1 := not_frozen (i := 1) hr6
            have k6 : w.heap.size + 1 + 1 < W6.heap.size := (Array.getElem?_eq_some_iff.1 hr6).1
            simp only [List.getElem_toArray, List.getElem_cons_zero, List.getElem_cons_succ] at y0 y1
            have HF36 := Lib.hid hF36
            have HR6 := Lib.hid hr6
            have HD := Lib.hid hd
            clear hF34 hs6 hF36 hlt hr6 hd hb6
            gi_wp2
            have h' := HH'.out
            have hem : ¬ (fwdL a0_1 a0_2 a0_3 n l0_4 l0_4.length).isEmpty = true := fun hc => by
              refine hz (HZ.out.2 (fun x => ?_))
              cases hx : M' x with
              | none => rfl
              | some v =>
                have := HE3.out x
                rw [hx] at this
                exact (fwdL_empty.1 hc x (hcnt_fwd _ _ _ this.1).1).elim
            rw [if_neg hem] at h'
            simp only [Option.some.injEq, Prod.mk.injEq] at h'
            have hmem2 : ∀ c, c ∈ (cntL a0_1 a0_2 a0_3 n l0_4 a1 l0_4.length).map (·.2) ↔ ∃ y, hcnt a0_1 a0_2 a0_3 n l0_4 a1 l0_4.length y c := fun c => by
              rw [List.mem_map]
              exact ⟨fun ⟨⟨y, c'⟩, hy, e⟩ => ⟨y, by subst e; exact (mem_cntL _ _ _).1 hy⟩, fun ⟨y, hy⟩ => ⟨(y, c), (mem_cntL _ _ _).2 hy, rfl⟩⟩
            have hd1 : IsEnds (fun c => ∃ y, hcnt a0_1 a0_2 a0_3 n l0_4 a1 l0_4.length y c) (some d) := by
              have k := endsOf_isEnds hne
              rw [HD.out] at k
              have hin : ∀ c, c ∈ xs → ∃ y, hcnt a0_1 a0_2 a0_3 n l0_4 a1 l0_4.length y c := fun c hc => by
                obtain ⟨x, v, hv, e⟩ := (HMEM.out c).1 hc
                have := HE3.out x
                rw [hv] at this
                rcases e with rfl | rfl
                · exact ⟨x, this.1⟩
                · exact ⟨x, this.2.1⟩
              refine ⟨hin _ k.1, hin _ k.2.1, fun c ⟨y, hy⟩ => ?_⟩
              have := HE3.out y
              cases hv : M' y with
              | none => rw [hv] at this; exact (this c hy).elim
              | some v =>
                rw [hv] at this
                have a := k.2.2 _ ((HMEM.out v.1).2 ⟨y, v, hv, .inl rfl⟩)
                have b := k.2.2 _ ((HMEM.out v.2).2 ⟨y, v, hv, .inr rfl⟩)
                have c := this.2.2 _ hy
                omega
            have hlen2 : 0 < ((cntL a0_1 a0_2 a0_3 n l0_4 a1 l0_4.length).map (·.2)).length := List.length_pos_of_mem ((hmem2 _).2 hd1.1)
            have hde : d = endsOf ((cntL a0_1 a0_2 a0_3 n l0_4 a1 l0_4.length).map (·.2)) := hd1.unique ((endsOf_isEnds hlen2).congr hmem2)
            rw [← hde] at h'
            obtain ⟨rfl, rfl, rfl⟩ := h'
            obtain ⟨W7, hW7⟩ : ∃ W7, ((W6.setCell ⟨w.heap.size + 1 + 1, 0, none⟩ (.int .i64 d.1)).setCell ⟨w.heap.size + 1 + 1, 1, none⟩ (.int .i64 d.2)).alloc (.cells #[.int .i64 d.1, .int .i64 d.2] 115) = W7 := ⟨_, rfl⟩
            rw [hW7]
            have hr7 : W7.heap[w.heap.size + 1 + 1]? = some (.cells #[.int .i64 d.1, .int .i64 d.2] 42 (0, 0)) := by
              rw [← hW7]; exact heap_old (heap_set (heap_set HR6.out 0 _) 1 _)
            have hF67 : Fr (fun k => w.heap.size ≤ k) W6 W7 := by
              rw [← hW7]
              exact ((Fr.setCell _ _ _ (by show w.heap.size ≤ w.heap.size + 2; omega)).trans (Fr.setCell _ _ _ (by show w.heap.size ≤ w.heap.size + 2; omega))).trans (Fr.alloc _ _)
            have hmk7 : SameMarks W6 W7 := by rw [← hW7]; exact ((SameMarks.setCell _ _ _).trans (SameMarks.setCell _ _ _)).trans (SameMarks.alloc _ _)
            have hz3 := HB03.out.size
            have hmk36 : SameMarks W3 W6 := fun D q => (HF36.out.same D (Array.getElem?_eq_some_iff.1 q).1 (by have := (Array.getElem?_eq_some_iff.1 q).1; omega)).trans q
            have hC7 : Coll WA.heap.size W3.heap.size ds3 W7 := HC3.out.same (hmk36.trans hmk7)
            have hb7 : Below w.heap.size w W7 := (HB03.out.trans (HF36.out.below (n := w.heap.size) hz3 (fun k hk e => by omega))).trans (hF67.below (n := w.heap.size) (by have := HF36.out.size; omega) (fun k hk e => by omega))
            refine leave_marks _ _ hC7 (fun W8 hF8 => ?_)
            have hr8 := (hF8.same _ (Array.getElem?_eq_some_iff.1 hr7).1 (fun q => by rw [hr7] at q; cases q.2.2)).trans hr7
            have d0 := cell_of hr8 (i := 0) rfl
            have d1 := cell_of hr8 (i := 1) rfl
            simp only [List.getElem_toArray, List.getElem_cons_zero, List.getElem_cons_succ] at d0 d1
            refine ⟨.tuple #[.agg #[.int .i64 d.1, .int .i64 d.2], .int .i64 0], by simp [results, Try.results24, go_sem, hu4, d0, d1], rfl, hb7.trans (hF8.below (n := w.heap.size) hb7.size (fun k hk q => by have := HB01.out.size; have := HFA.out.size; omega))⟩
    · rw [if_neg hr] at h'
      have hr2 : (r == 0) = false := by simpa using hr
      simp only [Option.some.injEq, Prod.mk.injEq] at h'
      obtain ⟨rfl, rfl, rfl⟩ := h'
      have HRC1 := Lib.hid hrc1
      clear hb1 hz hs0 hrc1
      gi_wp2
      obtain ⟨W2, hW2⟩ : ∃ W2, (W1.setCell ⟨w.heap.size + 1 + 1, 0, none⟩ (.int .i64 0)).setCell ⟨w.heap.size + 1 + 1, 1, none⟩ (.int .i64 0) = W2 := ⟨_, rfl⟩
      have hr2c : W2.heap[w.heap.size + 1 + 1]? = some (.cells #[.int .i64 0, .int .i64 0] 42 (0, 0)) := by
        rw [← hW2]; exact heap_set (heap_set HRC1.out 0 _) 1 _
      have hb2 : Below w.heap.size w W2 := by
        rw [← hW2]
        exact ((HB0.out.trans (HB1.out.mono HB0.out.size)).setCell (p := ⟨w.heap.size + 1 + 1, 0, none⟩) (by show w.heap.size ≤ w.heap.size + 2; omega) _).setCell (p := ⟨w.heap.size + 1 + 1, 1, none⟩) (by show w.heap.size ≤ w.heap.size + 2; omega) _
      rw [hW2]
      have d0 := cell_of hr2c (i := 0) rfl
      have d1 := cell_of hr2c (i := 1) rfl
      simp only [List.getElem_toArray, List.getElem_cons_zero, List.getElem_cons_succ] at d0 d1
      refine ⟨.tuple #[.agg #[.int .i64 0, .int .i64 0], .int .i64 r], by simp [results, Try.results24, go_sem, hu4, d0, d1], rfl, hb2⟩
end Go.Proofs.Ytdnjmhhjjbdieaa.Q
end
section
namespace Go.Proofs.Ytdnjmhhjjbdieaa.Q
open Go.RowKit Go.Shelf Go.Proofs.YtdnjmhhjjbdieaaW.PrintWords Go.Proofs.YtdnjmhhjjbdieaaW.PrintLast
set_option linter.unusedVariables false
set_option linter.unusedSimpArgs false
def houseL : List S52 := [⟨3, 3⟩, ⟨3, 4⟩, ⟨3, 1⟩, ⟨Go.bits .or .u16 2 32768, Go.bits .or .u16 2 32768⟩, ⟨2, 6⟩]
def houseW : List S54 := [⟨1, 1⟩, ⟨1, 4⟩, ⟨1, 1⟩, ⟨32770, 32770⟩, ⟨2, 6⟩]
def houseR : List S100 := [⟨1, 1⟩, ⟨1, 4⟩, ⟨1, 1⟩, ⟨Go.bits .or .u16 2 32768, Go.bits .or .u16 2 32768⟩, ⟨2, 6⟩]
theorem house_who : floor_Who.f 3 2 3 1 houseL = some (houseW, 0) := by kernel_rfl
theorem house_held : floor_Held.f 3 2 3 1 houseL 1 = some (1, 2, 0) := by kernel_rfl
theorem house_told : palantypelaw02_told.f 10 houseW houseR = some true := by kernel_rfl
def palantypelaw02_awake.f : Option Bool := some true
theorem pairs_at (ps : List S100) : ∀ (j i : Nat) (p : S100) (u : Value), ps[j]? = some p → ([Value.int .u16 p.f0, .int .u16 p.f1] : List Value)[i]? = some u → (ps.flatMap fun p => [Value.int .u16 p.f0, .int .u16 p.f1])[j * 2 + i]? = some u := by
  induction ps with
  | nil => intro j i p u h; simp at h
  | cons q ps ih =>
    intro j i p u h hu
    rw [List.flatMap_cons]
    cases j with
    | zero =>
      obtain rfl : q = p := by simpa using h
      have hi : i < 2 := (List.getElem?_eq_some_iff.1 hu).1
      rw [List.getElem?_append_left (by simp; omega), Nat.zero_mul, Nat.zero_add]
      exact hu
    | succ j =>
      rw [List.getElem?_append_right (by simp; omega)]
      have := ih j i p u (by simpa using h) hu
      rw [show (j + 1) * 2 + i - ([Value.int .u16 q.f0, .int .u16 q.f1] : List Value).length = j * 2 + i by simp; omega]
      exact this
theorem pairs_C {W : World} {b : Nat} {t : TypeId} {ps : List S100} {cs : Array Value} (h : W.heap[b]? = some (.cells cs t (0, 0))) (hcs : cs = (ps.flatMap fun p => [Value.int .u16 p.f0, .int .u16 p.f1]).toArray) (hl : ps.length ≤ 1000) : Kd.C k100 W (some ⟨b, 0, none⟩) ps.length ps := by
  subst hcs
  refine ⟨rfl, by omega, fun _ => ⟨⟨b, 0, none⟩, rfl, fun j p hj => ⟨[.int .u16 p.f0, .int .u16 p.f1], rfl, k100_mk W p, fun i u hu => ?_⟩⟩⟩
  have h2 := pairs_at ps j i p u hj hu
  have h3 : W.cell? ⟨b, j * 2 + i, none⟩ = some u := cell_of h (by simpa using h2)
  show W.cell? (Addr.add ⟨b, 0, none⟩ (j * 2 + i)) = some u
  generalize j * 2 + i = m at h3
  rcases m with _ | m <;> simpa [Addr.add] using h3
set_option maxRecDepth 100000 in
set_option maxHeartbeats 4000000 in
theorem palantypelaw02_awake.calls (r : Bool) (w : World) (h : palantypelaw02_awake.f = some r) :
    Calls Try.prog 17 #[] w fun e w' => e = .returned (.bool r) ∧ Below w.heap.size w w' := by
  obtain rfl : true = r := Option.some.inj h
  clear h
  have hu := Try.underlying100
  have hu1 := Try.underlying42
  go_enter Try.func17, Try.ntmps17
  go_wp2_with fail
  refine (palantypelaw02_house.calls 3 2 3 1 houseL _ rfl).mono ?_
  rintro e w1 ⟨v, rfl, hR1, hb1⟩
  obtain ⟨A1, c1, rfl, hc1, hC1⟩ := Kd.R_reads hR1
  have HB1 := Lib.hid hb1
  clear hR1 hb1
  go_wp2_with fail
  refine (floor_Who.calls 3 2 3 1 A1 c1 houseL houseW 0 w1 hC1 hc1 house_who).mono ?_
  rintro e w2 ⟨v, rfl, hR2, hb2⟩
  obtain ⟨A2, c2, rfl, hc2, hC2⟩ := Kd.R_reads hR2
  have HB2 := Lib.hid (below_then HB1.out (HB1.out.size) hb2)
  have HC2 := Lib.hid hC2
  clear hR2 hb2 hC1 hC2
  go_wp2_with fail
  refine (palantypelaw02_house.calls 3 2 3 1 houseL _ rfl).mono ?_
  rintro e w3 ⟨v, rfl, hR3, hb3⟩
  obtain ⟨A3, c3, rfl, hc3, hC3⟩ := Kd.R_reads hR3
  have HB3 := Lib.hid (below_then HB2.out (HB2.out.size) hb3)
  have HC3 := Lib.hid (Kd.C_below HC2.out hb3)
  clear hR3 hb3 HC2
  go_wp2_with fail
  refine (floor_Held.calls 3 2 3 1 A3 c3 houseL 1 1 2 0 w3 hC3 hc3 house_held).mono ?_
  rintro e w4 ⟨rfl, hb4⟩
  have HB4 := Lib.hid (below_then HB3.out (HB3.out.size) hb4)
  have HC4 := Lib.hid (Kd.C_below HC3.out hb4)
  clear hb4 HC3 hC3
  go_wp2_with fail
  obtain ⟨W5, hW5⟩ : ∃ W5, (w4.alloc (.cells #[.int .i64 1, .int .i64 2] 42)).alloc (.cells #[.int .u16 1, .int .u16 1, .int .u16 1, .int .u16 4, .int .u16 1, .int .u16 1, .int .u16 (Go.bits .or .u16 2 32768), .int .u16 (Go.bits .or .u16 2 32768), .int .u16 2, .int .u16 6] 100) = W5 := ⟨_, rfl⟩
  have hb5 : Below w4.heap.size w4 W5 := by rw [← hW5]; exact ((Below.refl _ w4).alloc (Nat.le_refl _) _).alloc (by simp) _
  have hr5 : W5.heap[w4.heap.size]? = some (.cells #[.int .i64 1, .int .i64 2] 42 (0, 0)) := by rw [← hW5]; exact heap_old (heap_new rfl)
  have ht5 : W5.heap[w4.heap.size + 1]? = some (.cells #[.int .u16 1, .int .u16 1, .int .u16 1, .int .u16 4, .int .u16 1, .int .u16 1, .int .u16 (Go.bits .or .u16 2 32768), .int .u16 (Go.bits .or .u16 2 32768), .int .u16 2, .int .u16 6] 100 (0, 0)) := by rw [← hW5]; exact heap_new (by simp)
  rw [hW5]
  have hC5 : Kd.C k100 W5 (some ⟨w4.heap.size + 1, 0, none⟩) houseR.length houseR := pairs_C ht5 rfl (by decide)
  have f0 := cell_of hr5 (i := 0) rfl
  have f1 := cell_of hr5 (i := 1) rfl
  simp only [List.getElem_toArray, List.getElem_cons_zero, List.getElem_cons_succ] at f0 f1
  have HB5 := Lib.hid (below_then HB4.out (HB4.out.size) hb5)
  refine (palantypelaw02_told.calls 10 A2 c2 houseW (some ⟨w4.heap.size + 1, 0, none⟩) 5 houseR true W5 (Kd.C_below HC4.out hb5) hc2 hC5 (by decide) house_told).mono ?_
  rintro e w6 ⟨rfl, ⟨nd, rfl⟩⟩
  clear hb5 hr5 ht5 hC5 hW5
  go_wp2_with fail
  go_ret
  exact ⟨rfl, pw_below_drewN HB5.out nd⟩
end Go.Proofs.Ytdnjmhhjjbdieaa.Q
end
