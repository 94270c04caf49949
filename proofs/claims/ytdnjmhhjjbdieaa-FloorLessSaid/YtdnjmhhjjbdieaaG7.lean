/- Texts of a proof, joined: see the last one. -/
import Derived.Test.YtdnjmhhjjbdieaaG1
import Derived.Test.YtdnjmhhjjbdieaaG2
import Derived.Test.YtdnjmhhjjbdieaaG3
import Derived.Test.YtdnjmhhjjbdieaaG6
import Derived.WalkMore
import Derived.Deep.QuietTactic
import Derived.BigQuiet
import Derived.Deep.LoopGhost
namespace Go.Proofs.YtdnjmhhjjbdieaaW.PrintLast
end Go.Proofs.YtdnjmhhjjbdieaaW.PrintLast
namespace Go.Proofs.YtdnjmhhjjbdieaaW.PrintWords
end Go.Proofs.YtdnjmhhjjbdieaaW.PrintWords
section
namespace Go.Proofs.Ytdnjmhhjjbdieaa.Q
open Go.RowKit Go.Shelf Go.Proofs.YtdnjmhhjjbdieaaW.PrintWords Go.Proofs.YtdnjmhhjjbdieaaW.PrintLast
set_option linter.unusedVariables false
set_option linter.unusedSimpArgs false
attribute [local go_sem] Oper.semAt_some
def tellTo (least most short : Int) (n : Nat) (l : List S52) : Nat → List S65 × St
  | 0 => ([], beginSt)
  | k + 1 => match l[k]? with
    | none => tellTo least most short n l k
    | some m => match (partsOf least most short (tellTo least most short n l k).2 m.f0 m.f1 n).find? (fun p => tellB least most short n (l.drop (k + 1)) p.2) with
      | none => tellTo least most short n l k
      | some p => ((tellTo least most short n l k).1 ++ [⟨p.1.1, p.1.2⟩], p.2)
theorem tellTo_length (least most short : Int) (n : Nat) (l : List S52) : ∀ k, (tellTo least most short n l k).1.length ≤ k
  | 0 => Nat.le_refl _
  | k + 1 => by
    have ih := tellTo_length least most short n l k
    simp only [tellTo]
    split
    · omega
    · split
      · omega
      · simp; omega
theorem picked_tellTo {least most short : Int} {n : Nat} {l : List S52} {k : Nat} (hk : k < l.length) {ps' : List S65} {x' : St} (hf : fwd least most short n l k (tellTo least most short n l k).2)
    (h : Picked least most short l[k].f0 l[k].f1 n (tellTo least most short n l k).2 (pruned least most short n l 0 (k + 1)) (tellTo least most short n l k).1 ps' x') :
    tellTo least most short n l (k + 1) = (ps', x') := by
  have key : ∀ q ∈ partsOf least most short (tellTo least most short n l k).2 l[k].f0 l[k].f1 n, pruned least most short n l 0 (k + 1) q.2 ↔ tellB least most short n (l.drop (k + 1)) q.2 = true := fun q hq => by
    rw [tellB_iff]
    refine ⟨fun h => h.2 (Nat.zero_le _), fun h => ⟨?_, fun _ => h⟩⟩
    simp only [fwd, List.getElem?_eq_getElem hk]
    exact ⟨_, hf, q, hq, rfl⟩
  simp only [tellTo, List.getElem?_eq_getElem hk]
  rcases h with ⟨pre, p, post, hx, hn, hT, rfl, rfl⟩ | ⟨hn, rfl, rfl⟩
  · have hp : p ∈ partsOf least most short (tellTo least most short n l k).2 l[k].f0 l[k].f1 n := by rw [hx]; simp
    have : (partsOf least most short (tellTo least most short n l k).2 l[k].f0 l[k].f1 n).find? (fun p => tellB least most short n (l.drop (k + 1)) p.2) = some p := by
      rw [List.find?_eq_some_iff_append]
      refine ⟨(key p hp).1 hT, pre, post, hx, fun q hq => ?_⟩
      have hq' : q ∈ partsOf least most short (tellTo least most short n l k).2 l[k].f0 l[k].f1 n := by rw [hx]; simp [hq]
      have h1 := hn q hq
      rw [key q hq'] at h1
      simpa using h1
    rw [this]
  · have : (partsOf least most short (tellTo least most short n l k).2 l[k].f0 l[k].f1 n).find? (fun p => tellB least most short n (l.drop (k + 1)) p.2) = none := by
      rw [List.find?_eq_none]
      intro q hq h1
      exact hn q hq ((key q hq).2 h1)
    rw [this]
theorem fwd_tell {least most short : Int} {n : Nat} {l : List S52} : ∀ (k d : Nat) (y : St), k + d = l.length → fwd least most short n l l.length y → ∃ x, fwd least most short n l k x ∧ tellable least most short n (l.drop k) x
  | k, 0, y, h, hf => by
    obtain rfl : k = l.length := by omega
    exact ⟨y, hf, by rw [List.drop_length]; trivial⟩
  | k, d + 1, y, h, hf => by
    obtain ⟨x, hx, ht⟩ := fwd_tell (k + 1) d y (by omega) hf
    have hk : k < l.length := by omega
    simp only [fwd, List.getElem?_eq_getElem hk] at hx
    obtain ⟨z, hz, p, hp, rfl⟩ := hx
    refine ⟨z, hz, ?_⟩
    rw [List.drop_eq_getElem_cons hk]
    exact ⟨p, hp, ht⟩
theorem tellTo_good {least most short : Int} {n : Nat} {l : List S52} (h : tellable least most short n l beginSt) : ∀ k, k ≤ l.length →
    fwd least most short n l k (tellTo least most short n l k).2 ∧ tellable least most short n (l.drop k) (tellTo least most short n l k).2 ∧ (tellTo least most short n l k).1.length = k
  | 0, _ => ⟨rfl, h, rfl⟩
  | k + 1, hk => by
    obtain ⟨h1, h2, h3⟩ := tellTo_good h k (by omega)
    have hk' : k < l.length := by omega
    rw [List.drop_eq_getElem_cons hk'] at h2
    obtain ⟨p, hp, ht⟩ := h2
    simp only [tellTo, List.getElem?_eq_getElem hk']
    cases hf : (partsOf least most short (tellTo least most short n l k).2 l[k].f0 l[k].f1 n).find? (fun p => tellB least most short n (l.drop (k + 1)) p.2) with
    | none => exact absurd (tellB_iff _ _ |>.2 ht) (by simpa using List.find?_eq_none.1 hf p hp)
    | some q =>
      have hq := List.mem_of_find?_eq_some hf
      have hT : tellB least most short n (l.drop (k + 1)) q.2 = true := by simpa using List.find?_some hf
      refine ⟨?_, (tellB_iff _ _).1 hT, by simp [h3]⟩
      simp only [fwd, List.getElem?_eq_getElem hk']
      exact ⟨_, h1, q, hq, rfl⟩
set_option maxRecDepth 100000 in
set_option maxHeartbeats 4000000 in
theorem tell.rounds (n : Nat) (hn : n ≤ 12) (least most short : Int) (A : Option Addr) (c : Nat) (l : List S52) (hl : l.length ≤ 40) (htl : tellable least most short n l beginSt)
    (sc xc oc atc g sb cS lo : Nat) (bs : List Nat) (Q : Exit → Act → World → Prop) (v0 v2 v3 v5 v8 v9 v10 v11 v12 v13 v14 v15 v16 v17 v18 v19 v20 v21 v25 v26 v27 v28 v29 v30 v31 v32 v33 v34 v35 v36 v37 v38 v39 v40 v41 v42 v43 v44 v45 v46 v47 v48 v49 v50 v51 : Value) (W : World)
    (hA : Kd.C k52 W A l.length l) (hAo : ∀ ad, A = some ad → 0 < l.length → ad.block ≠ oc ∧ ad.block ≠ atc)
    (h1 : W.heap[sc]? = some (.cells #[.int .i64 n, .int .i64 least, .int .i64 most, .int .i64 short, .slice A l.length c] 33 (0, 0)))
    (h3 : W.heap[xc]? = some (.cells #[.pointer (some ⟨g, 0, none⟩)] 101 (0, 0)))
    (h4 : W.heap[oc]? = some (.cells #[.slice none 0 0] 61 (0, 0)))
    (ha : W.heap[atc]? = some (.cells #[.int .i64 beginSt.holder, .int .i64 beginSt.turn, .int .i64 beginSt.short, .bool beginSt.own] 109 (0, 0)))
    (hs : Seen n least most short A l.length c g sb cS l.length lo bs (pruned least most short n l 0) W) (hlo : lo ≤ W.heap.size)
    (hdone : ∀ (ds' : List Deferred) (ov : Value) (u8 u9 u10 u11 u24 u25 u26 u27 u28 u29 u30 u31 u32 u35 u36 u37 u38 u39 u40 u41 u42 u43 u44 u45 u46 u47 u48 u49 u50 : Value) (W' : World), Fr (fun k => k = oc ∨ k = atc) W W' → W'.heap[oc]? = some (.cells #[ov] 61 (0, 0)) →
      Kd.R k65 65 W' W.heap.size (fun _ => True) ov (tellTo least most short n l l.length).1 → Coll W.heap.size W'.heap.size ds' W' → Q .normal { tmps := (List.toArray (v0 :: (.pointer (some ⟨sc, 0, none⟩)) :: v2 :: v3 :: (.pointer (some ⟨xc, 0, none⟩)) :: v5 :: (.pointer (some ⟨oc, 0, none⟩)) :: (.pointer (some ⟨atc, 0, none⟩)) :: u8 :: u9 :: u10 :: u11 :: v12 :: v13 :: v14 :: v15 :: v16 :: v17 :: v18 :: v19 :: v20 :: v21 :: (.slice A l.length c) :: (.int .i64 l.length) :: u24 :: u25 :: u26 :: u27 :: u28 :: u29 :: u30 :: u31 :: u32 :: v33 :: v34 :: u35 :: u36 :: u37 :: u38 :: u39 :: u40 :: u41 :: u42 :: u43 :: u44 :: u45 :: u46 :: u47 :: u48 :: u49 :: u50 :: v51 :: [])), defers := ds' } W') :
    (blockOf 0 Try.f31).wpIn Fence.wide 0 Try.prog (Exit.inBlock 0 Q) { tmps := (List.toArray (v0 :: (.pointer (some ⟨sc, 0, none⟩)) :: v2 :: v3 :: (.pointer (some ⟨xc, 0, none⟩)) :: v5 :: (.pointer (some ⟨oc, 0, none⟩)) :: (.pointer (some ⟨atc, 0, none⟩)) :: v8 :: v9 :: v10 :: v11 :: v12 :: v13 :: v14 :: v15 :: v16 :: v17 :: v18 :: v19 :: v20 :: v21 :: (.slice A l.length c) :: (.int .i64 l.length) :: (.int .i64 0) :: v25 :: v26 :: v27 :: v28 :: v29 :: v30 :: v31 :: v32 :: v33 :: v34 :: v35 :: v36 :: v37 :: v38 :: v39 :: v40 :: v41 :: v42 :: v43 :: v44 :: v45 :: v46 :: v47 :: v48 :: v49 :: v50 :: v51 :: [])), defers := [] } W := by
  conv => arg 4; whnf
  have hmx : Try.prog.follows .mixedOrders = true := by kernel_rfl
  have hu := Try.underlying33
  have hu1 := Try.underlying109
  have hu2 := Try.underlying52
  have hu3 := Try.underlying107
  have H1 := Lib.hid h1
  have H3 := Lib.hid h3
  have H4 := Lib.hid h4
  have HAT := Lib.hid ha
  have HA := Lib.hid hA
  have HS := Lib.hid hs
  have HTL := Lib.hid htl
  have ksc : sc < W.heap.size := (Array.getElem?_eq_some_iff.1 h1).1
  have kxc : xc < W.heap.size := (Array.getElem?_eq_some_iff.1 h3).1
  have koc : oc < W.heap.size := (Array.getElem?_eq_some_iff.1 h4).1
  have katc : atc < W.heap.size := (Array.getElem?_eq_some_iff.1 ha).1
  have kg : g < W.heap.size := (Array.getElem?_eq_some_iff.1 hs.obj).1
  have no : ∀ {k : Nat} {cs : Array Value} {t : TypeId}, W.heap[k]? = some (.cells cs t (0, 0)) → t ≠ 61 → t ≠ 109 → ¬ (k = oc ∨ k = atc) := fun hk ht ht2 h => by
    rcases h with rfl | rfl
    · rw [h4] at hk; cases hk; exact ht rfl
    · rw [ha] at hk; cases hk; exact ht2 rfl
  have nosc := no h1 (by decide) (by decide)
  have noxc := no h3 (by decide) (by decide)
  have nog := no hs.obj (by decide) (by decide)
  have hsbh : ∃ cur, W.heap[sb]? = some (.cells cur 104 (0, 0)) := by
    rcases hs.row.2 with ⟨q, _⟩ | ⟨g', cap, cur, r1, r2, r3, _⟩
    · cases q
    · cases r1; exact ⟨cur, r3⟩
  obtain ⟨scur, hscur⟩ := hsbh
  have nosb := no hscur (by decide) (by decide)
  have nomap : ∀ {b : Nat} {M : St → Option Unit}, MapIs EB W b M → ¬ (b = oc ∨ b = atc) := fun hM e => by
    obtain ⟨es, cl, hm⟩ := hM.isMap
    rcases e with rfl | rfl
    · rw [h4] at hm; cases hm
    · rw [ha] at hm; cases hm
  clear h1 h3 hA hs hscur no htl
  refine wpIn_loop_lay (fun (tT : List Value) (a' : Act) (wv : World) => ∃ (dfs : List Deferred) (u8 u9 u10 u11 u24 u25 u26 u27 u28 u29 u30 u31 u32 u35 u36 u37 u38 u39 u40 u41 u42 u43 u44 u45 u46 u47 u48 u49 u50 : Value), ((fun u24 dfs w' => ∃ (k : Nat) (ov : Value), u24 = .int .i64 k ∧ k ≤ l.length ∧ Fr (fun k => k = oc ∨ k = atc) W w' ∧ Coll W.heap.size w'.heap.size dfs w' ∧ w'.heap[oc]? = some (.cells #[ov] 61 (0, 0)) ∧ w'.heap[atc]? = some (.cells #[.int .i64 (tellTo least most short n l k).2.holder, .int .i64 (tellTo least most short n l k).2.turn, .int .i64 (tellTo least most short n l k).2.short, .bool (tellTo least most short n l k).2.own] 109 (0, 0)) ∧ Kd.R k65 65 w' W.heap.size (fun _ => True) ov (tellTo least most short n l k).1 ∧ fwd least most short n l k (tellTo least most short n l k).2) u24 dfs wv) ∧ a' = { tmps := (lay [none, none, none, none, none, none, none, none, some u8, some u9, some u10, some u11, none, none, none, none, none, none, none, none, none, none, none, none, some u24, some u25, some u26, some u27, some u28, some u29, some u30, some u31, some u32, none, none, some u35, some u36, some u37, some u38, some u39, some u40, some u41, some u42, some u43, some u44, some u45, some u46, some u47, some u48, some u49, some u50] tT).toArray, defers := dfs }) (fun (a' : Act) (wv : World) => (fun u24 w' => l.length - (intOf u24).toNat) (Array.getD a'.tmps 24 undef) wv) ?atStart ?round
  case' atStart =>
    dsimp only [lay]
    (repeat apply Exists.intro)
    refine ⟨?_, rfl⟩
  case' round =>
    dsimp only [lay]
    intro _ wr hinv
    obtain ⟨dfs, hinv⟩ := hinv
    obtain ⟨u8, hinv⟩ := hinv
    obtain ⟨u9, hinv⟩ := hinv
    obtain ⟨u10, hinv⟩ := hinv
    obtain ⟨u11, hinv⟩ := hinv
    obtain ⟨u24, hinv⟩ := hinv
    obtain ⟨u25, hinv⟩ := hinv
    obtain ⟨u26, hinv⟩ := hinv
    obtain ⟨u27, hinv⟩ := hinv
    obtain ⟨u28, hinv⟩ := hinv
    obtain ⟨u29, hinv⟩ := hinv
    obtain ⟨u30, hinv⟩ := hinv
    obtain ⟨u31, hinv⟩ := hinv
    obtain ⟨u32, hinv⟩ := hinv
    obtain ⟨u35, hinv⟩ := hinv
    obtain ⟨u36, hinv⟩ := hinv
    obtain ⟨u37, hinv⟩ := hinv
    obtain ⟨u38, hinv⟩ := hinv
    obtain ⟨u39, hinv⟩ := hinv
    obtain ⟨u40, hinv⟩ := hinv
    obtain ⟨u41, hinv⟩ := hinv
    obtain ⟨u42, hinv⟩ := hinv
    obtain ⟨u43, hinv⟩ := hinv
    obtain ⟨u44, hinv⟩ := hinv
    obtain ⟨u45, hinv⟩ := hinv
    obtain ⟨u46, hinv⟩ := hinv
    obtain ⟨u47, hinv⟩ := hinv
    obtain ⟨u48, hinv⟩ := hinv
    obtain ⟨u49, hinv⟩ := hinv
    obtain ⟨u50, hinv⟩ := hinv
    obtain ⟨hrel, ha⟩ := hinv
    subst ha
    try dsimp only
  case atStart =>
    exact ⟨0, .slice none 0 0, rfl, Nat.zero_le _, Fr.refl _ _, Coll.nil _ _ _, h4, ha, Kd.R_nil _ _ _ _ _, rfl⟩
  case round =>
    obtain ⟨k, ov, rfl, hk, hF, hC, hoc, hat, hR, hfw⟩ := hrel
    clear h4 ha
    by_cases hlt : k < l.length
    · have hSz := hF.size
      have hx : Kd.C k52 W A l.length l := HA.out
      obtain ⟨ad, rfl, m0, m1⟩ := at_T52 hx k (by omega) (by omega)
      have hrd : rd_T52 l (k : Int) = l[k] := by simp [rd_T52, List.getD, hlt]
      rw [hrd, Int.toNat_natCast] at m0 m1
      obtain ⟨⟨mf, mh⟩, hm⟩ : ∃ m, l[k] = m := ⟨_, rfl⟩
      rw [hm] at m0 m1
      simp only [] at m0 m1
      have hadb : ¬ ((ad.add (k * 2)).block = oc ∨ (ad.add (k * 2)).block = atc) := by
        have := hAo ad rfl (by omega)
        have hbl : (ad.add (k * 2)).block = ad.block := by unfold Addr.add; split <;> rfl
        rw [hbl]; exact fun h => h.elim this.1 this.2
      have m0' := hF.cell m0 hadb
      have m1' := hF.cell m1 hadb
      have hk2 : (k : Int) < l.length := by omega
      have hi2 : (ad.add (k * 2)).block < wr.heap.size := World.block_lt_of_cell? wr _ m0'
      have hi3 : (ad.add (k * 2)).block < wr.heap.size + 1 := by omega
      have hi4 : (ad.add (k * 2)).block < wr.heap.size + 1 + 1 := by omega
      obtain ⟨x, hx0⟩ : ∃ x, (tellTo least most short n l k).2 = x := ⟨_, rfl⟩
      rw [hx0] at hat hfw
      have e10 := hF.cell (cell_of H1.out (i := 0) rfl) nosc
      have e11 := hF.cell (cell_of H1.out (i := 1) rfl) nosc
      have e12 := hF.cell (cell_of H1.out (i := 2) rfl) nosc
      have e13 := hF.cell (cell_of H1.out (i := 3) rfl) nosc
      have e14 := hF.cell (cell_of H1.out (i := 4) rfl) nosc
      have e20 := cell_of hat (i := 0) rfl
      have e21 := cell_of hat (i := 1) rfl
      have e22 := cell_of hat (i := 2) rfl
      have e23 := cell_of hat (i := 3) rfl
      simp only [List.getElem_toArray, List.getElem_cons_zero, List.getElem_cons_succ] at e10 e11 e12 e13 e14 e20 e21 e22 e23
      have ks2 : sc < wr.heap.size := by omega
      have ka2 : atc < wr.heap.size := by omega
      have ks3 : sc < wr.heap.size + 1 := by omega
      have ka3 : atc < wr.heap.size + 1 := by omega
      have ks4 : sc < wr.heap.size + 1 + 1 := by omega
      have ka4 : atc < wr.heap.size + 1 + 1 := by omega
      have hpsl := tellTo_length least most short n l k
      have hsx := fwd_small hn k x hfw
      have HF := Lib.hid hF
      have HC := Lib.hid hC
      have HOC := Lib.hid hoc
      have HATR := Lib.hid hat
      have HR := Lib.hid hR
      have HFW := Lib.hid hfw
      have HX0 := Lib.hid hx0
      have HM := Lib.hid hm
      clear hF hC hoc hat hR hfw m0 m1 hrd hx hm hx0
      gi_wp2
      obtain ⟨W1, hW1⟩ : ∃ W1, (wr.alloc (.cells #[.int .i64 k] 3)).alloc (.cells #[.int .u16 mf, .int .u16 mh] 52) = W1 := ⟨_, rfl⟩
      have hb1 : Below wr.heap.size wr W1 := by rw [← hW1]; exact ((Below.refl _ wr).alloc (Nat.le_refl _) _).alloc (by simp) _
      have hs1 : W1.heap.size = wr.heap.size + 2 := by rw [← hW1]; simp
      have hic : W1.heap[wr.heap.size]? = some (.cells #[.int .i64 k] 3 (0, 0)) := by rw [← hW1]; exact heap_old (heap_new rfl)
      rw [hW1]
      refine ⟨trivial, rfl, (callsIn_wide.2 (parts.calls' n least most short mf mh _ x W1)).mono ?_⟩
      rintro e W3 ⟨rfl, hPA⟩
      have HS1 := Lib.hid hs1
      clear hs1
      gi_wp2
      have hs1 := HS1.out
      have hm := HM.out
      have hF1 : Fr (fun k => k = oc ∨ k = atc) W W1 := HF.out.trans (Fr.of_below hb1 (fun k q1 q2 => by omega))
      have hSeen := HS.out
      have hbL := hSeen.len
      obtain ⟨bj, hbj⟩ : ∃ b, bs[k + 1]? = some b := ⟨_, List.getElem?_eq_getElem (by omega)⟩
      have hMj := (hSeen.maps (k + 1) bj hbj).2
      have hMj1 := hMj.same (hF1.same _ hMj.lt (nomap hMj))
      refine tell.pick (Q := _) n hn least most short mf mh _ x (pruned least most short n l 0 (k + 1)) k (by omega) hsx xc oc atc wr.heap.size g sb (l.length + 1) cS k bj W.heap.size _ ov (tellTo least most short n l k).1 dfs _ _ _ _ _ _ _ _ _ _ _ _ _ _ _ _ _ _ _ _ _ _ _ _ _ _ _ _ _ _ _ _ _ _ _ _ _ _ _ _ _ _ _ _ _ _ _ W1 W3
        hPA hMj1 ((hF1.same _ kxc noxc).trans H3.out) ((hb1.block _ (by omega)).trans HOC.out) ((hb1.block _ (by omega)).trans HATR.out) hic ((hF1.same _ kg nog).trans hSeen.obj) rfl (hF1.cell (hSeen.cell hbj) nosb) (by omega) (by omega)
        (Kd.R_below HR.out hb1) (by omega) (by omega) ((HC.out.same (SameMarks.below hb1 (Nat.le_refl _))).up (by omega)) ?_
      rintro ds3 ov3 ps3 x3 W4 hpk hF4 hoc4 hat4 hR4 hC4
      have hpk' : Picked least most short l[k].f0 l[k].f1 n (tellTo least most short n l k).2 (pruned least most short n l 0 (k + 1)) (tellTo least most short n l k).1 ps3 x3 := by rw [hm, HX0.out]; exact hpk
      have htt := picked_tellTo hlt (by rw [HX0.out]; exact HFW.out) hpk'
      have hF04 : Fr (fun k => k = oc ∨ k = atc) W W4 :=
        ⟨hF4.os.trans hF1.os, hF4.tape.trans hF1.tape, hF4.output.trans hF1.output, Nat.le_trans hF1.size hF4.size, fun q hq hnx => (hF4.same q (by have := hF1.size; omega) (fun h => by
          rcases h with h | h | h
          · exact hnx (.inl h)
          · exact hnx (.inr h)
          · have := ((Kd.R_bound HR.out).1 q h).2.1; omega)).trans (hF1.same q hq hnx)⟩
      have hwr : IntKind.i64.wrap ((k : Int) + 1) = (k : Int) + 1 := by simp [IntKind.wrap, IntKind.bits, IntKind.signed]; omega
      have hgood := tellTo_good HTL.out (k + 1) (by omega)
      rw [htt] at hgood
      have HF04 := Lib.hid hF04
      have HOC4 := Lib.hid hoc4
      have HAT4 := Lib.hid hat4
      have HR4 := Lib.hid hR4
      have HC4 := Lib.hid hC4
      have HTT := Lib.hid htt
      have HGO := Lib.hid hgood
      clear hF04 hF4 hoc4 hat4 hR4 hC4 htt hgood hpk hpk' hF1 hMj hMj1 hPA hb1 hs1 hic hW1 hm hSeen
      gi_wp2
      refine ⟨?_, ?measure⟩
      · (repeat apply Exists.intro)
        refine ⟨?_, ⟨rfl, rfl, rfl, rfl, rfl⟩, rfl⟩
        have htt := HTT.out
        refine ⟨k + 1, by simp, by omega, HF04.out, HC4.out, ov3, HOC4.out, ?_, ?_, ?_⟩
        · rw [htt]; exact HAT4.out
        · rw [htt]; exact HR4.out
        · rw [htt]; exact HGO.out.1
      case measure =>
        simp [intOf]
        omega
    · obtain rfl : k = l.length := by omega
      gi_wp2
      exact hdone dfs ov _ _ _ _ _ _ _ _ _ _ _ _ _ _ _ _ _ _ _ _ _ _ _ _ _ _ _ _ _ wr hF hoc hR hC
end Go.Proofs.Ytdnjmhhjjbdieaa.Q
end
section
namespace Go.Proofs.Ytdnjmhhjjbdieaa.Q
open Go.RowKit Go.Shelf Go.Proofs.YtdnjmhhjjbdieaaW.PrintWords Go.Proofs.YtdnjmhhjjbdieaaW.PrintLast
set_option linter.unusedVariables false
set_option linter.unusedSimpArgs false
attribute [local go_sem] Oper.semAt_some
def floor_Tell.f (a0_0 a0_1 a0_2 a0_3 : Int) (l0_4 : List S52) : Option (List S65 × Int) :=
  match floor_Scene_check.f a0_0 a0_1 a0_2 a0_3 l0_4 with
  | none => none
  | some r => if r = 0 then
      if (fwdL a0_1 a0_2 a0_3 a0_0.toNat l0_4 l0_4.length).isEmpty then some ([], 10) else some ((tellTo a0_1 a0_2 a0_3 a0_0.toNat l0_4 l0_4.length).1, 0)
    else some ([], r)
set_option maxRecDepth 100000 in
set_option maxHeartbeats 4000000 in
theorem floor_Tell.calls (a0_0 a0_1 a0_2 a0_3 : Int) (A0_4 : Option Addr) (c0_4 : Nat) (l0_4 : List S52) (r1 : List S65) (r2 : Int) (w : World) (hr0_4 : Kd.C k52 w A0_4 l0_4.length l0_4) (hc0_4 : l0_4.length ≤ c0_4)
    (h : floor_Tell.f a0_0 a0_1 a0_2 a0_3 l0_4 = some (r1, r2)) :
    Calls Try.prog 31 #[.agg #[.int .i64 a0_0, .int .i64 a0_1, .int .i64 a0_2, .int .i64 a0_3, .slice A0_4 l0_4.length c0_4]] w fun e w' => ∃ v0_ : Value, e = .returned (.tuple #[v0_, .int .i64 r2]) ∧ Kd.R k65 65 w' w.heap.size (fun _ => True) v0_ r1 ∧ Below w.heap.size w w' := by
  have hu := Try.underlying33
  have hu1 := Try.underlying109
  refine (callsIn_wide (n := 0)).1 ?_
  refine callsIn_of_wp_marks Try.func31 rfl trivial ?_ rfl
  simp only [Try.ntmps31, List.size_toArray, List.length_cons, List.length_nil, Nat.reduceAdd, Nat.reduceSub, Array.replicate_succ, Array.replicate_zero, List.push_toArray, List.append_toArray, List.nil_append, List.cons_append]
  unfold floor_Tell.f at h
  obtain ⟨W0, hW0⟩ : ∃ W0, w.alloc (.cells #[.int .i64 a0_0, .int .i64 a0_1, .int .i64 a0_2, .int .i64 a0_3, .slice A0_4 l0_4.length c0_4] 33) = W0 := ⟨_, rfl⟩
  have hs0 : W0.heap.size = w.heap.size + 1 := by rw [← hW0]; simp
  have hsc0 : W0.heap[w.heap.size]? = some (.cells #[.int .i64 a0_0, .int .i64 a0_1, .int .i64 a0_2, .int .i64 a0_3, .slice A0_4 l0_4.length c0_4] 33 (0, 0)) := by rw [← hW0]; exact heap_new rfl
  have hb0 : Below w.heap.size w W0 := by rw [← hW0]; exact (Below.refl _ w).alloc (Nat.le_refl _) _
  have e0 := cell_of hsc0 (i := 0) rfl
  have e1 := cell_of hsc0 (i := 1) rfl
  have e2 := cell_of hsc0 (i := 2) rfl
  have e3 := cell_of hsc0 (i := 3) rfl
  have e4 := cell_of hsc0 (i := 4) rfl
  simp only [List.getElem_toArray, List.getElem_cons_zero, List.getElem_cons_succ] at e0 e1 e2 e3 e4
  have HS0 := Lib.hid hs0
  have HSC0 := Lib.hid hsc0
  have HB0 := Lib.hid hb0
  have HR := Lib.hid (Kd.C_below hr0_4 hb0)
  have HR' := Lib.hid hr0_4
  clear hs0 hsc0 hb0 hr0_4
  gi_wp2
  clear hW0
  cases hck : floor_Scene_check.f a0_0 a0_1 a0_2 a0_3 l0_4 with
  | none => rw [hck] at h; cases h
  | some r =>
    rw [hck] at h
    simp only [] at h
    have HCK := Lib.hid hck
    have HH := Lib.hid h
    clear hck h
    by_cases hr : r = 0
    · subst hr
      obtain ⟨hl, ⟨n, rfl, hn1, hn⟩, _⟩ := check_ok HCK.out
      have hnn : (n : Int).toNat = n := Int.toNat_natCast n
      refine ⟨trivial, rfl, (callsIn_wide.2 (checked.good n a0_1 a0_2 a0_3 A0_4 c0_4 l0_4 W0 HR.out hc0_4 HCK.out)).mono ?_⟩
      rintro e W1 ⟨g, i, rfl, hb1, hL⟩
      obtain ⟨sb, cS, bs, hne, hcase⟩ := hL
      have h' := HH.out
      rw [if_pos rfl, hnn] at h'
      have HB1 := Lib.hid hb1
      have HNE := Lib.hid hne
      clear hb1 hne HH
      by_cases hi : i = l0_4.length
      · rcases hcase with ⟨_, hSe⟩ | ⟨hi', _⟩
        · subst hi
          have hem : ¬ (fwdL a0_1 a0_2 a0_3 n l0_4 l0_4.length).isEmpty = true := fun hc => by
            obtain ⟨x, hx⟩ := HNE.out _ (Nat.le_refl _)
            exact fwdL_empty.1 hc x hx
          rw [if_neg hem] at h'
          obtain ⟨rfl, rfl⟩ := Prod.mk.inj (Option.some.inj h')
          rw [if_pos rfl]
          have htl : tellable a0_1 a0_2 a0_3 n l0_4 beginSt := by
            obtain ⟨x, hx⟩ := HNE.out _ (Nat.le_refl _)
            obtain ⟨y, hy, ht⟩ := fwd_tell 0 l0_4.length x (by omega) hx
            obtain rfl : y = beginSt := hy
            exact ht
          have hz1 := HB1.out.size
          have hz0 := HS0.out
          have f4 : W1.cell? ⟨w.heap.size, 4, none⟩ = _ := (HB1.out.cell (p := ⟨w.heap.size, 4, none⟩) (by show w.heap.size < W0.heap.size; omega)).trans e4
          have q0 : w.heap.size < W1.heap.size := by omega
          have q1 : w.heap.size < W1.heap.size + 1 := by omega
          have q2 : w.heap.size < W1.heap.size + 1 + 1 := by omega
          have q3 : w.heap.size < W1.heap.size + 1 + 1 + 1 := by omega
          have q4 : w.heap.size < W1.heap.size + 1 + 1 + 1 + 1 := by omega
          have HSE := Lib.hid hSe
          have HZ1 := Lib.hid hz1
          have HZ0 := Lib.hid hz0
          have HTL := Lib.hid htl
          clear h' hem e0 e1 e2 e3 e4 hSe hz1 hz0 htl
          gi_wp2
          refine ⟨trivial, rfl, (callsIn_wide.2 (begin.calls _)).mono ?_⟩
          rintro e W2 ⟨rfl, rfl⟩
          gi_wp2
          have hz1 := HZ1.out
          have hz0 := HZ0.out
          obtain ⟨Wz, hWz⟩ : ∃ Wz, ((((W1.alloc (.cells #[.pointer (some ⟨g, 0, none⟩)] 101)).alloc (.cells #[.slice none 0 0] 61)).alloc (.cells #[.int .i64 (-2), .int .i64 0, .int .i64 0, .bool false] 109)).alloc (.cells #[.int .i64 (-2), .int .i64 0, .int .i64 0, .bool false] 109)) = Wz := ⟨_, rfl⟩
          rw [hWz]
          have hbz : Below W1.heap.size W1 Wz := by rw [← hWz]; exact ((((Below.refl _ W1).alloc (Nat.le_refl _) _).alloc (by simp) _).alloc (by simp; omega) _).alloc (by simp; omega) _
          have hzz : Wz.heap.size = W1.heap.size + 4 := by rw [← hWz]; simp
          have hxc : Wz.heap[W1.heap.size]? = some (.cells #[.pointer (some ⟨g, 0, none⟩)] 101 (0, 0)) := by rw [← hWz]; exact heap_old (heap_old (heap_old (heap_new rfl)))
          have hoc : Wz.heap[W1.heap.size + 1]? = some (.cells #[.slice none 0 0] 61 (0, 0)) := by rw [← hWz]; exact heap_old (heap_old (heap_new (by simp)))
          have hat : Wz.heap[W1.heap.size + 1 + 1 + 1]? = some (.cells #[.int .i64 (-2), .int .i64 0, .int .i64 0, .bool false] 109 (0, 0)) := by rw [← hWz]; exact heap_new (by simp)
          have hb0z : Below W0.heap.size W0 Wz := HB1.out.trans (hbz.mono hz1)
          have ez4 : Wz.cell? ⟨w.heap.size, 4, none⟩ = _ := (hbz.cell (p := ⟨w.heap.size, 4, none⟩) q0).trans f4
          have HBZ := Lib.hid hbz
          have HZZ := Lib.hid hzz
          have HXC := Lib.hid hxc
          have HOC := Lib.hid hoc
          have HAT := Lib.hid hat
          have HB0Z := Lib.hid hb0z
          clear hbz hzz hxc hoc hat hb0z hWz f4 ez4
          have hz1 := HZ1.out
          have hz0 := HZ0.out
          have hzz := HZZ.out
          refine tell.rounds (Q := _) n hn a0_1 a0_2 a0_3 A0_4 c0_4 l0_4 hl HTL.out w.heap.size W1.heap.size (W1.heap.size + 1) (W1.heap.size + 1 + 1 + 1) g sb cS W0.heap.size bs _ _ _ _ _ _ _ _ _ _ _ _ _ _ _ _ _ _ _ _ _ _ _ _ _ _ _ _ _ _ _ _ _ _ _ _ _ _ _ _ _ _ _ _ _ Wz
            (Kd.C_below HR.out HB0Z.out) (fun ad had hlen => by
              subst had
              obtain ⟨ad', e, m0, _⟩ := at_T52 HR'.out 0 (by omega) (by omega)
              cases e
              have := World.block_lt_of_cell? w _ m0
              have hbl : (ad.add 0).block = ad.block := by unfold Addr.add; split <;> rfl
              simp at this
              omega)
            ((HB0Z.out.block _ (by omega)).trans HSC0.out) HXC.out HOC.out HAT.out (HSE.out.below HBZ.out) (by omega) ?_
          rintro ds3 ov u8 u9 u10 u11 u24 u25 u26 u27 u28 u29 u30 u31 u32 u35 u36 u37 u38 u39 u40 u41 u42 u43 u44 u45 u46 u47 u48 u49 u50 W2 hF hoc2 hR2 hC
          have eo := cell_of hoc2 (i := 0) rfl
          simp only [List.getElem_toArray, List.getElem_cons_zero] at eo
          have HF := Lib.hid hF
          have HR2 := Lib.hid hR2
          have HC := Lib.hid hC
          obtain ⟨A2, c2, hov⟩ := Kd.R_slice hR2
          subst hov
          clear hF hR2 hC hoc2
          gi_wp2
          have hzz := HZZ.out
          have hz1 := HZ1.out
          have hz0 := HZ0.out
          refine leave_marks _ _ HC.out (fun W4 hF4 => ⟨_, results_tmp2 rfl _ _ _, _, rfl, ?_, ?_⟩)
          · have hR4 := Kd.R_mono (Kd.R_step (Kd.R_bound HR2.out) (w1 := W4) (fun k hk hkl => hF4.same k hkl (fun h => by
              obtain ⟨_, _, _, q, _, cells, hc⟩ := hk
              rw [hc] at h; cases h.2.2))) (fun _ _ => trivial)
            exact Kd.R_lower hR4 (by omega)
          · have h02 : Below w.heap.size w Wz := HB0.out.trans (HB0Z.out.mono HB0.out.size)
            exact (h02.trans ((HF.out.below (n := w.heap.size) (by omega) (fun k hk => by omega)))).trans (hF4.below (n := w.heap.size) (by have := HF.out.size; omega) (fun k hk h => by omega))
        · omega
      · rcases hcase with ⟨hi', _⟩ | ⟨hi', hno, _⟩
        · exact absurd hi' hi
        · have hem : (fwdL a0_1 a0_2 a0_3 n l0_4 l0_4.length).isEmpty = true := fwdL_empty.2 (fun x => by
            have := fwd_later hno (l0_4.length - (i + 1)) x
            rwa [show i + 1 + (l0_4.length - (i + 1)) = l0_4.length by omega] at this)
          rw [if_pos hem] at h'
          obtain ⟨rfl, rfl⟩ := Prod.mk.inj (Option.some.inj h')
          rw [if_neg hi]
          clear h' hem hno
          gi_wp2
          refine ⟨_, results_tmp2 rfl _ _ _, _, rfl, Kd.R_nil _ _ _ _ _, ?_⟩
          exact (HB0.out.trans (HB1.out.mono HB0.out.size)).alloc (Nat.le_trans HB0.out.size HB1.out.size) _
    · have h' := HH.out
      rw [if_neg hr] at h'
      obtain ⟨rfl, rfl⟩ := Prod.mk.inj (Option.some.inj h')
      have hr2 : (r == 0) = false := by simpa using hr
      clear h' HH
      refine ⟨trivial, rfl, (callsIn_wide.2 (checked.bad a0_0 a0_1 a0_2 a0_3 A0_4 c0_4 l0_4 r W0 HR.out hc0_4 HCK.out hr)).mono ?_⟩
      rintro e W1 ⟨rfl, hb1⟩
      have HB1 := Lib.hid hb1
      clear hb1
      gi_wp2
      refine ⟨_, results_tmp2 rfl _ _ _, _, rfl, Kd.R_nil _ _ _ _ _, ?_⟩
      exact (HB0.out.trans (HB1.out.mono HB0.out.size)).alloc (Nat.le_trans HB0.out.size HB1.out.size) _
end Go.Proofs.Ytdnjmhhjjbdieaa.Q
end
section
namespace Go.Proofs.Ytdnjmhhjjbdieaa.Q
open Go.RowKit Go.Proofs.YtdnjmhhjjbdieaaW.PrintWords
set_option linter.unusedVariables false
theorem wrap_id {n : Int} (h1 : -9223372036854775808 ≤ n) (h2 : n ≤ 9223372036854775807) : wrap64 n = n := by unfold wrap64; omega
theorem wf_u16 {n : Int} (h : (Lit.int .u16 n).wf = true) : 0 ≤ n ∧ n < 65536 := by
  have e1 : IntKind.u16.min = 0 := by decide
  have e2 : IntKind.u16.max = 65535 := by decide
  have h' : IntKind.u16.min ≤ n ∧ n ≤ IntKind.u16.max := by simpa [Lit.wf] using h
  rw [e1, e2] at h'
  omega
theorem wf_i64 {n : Int} (h : (Lit.int .i64 n).wf = true) : -9223372036854775808 ≤ n ∧ n ≤ 9223372036854775807 := by
  have e1 : IntKind.i64.min = -9223372036854775808 := by decide
  have e2 : IntKind.i64.max = 9223372036854775807 := by decide
  have h' : IntKind.i64.min ≤ n ∧ n ≤ IntKind.i64.max := by simpa [Lit.wf] using h
  rw [e1, e2] at h'
  omega
theorem wf_u8 {n : Int} (h : (Lit.int .u8 n).wf = true) : 0 ≤ n ∧ n < 256 := by
  have e1 : IntKind.u8.min = 0 := by decide
  have e2 : IntKind.u8.max = 255 := by decide
  have h' : IntKind.u8.min ≤ n ∧ n ≤ IntKind.u8.max := by simpa [Lit.wf] using h
  rw [e1, e2] at h'
  omega
theorem bit_at {p : Int} (h1 : -1 ≤ p) (h2 : p ≤ 14) : palantyperef02_Bit.f p = some (bitOf p) := by
  have hc : ∀ k : Fin 16, palantyperef02_Bit.f ((k : Nat) - 1 : Int) = some (bitOf ((k : Nat) - 1 : Int)) := by decide +kernel
  have := hc ⟨(p + 1).toNat, by omega⟩
  rwa [show (((p + 1).toNat : Nat) : Int) - 1 = p by omega] at this
theorem has_at (v : Int) {p : Int} (h1 : -1 ≤ p) (h2 : p ≤ 14) : palantyperef02_Has.f v p = some (inSet v p) := by
  unfold palantyperef02_Has.f
  rw [bit_at h1 h2]
  rfl
theorem in_at (n lo hi : Int) : palantyperef02_In.f n lo hi = some (win n lo hi) := by
  unfold palantyperef02_In.f win
  by_cases h : n ≥ lo
  · rw [if_pos h]; simp [h]
  · rw [if_neg h]; simp; omega
def setB (x : Int) (n : Nat) : Bool := (List.range (15 - n)).all fun i => !inSet x ((n : Int) + i)
theorem setB_iff {x : Int} {n : Nat} : setB x n = true ↔ ∀ i : Nat, n ≤ i → i < 15 → inSet x i = false := by
  unfold setB
  rw [List.all_eq_true]
  constructor
  · intro h i h1 h2
    have := h (i - n) (List.mem_range.2 (by omega))
    rw [show (n : Int) + ((i - n : Nat) : Int) = i by omega] at this
    simpa using this
  · intro h j hj
    have hj := List.mem_range.1 hj
    have := h (n + j) (by omega) (by omega)
    rw [show (n : Int) + (j : Int) = ((n + j : Nat) : Int) by omega, this]
    rfl
theorem set_ev (x : Int) : ∀ (d n : Nat), n + d = 15 → Ev (fun k => palantyperef02_set.l0 k x n) (setB x n)
  | 0, n, h => by
    refine Ev.step (f := fun k => some true) (fun k => ?_) ?_
    · simp only [palantyperef02_set.l0]; rw [if_neg (by omega)]
    · have : setB x n = true := setB_iff.2 (fun i h1 h2 => by omega)
      rw [this]; exact Ev.now _
  | d + 1, n, h => by
    refine Ev.step (f := fun k => if inSet x n = true then some false else palantyperef02_set.l0 k x (n + 1 : Nat)) (fun k => ?_) ?_
    · simp only [palantyperef02_set.l0]
      rw [if_pos (by omega), has_at x (by omega) (by omega), wrap_id (by omega) (by omega)]
      rfl
    · cases hi : inSet x n with
      | true =>
        have : setB x n = false := by
          cases hb : setB x n with
          | false => rfl
          | true => have := setB_iff.1 hb n (Nat.le_refl _) (by omega); rw [hi] at this; cases this
        rw [this]
        exact Ev.congr (fun k => if_pos rfl) (Ev.now _)
      | false =>
        have : setB x n = setB x (n + 1) := by
          rw [Bool.eq_iff_iff, setB_iff, setB_iff]
          exact ⟨fun h i h1 h2 => h i (by omega) h2, fun h i h1 h2 => by
            by_cases e : i = n
            · subst e; exact hi
            · exact h i (by omega) h2⟩
        rw [this]
        exact Ev.congr (fun k => if_neg (by simp)) (set_ev x d (n + 1) (by omega))
theorem bits_andNot_bit (a b : Nat) (ha : a < 65536) (hb : b < 65536) : ∃ m : Nat, Go.bits .andNot .u16 (a : Int) (b : Int) = m ∧ m < 65536 ∧ ∀ i, m.testBit i = (a.testBit i && !b.testBit i) := by
  have h1 : (BitVec.ofInt 16 (a : Int)).toNat = a := by
    rw [BitVec.ofInt_natCast, BitVec.toNat_ofNat]; exact Nat.mod_eq_of_lt (by omega)
  have h2 : (BitVec.ofInt 16 (b : Int)).toNat = b := by
    rw [BitVec.ofInt_natCast, BitVec.toNat_ofNat]; exact Nat.mod_eq_of_lt (by omega)
  refine ⟨(BitVec.ofInt 16 (a : Int) &&& ~~~ BitVec.ofInt 16 (b : Int)).toNat, ?_, ?_, fun i => ?_⟩
  · show IntKind.u16.wrap ((BitVec.ofInt 16 (a : Int) &&& ~~~ BitVec.ofInt 16 (b : Int)).toNat : Int) = _
    have := (BitVec.ofInt 16 (a : Int) &&& ~~~ BitVec.ofInt 16 (b : Int)).isLt
    rw [IntKind.wrap_u16]; omega
  · exact (BitVec.ofInt 16 (a : Int) &&& ~~~ BitVec.ofInt 16 (b : Int)).isLt
  · rw [BitVec.testBit_toNat, BitVec.getLsbD_and, BitVec.getLsbD_not, ← BitVec.testBit_toNat, ← BitVec.testBit_toNat, h1, h2]
    by_cases hi : i < 16
    · simp [hi]
    · have : a.testBit i = false := Nat.testBit_lt_two_pow (Nat.lt_of_lt_of_le ha (Nat.le_trans (by decide : 65536 ≤ 2 ^ 16) (Nat.pow_le_pow_right (by omega) (by omega))))
      simp [this]
theorem known_nat {n : Nat} (h1 : 1 ≤ n) (h2 : n ≤ 12) : ∃ m : Nat, knownOf n = m ∧ m < 65536 ∧ ∀ i, i < 16 → m.testBit i = (decide (i < n) || decide (i = 15)) := by
  have hc : ∀ k : Fin 13, 1 ≤ k.val → knownOf k.val = ((32768 ||| (2 ^ k.val - 1) : Nat) : Int) := by decide +kernel
  refine ⟨32768 ||| (2 ^ n - 1), hc ⟨n, by omega⟩ h1, ?_, ?_⟩
  · have : ∀ k : Fin 13, (32768 ||| (2 ^ k.val - 1)) < 65536 := by decide +kernel
    exact this ⟨n, by omega⟩
  · have : ∀ k : Fin 13, ∀ i : Fin 16, (32768 ||| (2 ^ k.val - 1)).testBit i.val = (decide (i.val < k.val) || decide (i.val = 15)) := by decide +kernel
    exact fun i hi => this ⟨n, by omega⟩ ⟨i, hi⟩
theorem momOk_eq {n : Nat} (h1 : 1 ≤ n) (h2 : n ≤ 12) {f0 f1 : Int} (a0 : 0 ≤ f0 ∧ f0 < 65536) (a1 : 0 ≤ f1 ∧ f1 < 65536) : momOk (knownOf n) ⟨f0, f1⟩ = (setB f0 n && setB f1 n) := by
  obtain ⟨a, rfl⟩ := Int.eq_ofNat_of_zero_le a0.1
  obtain ⟨b, rfl⟩ := Int.eq_ofNat_of_zero_le a1.1
  have ha : a < 65536 := by omega
  have hb : b < 65536 := by omega
  obtain ⟨m, hm, hml, hmb⟩ := known_nat h1 h2
  unfold momOk
  simp only []
  rw [hm, bits_or_u16_nat a b ha hb]
  have hab : a ||| b < 65536 := Nat.or_lt_two_pow (n := 16) ha hb
  obtain ⟨r, hr, hrl, hrb⟩ := bits_andNot_bit (a ||| b) m hab hml
  rw [hr, Bool.eq_iff_iff, Bool.and_eq_true, setB_iff, setB_iff, beq_iff_eq]
  have hin : ∀ (x : Nat), x < 65536 → ∀ i : Nat, i < 15 → inSet x i = x.testBit i := fun x hx i hi => by
    rw [inSet_nat hx (by omega) (by omega)]
    unfold pidx; rw [if_neg (by omega)]; simp
  constructor
  · intro h0
    have h0 : r = 0 := by omega
    subst h0
    have key : ∀ i, n ≤ i → i < 15 → a.testBit i = false ∧ b.testBit i = false := fun i h1 h2 => by
      have := hrb i
      rw [Nat.zero_testBit, hmb i (by omega), Nat.testBit_or] at this
      have e1 : decide (i < n) = false := by simpa using h1
      have e2 : decide (i = 15) = false := by simp; omega
      rw [e1, e2] at this
      cases ha' : a.testBit i <;> cases hb' : b.testBit i <;> simp [ha', hb'] at this ⊢
    exact ⟨fun i h1 h2 => by rw [hin a ha i h2]; exact (key i h1 h2).1, fun i h1 h2 => by rw [hin b hb i h2]; exact (key i h1 h2).2⟩
  · rintro ⟨p, q⟩
    have : r = 0 := by
      apply Nat.eq_of_testBit_eq
      intro i
      rw [Nat.zero_testBit, hrb i, Nat.testBit_or]
      by_cases hi : i < 16
      · rw [hmb i hi]
        by_cases c1 : i < n
        · simp [c1]
        · by_cases c2 : i = 15
          · simp [c2]
          · have e1 := p i (by omega) (by omega)
            have e2 := q i (by omega) (by omega)
            rw [hin a ha i (by omega)] at e1
            rw [hin b hb i (by omega)] at e2
            simp [e1, e2]
      · have h16 : ∀ x : Nat, x < 65536 → x.testBit i = false := fun x hx => Nat.testBit_lt_two_pow (Nat.lt_of_lt_of_le hx (Nat.le_trans (by decide : 65536 ≤ 2 ^ 16) (Nat.pow_le_pow_right (by omega) (by omega))))
        simp [h16 a ha, h16 b hb]
    rw [this]; rfl
def mo (m : S59) : S52 := ⟨m.f0, m.f1⟩
theorem rd59 {l : List S59} {i : Nat} (h : i < l.length) : rd_T59 l (i : Int) = l[i] := by simp [rd_T59, List.getD, h]
theorem scene_ev (a0 a1 a2 a3 : Int) (l : List S59) (hl : l.length ≤ 35184372088831) : ∀ (d i : Nat) (acc : List S52), i + d = l.length → acc.length = i →
    Ev (fun k => palantypelaw02_Scene.l0 k i a0 a1 a2 a3 l a0 a1 a2 a3 acc) (a0, a1, a2, a3, acc ++ (l.drop i).map mo)
  | 0, i, acc, h, ha => by
    refine Ev.step (f := fun k => some (a0, a1, a2, a3, acc)) (fun k => ?_) ?_
    · simp only [palantypelaw02_Scene.l0]; rw [if_neg (by omega)]
    · rw [List.drop_eq_nil_of_le (by omega)]; simp; exact Ev.now _
  | d + 1, i, acc, h, ha => by
    have hi : i < l.length := by omega
    refine Ev.step (f := fun k => palantypelaw02_Scene.l0 k (i + 1 : Nat) a0 a1 a2 a3 l a0 a1 a2 a3 (acc ++ [mo l[i]])) (fun k => ?_) ?_
    · simp only [palantypelaw02_Scene.l0]
      rw [if_pos (by omega), if_pos (by omega), if_pos (by omega), wrap_id (by omega) (by omega), rd59 hi]
      rfl
    · have := scene_ev a0 a1 a2 a3 l hl d (i + 1) (acc ++ [mo l[i]]) (by omega) (by simp [ha])
      rw [List.drop_eq_getElem_cons hi, List.map_cons]
      rwa [List.append_assoc, List.singleton_append] at this
theorem Scene_ev (a0 a1 a2 a3 : Int) (l : List S59) (hl : l.length ≤ 35184372088831) : Ev (fun k => palantypelaw02_Scene.f k a0 a1 a2 a3 l) (a0, a1, a2, a3, l.map mo) := by
  have := scene_ev a0 a1 a2 a3 l hl l.length 0 [] (by omega) rfl
  simpa [palantypelaw02_Scene.f] using this
theorem fault_l0 (n : Nat) (h1 : 1 ≤ n) (h2 : n ≤ 12) (a1 a2 a3 : Int) (l : List S59) (hm : ∀ y ∈ l, (0 ≤ y.f0 ∧ y.f0 < 65536) ∧ (0 ≤ y.f1 ∧ y.f1 < 65536)) (hl : l.length ≤ 40) : ∀ (d i : Nat), i + d = l.length →
    Ev (fun k => palantyperef02_Fault.l0 k i n a1 a2 a3 l) (if ((l.drop i).map mo).all (momOk (knownOf n)) = true then 0 else 1)
  | 0, i, h => by
    refine Ev.step (f := fun k => some 0) (fun k => ?_) ?_
    · simp only [palantyperef02_Fault.l0]; rw [if_neg (by omega)]
    · rw [List.drop_eq_nil_of_le (by omega)]; simp; exact Ev.now _
  | d + 1, i, h => by
    have hi : i < l.length := by omega
    have hmi := hm l[i] (List.getElem_mem hi)
    refine Ev.step (f := fun k => (palantyperef02_set.f k l[i].f0 n).bind fun t => if t = true then ((palantyperef02_set.f k l[i].f1 n).bind fun t2 => if t2 = true then palantyperef02_Fault.l0 k (i + 1 : Nat) n a1 a2 a3 l else some 1) else some 1) (fun k => ?_) ?_
    · simp only [palantyperef02_Fault.l0]
      rw [if_pos (by omega), if_pos (by omega), rd59 hi, wrap_id (by omega) (by omega)]
      rfl
    · rw [List.drop_eq_getElem_cons hi, List.map_cons, List.all_cons]
      have e : momOk (knownOf n) (mo l[i]) = (setB l[i].f0 n && setB l[i].f1 n) := momOk_eq h1 h2 hmi.1 hmi.2
      rw [e]
      refine Ev.bind (a := setB l[i].f0 n) (set_ev _ (15 - n) n (by omega)) ?_
      cases hb0 : setB l[i].f0 n with
      | false => simp; exact Ev.now _
      | true =>
        simp only [if_true, Bool.true_and]
        refine Ev.bind (a := setB l[i].f1 n) (set_ev _ (15 - n) n (by omega)) ?_
        cases hb1 : setB l[i].f1 n with
        | false => simp; exact Ev.now _
        | true =>
          simp only [if_true, Bool.true_and]
          exact fault_l0 n h1 h2 a1 a2 a3 l hm hl d (i + 1) (by omega)
theorem Fault_ev (a0 a1 a2 a3 : Int) (l : List S59) (hm : ∀ y ∈ l, (0 ≤ y.f0 ∧ y.f0 < 65536) ∧ (0 ≤ y.f1 ∧ y.f1 < 65536)) :
    ∃ r, floor_Scene_check.f a0 a1 a2 a3 (l.map mo) = some r ∧ Ev (fun k => palantyperef02_Fault.f k a0 a1 a2 a3 l) r := by
  unfold floor_Scene_check.f palantyperef02_Fault.f
  rw [List.length_map]
  by_cases hl : 40 < l.length
  · rw [if_pos hl]
    exact ⟨3, rfl, Ev.congr (fun k => if_pos (by omega)) (Ev.now _)⟩
  · rw [if_neg hl]
    have hl' : ¬ (l.length : Int) > 40 := by omega
    simp only [in_at, Option.bind_some, if_neg hl']
    have bad : Ev (fun k => palantyperef02_Fault.j0 k true a0 a1 a2 a3 l) 1 := Ev.step (f := fun k => some 1) (fun k => by simp [palantyperef02_Fault.j0]) (Ev.now _)
    cases c0 : win a0 1 12 with
    | false => exact ⟨1, by simp, Ev.congr (fun k => if_neg (by simp)) bad⟩
    | true =>
      cases c2 : win a2 1 20 with
      | false => exact ⟨1, by simp, Ev.congr (fun k => by rw [if_pos rfl, if_neg (by simp)]) bad⟩
      | true =>
        cases c1 : win a1 1 a2 with
        | false => exact ⟨1, by simp, Ev.congr (fun k => by rw [if_pos rfl, if_pos rfl, if_neg (by simp)]) bad⟩
        | true =>
          cases c3 : win a3 0 20 with
          | false => exact ⟨1, by simp, Ev.congr (fun k => by rw [if_pos rfl, if_pos rfl, if_pos rfl]; rfl) bad⟩
          | true =>
            have hn : 1 ≤ a0 ∧ a0 ≤ 12 := by simpa [win] using c0
            obtain ⟨n, rfl⟩ := Int.eq_ofNat_of_zero_le (show 0 ≤ a0 by omega)
            have key := fault_l0 n (by omega) (by omega) a1 a2 a3 l hm (by omega) l.length 0 (by omega)
            rw [List.drop_zero] at key
            refine ⟨_, ?_, Ev.congr (fun k => by rw [if_pos rfl, if_pos rfl, if_pos rfl]) (Ev.step (f := fun k => palantyperef02_Fault.l0 k 0 n a1 a2 a3 l) (fun k => by simp [palantyperef02_Fault.j0]) key)⟩
            simp only [Bool.true_and]
            split <;> rfl
end Go.Proofs.Ytdnjmhhjjbdieaa.Q
end
section
namespace Go.Proofs.Ytdnjmhhjjbdieaa.Q
open Go.RowKit Go.Shelf Go.Proofs.YtdnjmhhjjbdieaaW.PrintWords Go.Proofs.YtdnjmhhjjbdieaaW.PrintLast
set_option linter.unusedVariables false
set_option linter.unusedSimpArgs false
attribute [local go_sem] Oper.semAt_some
def partOk (least most short n : Int) (m : S52) (x : St) (p : S65) : Bool :=
  win p.f0 (-1) (n - 1) && win p.f1 (-1) (n - 1) && (stepF least most short x p.f0 p.f1).2 && inSet m.f0 p.f0 && inSet m.f1 p.f1
def runTo (least most short n : Int) (l : List S52) (t : List S65) : Nat → Option St
  | 0 => some beginSt
  | k + 1 => match runTo least most short n l t k, l[k]?, t[k]? with
    | some x, some m, some p => if partOk least most short n m x p = true then some (stepF least most short x p.f0 p.f1).1 else none
    | _, _, _ => none
theorem runTo_small {least most short : Int} {n : Nat} (hn : n ≤ 12) {l : List S52} {t : List S65} : ∀ (k : Nat) (x : St), runTo least most short n l t k = some x → Small x k
  | 0, x, h => by
    obtain rfl : beginSt = x := Option.some.inj h
    exact beginSt_small 0
  | k + 1, x, h => by
    simp only [runTo] at h
    cases hx : runTo least most short n l t k with
    | none => rw [hx] at h; cases h
    | some y =>
      cases hm : l[k]? with
      | none => rw [hx, hm] at h; cases h
      | some m =>
        cases hp : t[k]? with
        | none => rw [hx, hm, hp] at h; cases h
        | some p =>
          rw [hx, hm, hp] at h
          simp only [] at h
          by_cases ho : partOk least most short n m y p = true
          · rw [if_pos ho] at h
            obtain rfl := Option.some.inj h
            simp only [partOk, win, Bool.and_eq_true, decide_eq_true_eq] at ho
            exact (runTo_small hn k y hx).step least most short p.f0 p.f1 (by omega) (by omega)
          · rw [if_neg ho] at h; cases h
theorem below_drewN' (W : World) (n : Nat) : Below W.heap.size W (W.drewN n) := pw_below_drewN (Below.refl _ _) _
theorem Fr.drewN {X : Nat → Prop} (W : World) (n : Nat) : Fr X W (W.drewN n) := ⟨rfl, rfl, rfl, Nat.le_refl _, fun _ _ _ => rfl⟩
theorem runTo_none {least most short n : Int} {l : List S52} {t : List S65} {k : Nat} (h : runTo least most short n l t k = none) : ∀ d, runTo least most short n l t (k + d) = none
  | 0 => h
  | d + 1 => by
    have ih := runTo_none h d
    show runTo least most short n l t ((k + d) + 1) = none
    simp only [runTo, ih]
def floor_ProveTelling.f (a0_0 a0_1 a0_2 a0_3 : Int) (l0_4 : List S52) (l1 : List S65) : Option Bool :=
  match floor_Scene_check.f a0_0 a0_1 a0_2 a0_3 l0_4 with
  | none => none
  | some r => if r ≠ 0 ∨ l1.length ≠ l0_4.length then some false else some (runTo a0_1 a0_2 a0_3 a0_0 l0_4 l1 l0_4.length).isSome
set_option maxRecDepth 100000 in
set_option maxHeartbeats 4000000 in
theorem floor_ProveTelling.calls (a0_0 a0_1 a0_2 a0_3 : Int) (A0_4 : Option Addr) (c0_4 : Nat) (l0_4 : List S52) (A1 : Option Addr) (c1 : Nat) (l1 : List S65) (r : Bool) (w : World) (hr0_4 : Kd.C k52 w A0_4 l0_4.length l0_4) (hc0_4 : l0_4.length ≤ c0_4) (hr1 : Kd.C k65 w A1 l1.length l1) (hc1 : l1.length ≤ c1)
    (h : floor_ProveTelling.f a0_0 a0_1 a0_2 a0_3 l0_4 l1 = some r) :
    Calls Try.prog 41 #[.agg #[.int .i64 a0_0, .int .i64 a0_1, .int .i64 a0_2, .int .i64 a0_3, .slice A0_4 l0_4.length c0_4], .slice A1 l1.length c1] w fun e w' => e = .returned (.bool r) ∧ Below w.heap.size w w' := by
  have hu := Try.underlying33
  have hu1 := Try.underlying109
  unfold floor_ProveTelling.f at h
  cases hck : floor_Scene_check.f a0_0 a0_1 a0_2 a0_3 l0_4 with
  | none => rw [hck] at h; cases h
  | some q =>
    rw [hck] at h
    simp only [] at h
    go_enter Try.func41, Try.ntmps41
    have HCK := Lib.hid hck
    have HH := Lib.hid h
    have HR' := Lib.hid hr0_4
    have HR1' := Lib.hid hr1
    clear hck h hr0_4 hr1
    go_wp2
    go_step3
    have hb0 : Below w.heap.size w (w.alloc (.cells #[.int .i64 a0_0, .int .i64 a0_1, .int .i64 a0_2, .int .i64 a0_3, .slice A0_4 l0_4.length c0_4] 33)) := (Below.refl _ w).alloc (Nat.le_refl _) _
    have hs0 : (w.alloc (.cells #[.int .i64 a0_0, .int .i64 a0_1, .int .i64 a0_2, .int .i64 a0_3, .slice A0_4 l0_4.length c0_4] 33)).heap.size = w.heap.size + 1 := by simp
    have hsc0 : (w.alloc (.cells #[.int .i64 a0_0, .int .i64 a0_1, .int .i64 a0_2, .int .i64 a0_3, .slice A0_4 l0_4.length c0_4] 33)).heap[w.heap.size]? = some (.cells #[.int .i64 a0_0, .int .i64 a0_1, .int .i64 a0_2, .int .i64 a0_3, .slice A0_4 l0_4.length c0_4] 33 (0, 0)) := heap_new rfl
    generalize w.alloc (.cells #[.int .i64 a0_0, .int .i64 a0_1, .int .i64 a0_2, .int .i64 a0_3, .slice A0_4 l0_4.length c0_4] 33) = W0 at hb0 hs0 hsc0 ⊢
    have HB0 := Lib.hid hb0
    have HS0 := Lib.hid hs0
    have HSC0 := Lib.hid hsc0
    have e0 := cell_of hsc0 (i := 0) rfl
    have e1 := cell_of hsc0 (i := 1) rfl
    have e2 := cell_of hsc0 (i := 2) rfl
    have e3 := cell_of hsc0 (i := 3) rfl
    have e4 := cell_of hsc0 (i := 4) rfl
    simp only [List.getElem_toArray, List.getElem_cons_zero, List.getElem_cons_succ] at e0 e1 e2 e3 e4
    clear hb0 hs0 hsc0
    have hR0 := Kd.C_below HR'.out HB0.out
    by_cases hq : q = 0
    · subst hq
      by_cases hlen : l1.length = l0_4.length
      · obtain ⟨hl, ⟨n, hn0, hn1, hn⟩, _⟩ := check_ok HCK.out
        subst hn0
        have h' := HH.out
        rw [if_neg (by simp [hlen])] at h'
        have HH' := Lib.hid (Option.some.inj h')
        have hq2 : ((0 : Int) != 0) = false := rfl
        have hln : ((l1.length : Int) != (l0_4.length : Int)) = false := by simp [hlen]
        clear h' HH
        go_wp2_with (go_at_call 54; refine (floor_Scene_check.calls n a0_1 a0_2 a0_3 A0_4 c0_4 l0_4 0 _ hR0 hc0_4 HCK.out).mono ?_; rintro e W1 ⟨rfl, hb1⟩; have e4' := (hb1.cell (p := ⟨w.heap.size, 4, none⟩) (by have := HS0.out; show w.heap.size < W0.heap.size; omega)).trans e4; have HB1 := Lib.hid hb1; clear hb1)
        refine (begin.calls _).mono ?_
        rintro e W2 ⟨rfl, rfl⟩
        go_wp2
        go_step3
        go_wp2
        have hbz : Below W1.heap.size W1 ((W1.alloc (.cells #[.int .i64 (-2), .int .i64 0, .int .i64 0, .bool false] 109)).alloc (.cells #[.int .i64 (-2), .int .i64 0, .int .i64 0, .bool false] 109)) := ((Below.refl _ W1).alloc (Nat.le_refl _) _).alloc (by simp) _
        have hat : ((W1.alloc (.cells #[.int .i64 (-2), .int .i64 0, .int .i64 0, .bool false] 109)).alloc (.cells #[.int .i64 (-2), .int .i64 0, .int .i64 0, .bool false] 109)).heap[W1.heap.size + 1]? = some (.cells #[.int .i64 (-2), .int .i64 0, .int .i64 0, .bool false] 109 (0, 0)) := heap_new (by simp)
        generalize (W1.alloc (.cells #[.int .i64 (-2), .int .i64 0, .int .i64 0, .bool false] 109)).alloc (.cells #[.int .i64 (-2), .int .i64 0, .int .i64 0, .bool false] 109) = Wz at hbz hat ⊢
        have hz1 := HB1.out.size
        have hz0 := HS0.out
        have hsc : Wz.heap[w.heap.size]? = _ := (((HB1.out.trans (hbz.mono hz1)).block w.heap.size (by omega))).trans HSC0.out
        have hbw : Below w.heap.size w Wz := (HB0.out.trans (HB1.out.mono (by omega))).trans (hbz.mono (by omega))
        have kat : w.heap.size < W1.heap.size + 1 := by omega
        have HSC := Lib.hid hsc
        have HBW := Lib.hid hbw
        have HAT := Lib.hid hat
        have KAT := Lib.hid kat
        generalize W1.heap.size + 1 = atc at HAT KAT ⊢
        clear hbz hat hz1 hz0 hsc hbw kat e0 e1 e2 e3 e4 e4'
        have hmx : Try.prog.follows .mixedOrders = true := by kernel_rfl
        go_loopg [6, 26] l0_4.length (fun kq v6 v26 w' => v6 = .bool true ∧ ∃ (k : Nat) (x : St), v26 = .int .i64 k ∧ Hid (kq + k = l0_4.length) ∧ Hid (runTo a0_1 a0_2 a0_3 n l0_4 l1 k = some x) ∧ Hid (Fr (fun k => k = atc) Wz w') ∧ Hid (w'.heap[atc]? = some (.cells #[.int .i64 x.holder, .int .i64 x.turn, .int .i64 x.short, .bool x.own] 109 (0, 0))))
        case atStart => exact ⟨rfl, 0, beginSt, rfl, Lib.hid (by omega), Lib.hid rfl, Lib.hid (Fr.refl _ _), Lib.hid HAT.out⟩
        case round =>
          obtain ⟨rfl, k, x, rfl, HK, HX, HF, HA⟩ := hrel
          have hkq := HK.out
          cases gk with
          | zero =>
            obtain rfl : k = l0_4.length := by omega
            have hx := HX.out
            have hF := HF.out
            clear hkq HK
            go_wp2
            rw [Exit.noGoto_ret]
            go_ret
            have hh := HH'.out
            rw [hx] at hh
            exact ⟨by rw [← hh]; rfl, HBW.out.trans (hF.below (n := w.heap.size) (by have := HBW.out.size; omega) (fun j hj e => by have := KAT.out; omega))⟩
          | succ k1 =>
            have hlt : k < l0_4.length := by omega
            have hlt1 : k < l1.length := by omega
            have hF := HF.out
            have hA := HA.out
            have hbwr : Below w.heap.size w wr := HBW.out.trans (hF.below (n := w.heap.size) (by have := HBW.out.size; omega) (fun j hj e => by have := KAT.out; omega))
            obtain ⟨ad, hadA, m0, m1⟩ := at_T52 HR'.out k (by omega) (by omega)
            obtain ⟨ad1, hadA1, p0, p1⟩ := at_T65 HR1'.out k (by omega) (by omega)
            have hrd : rd_T52 l0_4 (k : Int) = l0_4[k] := by simp [rd_T52, List.getD, hlt]
            have hrd1 : rd_T65 l1 (k : Int) = l1[k] := by simp [rd_T65, List.getD, hlt1]
            rw [hrd, Int.toNat_natCast] at m0 m1
            rw [hrd1, Int.toNat_natCast] at p0 p1
            obtain ⟨⟨mf, mh⟩, hm⟩ : ∃ m, l0_4[k] = m := ⟨_, rfl⟩
            obtain ⟨⟨ph, pv⟩, hp⟩ : ∃ p, l1[k] = p := ⟨_, rfl⟩
            rw [hm] at m0 m1
            rw [hp] at p0 p1
            simp only [] at m0 m1 p0 p1
            replace m0 := (hbwr.cell (World.block_lt_of_cell? w _ m0)).trans m0
            replace m1 := (hbwr.cell (World.block_lt_of_cell? w _ m1)).trans m1
            replace p0 := (hbwr.cell (World.block_lt_of_cell? w _ p0)).trans p0
            replace p1 := (hbwr.cell (World.block_lt_of_cell? w _ p1)).trans p1
            have hsm : Small x k := runTo_small hn k x HX.out
            have hscr : wr.heap[w.heap.size]? = _ := (hF.same _ (Array.getElem?_eq_some_iff.1 HSC.out).1 (fun e => by have : w.heap.size = atc := e; have := KAT.out; omega)).trans HSC.out
            have e0 := cell_of hscr (i := 0) rfl
            have e1 := cell_of hscr (i := 1) rfl
            have e2 := cell_of hscr (i := 2) rfl
            have e3 := cell_of hscr (i := 3) rfl
            have e4 := cell_of hscr (i := 4) rfl
            have x0 := cell_of hA (i := 0) rfl
            have x1 := cell_of hA (i := 1) rfl
            have x2 := cell_of hA (i := 2) rfl
            have x3 := cell_of hA (i := 3) rfl
            simp only [List.getElem_toArray, List.getElem_cons_zero, List.getElem_cons_succ] at e0 e1 e2 e3 e4 x0 x1 x2 x3
            have kat := (Array.getElem?_eq_some_iff.1 hA).1
            have ksc := (Array.getElem?_eq_some_iff.1 hscr).1
            have kk : (k : Int) < l0_4.length := by omega
            have km := World.block_lt_of_cell? wr _ m0
            have HM := Lib.hid hm
            have HP := Lib.hid hp
            have HSCR := Lib.hid hscr
            have HBWR := Lib.hid hbwr
            have km1 : (ad.add (k * 2)).block < wr.heap.size + 1 := by omega
            have ka1 : atc < wr.heap.size + 1 := by omega
            have ks1 : w.heap.size < wr.heap.size + 1 := by omega
            have km2 : (ad.add (k * 2)).block < wr.heap.size + 1 + 1 := by omega
            have ka2 : atc < wr.heap.size + 1 + 1 := by omega
            have ks2 : w.heap.size < wr.heap.size + 1 + 1 := by omega
            subst hadA hadA1
            have HKQ := Lib.hid hkq
            clear hkq HK hm hp hrd hrd1 hscr hbwr hF hA
            go_wp2_with fail
            obtain ⟨Wa, hWa⟩ : ∃ Wa, (wr.alloc (.cells #[.int .i64 ph, .int .i64 pv] 65)).alloc (.cells #[.int .u16 mf, .int .u16 mh] 52) = Wa := ⟨_, rfl⟩
            have hba : Below wr.heap.size wr Wa := by rw [← hWa]; exact ((Below.refl _ wr).alloc (Nat.le_refl _) _).alloc (by simp) _
            have hsa : Wa.heap.size = wr.heap.size + 2 := by rw [← hWa]; simp
            have hpc : Wa.heap[wr.heap.size]? = some (.cells #[.int .i64 ph, .int .i64 pv] 65 (0, 0)) := by rw [← hWa]; exact heap_old (heap_new rfl)
            have hmc : Wa.heap[wr.heap.size + 1]? = some (.cells #[.int .u16 mf, .int .u16 mh] 52 (0, 0)) := by rw [← hWa]; exact heap_new (by simp)
            rw [hWa]
            clear hWa
            refine (step.calls n a0_1 a0_2 a0_3 _ x ph pv Wa hsm.t1 (by have := hsm.t2; omega) hsm.s1 (by have := hsm.s2; omega)).mono ?_
            rintro e W5 ⟨rfl, hb5⟩
            obtain ⟨⟨y, oky⟩, hy⟩ : ∃ y, stepF a0_1 a0_2 a0_3 x ph pv = y := ⟨_, rfl⟩
            rw [hy]
            simp only [encSt]
            have hz5 := hb5.size
            have hz5' : wr.heap.size + 2 ≤ W5.heap.size := by omega
            have q5p := (hb5.block _ (by omega)).trans hpc
            have q5m := (hb5.block _ (by omega)).trans hmc
            have h5r : Below wr.heap.size wr W5 := hba.trans (hb5.mono (by omega))
            have q5s := (h5r.block _ ksc).trans HSCR.out
            have H5R := Lib.hid h5r
            have HY := Lib.hid hy
            have Q5P := Lib.hid q5p
            have Q5M := Lib.hid q5m
            have Q5S := Lib.hid q5s
            clear hba hpc hmc hb5 hy q5p q5m h5r q5s hsa e0 e1 e2 e3 e4 x0 x1 x2 x3 m0 m1 p0 p1
            go_wp2_with fail
            obtain ⟨W6, hW6⟩ : ∃ W6, W5.alloc (.cells #[.int .i64 y.holder, .int .i64 y.turn, .int .i64 y.short, .bool y.own] 109) = W6 := ⟨_, rfl⟩
            have hb6 : Below W5.heap.size W5 W6 := by rw [← hW6]; exact (Below.refl _ _).alloc (Nat.le_refl _) _
            have q6y : W6.heap[W5.heap.size]? = some (.cells #[.int .i64 y.holder, .int .i64 y.turn, .int .i64 y.short, .bool y.own] 109 (0, 0)) := by rw [← hW6]; exact heap_new rfl
            rw [hW6]
            have q6p := (hb6.block _ (by omega)).trans Q5P.out
            have q6m := (hb6.block _ (by omega)).trans Q5M.out
            have q6s := (hb6.block _ (by omega)).trans Q5S.out
            have f0 := cell_of q6p (i := 0) rfl
            have f1 := cell_of q6p (i := 1) rfl
            have g0 := cell_of q6m (i := 0) rfl
            have g1 := cell_of q6m (i := 1) rfl
            have e0 := cell_of q6s (i := 0) rfl
            have y0 := cell_of q6y (i := 0) rfl
            have y1 := cell_of q6y (i := 1) rfl
            have y2 := cell_of q6y (i := 2) rfl
            have y3 := cell_of q6y (i := 3) rfl
            simp only [List.getElem_toArray, List.getElem_cons_zero, List.getElem_cons_succ] at f0 f1 g0 g1 e0 y0 y1 y2 y3
            have hwr : IntKind.i64.wrap ((n : Int) - 1) = (n : Int) - 1 := by simp [IntKind.wrap, IntKind.bits, IntKind.signed]; omega
            have HB6 := Lib.hid hb6
            have HZ5 := Lib.hid hz5'
            have Q6Y := Lib.hid q6y
            clear hW6 hb6 q6y q6p q6m q6s hz5 hz5'
            have fin : partOk a0_1 a0_2 a0_3 n ⟨mf, mh⟩ x ⟨ph, pv⟩ = false → Ending.returned (.bool false) = .returned (.bool r) := fun hb => by
              have hnone : runTo a0_1 a0_2 a0_3 n l0_4 l1 (k + 1) = none := by
                simp only [runTo, HX.out, List.getElem?_eq_getElem hlt, List.getElem?_eq_getElem hlt1, HM.out, HP.out]
                rw [if_neg (by rw [hb]; simp)]
              have := runTo_none hnone (l0_4.length - (k + 1))
              rw [show k + 1 + (l0_4.length - (k + 1)) = l0_4.length by omega] at this
              have hh := HH'.out
              rw [this] at hh
              rw [← hh]; rfl
            have bel : ∀ W7 : World, Below W6.heap.size W6 W7 → Below w.heap.size w W7 := fun W7 hb => by
              have h1 := H5R.out
              have h2 := HBWR.out
              have h3 := HB6.out
              have z1 := h1.size
              have z2 := h2.size
              have z3 := h3.size
              exact ((h2.trans (h1.mono z2)).trans (h3.mono (by omega))).trans (hb.mono (by omega))
            have hsy : stepF a0_1 a0_2 a0_3 x ph pv = (y, oky) := HY.out
            have HFIN := Lib.hid fin
            have HBEL := Lib.hid bel
            have HSY := Lib.hid hsy
            clear fin bel hsy
            cases h1 : win ph (-1) ((n : Int) - 1) with
            | false =>
              go_quiet ((first | (go_at_call 55; exact Calls.quiet_of_same ((within.calls _ _ _ _ _ rfl).mono (fun e w' h => ⟨h.1, h.2.symm⟩))) | (go_at_call 52; exact Calls.quiet_of_same ((bit.calls _ _ (by omega) (by omega)).mono (fun e w' h => ⟨h.1, h.2.symm⟩)))))
              go_wp2
              rw [Exit.noGoto_ret]
              go_ret
              exact ⟨HFIN.out (by simp [partOk, h1]), HBEL.out _ (below_drewN' _ _)⟩
            | true =>
              cases h2 : win pv (-1) ((n : Int) - 1) with
              | false =>
                go_quiet ((first | (go_at_call 55; exact Calls.quiet_of_same ((within.calls _ _ _ _ _ rfl).mono (fun e w' h => ⟨h.1, h.2.symm⟩))) | (go_at_call 52; exact Calls.quiet_of_same ((bit.calls _ _ (by omega) (by omega)).mono (fun e w' h => ⟨h.1, h.2.symm⟩)))))
                go_wp2
                rw [Exit.noGoto_ret]
                go_ret
                exact ⟨HFIN.out (by simp [partOk, h2]), HBEL.out _ (below_drewN' _ _)⟩
              | true =>
                have hw1 : -1 ≤ ph ∧ ph ≤ (n : Int) - 1 := by simpa [win] using h1
                have hw2 : -1 ≤ pv ∧ pv ≤ (n : Int) - 1 := by simpa [win] using h2
                obtain ⟨hw11, hw12⟩ := hw1
                obtain ⟨hw21, hw22⟩ := hw2
                cases oky with
                | false =>
                  go_quiet ((first | (go_at_call 55; exact Calls.quiet_of_same ((within.calls _ _ _ _ _ rfl).mono (fun e w' h => ⟨h.1, h.2.symm⟩))) | (go_at_call 52; exact Calls.quiet_of_same ((bit.calls _ _ (by omega) (by omega)).mono (fun e w' h => ⟨h.1, h.2.symm⟩)))))
                  go_wp2
                  rw [Exit.noGoto_ret]
                  go_ret
                  exact ⟨HFIN.out (by simp [partOk, HSY.out]), HBEL.out _ (below_drewN' _ _)⟩
                | true =>
                  cases h4 : inSet mf ph with
                  | false =>
                    have h4' : (Go.bits .and .u16 mf (bitOf ph) == 0) = true := by simpa [inSet] using h4
                    go_quiet ((first | (go_at_call 55; exact Calls.quiet_of_same ((within.calls _ _ _ _ _ rfl).mono (fun e w' h => ⟨h.1, h.2.symm⟩))) | (go_at_call 52; exact Calls.quiet_of_same ((bit.calls _ _ (by omega) (by omega)).mono (fun e w' h => ⟨h.1, h.2.symm⟩)))))
                    go_wp2
                    rw [Exit.noGoto_ret]
                    go_ret
                    exact ⟨HFIN.out (by simp [partOk, h4]), HBEL.out _ (below_drewN' _ _)⟩
                  | true =>
                    have h4' : (Go.bits .and .u16 mf (bitOf ph) == 0) = false := by simpa [inSet] using h4
                    cases h5 : inSet mh pv with
                    | false =>
                      have h5' : (Go.bits .and .u16 mh (bitOf pv) == 0) = true := by simpa [inSet] using h5
                      go_quiet ((first | (go_at_call 55; exact Calls.quiet_of_same ((within.calls _ _ _ _ _ rfl).mono (fun e w' h => ⟨h.1, h.2.symm⟩))) | (go_at_call 52; exact Calls.quiet_of_same ((bit.calls _ _ (by omega) (by omega)).mono (fun e w' h => ⟨h.1, h.2.symm⟩)))))
                      go_wp2
                      rw [Exit.noGoto_ret]
                      go_ret
                      exact ⟨HFIN.out (by simp [partOk, h5]), HBEL.out _ (below_drewN' _ _)⟩
                    | true =>
                      have h5' : (Go.bits .and .u16 mh (bitOf pv) == 0) = false := by simpa [inSet] using h5
                      go_quiet ((first | (go_at_call 55; exact Calls.quiet_of_same ((within.calls _ _ _ _ _ rfl).mono (fun e w' h => ⟨h.1, h.2.symm⟩))) | (go_at_call 52; exact Calls.quiet_of_same ((bit.calls _ _ (by omega) (by omega)).mono (fun e w' h => ⟨h.1, h.2.symm⟩)))))
                      have hz5 := HZ5.out
                      have h6r : Below wr.heap.size wr W6 := H5R.out.trans (HB6.out.mono (by have := H5R.out.size; omega))
                      have q6a := (h6r.block _ kat).trans HA.out
                      have x0 := cell_of q6a (i := 0) rfl
                      have x1 := cell_of q6a (i := 1) rfl
                      have x2 := cell_of q6a (i := 2) rfl
                      have x3 := cell_of q6a (i := 3) rfl
                      have z0 := not_frozen (i := 0) q6a
                      have z1 := not_frozen (i := 1) q6a
                      have z2 := not_frozen (i := 2) q6a
                      have z3 := not_frozen (i := 3) q6a
                      simp only [List.getElem_toArray, List.getElem_cons_zero, List.getElem_cons_succ] at x0 x1 x2 x3
                      have hwk : IntKind.i64.wrap ((k : Int) + 1) = (k : Int) + 1 := by simp [IntKind.wrap, IntKind.bits, IntKind.signed]; omega
                      have H6R := Lib.hid h6r
                      have Q6A := Lib.hid q6a
                      clear h6r q6a
                      go_wp2
                      go_roundg k1
                      case measure => omega
                      case rel =>
                        have h6r := H6R.out
                        have q6a : (W6.drewN nq).heap[atc]? = _ := Q6A.out
                        have r0 := heap_set q6a 0 (.int .i64 y.holder)
                        have r1 := heap_set r0 1 (.int .i64 y.turn)
                        have r2 := heap_set r1 2 (.int .i64 y.short)
                        have r3 := heap_set r2 3 (.bool y.own)
                        refine ⟨rfl, k + 1, y, by simp, Lib.hid (by have := HKQ.out; omega), Lib.hid ?_, Lib.hid ?_, Lib.hid (by simpa using r3)⟩
                        · simp only [runTo, HX.out, List.getElem?_eq_getElem hlt, List.getElem?_eq_getElem hlt1, HM.out, HP.out]
                          rw [if_pos (by simp [partOk, HSY.out, h1, h2, h4, h5]), HSY.out]
                        · exact (((((HF.out.trans (Fr.of_below h6r (fun j q1 q2 => by omega))).trans (Fr.drewN _ nq)).trans (Fr.setCell _ _ _ rfl)).trans (Fr.setCell _ _ _ rfl)).trans (Fr.setCell _ _ _ rfl)).trans (Fr.setCell _ _ _ rfl)
      · have h' := HH.out
        rw [if_pos (.inr hlen)] at h'
        obtain rfl := Option.some.inj h'
        clear h' HH
        have hq2 : ((0 : Int) != 0) = false := rfl
        go_wp2_with (go_at_call 54; refine (floor_Scene_check.calls a0_0 a0_1 a0_2 a0_3 A0_4 c0_4 l0_4 0 _ hR0 hc0_4 HCK.out).mono ?_; rintro e w' ⟨rfl, hb1⟩; have e4' := (hb1.cell (p := ⟨w.heap.size, 4, none⟩) (by have := HS0.out; show w.heap.size < W0.heap.size; omega)).trans e4; have HB1 := Lib.hid hb1; clear hb1)
        rw [Exit.noGoto_ret]
        go_ret
        exact ⟨rfl, HB0.out.trans (HB1.out.mono (by have := HS0.out; omega))⟩
    · have hq2 : (q != 0) = true := by simpa using hq
      have hq3 : (q == 0) = false := by simpa using hq
      have h' := HH.out
      rw [if_pos (.inl hq)] at h'
      obtain rfl := Option.some.inj h'
      clear h' HH
      go_wp2_with (go_at_call 54; refine (floor_Scene_check.calls a0_0 a0_1 a0_2 a0_3 A0_4 c0_4 l0_4 q _ hR0 hc0_4 HCK.out).mono ?_; rintro e w' ⟨rfl, hb1⟩)
      rw [Exit.noGoto_ret]
      go_ret
      exact ⟨rfl, HB0.out.trans (hb1.mono (by have := HS0.out; omega))⟩
end Go.Proofs.Ytdnjmhhjjbdieaa.Q
end
section
namespace Go.Proofs.Ytdnjmhhjjbdieaa.Q
open Go.RowKit Go.Proofs.YtdnjmhhjjbdieaaW.PrintWords
set_option linter.unusedVariables false
abbrev RP := S89
abbrev FP := S65
abbrev RM := S59
abbrev FM := S52
def po (p : RP) : FP := ⟨p.f0, p.f1⟩
def op (p : FP) : RP := ⟨p.f0, p.f1⟩
def pathB (least most short n : Int) : List FM → List RP → St → Bool
  | _, [], _ => true
  | [], _ :: _, _ => false
  | m :: l, p :: t, x => partOk least most short n m x (po p) && pathB least most short n l t (stepF least most short x p.f0 p.f1).1
theorem rd89 {l : List RP} {i : Nat} (h : i < l.length) : rd_T89 l (i : Int) = l[i] := by simp [rd_T89, List.getD, h]
end Go.Proofs.Ytdnjmhhjjbdieaa.Q
end
section
namespace Go.Proofs.YtdnjmhhjjbdieaaW.PrintWords
open Go.RowKit
namespace Kd
def tag {α : Type} (f : Nat → Nat) (d : Kd α) : Kd (α × Nat) where
  sz := d.sz
  E := d.E
  K := fun w x cs => d.K w x.1 cs
  M := fun w base ok x cs => d.M w base (fun k => ok k ∧ f k = x.2) x.1 cs
  K_len := fun h => d.K_len h
  K_one := fun h => d.K_one h
  K_below := fun hb h => d.K_below hb h
  K_of_M := fun h => d.K_of_M h
  M_mono := fun hok h => d.M_mono (fun k hk => ⟨hok k hk.1, hk.2⟩) h
  M_bound := fun h => d.M_mono (fun _ hk => ⟨⟨hk.1.1, hk.2⟩, hk.1.2⟩) (d.M_bound h)
  M_move := fun hm h => d.M_move (fun k hk => hm k hk.1) h
  M_lower := fun hb h => d.M_lower hb h
def raw (sz : Nat) : Kd (List Value) where
  sz := sz
  E := []
  K := fun _ x cs => cs = x ∧ cs.length = sz ∧ ∀ u ∈ cs, u.oneCell' = true
  M := fun _ _ _ x cs => cs = x ∧ cs.length = sz ∧ ∀ u ∈ cs, u.oneCell' = true
  K_len := fun h => h.2.1
  K_one := fun h => h.2.2
  K_below := fun _ h => h
  K_of_M := fun h => h
  M_mono := fun _ h => h
  M_bound := fun h => h
  M_move := fun _ h => h
  M_lower := fun _ h => h
def S {α : Type} (d : Kd α) (e : Nat) (w : World) (base : Nat) (ok : Nat → Prop) (v : Value) (xs : List α) : Prop := ∃ f, (tag f d).R e w base ok v xs.zipIdx
section
variable {α β : Type} {d : Kd α} {d' : Kd β} {e e' : Nat} {w w1 W : World} {base b : Nat} {ok ok' okv oku : Nat → Prop} {u v : Value} {xs : List α} {ys : List β}
theorem S_nil (d : Kd α) (e : Nat) (w : World) (base : Nat) (ok : Nat → Prop) : S d e w base ok (.slice none 0 0) [] := ⟨fun _ => 0, R_nil _ _ _ _ _⟩
end
def gap {α : Type} (f : Nat → Nat) (d : Kd α) (i : Nat) (c : List Value) : Kd (α × Nat) where
  sz := d.sz
  E := d.E
  K := fun w x cs => (x.2 = i → cs = c ∧ cs.length = d.sz ∧ ∀ u ∈ cs, u.oneCell' = true) ∧ (x.2 ≠ i → d.K w x.1 cs)
  M := fun w base ok x cs => (x.2 = i → cs = c ∧ cs.length = d.sz ∧ ∀ u ∈ cs, u.oneCell' = true) ∧ (x.2 ≠ i → d.M w base (fun k => ok k ∧ f k = x.2) x.1 cs)
  K_len := fun {w x cs} h => by
    by_cases hx : x.2 = i
    · exact (h.1 hx).2.1
    · exact d.K_len (h.2 hx)
  K_one := fun {w x cs} h => by
    by_cases hx : x.2 = i
    · exact (h.1 hx).2.2
    · exact d.K_one (h.2 hx)
  K_below := fun hb h => ⟨h.1, fun hx => d.K_below hb (h.2 hx)⟩
  K_of_M := fun h => ⟨h.1, fun hx => d.K_of_M (h.2 hx)⟩
  M_mono := fun hok h => ⟨h.1, fun hx => d.M_mono (fun k hk => ⟨hok k hk.1, hk.2⟩) (h.2 hx)⟩
  M_bound := fun h => ⟨h.1, fun hx => d.M_mono (fun _ hk => ⟨⟨hk.1.1, hk.2⟩, hk.1.2⟩) (d.M_bound (h.2 hx))⟩
  M_move := fun hm h => ⟨h.1, fun hx => d.M_move (fun k hk => hm k hk.1) (h.2 hx)⟩
  M_lower := fun hb h => ⟨h.1, fun hx => d.M_lower hb (h.2 hx)⟩
def H {α : Type} (d : Kd α) (e : Nat) (w : World) (base : Nat) (ok : Nat → Prop) (v : Value) (xs : List α) (i : Int) (oki : Nat → Prop) (c : List Value) : Prop :=
  (∀ k, oki k → ok k) ∧ ∃ f, (gap f d i.toNat c).R e w base (fun k => ok k ∧ ¬ oki k) v xs.zipIdx
end Kd
end Go.Proofs.YtdnjmhhjjbdieaaW.PrintWords
end
section
namespace Go.Proofs.YtdnjmhhjjbdieaaW.PrintWords
open Go.RowKit
def Foot (P : World → Prop) (W : World) (ok : Nat → Prop) : Prop := ∀ W' : World, (∀ k, ok k → k < W.heap.size → W'.heap[k]? = W.heap[k]?) → P W'
theorem heap_lt {W W1 : World} {k : Nat} (h : W1.heap[k]? = W.heap[k]?) (hlt : k < W.heap.size) : k < W1.heap.size := by
  rw [Array.getElem?_eq_getElem hlt] at h
  exact (Array.getElem?_eq_some_iff.1 h).1
namespace Foot
variable {P Q : World → Prop} {W W1 : World} {ok ok' : Nat → Prop}
theorem now (h : Foot P W ok) : P W := h W (fun _ _ _ => rfl)
theorem mono (h : Foot P W ok) (hok : ∀ k, ok k → ok' k) : Foot P W ok' := fun W' hW => h W' (fun k hk hlt => hW k (hok k hk) hlt)
theorem step (h : Foot P W ok) (hm : ∀ k, ok k → k < W.heap.size → W1.heap[k]? = W.heap[k]?) : Foot P W1 ok := fun W' hW => h W' (fun k hk hlt => (hW k hk (heap_lt (hm k hk hlt) hlt)).trans (hm k hk hlt))
theorem imp (h : Foot P W ok) (hi : ∀ W', P W' → Q W') : Foot Q W ok := fun W' hW => hi W' (h W' hW)
end Foot
namespace Kd
def F {α : Type} (d : Kd α) (W : World) (ok : Nat → Prop) (A : Option Addr) (n : Nat) (xs : List α) : Prop := Foot (fun W => d.C W A n xs) W ok
def FK {α : Type} (d : Kd α) (W : World) (ok : Nat → Prop) (x : α) (c : List Value) : Prop := Foot (fun W => d.K W x c) W ok
section
variable {α β : Type} {d : Kd α} {e base n n' cc g N : Nat} {ok ok' okp S : Nat → Prop} {w w0 w1 W W1 : World} {A A' : Option Addr} {u v v1 : Value} {xs : List α} {xs' : List β} {d' : Kd β} {x : α} {c : List Value}
theorem F_nil (d : Kd α) (W : World) (ok : Nat → Prop) : F d W ok none ([] : List α).length [] := fun W' _ => C_nil d W'
theorem FK_of_M (h : d.M W base ok x c) : FK d W ok x c := fun _ hW => d.K_of_M (M_step h hW)
end
end Kd
end Go.Proofs.YtdnjmhhjjbdieaaW.PrintWords
end
section
namespace Go.Proofs.YtdnjmhhjjbdieaaW.PrintWords
open Go.RowKit
namespace Kd
def chunks (sz : Nat) (n : Nat) (inner : List Value) : List (List Value) := (List.range n).map fun j => (inner.drop (j * sz)).take sz
theorem chunks_length (sz n : Nat) (inner : List Value) : (chunks sz n inner).length = n := by simp [chunks]
theorem chunks_at {sz n : Nat} {inner : List Value} {j : Nat} (hj : j < n) : (chunks sz n inner)[j]? = some ((inner.drop (j * sz)).take sz) := by simp [chunks, hj]
theorem chunks_get {sz n : Nat} {inner : List Value} {j : Nat} {c : List Value} (h : (chunks sz n inner)[j]? = some c) : c = (inner.drop (j * sz)).take sz := by
  have hj : j < n := by have := (List.getElem?_eq_some_iff.1 h).1; rwa [chunks_length] at this
  rw [chunks_at hj] at h
  injection h with h
  exact h.symm
theorem reps_raw {α : Type} {Rr : α → List Value → Prop} {sz : Nat} {xs : List α} {inner : List Value} (h : Reps Rr sz xs inner) (hR : ∀ x c, Rr x c → c.length = sz ∧ ∀ u ∈ c, u.oneCell' = true) : Reps (fun x cs => cs = x ∧ cs.length = sz ∧ ∀ u ∈ cs, u.oneCell' = true) sz (chunks sz xs.length inner) inner := by
  refine ⟨by rw [chunks_length]; exact h.1, fun j p hj => ?_⟩
  have hjl : j < xs.length := by have := (List.getElem?_eq_some_iff.1 hj).1; rwa [chunks_length] at this
  have hp := chunks_get hj
  exact ⟨hp.symm, hR _ _ (h.2 j _ (List.getElem?_eq_getElem hjl))⟩
section
variable {α : Type} {d : Kd α} {e base n cc g : Nat} {ok ok' okp S : Nat → Prop} {w w1 W W1 : World} {A : Option Addr} {u v v1 : Value} {xs : List α} {x : α} {c : List Value}
def N {α : Type} (d : Kd α) (e : Nat) (w : World) (base : Nat) (ok : Nat → Prop) (v : Value) (xs : List α) : Prop :=
  (∀ k, v.ownBlock = some k → ok k) ∧ ∃ rows : List (List Value), rows.length = xs.length ∧ (raw d.sz).R e w base (fun k => some k = v.ownBlock) v rows ∧ ∀ (j : Nat) (x : α) (c : List Value), xs[j]? = some x → rows[j]? = some c → FK d w (fun k => ok k ∧ some k ≠ v.ownBlock) x c
theorem R_N (h : d.R e w base ok v xs) : N d e w base ok v xs := by
  obtain ⟨h0, inner, ho, hr⟩ := h
  refine ⟨h0, chunks d.sz xs.length inner, chunks_length _ _ _, ⟨fun k hk => hk.symm, inner, by rw [chunks_length]; exact ho, reps_raw hr (fun x c hp => ⟨d.K_len (d.K_of_M hp), d.K_one (d.K_of_M hp)⟩)⟩, fun j x c hx hc => ?_⟩
  rw [chunks_get hc]
  exact FK_of_M (hr.2 j x hx)
theorem N_nil (d : Kd α) (e : Nat) (w : World) (base : Nat) (ok : Nat → Prop) : N d e w base ok (.slice none 0 0) [] := R_N (R_nil _ _ _ _ _)
end
end Kd
end Go.Proofs.YtdnjmhhjjbdieaaW.PrintWords
end
section
namespace Go.Proofs.YtdnjmhhjjbdieaaW.PrintWords
open Go.RowKit
section
variable {P : Program} {ops : Array Oper} {rest : List Oper} {o : Oper} {a : Act} {Q : Exit → Act → World → Prop} {W : World}
theorem gate_callee {f : FuncId} {asx : Array Operand} {ts : Array TypeId} (_ho : o.op = .call { callee := .value (.func f), args := asx, argTypes := ts }) (h : wpList P ops Q (o :: rest) a W) : wpList P ops Q (o :: rest) a W := h
end
def shl (k : IntKind) (x y : Int) : Int := k.wrap (x * 2 ^ min y.toNat k.bits)
theorem shl_small {k : IntKind} {x y j : Int} (h : shl k x y = j) (hy : y ≤ k.bits) : k.wrap (x * 2 ^ y.toNat) = j := by rw [← h]; unfold shl; rw [Nat.min_eq_left (by omega)]
end Go.Proofs.YtdnjmhhjjbdieaaW.PrintWords
namespace Go.Proofs.YtdnjmhhjjbdieaaW.PrintWords
open Go.RowKit
namespace Kd
def V {α : Type} (d : Kd α) (_e : Nat) (W : World) (_base : Nat) (ok : Nat → Prop) (v : Value) (xs : List α) : Prop := ∃ A c, v = .slice A xs.length c ∧ xs.length ≤ c ∧ F d W ok A xs.length xs
section
variable {α β : Type} {d : Kd α} {e base base' n m c g N' lo hi : Nat} {ok ok' S : Nat → Prop} {w W w1 : World} {A : Option Addr} {ad : Addr} {u v v1 : Value} {xs : List α}
theorem V_nil (d : Kd α) (e : Nat) (W : World) (base : Nat) (ok : Nat → Prop) : V d e W base ok (.slice none 0 0) [] := ⟨none, 0, rfl, Nat.le_refl _, F_nil d W ok⟩
end
end Kd
end Go.Proofs.YtdnjmhhjjbdieaaW.PrintWords
end
section
namespace Go.Proofs.YtdnjmhhjjbdieaaW.PrintWords
theorem Reps.one {α : Type} {R : α → List Value → Prop} {ps : List α} {cs : List Value} {p : α} {v : Value} (hp : R p [v]) (h : Reps R 1 ps cs) : Reps R 1 (p :: ps) (v :: cs) := by
  refine ⟨by simp [h.1], fun j q hq => ?_⟩
  cases j with
  | zero =>
    simp only [List.getElem?_cons_zero, Option.some.injEq] at hq
    subst hq
    simpa using hp
  | succ j =>
    simp only [List.getElem?_cons_succ] at hq
    have h1 := h.2 j q hq
    simpa [Nat.mul_one] using h1
theorem Reps.front {α : Type} {R : α → List Value → Prop} {size : Nat} {ps : List α} {cs c all : List Value} {p : α} (hp : R p c) (hc : c.length = size) (h : Reps R size ps cs) (ha : c ++ cs = all) : Reps R size (p :: ps) all := by
  subst ha
  refine ⟨by rw [List.length_append, hc, h.1, List.length_cons, Nat.succ_mul, Nat.add_comm], fun j q hq => ?_⟩
  cases j with
  | zero =>
    simp only [List.getElem?_cons_zero, Option.some.injEq] at hq
    subst hq
    rw [Nat.zero_mul, List.drop_zero, List.take_append_of_le_length (by omega), List.take_of_length_le (by omega)]
    exact hp
  | succ j =>
    simp only [List.getElem?_cons_succ] at hq
    have h1 := h.2 j q hq
    rw [Nat.succ_mul, List.drop_append, List.drop_of_length_le (by rw [hc]; exact Nat.le_add_left _ _), List.nil_append, hc, Nat.add_sub_cancel]
    exact h1
theorem Reps.c2 {α : Type} {R : α → List Value → Prop} {ps : List α} {cs : List Value} {p : α} {va vb : Value} (hp : R p [va, vb]) (h : Reps R 2 ps cs) : Reps R 2 (p :: ps) (va :: vb :: cs) := Reps.front hp rfl h rfl
theorem Reps.c3 {α : Type} {R : α → List Value → Prop} {ps : List α} {cs : List Value} {p : α} {va vb vc : Value} (hp : R p [va, vb, vc]) (h : Reps R 3 ps cs) : Reps R 3 (p :: ps) (va :: vb :: vc :: cs) := Reps.front hp rfl h rfl
theorem Reps.c4 {α : Type} {R : α → List Value → Prop} {ps : List α} {cs : List Value} {p : α} {va vb vc vd : Value} (hp : R p [va, vb, vc, vd]) (h : Reps R 4 ps cs) : Reps R 4 (p :: ps) (va :: vb :: vc :: vd :: cs) := Reps.front hp rfl h rfl
theorem Reps.c5 {α : Type} {R : α → List Value → Prop} {ps : List α} {cs : List Value} {p : α} {va vb vc vd ve : Value} (hp : R p [va, vb, vc, vd, ve]) (h : Reps R 5 ps cs) : Reps R 5 (p :: ps) (va :: vb :: vc :: vd :: ve :: cs) := Reps.front hp rfl h rfl
theorem Reps.c6 {α : Type} {R : α → List Value → Prop} {ps : List α} {cs : List Value} {p : α} {va vb vc vd ve vf : Value} (hp : R p [va, vb, vc, vd, ve, vf]) (h : Reps R 6 ps cs) : Reps R 6 (p :: ps) (va :: vb :: vc :: vd :: ve :: vf :: cs) := Reps.front hp rfl h rfl
theorem Reps.c7 {α : Type} {R : α → List Value → Prop} {ps : List α} {cs : List Value} {p : α} {va vb vc vd ve vf vg : Value} (hp : R p [va, vb, vc, vd, ve, vf, vg]) (h : Reps R 7 ps cs) : Reps R 7 (p :: ps) (va :: vb :: vc :: vd :: ve :: vf :: vg :: cs) := Reps.front hp rfl h rfl
theorem Reps.c8 {α : Type} {R : α → List Value → Prop} {ps : List α} {cs : List Value} {p : α} {va vb vc vd ve vf vg vh : Value} (hp : R p [va, vb, vc, vd, ve, vf, vg, vh]) (h : Reps R 8 ps cs) : Reps R 8 (p :: ps) (va :: vb :: vc :: vd :: ve :: vf :: vg :: vh :: cs) := Reps.front hp rfl h rfl
theorem Reps.c9 {α : Type} {R : α → List Value → Prop} {ps : List α} {cs : List Value} {p : α} {va vb vc vd ve vf vg vh vi : Value} (hp : R p [va, vb, vc, vd, ve, vf, vg, vh, vi]) (h : Reps R 9 ps cs) : Reps R 9 (p :: ps) (va :: vb :: vc :: vd :: ve :: vf :: vg :: vh :: vi :: cs) := Reps.front hp rfl h rfl
theorem Reps.c10 {α : Type} {R : α → List Value → Prop} {ps : List α} {cs : List Value} {p : α} {va vb vc vd ve vf vg vh vi vj : Value} (hp : R p [va, vb, vc, vd, ve, vf, vg, vh, vi, vj]) (h : Reps R 10 ps cs) : Reps R 10 (p :: ps) (va :: vb :: vc :: vd :: ve :: vf :: vg :: vh :: vi :: vj :: cs) := Reps.front hp rfl h rfl
end Go.Proofs.YtdnjmhhjjbdieaaW.PrintWords
end
section
namespace Go.Proofs.Ytdnjmhhjjbdieaa.Q
open Go.RowKit Go.Proofs.YtdnjmhhjjbdieaaW.PrintWords
set_option linter.unusedVariables false
def runS (least most short : Int) (x : St) (t : List RP) : St := t.foldl (fun x p => (stepF least most short x p.f0 p.f1).1) x
theorem pathB_append (least most short n : Int) : ∀ (t : List RP) (l : List FM) (u : List RP) (x : St), pathB least most short n l (t ++ u) x = (pathB least most short n l t x && pathB least most short n (l.drop t.length) u (runS least most short x t))
  | [], l, u, x => by
    have : pathB least most short n l [] x = true := by cases l <;> rfl
    simp [this, runS]
  | p :: t, [], u, x => by simp [pathB]
  | p :: t, m :: l, u, x => by
    simp only [List.cons_append, pathB, List.length_cons, List.drop_succ_cons]
    rw [pathB_append least most short n t l u _, Bool.and_assoc]
    rfl
theorem pathB_nil (least most short n : Int) (l : List FM) (x : St) : pathB least most short n l [] x = true := by cases l <;> rfl
theorem runS_append (least most short : Int) (x : St) (t u : List RP) : runS least most short x (t ++ u) = runS least most short (runS least most short x t) u := by simp [runS]
theorem partOk_iff {least most short : Int} {n : Nat} {m : FM} {x : St} {p : FP} : partOk least most short n m x p = true ↔ ∃ y, ((p.f0, p.f1), y) ∈ partsOf least most short x m.f0 m.f1 n ∧ y = (stepF least most short x p.f0 p.f1).1 := by
  simp only [partOk, win, Bool.and_eq_true, decide_eq_true_eq, mem_partsOf, mem_upTo]
  constructor
  · rintro ⟨⟨⟨⟨⟨h1, h2⟩, h3, h4⟩, h5⟩, h6⟩, h7⟩
    exact ⟨_, ⟨⟨h1, by omega, h6⟩, ⟨h3, by omega, h7⟩, Prod.ext rfl h5⟩, rfl⟩
  · rintro ⟨y, ⟨⟨h1, h2, h6⟩, ⟨h3, h4, h7⟩, h5⟩, rfl⟩
    exact ⟨⟨⟨⟨⟨h1, by omega⟩, h3, by omega⟩, by rw [h5]⟩, h6⟩, h7⟩
theorem fwd_path {least most short : Int} {n : Nat} {l : List FM} : ∀ (j : Nat) (y : St), fwd least most short n l j y ↔ ∃ t : List RP, t.length = j ∧ pathB least most short n l t beginSt = true ∧ runS least most short beginSt t = y
  | 0, y => by
    constructor
    · intro h
      obtain rfl : y = beginSt := h
      exact ⟨[], rfl, pathB_nil _ _ _ _ _ _, rfl⟩
    · rintro ⟨t, h1, _, h3⟩
      obtain rfl := List.length_eq_zero_iff.1 h1
      exact h3.symm
  | j + 1, y => by
    cases hm : l[j]? with
    | none =>
      simp only [fwd, hm, false_iff]
      rintro ⟨t, h1, h2, _⟩
      have hj : l.length ≤ j := List.getElem?_eq_none_iff.1 hm
      obtain ⟨t', p, rfl⟩ : ∃ t' p, t = t' ++ [p] := ⟨t.dropLast, t.getLast (by intro e; simp [e] at h1), (List.dropLast_concat_getLast _).symm⟩
      rw [pathB_append, Bool.and_eq_true] at h2
      simp at h1
      rw [List.drop_eq_nil_of_le (by omega)] at h2
      exact absurd h2.2 (by simp [pathB])
    | some m =>
      simp only [fwd, hm]
      unfold nexts
      constructor
      · rintro ⟨x, hx, p, hp, rfl⟩
        obtain ⟨t, h1, h2, h3⟩ := (fwd_path j x).1 hx
        obtain ⟨hj, hmj⟩ := List.getElem?_eq_some_iff.1 hm
        have hst := (mem_partsOf.1 hp).2.2
        have hok : partOk least most short n m x ⟨p.1.1, p.1.2⟩ = true := partOk_iff.2 ⟨p.2, hp, by simp only [hst]⟩
        refine ⟨t ++ [⟨p.1.1, p.1.2⟩], by simp [h1], ?_, ?_⟩
        · rw [pathB_append, h2, h1, List.drop_eq_getElem_cons hj, hmj, h3, Bool.true_and]
          simp only [pathB, po, hok, pathB_nil, Bool.and_self]
        · rw [runS_append, h3]
          simp only [runS, List.foldl_cons, List.foldl_nil, hst]
      · rintro ⟨t, h1, h2, h3⟩
        obtain ⟨hj, hmj⟩ := List.getElem?_eq_some_iff.1 hm
        obtain ⟨t', p, rfl⟩ : ∃ t' p, t = t' ++ [p] := ⟨t.dropLast, t.getLast (by intro e; simp [e] at h1), (List.dropLast_concat_getLast _).symm⟩
        have h1' : t'.length = j := by simpa using h1
        rw [pathB_append, Bool.and_eq_true, h1', List.drop_eq_getElem_cons hj, hmj] at h2
        obtain ⟨h2a, h2b⟩ := h2
        simp only [pathB, Bool.and_eq_true] at h2b
        obtain ⟨z, hz, hze⟩ := partOk_iff.1 h2b.1
        refine ⟨runS least most short beginSt t', (fwd_path j _).2 ⟨t', h1', h2a, rfl⟩, _, hz, ?_⟩
        rw [← h3, runS_append, hze]
        rfl
theorem tellable_path {least most short : Int} {n : Nat} : ∀ (l : List FM) (x : St), tellable least most short n l x ↔ ∃ u : List RP, u.length = l.length ∧ pathB least most short n l u x = true
  | [], x => by
    simp only [tellable, true_iff]
    exact ⟨[], rfl, rfl⟩
  | m :: l, x => by
    simp only [tellable]
    constructor
    · rintro ⟨p, hp, ht⟩
      obtain ⟨u, h1, h2⟩ := (tellable_path l p.2).1 ht
      have hst := (mem_partsOf.1 hp).2.2
      have hok : partOk least most short n m x ⟨p.1.1, p.1.2⟩ = true := partOk_iff.2 ⟨p.2, hp, by simp only [hst]⟩
      exact ⟨⟨p.1.1, p.1.2⟩ :: u, by simp [h1], by simp only [pathB, po, hok, hst, h2, Bool.and_self]⟩
    · rintro ⟨u, h1, h2⟩
      cases u with
      | nil => simp at h1
      | cons p u =>
        simp only [pathB, Bool.and_eq_true] at h2
        obtain ⟨z, hz, hze⟩ := partOk_iff.1 h2.1
        refine ⟨_, hz, (tellable_path l z).2 ⟨u, by simpa using h1, ?_⟩⟩
        rw [hze]; exact h2.2
def Told (least most short n : Int) (l : List FM) (s : List RP) : Prop := s.length = l.length ∧ pathB least most short n l s beginSt = true
theorem mem_good_told {least most short : Int} {n : Nat} {l : List FM} {j : Nat} (hj : j < l.length) {q : Int × Int} : q ∈ goodParts least most short n l j l[j] ↔ ∃ s, Told least most short n l s ∧ s[j]? = some ⟨q.1, q.2⟩ := by
  rw [mem_goodParts]
  constructor
  · rintro ⟨x, ⟨hx, _⟩, p, hp, ⟨_, hT⟩, rfl⟩
    obtain ⟨t, h1, h2, h3⟩ := (fwd_path j x).1 hx
    obtain ⟨u, h4, h5⟩ := (tellable_path _ _).1 (hT (Nat.zero_le _))
    have hst := (mem_partsOf.1 hp).2.2
    have hok : partOk least most short n l[j] x ⟨p.1.1, p.1.2⟩ = true := partOk_iff.2 ⟨p.2, hp, by simp only [hst]⟩
    refine ⟨t ++ (⟨p.1.1, p.1.2⟩ :: u), ⟨?_, ?_⟩, ?_⟩
    · simp only [List.length_append, List.length_cons, List.length_drop] at h4 ⊢; omega
    · rw [pathB_append, h2, h1, List.drop_eq_getElem_cons hj, h3, Bool.true_and]
      simp only [pathB, po, hok, hst, h5, Bool.and_self]
    · rw [List.getElem?_append_right (by omega), h1, Nat.sub_self]; rfl
  · rintro ⟨s, ⟨h1, h2⟩, h3⟩
    obtain ⟨hjs, hs⟩ := List.getElem?_eq_some_iff.1 h3
    have hsplit : s = s.take j ++ (⟨q.1, q.2⟩ :: s.drop (j + 1)) := by
      rw [← hs, List.getElem_cons_drop, List.take_append_drop]
    have hlt : (s.take j).length = j := by rw [List.length_take]; omega
    rw [hsplit, pathB_append, Bool.and_eq_true, hlt, List.drop_eq_getElem_cons hj] at h2
    obtain ⟨h2a, h2b⟩ := h2
    simp only [pathB, Bool.and_eq_true] at h2b
    obtain ⟨z, hz, hze⟩ := partOk_iff.1 h2b.1
    have hfx : fwd least most short n l j (runS least most short beginSt (s.take j)) := (fwd_path j _).2 ⟨_, hlt, h2a, rfl⟩
    have htz : tellable least most short n (l.drop (j + 1)) z := (tellable_path _ _).2 ⟨s.drop (j + 1), by simp only [List.length_drop]; omega, by rw [hze]; exact h2b.2⟩
    refine ⟨_, ⟨hfx, fun _ => ?_⟩, _, hz, ⟨?_, fun _ => htz⟩, rfl⟩
    · rw [List.drop_eq_getElem_cons hj]; exact ⟨_, hz, htz⟩
    · simp only [fwd, List.getElem?_eq_getElem hj]; exact ⟨_, hfx, _, hz, rfl⟩
end Go.Proofs.Ytdnjmhhjjbdieaa.Q
end
section
namespace Go.Proofs.Ytdnjmhhjjbdieaa.Q
open Go.RowKit Go.Proofs.YtdnjmhhjjbdieaaW.PrintWords Go.Proofs.YtdnjmhhjjbdieaaW.PrintLast
set_option linter.unusedVariables false
set_option linter.unusedSimpArgs false
def palantypelaw02_Thin.f (a0_0 : Int) (a0_1 : Int) (a0_2 : Int) (a0_3 : Int) (l0_4 : List (S59)) : Option (Bool) := some (decide ((l0_4.length : Int) ≤ 45))
set_option maxHeartbeats 8000000 in
set_option maxRecDepth 100000 in
theorem palantypelaw02_Thin.calls (a0_0 : Int) (a0_1 : Int) (a0_2 : Int) (a0_3 : Int) (A0_4 : Option Addr) (c0_4 : Nat) (l0_4 : List (S59)) (r : Bool) (w : World) (hr0_4 : Kd.C k59 w A0_4 l0_4.length l0_4) (hc0_4 : l0_4.length ≤ c0_4) (h : palantypelaw02_Thin.f a0_0 a0_1 a0_2 a0_3 l0_4 = some r) :
    Calls Try.prog 33 #[.agg #[.int .i64 a0_0, .int .i64 a0_1, .int .i64 a0_2, .int .i64 a0_3, .slice A0_4 l0_4.length c0_4]] w fun e w' => e = .returned (.bool r) ∧ Below w.heap.size w w' := by
  have hu24 := Try.underlying24
  have HR0_4 := Aside0.mk hr0_4
  have HC0_4 := Aside0.mk hc0_4
  clear hr0_4 hc0_4
  have HB := Aside0.mk (Below.refl w.heap.size w)
  have H : (some (decide ((l0_4.length : Int) ≤ 45))) = some r := h
  clear h
  obtain rfl := Option.some.inj H
  go_enter Try.func33, Try.ntmps33
  go_wp2_with (first | ((with_reducible refine gate_dst (N := 1) rfl ?_); refine box_event ?hg (N := 1) ?hd (cs := #[.int .i64 a0_0, .int .i64 a0_1, .int .i64 a0_2, .int .i64 a0_3, .slice A0_4 l0_4.length c0_4]) (t := 24) ?hr ?_; (case hd => rfl); (case hg => rfl); (case hr => first | (go_simp; done) | (go_simp; rfl)); intro gb112 hg w2 hbox hb; have n0_ := Aside0.mk (below_step (by repeat (first | (with_reducible first | exact HB.out | apply below_alloc | apply pw_below_drewN | apply below_drew1) | exact HB.out)) hb); have n1_ := Aside0.mk (hbox); have n2_ := Aside0.mk ((by rw [hg]; exact (below_size (by repeat (first | (with_reducible first | exact HB.out | apply below_alloc | apply pw_below_drewN | apply below_drew1) | exact HB.out))) : w.heap.size ≤ gb112)); have n3_ := Aside0.mk ((by rw [hg]; exact (below_size (by repeat (first | (with_reducible first | exact HB.out | apply below_alloc | apply pw_below_drewN | apply below_drew1) | exact HB.out))) : w.heap.size ≤ gb112)); clear HB; have HB := n0_; have BK112 := n1_; have GW112 := n2_; have GE112 := n3_; clear n0_ n1_ n2_ n3_; clear hb hbox hg; have hcz3_0 : w2.cell? ⟨gb112, 0, none⟩ = some (.int .i64 a0_0) := (blk_cell BK112.out 0).trans rfl; have hcz3_1 : w2.cell? ⟨gb112, 1, none⟩ = some (.int .i64 a0_1) := (blk_cell BK112.out 1).trans rfl; have hcz3_2 : w2.cell? ⟨gb112, 2, none⟩ = some (.int .i64 a0_2) := (blk_cell BK112.out 2).trans rfl; have hcz3_3 : w2.cell? ⟨gb112, 3, none⟩ = some (.int .i64 a0_3) := (blk_cell BK112.out 3).trans rfl; have hcz3_4 : w2.cell? ⟨gb112, 4, none⟩ = some (.slice A0_4 l0_4.length c0_4) := (blk_cell BK112.out 4).trans rfl; have hfz3_0 := blk_frozen BK112.out 0; have hfz3_1 := blk_frozen BK112.out 1; have hfz3_2 := blk_frozen BK112.out 2; have hfz3_3 := blk_frozen BK112.out 3; have hfz3_4 := blk_frozen BK112.out 4))
  go_ret
  exact ⟨by first | rfl | (simp [errW_none, errW_some] <;> rfl) | (simp [*, errW_none, errW_some] <;> rfl), by repeat (first | (with_reducible first | exact HB.out | apply below_alloc | apply pw_below_drewN | apply below_drew1 | refine below_set ?_ GE112.out) | exact HB.out)⟩
end Go.Proofs.Ytdnjmhhjjbdieaa.Q
end
section
namespace Go.Proofs.Ytdnjmhhjjbdieaa.Q
open Go.RowKit Go.Proofs.YtdnjmhhjjbdieaaW.PrintWords Go.Proofs.YtdnjmhhjjbdieaaW.PrintLast
set_option linter.unusedVariables false
set_option linter.unusedSimpArgs false
def palantypelaw02_ready.f (k : Nat) (a0_0 : Int) (a0_1 : Int) (a0_2 : Int) (a0_3 : Int) (l0_4 : List (S59)) : Option (Bool) := (palantypelaw02_Thin.f a0_0 a0_1 a0_2 a0_3 l0_4).bind fun t257 => (if t257 = true then ((palantyperef02_Fault.f k a0_0 a0_1 a0_2 a0_3 l0_4).bind fun t258 => (some (t258 == 0))) else (some false))
theorem palantypelaw02_ready.mono : ∀ a0 a1 a2 a3 a4 k, LeO (palantypelaw02_ready.f k a0 a1 a2 a3 a4) (palantypelaw02_ready.f (k + 1) a0 a1 a2 a3 a4) := by
  intro a0 a1 a2 a3 a4 k
  unfold palantypelaw02_ready.f
  repeat' first
      | (with_reducible exact palantyperef02_Fault.mono _ _ _ _ _ _)
      | (with_reducible exact LeO.refl _)
      | (with_reducible exact LeO.none _)
      | (with_reducible refine LeO.ite ?_ ?_)
      | (with_reducible refine LeO.bind ?_ (fun _ => ?_))
      | exact palantyperef02_Fault.mono _ _ _ _ _ _
      | exact LeO.none _
      | refine LeO.ite ?_ ?_
      | refine LeO.bind ?_ (fun _ => ?_)
set_option maxHeartbeats 8000000 in
set_option maxRecDepth 100000 in
theorem palantypelaw02_ready.calls (k : Nat) (a0_0 : Int) (a0_1 : Int) (a0_2 : Int) (a0_3 : Int) (A0_4 : Option Addr) (c0_4 : Nat) (l0_4 : List (S59)) (r : Bool) (w : World) (hr0_4 : Kd.C k59 w A0_4 l0_4.length l0_4) (hc0_4 : l0_4.length ≤ c0_4) (h : palantypelaw02_ready.f k a0_0 a0_1 a0_2 a0_3 l0_4 = some r) :
    Calls Try.prog 27 #[.agg #[.int .i64 a0_0, .int .i64 a0_1, .int .i64 a0_2, .int .i64 a0_3, .slice A0_4 l0_4.length c0_4]] w fun e w' => e = .returned (.bool r) ∧ Below w.heap.size w w' := by
  have hu24 := Try.underlying24
  have HR0_4 := Aside0.mk hr0_4
  have HC0_4 := Aside0.mk hc0_4
  clear hr0_4 hc0_4
  have HB := Aside0.mk (Below.refl w.heap.size w)
  have H : ((palantypelaw02_Thin.f a0_0 a0_1 a0_2 a0_3 l0_4).bind fun t257 => (if t257 = true then ((palantyperef02_Fault.f k a0_0 a0_1 a0_2 a0_3 l0_4).bind fun t258 => (some (t258 == 0))) else (some false))) = some r := h
  clear h
  replace H := Option.bind_eq_some_iff.mp H
  obtain ⟨t257, A20, H⟩ := H
  replace H : (if t257 = true then ((palantyperef02_Fault.f k a0_0 a0_1 a0_2 a0_3 l0_4).bind fun t258 => (some (t258 == 0))) else (some false)) = some r := H
  have A2 := Aside0.mk A20
  clear A20
  by_cases c3 : t257 = true
  · subst c3
    have H1 : ((palantyperef02_Fault.f k a0_0 a0_1 a0_2 a0_3 l0_4).bind fun t258 => (some (t258 == 0))) = some r := by rw [if_pos rfl] at H; exact H
    clear H
    have H := H1
    clear H1
    replace H := Option.bind_eq_some_iff.mp H
    obtain ⟨t258, A40, H⟩ := H
    replace H : (some (t258 == 0)) = some r := H
    have A4 := Aside0.mk A40
    clear A40
    obtain rfl := Option.some.inj H
    go_enter Try.func27, Try.ntmps27
    go_wp2_with (first | ((with_reducible refine gate_dst (N := 1) rfl ?_); refine box_event ?hg (N := 1) ?hd (cs := #[.int .i64 a0_0, .int .i64 a0_1, .int .i64 a0_2, .int .i64 a0_3, .slice A0_4 l0_4.length c0_4]) (t := 24) ?hr ?_; (case hd => rfl); (case hg => rfl); (case hr => first | (go_simp; done) | (go_simp; rfl)); intro gb256 hg w5 hbox hb; have n0_ := Aside0.mk (below_step (by repeat (first | (with_reducible first | exact HB.out | apply below_alloc | apply pw_below_drewN | apply below_drew1) | exact HB.out)) hb); have n1_ := Aside0.mk (hbox); have n2_ := Aside0.mk ((by rw [hg]; exact (below_size (by repeat (first | (with_reducible first | exact HB.out | apply below_alloc | apply pw_below_drewN | apply below_drew1) | exact HB.out))) : w.heap.size ≤ gb256)); have n3_ := Aside0.mk ((by rw [hg]; exact (below_size (by repeat (first | (with_reducible first | exact HB.out | apply below_alloc | apply pw_below_drewN | apply below_drew1) | exact HB.out))) : w.heap.size ≤ gb256)); clear HB; have HB := n0_; have BK256 := n1_; have GW256 := n2_; have GE256 := n3_; clear n0_ n1_ n2_ n3_; clear hb hbox hg; have hcz6_0 : w5.cell? ⟨gb256, 0, none⟩ = some (.int .i64 a0_0) := (blk_cell BK256.out 0).trans rfl; have hcz6_1 : w5.cell? ⟨gb256, 1, none⟩ = some (.int .i64 a0_1) := (blk_cell BK256.out 1).trans rfl; have hcz6_2 : w5.cell? ⟨gb256, 2, none⟩ = some (.int .i64 a0_2) := (blk_cell BK256.out 2).trans rfl; have hcz6_3 : w5.cell? ⟨gb256, 3, none⟩ = some (.int .i64 a0_3) := (blk_cell BK256.out 3).trans rfl; have hcz6_4 : w5.cell? ⟨gb256, 4, none⟩ = some (.slice A0_4 l0_4.length c0_4) := (blk_cell BK256.out 4).trans rfl; have hfz6_0 := blk_frozen BK256.out 0; have hfz6_1 := blk_frozen BK256.out 1; have hfz6_2 := blk_frozen BK256.out 2; have hfz6_3 := blk_frozen BK256.out 3; have hfz6_4 := blk_frozen BK256.out 4) | ((with_reducible refine gate_callee (f := 33) rfl ?_); refine goesL_ (some 4) rfl rfl Try.func33 (by kernel_rfl) rfl #[.agg #[.int .i64 a0_0, .int .i64 a0_1, .int .i64 a0_2, .int .i64 a0_3, .slice A0_4 l0_4.length c0_4]] rfl (by (try simp only [List.map_toArray, List.map_cons, List.map_nil]); first | done | rfl | (simp only [List.length_drop, List.length_take]; rfl)) ?_; (with_reducible refine (palantypelaw02_Thin.calls a0_0 a0_1 a0_2 a0_3 _ _ l0_4 true _ ?side1 ?side2 A2.out).mono ?_); (case side1 => repeat (first | exact (Kd.C_below HR0_4.out HB.out) | (with_reducible refine Kd.C_alloc ?_ _) | (with_reducible refine Kd.C_drewN ?_ _) | (with_reducible refine Kd.C_drew ?_))); (case side2 => exact HC0_4.out); rintro e w7 ⟨rfl, hb⟩; refine ⟨_, rfl, ?_⟩; have n0_ := Aside0.mk (blk_below (g := gb256) (o := .cells #[.int .i64 a0_0, .int .i64 a0_1, .int .i64 a0_2, .int .i64 a0_3, .slice A0_4 l0_4.length c0_4] 24 (0, 0)) (by (with_reducible repeat (first | refine blk_drewN ?_ _ | refine blk_drew ?_ | refine blk_alloc ?_ _)); exact BK256.out) hb); have n1_ := Aside0.mk (below_step (by repeat (first | (with_reducible first | exact HB.out | apply below_alloc | apply pw_below_drewN | apply below_drew1 | refine below_set ?_ GE256.out) | exact HB.out)) hb); clear BK256; clear HB; have BK256 := n0_; have HB := n1_; clear n0_ n1_; (try clear hb); (try clear hb2); (try clear hk); (try clear hi); have hcz8_0 : w7.cell? ⟨gb256, 0, none⟩ = some (.int .i64 a0_0) := (blk_cell BK256.out 0).trans rfl; have hcz8_1 : w7.cell? ⟨gb256, 1, none⟩ = some (.int .i64 a0_1) := (blk_cell BK256.out 1).trans rfl; have hcz8_2 : w7.cell? ⟨gb256, 2, none⟩ = some (.int .i64 a0_2) := (blk_cell BK256.out 2).trans rfl; have hcz8_3 : w7.cell? ⟨gb256, 3, none⟩ = some (.int .i64 a0_3) := (blk_cell BK256.out 3).trans rfl; have hcz8_4 : w7.cell? ⟨gb256, 4, none⟩ = some (.slice A0_4 l0_4.length c0_4) := (blk_cell BK256.out 4).trans rfl; have hfz8_0 := blk_frozen BK256.out 0; have hfz8_1 := blk_frozen BK256.out 1; have hfz8_2 := blk_frozen BK256.out 2; have hfz8_3 := blk_frozen BK256.out 3; have hfz8_4 := blk_frozen BK256.out 4) | (go_at_call 20; (with_reducible refine (palantyperef02_Fault.calls k a0_0 a0_1 a0_2 a0_3 _ _ l0_4 t258 _ ?side1 ?side2 A4.out).mono ?_); (case side1 => repeat (first | exact (Kd.C_below HR0_4.out HB.out) | (with_reducible refine Kd.C_alloc ?_ _) | (with_reducible refine Kd.C_drewN ?_ _) | (with_reducible refine Kd.C_drew ?_))); (case side2 => exact HC0_4.out); rintro e w9 ⟨rfl, hb⟩; have n0_ := Aside0.mk (blk_below (g := gb256) (o := .cells #[.int .i64 a0_0, .int .i64 a0_1, .int .i64 a0_2, .int .i64 a0_3, .slice A0_4 l0_4.length c0_4] 24 (0, 0)) (by (with_reducible repeat (first | refine blk_drewN ?_ _ | refine blk_drew ?_ | refine blk_alloc ?_ _)); exact BK256.out) hb); have n1_ := Aside0.mk (below_step (by repeat (first | (with_reducible first | exact HB.out | apply below_alloc | apply pw_below_drewN | apply below_drew1 | refine below_set ?_ GE256.out) | exact HB.out)) hb); clear BK256; clear HB; have BK256 := n0_; have HB := n1_; clear n0_ n1_; (try clear hb); (try clear hb2); (try clear hk); (try clear hi)))
    go_ret
    exact ⟨by first | rfl | (simp [errW_none, errW_some] <;> rfl) | (simp [*, errW_none, errW_some] <;> rfl), by repeat (first | (with_reducible first | exact HB.out | apply below_alloc | apply pw_below_drewN | apply below_drew1 | refine below_set ?_ GE256.out) | exact HB.out)⟩
  · replace c3 := Bool.eq_false_iff.mpr c3
    subst c3
    have H1 : (some false) = some r := by rw [if_neg (show ¬ (false = true) by decide)] at H; exact H
    clear H
    have H := H1
    clear H1
    obtain rfl := Option.some.inj H
    go_enter Try.func27, Try.ntmps27
    go_wp2_with (first | ((with_reducible refine gate_dst (N := 1) rfl ?_); refine box_event ?hg (N := 1) ?hd (cs := #[.int .i64 a0_0, .int .i64 a0_1, .int .i64 a0_2, .int .i64 a0_3, .slice A0_4 l0_4.length c0_4]) (t := 24) ?hr ?_; (case hd => rfl); (case hg => rfl); (case hr => first | (go_simp; done) | (go_simp; rfl)); intro gb256 hg w10 hbox hb; have n0_ := Aside0.mk (below_step (by repeat (first | (with_reducible first | exact HB.out | apply below_alloc | apply pw_below_drewN | apply below_drew1) | exact HB.out)) hb); have n1_ := Aside0.mk (hbox); have n2_ := Aside0.mk ((by rw [hg]; exact (below_size (by repeat (first | (with_reducible first | exact HB.out | apply below_alloc | apply pw_below_drewN | apply below_drew1) | exact HB.out))) : w.heap.size ≤ gb256)); have n3_ := Aside0.mk ((by rw [hg]; exact (below_size (by repeat (first | (with_reducible first | exact HB.out | apply below_alloc | apply pw_below_drewN | apply below_drew1) | exact HB.out))) : w.heap.size ≤ gb256)); clear HB; have HB := n0_; have BK256 := n1_; have GW256 := n2_; have GE256 := n3_; clear n0_ n1_ n2_ n3_; clear hb hbox hg; have hcz11_0 : w10.cell? ⟨gb256, 0, none⟩ = some (.int .i64 a0_0) := (blk_cell BK256.out 0).trans rfl; have hcz11_1 : w10.cell? ⟨gb256, 1, none⟩ = some (.int .i64 a0_1) := (blk_cell BK256.out 1).trans rfl; have hcz11_2 : w10.cell? ⟨gb256, 2, none⟩ = some (.int .i64 a0_2) := (blk_cell BK256.out 2).trans rfl; have hcz11_3 : w10.cell? ⟨gb256, 3, none⟩ = some (.int .i64 a0_3) := (blk_cell BK256.out 3).trans rfl; have hcz11_4 : w10.cell? ⟨gb256, 4, none⟩ = some (.slice A0_4 l0_4.length c0_4) := (blk_cell BK256.out 4).trans rfl; have hfz11_0 := blk_frozen BK256.out 0; have hfz11_1 := blk_frozen BK256.out 1; have hfz11_2 := blk_frozen BK256.out 2; have hfz11_3 := blk_frozen BK256.out 3; have hfz11_4 := blk_frozen BK256.out 4) | ((with_reducible refine gate_callee (f := 33) rfl ?_); refine goesL_ (some 4) rfl rfl Try.func33 (by kernel_rfl) rfl #[.agg #[.int .i64 a0_0, .int .i64 a0_1, .int .i64 a0_2, .int .i64 a0_3, .slice A0_4 l0_4.length c0_4]] rfl (by (try simp only [List.map_toArray, List.map_cons, List.map_nil]); first | done | rfl | (simp only [List.length_drop, List.length_take]; rfl)) ?_; (with_reducible refine (palantypelaw02_Thin.calls a0_0 a0_1 a0_2 a0_3 _ _ l0_4 false _ ?side1 ?side2 A2.out).mono ?_); (case side1 => repeat (first | exact (Kd.C_below HR0_4.out HB.out) | (with_reducible refine Kd.C_alloc ?_ _) | (with_reducible refine Kd.C_drewN ?_ _) | (with_reducible refine Kd.C_drew ?_))); (case side2 => exact HC0_4.out); rintro e w12 ⟨rfl, hb⟩; refine ⟨_, rfl, ?_⟩; have n0_ := Aside0.mk (blk_below (g := gb256) (o := .cells #[.int .i64 a0_0, .int .i64 a0_1, .int .i64 a0_2, .int .i64 a0_3, .slice A0_4 l0_4.length c0_4] 24 (0, 0)) (by (with_reducible repeat (first | refine blk_drewN ?_ _ | refine blk_drew ?_ | refine blk_alloc ?_ _)); exact BK256.out) hb); have n1_ := Aside0.mk (below_step (by repeat (first | (with_reducible first | exact HB.out | apply below_alloc | apply pw_below_drewN | apply below_drew1 | refine below_set ?_ GE256.out) | exact HB.out)) hb); clear BK256; clear HB; have BK256 := n0_; have HB := n1_; clear n0_ n1_; (try clear hb); (try clear hb2); (try clear hk); (try clear hi)))
    go_ret
    exact ⟨by first | rfl | (simp [errW_none, errW_some] <;> rfl) | (simp [*, errW_none, errW_some] <;> rfl), by repeat (first | (with_reducible first | exact HB.out | apply below_alloc | apply pw_below_drewN | apply below_drew1 | refine below_set ?_ GE256.out) | exact HB.out)⟩
end Go.Proofs.Ytdnjmhhjjbdieaa.Q
end
section
namespace Go.Proofs.Ytdnjmhhjjbdieaa.Q
open Go.RowKit Go.Shelf Go.Proofs.YtdnjmhhjjbdieaaW.PrintWords Go.Proofs.YtdnjmhhjjbdieaaW.PrintLast
set_option linter.unusedVariables false
set_option linter.unusedSimpArgs false
attribute [local go_sem] Oper.semAt_some
def reachL (least most short : Int) (n : Nat) (l : List S52) : Nat := ((List.range l.length).filter fun j => !(fwdL least most short n l (j + 1)).isEmpty).length
theorem filter_below (p : Nat → Bool) (i : Nat) : ∀ n, i ≤ n → (∀ j, j < i → p j = true) → (∀ j, i ≤ j → j < n → p j = false) → ((List.range n).filter p).length = i := by
  intro n
  induction n with
  | zero => intro h _ _; obtain rfl : i = 0 := by omega
            rfl
  | succ n ih =>
    intro h h1 h2
    rw [List.range_succ, List.filter_append, List.length_append]
    by_cases e : i = n + 1
    · subst e
      have : (List.range n).filter p = List.range n := List.filter_eq_self.2 (fun j hj => h1 j (by have := List.mem_range.1 hj; omega))
      rw [this]
      simp [h1 n (by omega)]
    · rw [ih (by omega) h1 (fun j a b => h2 j a (by omega))]
      simp [h2 n (by omega) (by omega)]
theorem reach_eq {least most short : Int} {n : Nat} {l : List S52} {i : Nat} (hi : i ≤ l.length) (hne : ∀ j, j ≤ i → ∃ x, fwd least most short n l j x) (hno : i < l.length → ∀ x, ¬ fwd least most short n l (i + 1) x) : reachL least most short n l = i := by
  refine filter_below _ i _ hi (fun j hj => ?_) (fun j h1 h2 => ?_)
  · obtain ⟨x, hx⟩ := hne (j + 1) (by omega)
    cases h : (fwdL least most short n l (j + 1)).isEmpty
    · rfl
    · exact absurd hx (fwdL_empty.1 h x)
  · have : (fwdL least most short n l (j + 1)).isEmpty = true := fwdL_empty.2 (fun x => by
      have := fwd_later (hno (by omega)) (j - i) x
      rwa [show i + 1 + (j - i) = j + 1 by omega] at this)
    simp [this]
def floor_Breaks.f (a0_0 a0_1 a0_2 a0_3 : Int) (l0_4 : List S52) : Option (Int × Int) :=
  match floor_Scene_check.f a0_0 a0_1 a0_2 a0_3 l0_4 with
  | none => none
  | some r => if r = 0 then
      if (fwdL a0_1 a0_2 a0_3 a0_0.toNat l0_4 l0_4.length).isEmpty then some ((reachL a0_1 a0_2 a0_3 a0_0.toNat l0_4 : Nat), 0) else some (0, 7)
    else some (0, r)
theorem check_not_ten {a0 a1 a2 a3 : Int} {l : List S52} {r : Int} (h : floor_Scene_check.f a0 a1 a2 a3 l = some r) : r ≠ 10 := by
  unfold floor_Scene_check.f at h
  split at h
  · cases h; decide
  · split at h <;> cases h <;> decide
set_option maxRecDepth 100000 in
set_option maxHeartbeats 1000000 in
theorem floor_Breaks.calls (a0_0 a0_1 a0_2 a0_3 : Int) (A0_4 : Option Addr) (c0_4 : Nat) (l0_4 : List S52) (r1 r2 : Int) (w : World) (hr0_4 : Kd.C k52 w A0_4 l0_4.length l0_4) (hc0_4 : l0_4.length ≤ c0_4)
    (h : floor_Breaks.f a0_0 a0_1 a0_2 a0_3 l0_4 = some (r1, r2)) :
    Calls Try.prog 28 #[.agg #[.int .i64 a0_0, .int .i64 a0_1, .int .i64 a0_2, .int .i64 a0_3, .slice A0_4 l0_4.length c0_4]] w fun e w' => e = .returned (.tuple #[.int .i64 r1, .int .i64 r2]) ∧ Below w.heap.size w w' := by
  have hu := Try.underlying33
  have hu3 := Try.underlying107
  unfold floor_Breaks.f at h
  go_enter Try.func28, Try.ntmps28
  have HR := Lib.hid (Kd.C_below hr0_4 ((Below.refl _ w).alloc (Nat.le_refl _) (.cells #[.int .i64 a0_0, .int .i64 a0_1, .int .i64 a0_2, .int .i64 a0_3, .slice A0_4 l0_4.length c0_4] 33)))
  clear hr0_4
  cases hck : floor_Scene_check.f a0_0 a0_1 a0_2 a0_3 l0_4 with
  | none => rw [hck] at h; cases h
  | some r =>
    rw [hck] at h
    simp only [] at h
    have HCK := Lib.hid hck
    have HH := Lib.hid h
    clear hck h
    by_cases hr : r = 0
    · subst hr
      obtain ⟨hl, ⟨n, rfl, hn1, hn⟩, _⟩ := check_ok HCK.out
      have hnn : (n : Int).toNat = n := Int.toNat_natCast n
      go_wp2_with fail
      refine (checked.good n a0_1 a0_2 a0_3 A0_4 c0_4 l0_4 _ HR.out hc0_4 HCK.out).mono ?_
      rintro e W1 ⟨g, i, rfl, hb1, sb, cS, bs, hne, hcase⟩
      have h' := HH.out
      simp only [↓reduceIte, hnn] at h'
      have hbw : Below w.heap.size w W1 := ((Below.refl _ w).alloc (Nat.le_refl _) _).trans (hb1.mono (by simp))
      have hob : W1.heap[g]? = some (.cells #[.int .i64 n, .int .i64 a0_1, .int .i64 a0_2, .int .i64 a0_3, .slice A0_4 l0_4.length c0_4, .slice (some ⟨sb, 0, none⟩) (i + 1 : Nat) cS, .int .i64 i] 107 (0, 0)) := by
        rcases hcase with ⟨_, h⟩ | ⟨_, _, h⟩ <;> exact h.obj
      have e6 := cell_of hob (i := 6) rfl
      simp only [List.getElem_toArray, List.getElem_cons_zero, List.getElem_cons_succ] at e6
      have HBW := Lib.hid hbw
      have HNE := Lib.hid hne
      have HCA := Lib.hid hcase
      clear hb1 hbw hne hcase hob HH
      by_cases hi : i = l0_4.length
      · have hem : ¬ (fwdL a0_1 a0_2 a0_3 n l0_4 l0_4.length).isEmpty = true := fun hc => by
          obtain ⟨x, hx⟩ := HNE.out i (Nat.le_refl _)
          rw [hi] at hx
          exact fwdL_empty.1 hc x hx
        rw [if_neg hem] at h'
        obtain ⟨rfl, rfl⟩ := Prod.mk.inj (Option.some.inj h')
        rw [if_pos hi]
        clear h' hem hi
        go_wp2_with fail
        go_ret2
        exact ⟨rfl, HBW.out⟩
      · rcases HCA.out with ⟨hi', _⟩ | ⟨hi', hno, _⟩
        · exact absurd hi' hi
        · have hem : (fwdL a0_1 a0_2 a0_3 n l0_4 l0_4.length).isEmpty = true := fwdL_empty.2 (fun x => by
            have := fwd_later hno (l0_4.length - (i + 1)) x
            rwa [show i + 1 + (l0_4.length - (i + 1)) = l0_4.length by omega] at this)
          have hre := reach_eq (by omega) HNE.out (fun _ => hno)
          rw [if_pos hem, hre] at h'
          obtain ⟨rfl, rfl⟩ := Prod.mk.inj (Option.some.inj h')
          rw [if_neg hi]
          clear h' hem hno hre hi
          go_wp2_with fail
          go_ret2
          exact ⟨rfl, HBW.out⟩
    · have h' := HH.out
      rw [if_neg hr] at h'
      obtain ⟨rfl, rfl⟩ := Prod.mk.inj (Option.some.inj h')
      have hr2 : (r == 0) = false := by simpa using hr
      have hr3 : (r == 10) = false := by simpa using check_not_ten HCK.out
      clear h' HH
      go_wp2_with fail
      refine (checked.bad a0_0 a0_1 a0_2 a0_3 A0_4 c0_4 l0_4 r _ HR.out hc0_4 HCK.out hr).mono ?_
      rintro e W1 ⟨rfl, hb1⟩
      have HBW := Lib.hid (((Below.refl _ w).alloc (Nat.le_refl _) _).trans (hb1.mono (by simp)))
      clear hb1
      go_wp2_with fail
      go_ret2
      exact ⟨rfl, HBW.out⟩
end Go.Proofs.Ytdnjmhhjjbdieaa.Q
end
