/- FloorNumbers: if two persons change their numbers, what is returned is the same with their numbers changed; proved from walks of the code and a plain law. -/
import Derived.Test.YtdnjmhhjjbdieaaMNum1
import Derived.Test.YtdnjmhhjjbdieaaMNum2
import Derived.Test.YtdnjmhhjjbdieaaRows
import Derived.Test.YtdnjmhhjjbdieaaMCut1
import Derived.WalkKit
import Derived.ProofKit
import Derived.OpenShut
import Derived.ShutString
import Derived.ChangeOld
import Derived.Below
import Derived.SizedLaws
import Derived.Carry
section
/- Plain: FloorNumbers. -/
namespace Go.Proofs.Ytdnjmhhjjbdieaa.Q
open Go.RowKit Go.Proofs.YtdnjmhhjjbdieaaW.PrintWords
set_option linter.unusedVariables false

theorem rd54 {l : List S54} {i : Nat} (h : i < l.length) : rd_T54 l (i : Int) = l[i] := by simp [rd_T54, List.getD, h]

theorem numbers_l1 {a b : Int} (ha : 0 ≤ a ∧ a ≤ 14) (hb : 0 ≤ b ∧ b ≤ 14) {V W : List S54} (hl : V.length = W.length) (hV1 : V.length ≤ 1000) (hV : ∀ j (h1 : j < V.length) (h2 : j < W.length), swp V[j].f0 a b = W[j].f0 ∧ swp V[j].f1 a b = W[j].f1) :
    ∀ (d i : Nat), i + d = V.length → Ev (fun k => palantypelaw02_FloorNumbers.l1 k a b V W i) true
  | 0, i, h => by
    have aw : Ev (fun k => palantypelaw02_awake.f.bind fun t => some t) true := Ev.now true
    exact Ev.step (fun k => (palantypelaw02_FloorNumbers.l1.eq_2 _ _ _ _ _ _).trans (if_neg (by omega))) aw
  | d + 1, i, h => by
    have hi : i < V.length := by omega
    have hi2 : i < W.length := by omega
    refine Ev.step (fun k => (palantypelaw02_FloorNumbers.l1.eq_2 _ _ _ _ _ _).trans ((if_pos (by omega)).trans (if_pos (by omega)))) ?_
    rw [rd54 hi, rd54 hi2]
    refine Ev.bind (swapped_ev ha hb) ?_
    refine Ev.congr (fun k => (if_pos (by omega)).trans (if_pos (hV i hi hi2).1)) ?_
    refine Ev.bind (swapped_ev ha hb) ?_
    refine Ev.congr (fun k => if_pos (hV i hi hi2).2) ?_
    rw [wrap_id (by omega) (by omega)]
    exact numbers_l1 ha hb hl hV1 hV d (i + 1) (by omega)

theorem numbers_tail {a b a1 a2 a3 : Int} {n : Nat} {l : List S59} {l' : List S52} (ha : 0 ≤ a ∧ a ≤ 14) (hb : 0 ≤ b ∧ b ≤ 14) (hll : l.length ≤ 1000) (hl' : l'.length = l.length)
    {V W : List S54} {e m g lo hi i : Int} (hW1 : floor_Who.f n a1 a2 a3 (l.map mo) = some (V, e)) (hW2 : floor_Who.f n a1 a2 a3 l' = some (W, e)) (hB1 : floor_Breaks.f n a1 a2 a3 (l.map mo) = some (m, g)) (hB2 : floor_Breaks.f n a1 a2 a3 l' = some (m, g))
    (hH1 : floor_Held.f n a1 a2 a3 (l.map mo) a = some (lo, hi, i)) (hH2 : floor_Held.f n a1 a2 a3 l' b = some (lo, hi, i)) (hl : V.length = W.length) (hVe : e = 0 → V.length = l.length) (hV1 : V.length ≤ 1000)
    (hV : ∀ j (h1 : j < V.length) (h2 : j < W.length), swp V[j].f0 a b = W[j].f0 ∧ swp V[j].f1 a b = W[j].f1) :
    Ev (fun k => palantypelaw02_FloorNumbers.l0 k a b (l.length : Nat) n a1 a2 a3 l n a1 a2 a3 l') true := by
  have hsc : Ev (fun k => palantypelaw02_Scene.f k n a1 a2 a3 l) (n, a1, a2, a3, l.map mo) := Scene_ev n a1 a2 a3 l (by omega)
  have hj1 : Ev (fun k => palantypelaw02_FloorNumbers.j1 k a b V W false) true :=
    Ev.step (fun k => (palantypelaw02_FloorNumbers.j1.eq_2 _ _ _ _ _ _).trans (if_neg (by decide))) (numbers_l1 ha hb hl hV1 hV V.length 0 (by omega))
  refine Ev.step (fun k => (palantypelaw02_FloorNumbers.l0.eq_2 _ _ _ _ _ _ _ _ _ _ _ _ _ _).trans (if_neg (by omega))) ?_
  refine Ev.bind hsc ?_
  simp only []
  rw [hW1]
  refine Ev.congr (fun k => Option.bind_some _ _) ?_
  rw [hW2]
  refine Ev.congr (fun k => Option.bind_some _ _) ?_
  refine Ev.bind hsc ?_
  simp only []
  rw [hB1]
  refine Ev.congr (fun k => Option.bind_some _ _) ?_
  rw [hB2]
  refine Ev.congr (fun k => Option.bind_some _ _) ?_
  refine Ev.bind hsc ?_
  simp only []
  rw [hH1]
  refine Ev.congr (fun k => Option.bind_some _ _) ?_
  rw [hH2]
  refine Ev.congr (fun k => Option.bind_some _ _) ?_
  have hne : ¬ ((!(lo == lo) || (!(hi == hi))) = true) := by simp
  refine Ev.congr (fun k => (if_pos rfl).trans ((if_neg hne).trans (if_pos (show ((V.length : Int)) = (W.length : Int) by omega)))) ?_
  by_cases h0 : e = 0
  · refine Ev.congr (fun k => if_pos h0) ?_
    have : ((V.length : Int) != (l.length : Int)) = false := by rw [hVe h0]; simp
    rw [this]
    exact hj1
  · exact Ev.congr (fun k => if_neg h0) hj1

theorem numbers_l0 {a b a1 a2 a3 : Int} {n : Nat} {l : List S59} (ha : 0 ≤ a ∧ a ≤ 14) (hb : 0 ≤ b ∧ b ≤ 14) (hll : l.length ≤ 1000)
    (hfin : Ev (fun k => palantypelaw02_FloorNumbers.l0 k a b (l.length : Nat) n a1 a2 a3 l n a1 a2 a3 ((l.map mo).map (sw a b))) true) :
    ∀ (d i : Nat) (acc : List S52), i + d = l.length → acc.length = l.length → (∀ j (h1 : j < acc.length) (h2 : j < l.length), j < i → acc[j] = sw a b (mo l[j])) → Ev (fun k => palantypelaw02_FloorNumbers.l0 k a b (i : Nat) n a1 a2 a3 l n a1 a2 a3 acc) true
  | 0, i, acc, h, hlen, hacc => by
    have e1 : acc = (l.map mo).map (sw a b) := by
      refine List.ext_getElem (by simp [hlen]) (fun j h1 h2 => ?_)
      rw [hacc j h1 (by omega) (by omega), List.getElem_map, List.getElem_map]
    have e2 : i = l.length := by omega
    rw [e1, e2]
    exact hfin
  | d + 1, i, acc, h, hlen, hacc => by
    have hi : i < l.length := by omega
    refine Ev.step (fun k => (palantypelaw02_FloorNumbers.l0.eq_2 _ _ _ _ _ _ _ _ _ _ _ _ _ _).trans ((if_pos (by omega)).trans ((if_pos (by omega)).trans (if_pos (by omega))))) ?_
    rw [rd59 hi]
    refine Ev.bind (swapped_ev ha hb) ?_
    refine Ev.bind (swapped_ev ha hb) ?_
    rw [wrap_id (by omega) (by omega), Int.toNat_natCast]
    refine numbers_l0 ha hb hll hfin d (i + 1) _ (by omega) (by rw [List.length_set]; exact hlen) (fun j h1 h2 hj => ?_)
    by_cases e : j = i
    · subst e
      rw [List.getElem_set_self]
      rfl
    · rw [List.getElem_set_ne (fun h => e h.symm)]
      exact hacc j _ h2 (by omega)

theorem held_ok {a1 a2 a3 person : Int} {n : Nat} {l : List S52} (hc : floor_Scene_check.f n a1 a2 a3 l = some 0) (he : ∃ x, fwd a1 a2 a3 n l l.length x) (hp : 0 ≤ person ∧ person < n) :
    ∃ v, floor_Held.f n a1 a2 a3 l person = some (v.1, v.2, 0) ∧ IsEnds (fun c => ∃ y, hcnt a1 a2 a3 n l person l.length y c) (some v) := by
  have hw : win person 0 ((n : Int) - 1) = true := by unfold win; simp; omega
  refine ⟨endsOf ((cntL a1 a2 a3 n l person l.length).map (·.2)), ?_, ?_⟩
  · unfold floor_Held.f
    rw [hc]
    simp only [if_true, hw, Int.toNat_natCast]
    rw [if_neg (fun h => by obtain ⟨x, hx⟩ := he; exact fwdL_empty.1 h x hx)]
  · have h0 : 0 < ((cntL a1 a2 a3 n l person l.length).map (·.2)).length := by
      obtain ⟨x, hx⟩ := he
      obtain ⟨c, hcn⟩ := fwd_hcnt (person := person) l.length x hx
      rw [List.length_map]
      exact List.length_pos_of_mem ((mem_cntL _ _ _).2 hcn)
    refine (endsOf_isEnds h0).congr (fun c => ?_)
    rw [List.mem_map]
    exact ⟨fun ⟨p, hp, e⟩ => ⟨p.1, by subst e; exact (mem_cntL _ _ _).1 hp⟩, fun ⟨y, hy⟩ => ⟨(y, c), (mem_cntL _ _ _).2 hy, rfl⟩⟩
theorem held_gap {a1 a2 a3 person : Int} {n : Nat} {l : List S52} (hc : floor_Scene_check.f n a1 a2 a3 l = some 0) (he : ∀ x, ¬ fwd a1 a2 a3 n l l.length x) (hp : 0 ≤ person ∧ person < n) : floor_Held.f n a1 a2 a3 l person = some (0, 0, 10) := by
  have hw : win person 0 ((n : Int) - 1) = true := by unfold win; simp; omega
  unfold floor_Held.f
  rw [hc]
  simp only [if_true, hw, Int.toNat_natCast]
  rw [if_pos (fwdL_empty.2 he)]

theorem FloorNumbers_ev (a0 a1 a2 a3 : Int) (l : List S59) (p q : Int) (hm : ∀ y ∈ l, (0 ≤ y.f0 ∧ y.f0 < 65536) ∧ (0 ≤ y.f1 ∧ y.f1 < 65536)) (hp : 0 ≤ p ∧ p < 256) (hq : 0 ≤ q ∧ q < 256) : Ev (fun k => palantypelaw02_FloorNumbers.f k a0 a1 a2 a3 l p q) true := by
  obtain ⟨r, hck, hft⟩ := Fault_ev a0 a1 a2 a3 l hm
  have hready := ready_ev hft
  have aw : Ev (fun k => palantypelaw02_awake.f.bind fun t => some t) true := Ev.now true
  unfold palantypelaw02_FloorNumbers.f
  refine Ev.bind hready ?_
  by_cases hrd : (decide (l.length ≤ 45) && (r == 0)) = true
  case neg => exact Ev.congr (fun k => if_neg hrd) aw
  refine Ev.congr (fun k => if_pos hrd) ?_
  obtain ⟨h45, h0⟩ := (Bool.and_eq_true _ _).mp hrd
  have h45 : l.length ≤ 45 := of_decide_eq_true h45
  obtain rfl : r = 0 := by simpa using h0
  obtain ⟨hl40, ⟨n, rfl, hn1, hn2⟩, h20, h1m, hs20, _⟩ := check_ok hck
  refine Ev.congr (fun k => if_neg (by omega)) ?_
  refine Ev.bind (Scene_ev n a1 a2 a3 l (by omega)) ?_
  simp only []
  rw [wrap_id (n := p) (by omega) (by omega), wrap_id (n := q) (by omega) (by omega)]
  have tm : ∀ z : Int, 0 ≤ z → 0 ≤ Int.tmod z n ∧ Int.tmod z n < n := fun z hz => by
    rw [Int.tmod_eq_emod_of_nonneg hz]
    exact ⟨Int.emod_nonneg z (by omega), Int.emod_lt_of_pos z (by omega)⟩
  obtain ⟨a, ea⟩ : ∃ a, Int.tmod p n = a := ⟨_, rfl⟩
  obtain ⟨b, eb⟩ : ∃ b, Int.tmod q n = b := ⟨_, rfl⟩
  have ha' := tm p hp.1
  have hb' := tm q hq.1
  rw [ea] at ha' ⊢
  rw [eb] at hb' ⊢
  have ha : 0 ≤ a ∧ a ≤ 14 := by omega
  have hb : 0 ≤ b ∧ b ≤ 14 := by omega
  have hR : ∀ m ∈ l.map mo, InR m := fun m h => by
    obtain ⟨y, hy, rfl⟩ := List.mem_map.1 h
    exact hm y hy
  have hck2 := check_sw ha hb hn1 hn2 ha'.2 hb'.2 hR hck
  have hlen2 : ((l.map mo).map (sw a b)).length = (l.map mo).length := by simp
  have hlen1 : (l.map mo).length = l.length := by simp
  have fi : ∀ j y, fwd a1 a2 a3 n ((l.map mo).map (sw a b)) j y ↔ fwd a1 a2 a3 n (l.map mo) j (sgS a b y) := fun j y => fwd_sw_iff ha hb hn2 ha'.2 hb'.2 hR j y
  have sab : sg a b a = b := by unfold sg; rw [if_pos rfl]
  have sba : sg a b b = a := by have := sg_sg a b a; rwa [sab] at this
  refine numbers_l0 ha hb (by omega) ?_ l.length 0 (l.map mo) (by omega) (by simp) (fun j _ _ h => absurd h (Nat.not_lt_zero j))
  by_cases he : ∃ x, fwd a1 a2 a3 n (l.map mo) (l.map mo).length x
  · have he2 : ∃ x, fwd a1 a2 a3 n ((l.map mo).map (sw a b)) ((l.map mo).map (sw a b)).length x := by
      obtain ⟨x, hx⟩ := he
      exact ⟨sgS a b x, by rw [hlen2, fi, sgS_sgS]; exact hx⟩
    obtain ⟨v, hv, iv⟩ := held_ok hck he ha'
    obtain ⟨w, hw, iw⟩ := held_ok hck2 he2 hb'
    have evw : v = w := iv.unique (iw.congr (fun c => by
      constructor
      · rintro ⟨y, hy⟩
        have := hcnt_sw ha hb hn2 ha'.2 hb'.2 (map_inR ha hb hR) _ y c hy
        rw [map_sw ha hb hR, sba, hlen2] at this
        exact ⟨_, this⟩
      · rintro ⟨y, hy⟩
        have := hcnt_sw ha hb hn2 ha'.2 hb'.2 hR _ y c hy
        rw [sab] at this
        exact ⟨_, by rw [hlen2]; exact this⟩))
    subst evw
    refine numbers_tail ha hb (by omega) (by simp) (who_ok hck he) (who_ok hck2 he2) (breaks_none hck he) (breaks_none hck2 he2) hv hw (by simp) (fun _ => by simp) (by simp; omega) (fun j h1 h2 => ?_)
    have hj : j < (l.map mo).length := by simpa using h1
    simp only [List.getElem_map, List.getElem_range]
    exact told_sw ha hb hn2 ha'.2 hb'.2 hR hj
  · have he' : ∀ x, ¬ fwd a1 a2 a3 n (l.map mo) (l.map mo).length x := fun x hx => he ⟨x, hx⟩
    have he2 : ∀ x, ¬ fwd a1 a2 a3 n ((l.map mo).map (sw a b)) ((l.map mo).map (sw a b)).length x := fun x hx => by
      rw [hlen2, fi] at hx
      exact he' _ hx
    obtain ⟨i, hi, hfi, hni⟩ := some_break he'
    exact numbers_tail ha hb (by omega) (by simp) (who_gap hck he') (who_gap hck2 he2) (breaks_at hck hi hfi hni) (breaks_at hck2 (by rw [hlen2]; exact hi) (fun j hj => by obtain ⟨x, hx⟩ := hfi j hj; exact ⟨sgS a b x, by rw [fi, sgS_sgS]; exact hx⟩) (fun x hx => hni _ ((fi _ _).1 hx)))
      (held_gap hck he' ha') (held_gap hck2 he2 hb') rfl (fun h => by omega) (by simp) (fun j h1 h2 => absurd h1 (Nat.not_lt_zero j))

theorem Pure.FloorNumbers (a0_0 a0_1 a0_2 a0_3 : Int) (l0_4 : List S59) (a1 a2 : Int) (w0 : (Lit.int .i64 a0_0).wf = true) (w1 : (Lit.int .i64 a0_1).wf = true) (w2 : (Lit.int .i64 a0_2).wf = true) (w3 : (Lit.int .i64 a0_3).wf = true) (hl : l0_4.length ≤ maxLen)
    (hm : ∀ y ∈ l0_4, (Lit.int .u16 y.f0).wf = true ∧ (Lit.int .u16 y.f1).wf = true) (wa : (Lit.int .u8 a1).wf = true) (wb : (Lit.int .u8 a2).wf = true) : ∃ k, palantypelaw02_FloorNumbers.f k a0_0 a0_1 a0_2 a0_3 l0_4 a1 a2 = some true :=
  (FloorNumbers_ev a0_0 a0_1 a0_2 a0_3 l0_4 a1 a2 (wf_moments hm) (wf_u8 wa) (wf_u8 wb)).rounds
end Go.Proofs.Ytdnjmhhjjbdieaa.Q
end

section
/- The row of FloorNumbers: for every input the statement answers true. -/
namespace Go.Proofs.Ytdnjmhhjjbdieaa.floorNumbers
open Go.ChangeShapes Go.WideShapes Go.ChangeAt Go.RowKit Go.Proofs.Ytdnjmhhjjbdieaa.Q
set_option linter.unusedVariables false
theorem own : ownKnob Try.prog.godebug = none := by kernel_rfl
theorem laidOut : laidOutB Try.prog = true := by kernel_rfl

set_option maxRecDepth 100000 in
theorem lifted (os : Os) (started : os.Started) (H : Type) (enc : TypeId × Value → H) :
    ReturnsInHanded {} Try.checked os 7 .any (Rows.floorNumbersSpec.pre6 enc Try.prog Try.f7 Rows.floorNumbersRow.domain false) (Rows.floorNumbersSpec.post enc Try.prog Try.f7 false true false false) := by
  refine returnsInHanded_of_change_sized (C := Try.checked) own started (by kernel_rfl) Try.func7
    (ChangeSpec.witness6 (enc := enc) (C := Try.checked) false ⟨#[], #[.agg #[.int .i64 0, .int .i64 0, .int .i64 0, .int .i64 0, .slice none 0 0], .int .u8 0, .int .u8 0], []⟩ 8 (by kernel_rfl) (by kernel_rfl) (by kernel_rfl) (by kernel_rfl)) ?_
  intro W base args ds gs before hval0 hW hcnd hsz0 _
  have hval : ∀ (j : Nat) t v, Try.f7.params[j]? = some t → args[j]? = some v → Value.okWide Try.prog W .any base t v := hval0
  have hW' := hW
  obtain ⟨p, q, hA0, hV, rfl, hfz, hnd⟩ := hW
  have hA : DataW.TrodAll enc Try.prog W 0 (fun _ => true) true Try.f7.params.toList args.toList ds p := hA0
  rw [Try.params7] at hA hval
  obtain ⟨v0, vs0, d0, ds0, p0, q0, hargs, rfl, rfl, h0, r0⟩ := trodAll_cons hA
  obtain ⟨v1, vs1, d1, ds1, p1, q1, rfl, rfl, rfl, h1, r1⟩ := trodAll_cons r0
  obtain ⟨v2, vs2, d2, ds2, p2, q2, rfl, rfl, rfl, h2, r2⟩ := trodAll_cons r1
  obtain ⟨rfl, rfl, rfl⟩ := trodAll_nil r2
  obtain rfl : args = #[v0, v1, v2] := by cases args; simp_all
  obtain ⟨rfl, rfl⟩ := trodVars_none hV
  have k0 := h0
  have lt0 : ∀ x ∈ p0, x.block < W.heap.size := by obtain ⟨m, hm⟩ := k0; exact DataW.trod_lt m _ _ _ hm
  obtain ⟨a0_0, a0_1, a0_2, a0_3, A0, l0_4, c0, rfl, hc0, hr0, w0_0, w0_1, w0_2, w0_3, hl0, hm0⟩ := open_scene (hval 0 24 v0 rfl rfl) h0
  obtain ⟨a1, rfl, rfl, rfl, w1⟩ := open_int Try.underlying5 (hval 1 5 v1 rfl rfl) h1
  obtain ⟨a2, rfl, rfl, rfl, w2⟩ := open_int Try.underlying5 (hval 2 5 v2 rfl rfl) h2
  clear hA0 hval0 hsz0
  obtain ⟨k, h⟩ := Pure.FloorNumbers a0_0 a0_1 a0_2 a0_3 l0_4 a1 a2 w0_0 w0_1 w0_2 w0_3 hl0 hm0 w1 w2
  refine Calls.mono (palantypelaw02_FloorNumbers.calls (hr0_4 := hr0) (hc0_4 := hc0) (h := h)) (fun e W' ⟨he, bel⟩ => ?_)
  subst he
  exact ⟨_, rfl, _, _, _, [], _, [], hW', trodAll_mk1 (shut_bool Try.underlying4 _), (trodAll_cons_mk (Below.trod laidOut (by kernel_rfl) (of_decide_eq_true (by kernel_rfl)) k0 bel lt0) (trodAll_cons_mk (shut_int Try.underlying5 w1) (trodAll_cons_mk (shut_int Try.underlying5 w2) trodAll_mk0))), rfl, bel.frame _, fun h => by cases h⟩
theorem over : Rows.floorNumbersRow.holds Try.pinned (OpenSpec.ofChange Rows.floorNumbersSpec) :=
  OpenClaim.holds_of_wide 7 Try.f7 rfl rfl rfl rfl rfl rfl rfl ⟨rfl, rfl, rfl, rfl, rfl⟩ rfl rfl rfl rfl rfl (by kernel_rfl) Try.func7 (by kernel_rfl)
    (of_decide_eq_true (by kernel_rfl)) (by unfold Func.isWrapper; first | (rw [if_pos (by decide +kernel)]; kernel_rfl) | (rw [if_neg (by decide +kernel)]; exact ⟨rfl, rfl⟩))
    (fun os started H enc _ => lifted os started H enc)
theorem proved : Rows.FloorNumbersSaid := over
#print axioms proved
end Go.Proofs.Ytdnjmhhjjbdieaa.floorNumbers
namespace Go.Proofs.Ytdnjmhhjjbdieaa
/-- The row, under a short name, for the claim. -/
theorem floorNumbers_holds : Rows.FloorNumbersSaid := floorNumbers.proved
end Go.Proofs.Ytdnjmhhjjbdieaa
end
