/- FloorBreaks: for every input the statement answers true; the input is a scene of any size, as an argument can hold it. -/
import Derived.Test.YtdnjmhhjjbdieaaSBrk2
import Derived.Test.YtdnjmhhjjbdieaaSBrk10
import Derived.Test.YtdnjmhhjjbdieaaSBrk11
import Derived.Test.YtdnjmhhjjbdieaaSBrk13
import Derived.Test.YtdnjmhhjjbdieaaRows
import Derived.WalkKit
import Derived.ProofKit
import Derived.OpenShut
import Derived.ShutString
import Derived.ChangeOld
import Derived.Below
import Derived.SizedLaws
import Derived.Carry
namespace Go.Proofs.Ytdnjmhhjjbdieaa.Q
end Go.Proofs.Ytdnjmhhjjbdieaa.Q
namespace Go.Proofs.YtdnjmhhjjbdieaaW.PrintWords
end Go.Proofs.YtdnjmhhjjbdieaaW.PrintWords
section
namespace Go.Proofs.Ytdnjmhhjjbdieaa.Q
open Go.RowKit Go.Proofs.YtdnjmhhjjbdieaaW.PrintWords
set_option linter.unusedVariables false
def Brk (a1 a2 a3 : Int) (n : Nat) (l : List FM) (v : Int) : Prop :=
  ((∃ x, fwd a1 a2 a3 n l l.length x) ∧ v = -1) ∨ ∃ i : Nat, i < l.length ∧ (∀ j, j ≤ i → ∃ x, fwd a1 a2 a3 n l j x) ∧ (∀ x, ¬ fwd a1 a2 a3 n l (i + 1) x) ∧ v = i
theorem breaks_l0 {a1 a2 a3 : Int} {n : Nat} (hn : n ≤ 12) (h20 : 1 ≤ a2) (hs20 : 0 ≤ a3) {l : List RM} (hl : l.length ≤ 6) (hpow : ((n + 1) * (n + 1)) ^ l.length ≤ 100000000) :
    ∀ (d m : Nat), m + d = l.length + 1 → 1 ≤ m → (∀ j, j < m → ∃ x, fwd a1 a2 a3 n (l.map mo) j x) → ∃ v, Brk a1 a2 a3 n (l.map mo) v ∧ Ev (fun k => palantyperef02_Breaks.l0 k m n a1 a2 a3 l) v
  | 0, m, h, h1, hf => by
    refine ⟨-1, .inl ⟨?_, rfl⟩, Ev.step (fun k => (palantyperef02_Breaks.l0.eq_2 _ _ _ _ _ _ _).trans (if_neg (by omega))) (Ev.now _)⟩
    rw [List.length_map]
    exact hf l.length (by omega)
  | d + 1, m, h, h1, hf => by
    obtain ⟨all, hev, hiff, _⟩ := tels_take hn h20 hs20 hl hpow (m := m) (by omega)
    have hstep : ∀ v, Ev (fun k => if (all.length : Int) = 0 then some (wrap64 ((m : Int) - 1)) else palantyperef02_Breaks.l0 k (wrap64 ((m : Int) + 1)) n a1 a2 a3 l) v → Ev (fun k => palantyperef02_Breaks.l0 k m n a1 a2 a3 l) v := fun v hv => by
      refine Ev.step (fun k => (palantyperef02_Breaks.l0.eq_2 _ _ _ _ _ _ _).trans (if_pos (by omega))) ?_
      rw [first_at _ _ _ _ l (by omega) (by omega)]
      refine Ev.congr (fun k => Option.bind_some _ _) ?_
      exact Ev.bind hev hv
    by_cases he : all = []
    · refine ⟨(m : Int) - 1, .inr ⟨m - 1, by rw [List.length_map]; omega, fun j hj => hf j (by omega), by rw [show m - 1 + 1 = m by omega]; exact hiff.1 he, by omega⟩, hstep _ ?_⟩
      rw [wrap_id (n := (m : Int) - 1) (by omega) (by omega)]
      exact Ev.congr (fun k => if_pos (by rw [he]; rfl)) (Ev.now _)
    · have hx : ∃ x, fwd a1 a2 a3 n (l.map mo) m x := Classical.byContradiction (fun h => he (hiff.2 (fun x hx => h ⟨x, hx⟩)))
      obtain ⟨v, hv, hev2⟩ := breaks_l0 hn h20 hs20 hl hpow d (m + 1) (by omega) (by omega) (fun j hj => by
        rcases Nat.lt_or_ge j m with h | h
        · exact hf j h
        · obtain rfl : j = m := by omega
          exact hx)
      refine ⟨v, hv, hstep _ ?_⟩
      rw [wrap_id (n := (m : Int) + 1) (by omega) (by omega)]
      exact Ev.congr (fun k => if_neg (fun h => he (List.length_eq_zero_iff.1 (by omega)))) hev2
theorem FloorBreaks_ev (a0 a1 a2 a3 : Int) (l : List RM) (hm : ∀ y ∈ l, (0 ≤ y.f0 ∧ y.f0 < 65536) ∧ (0 ≤ y.f1 ∧ y.f1 < 65536)) : Ev (fun k => palantypelaw02_FloorBreaks.f k a0 a1 a2 a3 l) true := by
  obtain ⟨r, hck, hft⟩ := Fault_ev a0 a1 a2 a3 l hm
  have hfew := few_ev hft
  unfold palantypelaw02_FloorBreaks.f
  refine Ev.bind hfew ?_
  have aw : Ev (fun k => palantypelaw02_awake.f.bind fun t => some t) true := Ev.now true
  by_cases hb : (decide (l.length ≤ 45) && (decide (r ≠ 0) || (decide (a0 ≤ 3) && decide (l.length ≤ 5)) || (decide (a0 ≤ 2) && decide (l.length ≤ 6)))) = true
  case neg => exact Ev.congr (fun k => if_neg hb) aw
  refine Ev.congr (fun k => if_pos hb) ?_
  have h45 : l.length ≤ 45 := by
    rw [Bool.and_eq_true, decide_eq_true_eq] at hb; exact hb.1
  refine Ev.bind (Scene_ev a0 a1 a2 a3 l (by omega)) ?_
  simp only []
  by_cases h0 : r = 0
  case neg =>
    have hbr : floor_Breaks.f a0 a1 a2 a3 (l.map mo) = some (0, r) := by
      unfold floor_Breaks.f
      rw [hck]
      simp only []
      rw [if_neg h0]
    rw [hbr]
    refine Ev.congr (fun k => Option.bind_some _ _) ?_
    refine Ev.bind hft ?_
    exact Ev.congr (fun k => (if_neg h0).trans ((if_pos rfl).trans (if_pos rfl))) aw
  subst h0
  obtain ⟨hl40, ⟨n, rfl, hn1, hn2⟩, h20, h1m, hs20, _⟩ := check_ok hck
  obtain ⟨hl6, hpow⟩ := few_small hb
  obtain ⟨v, hv, hev⟩ := breaks_l0 (a1 := a1) (a2 := a2) (a3 := a3) hn2 (by omega) hs20.1 hl6 hpow l.length 1 (by omega) (by omega) (fun j hj => by
    obtain rfl : j = 0 := by omega
    exact ⟨beginSt, rfl⟩)
  have hev : Ev (fun k => palantyperef02_Breaks.f k n a1 a2 a3 l) v := hev
  rcases hv with ⟨he, rfl⟩ | ⟨i, hi, hf, hno, rfl⟩
  · rw [breaks_none hck he]
    refine Ev.congr (fun k => Option.bind_some _ _) ?_
    refine Ev.bind hft ?_
    refine Ev.congr (fun k => if_pos rfl) ?_
    refine Ev.bind hev ?_
    exact Ev.congr (fun k => (if_pos (by omega)).trans ((if_pos rfl).trans (if_pos rfl))) aw
  · rw [breaks_at hck hi hf hno]
    refine Ev.congr (fun k => Option.bind_some _ _) ?_
    refine Ev.bind hft ?_
    refine Ev.congr (fun k => if_pos rfl) ?_
    refine Ev.bind hev ?_
    exact Ev.congr (fun k => (if_neg (by omega)).trans ((if_pos rfl).trans (if_pos rfl))) aw
theorem Pure.FloorBreaks (a0_0 a0_1 a0_2 a0_3 : Int) (l0_4 : List S59) (w0 : (Lit.int .i64 a0_0).wf = true) (w1 : (Lit.int .i64 a0_1).wf = true) (w2 : (Lit.int .i64 a0_2).wf = true) (w3 : (Lit.int .i64 a0_3).wf = true) (hl : l0_4.length ≤ maxLen)
    (hm : ∀ y ∈ l0_4, (Lit.int .u16 y.f0).wf = true ∧ (Lit.int .u16 y.f1).wf = true) : ∃ k, palantypelaw02_FloorBreaks.f k a0_0 a0_1 a0_2 a0_3 l0_4 = some true :=
  (FloorBreaks_ev a0_0 a0_1 a0_2 a0_3 l0_4 (wf_moments hm)).rounds
end Go.Proofs.Ytdnjmhhjjbdieaa.Q
end
section
namespace Go.Proofs.Ytdnjmhhjjbdieaa.floorBreaks
open Go.ChangeShapes Go.WideShapes Go.ChangeAt Go.RowKit Go.Proofs.Ytdnjmhhjjbdieaa.Q
set_option linter.unusedVariables false
theorem own : ownKnob Try.prog.godebug = none := by kernel_rfl
theorem laidOut : laidOutB Try.prog = true := by kernel_rfl
set_option maxRecDepth 100000 in
theorem lifted (os : Os) (started : os.Started) (H : Type) (enc : TypeId × Value → H) :
    ReturnsInHanded {} Try.checked os 6 .any (Rows.floorBreaksSpec.pre6 enc Try.prog Try.f6 Rows.floorBreaksRow.domain false) (Rows.floorBreaksSpec.post enc Try.prog Try.f6 false true false false) := by
  refine returnsInHanded_of_change_sized (C := Try.checked) own started (by kernel_rfl) Try.func6
    (ChangeSpec.witness6 (enc := enc) (C := Try.checked) false ⟨#[], #[.agg #[.int .i64 0, .int .i64 0, .int .i64 0, .int .i64 0, .slice none 0 0]], []⟩ 8 (by kernel_rfl) (by kernel_rfl) (by kernel_rfl) (by kernel_rfl)) ?_
  intro W base args ds gs before hval0 hW hcnd hsz0 _
  have hval : ∀ (j : Nat) t v, Try.f6.params[j]? = some t → args[j]? = some v → Value.okWide Try.prog W .any base t v := hval0
  have hW' := hW
  obtain ⟨p, q, hA0, hV, rfl, hfz, hnd⟩ := hW
  have hA : DataW.TrodAll enc Try.prog W 0 (fun _ => true) true Try.f6.params.toList args.toList ds p := hA0
  rw [Try.params6] at hA hval
  obtain ⟨v0, vs0, d0, ds0, p0, q0, hargs, rfl, rfl, h0, r0⟩ := trodAll_cons hA
  obtain ⟨rfl, rfl, rfl⟩ := trodAll_nil r0
  obtain rfl : args = #[v0] := by cases args; simp_all
  obtain ⟨rfl, rfl⟩ := trodVars_none hV
  have k0 := h0
  have lt0 : ∀ x ∈ p0, x.block < W.heap.size := by obtain ⟨m, hm⟩ := k0; exact DataW.trod_lt m _ _ _ hm
  obtain ⟨a0_0, a0_1, a0_2, a0_3, A0, l0_4, c0, rfl, hc0, hr0, w0_0, w0_1, w0_2, w0_3, hl0, hm0⟩ := open_scene (hval 0 24 v0 rfl rfl) h0
  clear hA0 hval0 hsz0
  obtain ⟨k, h⟩ := Pure.FloorBreaks a0_0 a0_1 a0_2 a0_3 l0_4 w0_0 w0_1 w0_2 w0_3 hl0 hm0
  refine Calls.mono (palantypelaw02_FloorBreaks.calls (hr0_4 := hr0) (hc0_4 := hc0) (h := h)) (fun e W' ⟨he, bel⟩ => ?_)
  subst he
  exact ⟨_, rfl, _, _, _, [], _, [], hW', trodAll_mk1 (shut_bool Try.underlying4 _), (trodAll_cons_mk (Below.trod laidOut (by kernel_rfl) (of_decide_eq_true (by kernel_rfl)) k0 bel lt0) trodAll_mk0), rfl, bel.frame _, fun h => by cases h⟩
theorem over : Rows.floorBreaksRow.holds Try.pinned (OpenSpec.ofChange Rows.floorBreaksSpec) :=
  OpenClaim.holds_of_wide 6 Try.f6 rfl rfl rfl rfl rfl rfl rfl ⟨rfl, rfl, rfl, rfl, rfl⟩ rfl rfl rfl rfl rfl (by kernel_rfl) Try.func6 (by kernel_rfl)
    (of_decide_eq_true (by kernel_rfl)) (by unfold Func.isWrapper; first | (rw [if_pos (by decide +kernel)]; kernel_rfl) | (rw [if_neg (by decide +kernel)]; exact ⟨rfl, rfl⟩))
    (fun os started H enc _ => lifted os started H enc)
theorem proved : Rows.FloorBreaksSaid := over
#print axioms proved
end Go.Proofs.Ytdnjmhhjjbdieaa.floorBreaks
namespace Go.Proofs.Ytdnjmhhjjbdieaa
theorem floorBreaks_holds : Rows.FloorBreaksSaid := floorBreaks.proved
end Go.Proofs.Ytdnjmhhjjbdieaa
end
