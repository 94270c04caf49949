/- FloorWho: for every input the statement answers true; the input is a scene of any size, as an argument can hold it. -/
import Derived.Test.YtdnjmhhjjbdieaaSWho2
import Derived.Test.YtdnjmhhjjbdieaaSWho10
import Derived.Test.YtdnjmhhjjbdieaaSWho11
import Derived.Test.YtdnjmhhjjbdieaaSWho13
import Derived.Test.YtdnjmhhjjbdieaaRows
import Derived.WalkKit
import Derived.ProofKit
import Derived.OpenShut
import Derived.ShutString
import Derived.ChangeOld
import Derived.Below
import Derived.SizedLaws
import Derived.Carry
namespace Go.Proofs.Ytdnjmhhjjbdieaa.Q
end Go.Proofs.Ytdnjmhhjjbdieaa.Q
namespace Go.Proofs.YtdnjmhhjjbdieaaW.PrintWords
end Go.Proofs.YtdnjmhhjjbdieaaW.PrintWords
section
namespace Go.Proofs.Ytdnjmhhjjbdieaa.Q
open Go.RowKit Go.Proofs.YtdnjmhhjjbdieaaW.PrintWords
set_option linter.unusedVariables false
theorem FloorWho_ev (a0 a1 a2 a3 : Int) (l : List RM) (hm : ∀ y ∈ l, (0 ≤ y.f0 ∧ y.f0 < 65536) ∧ (0 ≤ y.f1 ∧ y.f1 < 65536)) : Ev (fun k => palantypelaw02_FloorWho.f k a0 a1 a2 a3 l) true := by
  obtain ⟨r, hck, hft⟩ := Fault_ev a0 a1 a2 a3 l hm
  have hfew := few_ev hft
  unfold palantypelaw02_FloorWho.f
  refine Ev.bind hfew ?_
  have aw : Ev (fun k => palantypelaw02_awake.f.bind fun t => some t) true := Ev.now true
  by_cases hb : (decide (l.length ≤ 45) && (decide (r ≠ 0) || (decide (a0 ≤ 3) && decide (l.length ≤ 5)) || (decide (a0 ≤ 2) && decide (l.length ≤ 6)))) = true
  case neg => exact Ev.congr (fun k => if_neg hb) aw
  refine Ev.congr (fun k => if_pos hb) ?_
  have h45 : l.length ≤ 45 := by
    rw [Bool.and_eq_true, decide_eq_true_eq] at hb; exact hb.1
  refine Ev.bind (Scene_ev a0 a1 a2 a3 l (by omega)) ?_
  simp only []
  unfold floor_Who.f
  rw [hck]
  simp only []
  by_cases h0 : r = 0
  case neg =>
    simp only [h0, if_false, Option.bind_some]
    refine Ev.bind hft ?_
    simp only [h0, if_false, if_true, List.length_nil]
    exact Ev.congr (fun k => if_pos rfl) aw
  subst h0
  obtain ⟨hl40, ⟨n, rfl, hn1, hn2⟩, h20, h1m, hs20, _⟩ := check_ok hck
  obtain ⟨hl6, hpow⟩ := few_small hb
  have htel := Tellings_ev a1 a2 a3 n (by omega) (by omega) hs20.1 l (by omega) l.length [] (by simp) hpow
  have hmem : ∀ s, s ∈ tels a1 a2 a3 n (l.map mo) l.length [] ↔ Told a1 a2 a3 n (l.map mo) s := fun s => by
    have := @mem_tels_told a1 a2 a3 n (l.map mo) s
    rwa [List.length_map] at this
  obtain ⟨all, hall⟩ : ∃ all, tels a1 a2 a3 n (l.map mo) l.length [] = all := ⟨_, rfl⟩
  rw [hall] at htel hmem
  have hlen : all.length ≤ 100000000 := by rw [← hall]; exact Nat.le_trans (length_tels _ _ _ _ _ _ _) hpow
  have hfw : (fwdL a1 a2 a3 n (l.map mo) (l.map mo).length).isEmpty = true ↔ all = [] := by
    rw [told_iff_fwd]
    constructor
    · intro h
      cases all with
      | nil => rfl
      | cons s _ => exact (h s ((hmem s).1 (by simp))).elim
    · rintro h s hs
      have := (hmem s).2 hs
      rw [h] at this; cases this
  have hnn : (n : Int).toNat = n := Int.toNat_natCast n
  simp only [if_true, hnn]
  by_cases he : all = []
  · rw [if_pos (hfw.2 he)]
    simp only [Option.bind_some]
    refine Ev.bind hft ?_
    simp only [if_true]
    refine Ev.bind htel ?_
    rw [he]
    simp only [List.length_nil]
    exact Ev.congr (fun k => by rw [if_pos (by decide), if_pos (by decide)]) aw
  · rw [if_neg (fun h => he (hfw.1 h))]
    simp only [Option.bind_some]
    refine Ev.bind hft ?_
    simp only [if_true]
    refine Ev.bind htel ?_
    have hpos : ¬ (all.length : Int) = 0 := fun h => he (List.length_eq_zero_iff.1 (by omega))
    simp only [if_neg hpos]
    have hrange : ∀ s ∈ all, ∀ p ∈ s, (-1 ≤ p.f0 ∧ p.f0 ≤ 14) ∧ (-1 ≤ p.f1 ∧ p.f1 ≤ 14) := fun s hs p hp => by
      have := told_range ((hmem s).1 hs) p hp
      omega
    obtain ⟨R, hR, hRe⟩ := RefWho_ev n a1 a2 a3 l (by omega) hlen (fun s hs => by have := ((hmem s).1 hs).1; rwa [List.length_map] at this) hrange
    refine Ev.bind hRe ?_
    refine Ev.bind (a := true) (told_ev (by simp; omega) (by simp [hR.1]) (fun j h1 h2 => ?_)) (Ev.congr (fun k => if_pos rfl) aw)
    have hj : j < (l.map mo).length := by simpa using h1
    rw [List.getElem_map, List.getElem_range]
    obtain ⟨t0, t1⟩ := toldOf_isSet (least := a1) (most := a2) (short := a3) hn2 hj
    obtain ⟨r0, r1⟩ := hR.2 j h2
    have key : ∀ (f : RP → Int) (q : Int), (∃ s, Told a1 a2 a3 n (l.map mo) s ∧ ∃ p, s[j]? = some p ∧ f p = q) ↔ ∃ s ∈ all, ∃ p, s[j]? = some p ∧ f p = q := fun f q =>
      exists_congr (fun s => and_congr (hmem s).symm Iff.rfl)
    exact ⟨t0.unique (r0.congr (fun q _ _ => (key (fun p => p.f0) q).symm)), t1.unique (r1.congr (fun q _ _ => (key (fun p => p.f1) q).symm))⟩
theorem Pure.FloorWho (a0_0 a0_1 a0_2 a0_3 : Int) (l0_4 : List S59) (w0 : (Lit.int .i64 a0_0).wf = true) (w1 : (Lit.int .i64 a0_1).wf = true) (w2 : (Lit.int .i64 a0_2).wf = true) (w3 : (Lit.int .i64 a0_3).wf = true) (hl : l0_4.length ≤ maxLen)
    (hm : ∀ y ∈ l0_4, (Lit.int .u16 y.f0).wf = true ∧ (Lit.int .u16 y.f1).wf = true) : ∃ k, palantypelaw02_FloorWho.f k a0_0 a0_1 a0_2 a0_3 l0_4 = some true :=
  (FloorWho_ev a0_0 a0_1 a0_2 a0_3 l0_4 (wf_moments hm)).rounds
end Go.Proofs.Ytdnjmhhjjbdieaa.Q
end
section
namespace Go.Proofs.Ytdnjmhhjjbdieaa.floorWho
open Go.ChangeShapes Go.WideShapes Go.ChangeAt Go.RowKit Go.Proofs.Ytdnjmhhjjbdieaa.Q
set_option linter.unusedVariables false
theorem own : ownKnob Try.prog.godebug = none := by kernel_rfl
theorem laidOut : laidOutB Try.prog = true := by kernel_rfl
set_option maxRecDepth 100000 in
theorem lifted (os : Os) (started : os.Started) (H : Type) (enc : TypeId × Value → H) :
    ReturnsInHanded {} Try.checked os 3 .any (Rows.floorWhoSpec.pre6 enc Try.prog Try.f3 Rows.floorWhoRow.domain false) (Rows.floorWhoSpec.post enc Try.prog Try.f3 false true false false) := by
  refine returnsInHanded_of_change_sized (C := Try.checked) own started (by kernel_rfl) Try.func3
    (ChangeSpec.witness6 (enc := enc) (C := Try.checked) false ⟨#[], #[.agg #[.int .i64 0, .int .i64 0, .int .i64 0, .int .i64 0, .slice none 0 0]], []⟩ 8 (by kernel_rfl) (by kernel_rfl) (by kernel_rfl) (by kernel_rfl)) ?_
  intro W base args ds gs before hval0 hW hcnd hsz0 _
  have hval : ∀ (j : Nat) t v, Try.f3.params[j]? = some t → args[j]? = some v → Value.okWide Try.prog W .any base t v := hval0
  have hW' := hW
  obtain ⟨p, q, hA0, hV, rfl, hfz, hnd⟩ := hW
  have hA : DataW.TrodAll enc Try.prog W 0 (fun _ => true) true Try.f3.params.toList args.toList ds p := hA0
  rw [Try.params3] at hA hval
  obtain ⟨v0, vs0, d0, ds0, p0, q0, hargs, rfl, rfl, h0, r0⟩ := trodAll_cons hA
  obtain ⟨rfl, rfl, rfl⟩ := trodAll_nil r0
  obtain rfl : args = #[v0] := by cases args; simp_all
  obtain ⟨rfl, rfl⟩ := trodVars_none hV
  have k0 := h0
  have lt0 : ∀ x ∈ p0, x.block < W.heap.size := by obtain ⟨m, hm⟩ := k0; exact DataW.trod_lt m _ _ _ hm
  obtain ⟨a0_0, a0_1, a0_2, a0_3, A0, l0_4, c0, rfl, hc0, hr0, w0_0, w0_1, w0_2, w0_3, hl0, hm0⟩ := open_scene (hval 0 24 v0 rfl rfl) h0
  clear hA0 hval0 hsz0
  obtain ⟨k, h⟩ := Pure.FloorWho a0_0 a0_1 a0_2 a0_3 l0_4 w0_0 w0_1 w0_2 w0_3 hl0 hm0
  refine Calls.mono (palantypelaw02_FloorWho.calls (hr0_4 := hr0) (hc0_4 := hc0) (h := h)) (fun e W' ⟨he, bel⟩ => ?_)
  subst he
  exact ⟨_, rfl, _, _, _, [], _, [], hW', trodAll_mk1 (shut_bool Try.underlying4 _), (trodAll_cons_mk (Below.trod laidOut (by kernel_rfl) (of_decide_eq_true (by kernel_rfl)) k0 bel lt0) trodAll_mk0), rfl, bel.frame _, fun h => by cases h⟩
theorem over : Rows.floorWhoRow.holds Try.pinned (OpenSpec.ofChange Rows.floorWhoSpec) :=
  OpenClaim.holds_of_wide 3 Try.f3 rfl rfl rfl rfl rfl rfl rfl ⟨rfl, rfl, rfl, rfl, rfl⟩ rfl rfl rfl rfl rfl (by kernel_rfl) Try.func3 (by kernel_rfl)
    (of_decide_eq_true (by kernel_rfl)) (by unfold Func.isWrapper; first | (rw [if_pos (by decide +kernel)]; kernel_rfl) | (rw [if_neg (by decide +kernel)]; exact ⟨rfl, rfl⟩))
    (fun os started H enc _ => lifted os started H enc)
theorem proved : Rows.FloorWhoSaid := over
#print axioms proved
end Go.Proofs.Ytdnjmhhjjbdieaa.floorWho
namespace Go.Proofs.Ytdnjmhhjjbdieaa
theorem floorWho_holds : Rows.FloorWhoSaid := floorWho.proved
end Go.Proofs.Ytdnjmhhjjbdieaa
end
