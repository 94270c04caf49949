/- Texts of a proof, joined: see the last one. -/
import Derived.Test.YtdnjmhhjjbdieaaG1
import Derived.Test.YtdnjmhhjjbdieaaG5
import Derived.Test.YtdnjmhhjjbdieaaG6
import Derived.Test.YtdnjmhhjjbdieaaG7
import Derived.LoopTactic
import Derived.Lib.Hide
import Derived.Carry
import Derived.Maps.AppendAt
import Derived.Maps.OwnIn
namespace Go.Proofs.YtdnjmhhjjbdieaaW.PrintLast
end Go.Proofs.YtdnjmhhjjbdieaaW.PrintLast
namespace Go.Proofs.YtdnjmhhjjbdieaaW.PrintWords
end Go.Proofs.YtdnjmhhjjbdieaaW.PrintWords
section
namespace Go.Proofs.Ytdnjmhhjjbdieaa.Q
open Go.RowKit Go.Proofs.YtdnjmhhjjbdieaaW.PrintWords
set_option linter.unusedVariables false
theorem ready_ev {a0 a1 a2 a3 : Int} {l : List S59} {r : Int} (hr : Ev (fun k => palantyperef02_Fault.f k a0 a1 a2 a3 l) r) :
    Ev (fun k => palantypelaw02_ready.f k a0 a1 a2 a3 l) (decide (l.length ≤ 45) && (r == 0)) := by
  unfold palantypelaw02_ready.f palantypelaw02_Thin.f
  by_cases h45 : (l.length : Int) ≤ 45
  · have e : decide (l.length ≤ 45) = true := decide_eq_true (by omega)
    simp only [Option.bind_some, decide_eq_true h45, if_true, e, Bool.true_and]
    exact Ev.bind hr (Ev.now _)
  · have e : decide (l.length ≤ 45) = false := decide_eq_false (by omega)
    simp only [Option.bind_some, decide_eq_false h45, Bool.false_eq_true, if_false, e, Bool.false_and]; exact Ev.now _
theorem wf_moments {l : List S59} (h : ∀ y ∈ l, (Lit.int .u16 y.f0).wf = true ∧ (Lit.int .u16 y.f1).wf = true) : ∀ y ∈ l, (0 ≤ y.f0 ∧ y.f0 < 65536) ∧ (0 ≤ y.f1 ∧ y.f1 < 65536) := fun y hy => ⟨wf_u16 (h y hy).1, wf_u16 (h y hy).2⟩
theorem check_mk {a0 a1 a2 a3 : Int} {l : List S52} (h1 : l.length ≤ 40) (h2 : 1 ≤ a0 ∧ a0 ≤ 12) (h3 : 1 ≤ a2 ∧ a2 ≤ 20) (h4 : 1 ≤ a1 ∧ a1 ≤ a2) (h5 : 0 ≤ a3 ∧ a3 ≤ 20) (h6 : l.all (momOk (knownOf a0)) = true) : floor_Scene_check.f a0 a1 a2 a3 l = some 0 := by
  unfold floor_Scene_check.f
  rw [if_neg (by omega), if_pos]
  simp only [win, Bool.and_eq_true, decide_eq_true_eq]
  exact ⟨⟨⟨⟨h2, h3⟩, h4⟩, h5⟩, h6⟩
theorem tell_gap {a1 a2 a3 : Int} {n : Nat} {l : List S52} (hc : floor_Scene_check.f n a1 a2 a3 l = some 0) (he : ∀ x, ¬ fwd a1 a2 a3 n l l.length x) : floor_Tell.f n a1 a2 a3 l = some ([], 10) := by
  unfold floor_Tell.f
  rw [hc]
  simp only [if_true, Int.toNat_natCast]
  rw [if_pos (fwdL_empty.2 he)]
theorem tell_ok {a1 a2 a3 : Int} {n : Nat} {l : List S52} (hc : floor_Scene_check.f n a1 a2 a3 l = some 0) (he : ∃ x, fwd a1 a2 a3 n l l.length x) : floor_Tell.f n a1 a2 a3 l = some ((tellTo a1 a2 a3 n l l.length).1, 0) := by
  unfold floor_Tell.f
  rw [hc]
  simp only [if_true, Int.toNat_natCast]
  rw [if_neg (fun h => by obtain ⟨x, hx⟩ := he; exact fwdL_empty.1 h x hx)]
theorem who_gap {a1 a2 a3 : Int} {n : Nat} {l : List S52} (hc : floor_Scene_check.f n a1 a2 a3 l = some 0) (he : ∀ x, ¬ fwd a1 a2 a3 n l l.length x) : floor_Who.f n a1 a2 a3 l = some ([], 10) := by
  unfold floor_Who.f
  rw [hc]
  simp only [if_true, Int.toNat_natCast]
  rw [if_pos (fwdL_empty.2 he)]
theorem who_ok {a1 a2 a3 : Int} {n : Nat} {l : List S52} (hc : floor_Scene_check.f n a1 a2 a3 l = some 0) (he : ∃ x, fwd a1 a2 a3 n l l.length x) : floor_Who.f n a1 a2 a3 l = some ((List.range l.length).map (toldOf a1 a2 a3 n l), 0) := by
  unfold floor_Who.f
  rw [hc]
  simp only [if_true, Int.toNat_natCast]
  rw [if_neg (fun h => by obtain ⟨x, hx⟩ := he; exact fwdL_empty.1 h x hx)]
end Go.Proofs.Ytdnjmhhjjbdieaa.Q
end
section
namespace Go.Proofs.Ytdnjmhhjjbdieaa.Q
open Go.RowKit Go.Proofs.YtdnjmhhjjbdieaaW.PrintWords Go.Proofs.YtdnjmhhjjbdieaaW.PrintLast
theorem max_of_ints (k k' : IntKind) (x y : Int) : Builtin.max2 (.int k x) (.int k' y) = pure (.int k (if x < y then y else x)) := by simp only [Builtin.max2, gt_iff_lt]
theorem min_of_ints (k k' : IntKind) (x y : Int) : Builtin.min2 (.int k x) (.int k' y) = pure (.int k (if y < x then y else x)) := by simp only [Builtin.min2]
attribute [local go_sem] max_of_ints min_of_ints
attribute [local go_sem] Oper.semAt_some
set_option linter.unusedVariables false
set_option linter.unusedSimpArgs false
def accMin (xs : List Int) : Nat → Int
  | 0 => xs.getD 0 0
  | k + 1 => if xs.getD k 0 < accMin xs k then xs.getD k 0 else accMin xs k
set_option maxRecDepth 100000 in
set_option maxHeartbeats 1000000 in
theorem slmin.calls (b c : Nat) (xs : List Int) (h0 : 0 < xs.length) (hb : xs.length ≤ 1000000000) (w : World) (hc : ∀ j, j < xs.length → w.cell? ⟨b, j, none⟩ = some (.int .i64 (xs.getD j 0))) :
    Calls Try.prog 77 #[.slice (some ⟨b, 0, none⟩) xs.length c] w fun e w' => e = .returned (.int .i64 (accMin xs xs.length)) ∧ w' = w := by
  have c0 := hc 0 h0
  have h1 : ¬ ((xs.length : Int) < 1) := by omega
  have h2 : (0 : Int) < xs.length := by omega
  go_enter Try.func77, Try.ntmps77
  go_wp2
  go_loop [3, 4] (fun m i => ∃ k : Nat, 1 ≤ k ∧ k ≤ xs.length ∧ i = .int .i64 k ∧ m = .int .i64 (accMin xs k)) (fun m i => xs.length - (intOf i).toNat)
  case atStart =>
    exact ⟨1, Nat.le_refl _, h0, rfl, by simp [accMin, List.getD, h0]⟩
  case round =>
    obtain ⟨k, hk1, hk2, rfl, rfl⟩ := hrel
    by_cases hlt : k < xs.length
    · have ck := hc k hlt
      have hk3 : (k : Int) < xs.length := by omega
      have hwr : IntKind.i64.wrap ((k : Int) + 1) = (k : Int) + 1 := by simp [IntKind.wrap, IntKind.bits, IntKind.signed]; omega
      clear hc c0
      go_wp2
      go_round
      case rel => exact ⟨k + 1, by omega, by omega, by simp, by simp [accMin, List.getD, hlt]⟩
      case measure => simp [intOf]; omega
    · obtain rfl : k = xs.length := by omega
      clear hc c0
      go_wp2
      go_ret
      exact ⟨rfl, rfl⟩
def accMax (xs : List Int) : Nat → Int
  | 0 => xs.getD 0 0
  | k + 1 => if accMax xs k < xs.getD k 0 then xs.getD k 0 else accMax xs k
set_option maxRecDepth 100000 in
set_option maxHeartbeats 1000000 in
theorem slmax.calls (b c : Nat) (xs : List Int) (h0 : 0 < xs.length) (hb : xs.length ≤ 1000000000) (w : World) (hc : ∀ j, j < xs.length → w.cell? ⟨b, j, none⟩ = some (.int .i64 (xs.getD j 0))) :
    Calls Try.prog 78 #[.slice (some ⟨b, 0, none⟩) xs.length c] w fun e w' => e = .returned (.int .i64 (accMax xs xs.length)) ∧ w' = w := by
  have c0 := hc 0 h0
  have h1 : ¬ ((xs.length : Int) < 1) := by omega
  have h2 : (0 : Int) < xs.length := by omega
  go_enter Try.func78, Try.ntmps78
  go_wp2
  go_loop [3, 4] (fun m i => ∃ k : Nat, 1 ≤ k ∧ k ≤ xs.length ∧ i = .int .i64 k ∧ m = .int .i64 (accMax xs k)) (fun m i => xs.length - (intOf i).toNat)
  case atStart =>
    exact ⟨1, Nat.le_refl _, h0, rfl, by simp [accMax, List.getD, h0]⟩
  case round =>
    obtain ⟨k, hk1, hk2, rfl, rfl⟩ := hrel
    by_cases hlt : k < xs.length
    · have ck := hc k hlt
      have hk3 : (k : Int) < xs.length := by omega
      have hwr : IntKind.i64.wrap ((k : Int) + 1) = (k : Int) + 1 := by simp [IntKind.wrap, IntKind.bits, IntKind.signed]; omega
      clear hc c0
      go_wp2
      go_round
      case rel => exact ⟨k + 1, by omega, by omega, by simp, by simp [accMax, List.getD, hlt]⟩
      case measure => simp [intOf]; omega
    · obtain rfl : k = xs.length := by omega
      clear hc c0
      go_wp2
      go_ret
      exact ⟨rfl, rfl⟩
end Go.Proofs.Ytdnjmhhjjbdieaa.Q
end
section
namespace Go.Proofs.Ytdnjmhhjjbdieaa.Q
open Go.RowKit Go.Shelf Go.Proofs.YtdnjmhhjjbdieaaW.PrintWords Go.Proofs.YtdnjmhhjjbdieaaW.PrintLast
set_option linter.unusedVariables false
set_option linter.unusedSimpArgs false
attribute [local go_sem] Oper.semAt_some
def endsOf (xs : List Int) : Int × Int := (accMin xs xs.length, accMax xs xs.length)
set_option maxRecDepth 100000 in
set_option maxHeartbeats 1000000 in
theorem ends.calls (b c : Nat) (xs : List Int) (h0 : 0 < xs.length) (hb : xs.length ≤ 1000000000) (w : World) (hc : ∀ j, j < xs.length → w.cell? ⟨b, j, none⟩ = some (.int .i64 (xs.getD j 0))) :
    Calls Try.prog 58 #[.slice (some ⟨b, 0, none⟩) xs.length c] w fun e w' => e = .returned (.agg #[.int .i64 (endsOf xs).1, .int .i64 (endsOf xs).2]) ∧ Below w.heap.size w w' := by
  have hu := Try.underlying115
  have kb : b < w.heap.size := World.block_lt_of_cell? w _ (hc 0 h0)
  have hc2 : ∀ (v : Obj) j, j < xs.length → (w.alloc v).cell? ⟨b, j, none⟩ = some (.int .i64 (xs.getD j 0)) := fun v j hj => (World.cell?_alloc_lt _ _ _ kb).trans (hc j hj)
  go_enter Try.func58, Try.ntmps58
  have HC := Lib.hid hc2
  clear hc hc2
  go_wp2_with fail
  refine (slmin.calls b c xs h0 hb _ (HC.out _)).mono ?_
  rintro e w' ⟨rfl, rfl⟩
  go_wp2_with fail
  refine (slmax.calls b c xs h0 hb _ (HC.out _)).mono ?_
  rintro e w' ⟨rfl, rfl⟩
  go_wp2_with fail
  refine bodyPost_ret (v := .agg #[.int .i64 (endsOf xs).1, .int .i64 (endsOf xs).2]) (by simp [results, Try.results58, go_sem, hu, endsOf]) rfl ⟨rfl, (Below.refl _ _).alloc (Nat.le_refl _) _⟩
def merge (was : Option (Int × Int)) (n : Int × Int) : Int × Int := match was with | none => n | some v => endsOf [n.1, n.2, v.1, v.2]
set_option maxRecDepth 100000 in
set_option maxHeartbeats 2000000 in
theorem join.calls (x : St) (hx : InBox x) (n : Int × Int) (cn bn : Nat) (M : St → Option (Int × Int)) (w : World) (hcn : w.heap[cn]? = some (.cells #[.map (some bn)] 116 (0, 0))) (hM : MapIs EP w bn M) :
    Calls Try.prog 57 #[.agg #[.int .i64 x.holder, .int .i64 x.turn, .int .i64 x.short, .bool x.own], .agg #[.int .i64 n.1, .int .i64 n.2], .pointer (some ⟨cn, 0, none⟩)] w fun e w' =>
      e = .returned (.tuple #[]) ∧ MapIs EP w' bn (fun y => if y = x then some (merge (M x) n) else M y) ∧ (w.heap.size ≤ w'.heap.size ∧ w'.os = w.os ∧ w'.tape = w.tape ∧ w'.output = w.output ∧ ∀ k, k < w.heap.size → k ≠ bn → w'.heap[k]? = w.heap[k]?) := by
  have hu := Try.underlying115
  have hu1 := Try.underlying109
  have hmn : cn ≠ bn := fun e => by
    subst e; obtain ⟨es, c, h⟩ := hM.isMap; rw [hcn] at h; cases h
  have kcn : cn < w.heap.size := (Array.getElem?_eq_some_iff.1 hcn).1
  have kcn1 : cn < w.heap.size + 1 := by omega
  have ecn := cell_of hcn (i := 0) rfl
  simp only [List.getElem_toArray, List.getElem_cons_zero] at ecn
  go_enter Try.func57, Try.ntmps57
  obtain ⟨W1, hW1⟩ : ∃ W1, (w.alloc (.cells #[.int .i64 x.holder, .int .i64 x.turn, .int .i64 x.short, .bool x.own] 109)).alloc (.cells #[.int .i64 n.1, .int .i64 n.2] 115) = W1 := ⟨_, rfl⟩
  have hb1 : Below w.heap.size w W1 := by rw [← hW1]; exact ((Below.refl _ w).alloc (Nat.le_refl _) _).alloc (by simp) _
  have hs1 : W1.heap.size = w.heap.size + 2 := by rw [← hW1]; simp
  have hx1 : W1.heap[w.heap.size]? = some (.cells #[.int .i64 x.holder, .int .i64 x.turn, .int .i64 x.short, .bool x.own] 109 (0, 0)) := by rw [← hW1]; exact heap_old (heap_new rfl)
  have hn1 : W1.heap[w.heap.size + 1]? = some (.cells #[.int .i64 n.1, .int .i64 n.2] 115 (0, 0)) := by rw [← hW1]; exact heap_new (by simp)
  have hM1 := hM.same (hb1.block _ hM.lt)
  have hlk0 := hM1.lookOk x hx
  have HM := Lib.hid hM
  have HM1 := Lib.hid hM1
  have HB1 := Lib.hid hb1
  have HX1 := Lib.hid hx1
  have HN1 := Lib.hid hn1
  have x0 := cell_of hx1 (i := 0) rfl
  have x1 := cell_of hx1 (i := 1) rfl
  have x2 := cell_of hx1 (i := 2) rfl
  have x3 := cell_of hx1 (i := 3) rfl
  have n0 := cell_of hn1 (i := 0) rfl
  have n1 := cell_of hn1 (i := 1) rfl
  have f0 := not_frozen (i := 0) hn1
  have f1 := not_frozen (i := 1) hn1
  have ecn1 := (hb1.cell (p := ⟨cn, 0, none⟩) kcn).trans ecn
  simp only [List.getElem_toArray, List.getElem_cons_zero, List.getElem_cons_succ] at x0 x1 x2 x3 n0 n1
  have q0 : cn < W1.heap.size := by omega
  have q1 : w.heap.size < W1.heap.size := by omega
  have q2 : w.heap.size + 1 < W1.heap.size := by omega
  have HS1 := Lib.hid hs1
  clear hM hM1 hb1 hx1 hn1 hcn ecn hs1
  cases hMx : M x with
  | none =>
    rw [hMx] at hlk0
    have hlk : (Instr.lookup 116 (.map (some bn)) (.agg #[.int .i64 x.holder, .int .i64 x.turn, .int .i64 x.short, .bool x.own]) true).run Try.prog W1 = .ok (.tuple #[.agg #[.int .i64 0, .int .i64 0], .bool false]) W1 := hlk0
    obtain ⟨W2, hup0, hM2, hg2, ht2, hs2⟩ := (HM1.out.same (w' := W1.alloc (.cells #[.int .i64 0, .int .i64 0] 115)) (Below.heap_alloc _ _ _ HM1.out.lt)).update x hx n
    have hup : (Instr.mapUpdate 116 (.map (some bn)) (.agg #[.int .i64 x.holder, .int .i64 x.turn, .int .i64 x.short, .bool x.own]) (.agg #[.int .i64 n.1, .int .i64 n.2])).run Try.prog (W1.alloc (.cells #[.int .i64 0, .int .i64 0] 115)) = .ok () W2 := hup0
    have HM2 := Lib.hid hM2
    have HG2 := Lib.hid hg2
    have HS2 := Lib.hid hs2
    clear hlk0 hup0 hM2 hg2 ht2 hs2
    go_wp2_with fail
    go_end0
    have hs1 := HS1.out
    have hg2 := HG2.out
    refine ⟨rfl, HM2.out, by have := HS2.out; simp at this; omega, hg2.os.trans HB1.out.os, hg2.tape.trans HB1.out.tape, hg2.output.trans HB1.out.output, fun k hk hne => ?_⟩
    exact (hg2.block k (by simp; omega) (fun e => hne (Option.some.inj e))).trans ((Below.heap_alloc _ _ _ (by omega)).trans (HB1.out.block k hk))
  | some v =>
    rw [hMx] at hlk0
    have hlk : (Instr.lookup 116 (.map (some bn)) (.agg #[.int .i64 x.holder, .int .i64 x.turn, .int .i64 x.short, .bool x.own]) true).run Try.prog W1 = .ok (.tuple #[.agg #[.int .i64 v.1, .int .i64 v.2], .bool true]) W1 := hlk0
    clear hlk0
    go_wp2_with fail
    obtain ⟨W3, hW3⟩ : ∃ W3, (W1.alloc (.cells #[.int .i64 v.1, .int .i64 v.2] 115)).alloc (.cells #[.int .i64 n.1, .int .i64 n.2, .int .i64 v.1, .int .i64 v.2] 3) = W3 := ⟨_, rfl⟩
    have hb3 : Below W1.heap.size W1 W3 := by rw [← hW3]; exact ((Below.refl _ W1).alloc (Nat.le_refl _) _).alloc (by simp) _
    have hs3 : W3.heap.size = W1.heap.size + 2 := by rw [← hW3]; simp
    have hl3 : W3.heap[W1.heap.size + 1]? = some (.cells #[.int .i64 n.1, .int .i64 n.2, .int .i64 v.1, .int .i64 v.2] 3 (0, 0)) := by rw [← hW3]; exact heap_new (by simp)
    rw [hW3]
    refine (ends.calls (W1.heap.size + 1) 4 [n.1, n.2, v.1, v.2] (by simp) (by simp) W3 (fun j hj => ?_)).mono ?_
    · have : j = 0 ∨ j = 1 ∨ j = 2 ∨ j = 3 := by simp at hj; omega
      rcases this with rfl | rfl | rfl | rfl <;> exact cell_of hl3 rfl
    rintro e W4 ⟨rfl, hb4⟩
    obtain ⟨d, hd⟩ : ∃ d, endsOf [n.1, n.2, v.1, v.2] = d := ⟨_, rfl⟩
    rw [hd]
    have hb14 : Below W1.heap.size W1 W4 := hb3.trans (hb4.mono (by omega))
    have hs4 : W1.heap.size + 2 ≤ W4.heap.size := by have := hb4.size; omega
    have hn4 := (hb14.block _ q2).trans HN1.out
    have n0' := cell_of hn4 (i := 0) rfl
    have n1' := cell_of hn4 (i := 1) rfl
    have f0' := not_frozen (i := 0) hn4
    have f1' := not_frozen (i := 1) hn4
    have x0' := (hb14.cell (p := ⟨w.heap.size, 0, none⟩) q1).trans x0
    have x1' := (hb14.cell (p := ⟨w.heap.size, 1, none⟩) q1).trans x1
    have x2' := (hb14.cell (p := ⟨w.heap.size, 2, none⟩) q1).trans x2
    have x3' := (hb14.cell (p := ⟨w.heap.size, 3, none⟩) q1).trans x3
    have ecn4 := (hb14.cell (p := ⟨cn, 0, none⟩) q0).trans ecn1
    simp only [List.getElem_toArray, List.getElem_cons_zero, List.getElem_cons_succ] at n0' n1'
    have hbn : bn < w.heap.size := HM.out.lt
    have hsame : ((W4.setCell ⟨w.heap.size + 1, 0, none⟩ (.int .i64 d.1)).setCell ⟨w.heap.size + 1, 1, none⟩ (.int .i64 d.2)).heap[bn]? = W1.heap[bn]? :=
      (Below.heap_setCell _ _ _ _ (by show bn ≠ w.heap.size + 1; omega)).trans ((Below.heap_setCell _ _ _ _ (by show bn ≠ w.heap.size + 1; omega)).trans (hb14.block bn (by omega)))
    obtain ⟨W5, hup0, hM5, hg5, ht5, hs5⟩ := (HM1.out.same hsame).update x hx d
    have hup : (Instr.mapUpdate 116 (.map (some bn)) (.agg #[.int .i64 x.holder, .int .i64 x.turn, .int .i64 x.short, .bool x.own]) (.agg #[.int .i64 d.1, .int .i64 d.2])).run Try.prog ((W4.setCell ⟨w.heap.size + 1, 0, none⟩ (.int .i64 d.1)).setCell ⟨w.heap.size + 1, 1, none⟩ (.int .i64 d.2)) = .ok () W5 := hup0
    have HB14 := Lib.hid hb14
    have HS4 := Lib.hid hs4
    have HN4 := Lib.hid hn4
    have HD := Lib.hid hd
    have HM5 := Lib.hid hM5
    have HG5 := Lib.hid hg5
    have HS5 := Lib.hid hs5
    clear hb14 hs4 hn4 hd hb3 hb4 hs3 hl3 hW3 hup0 hM5 hg5 ht5 hs5 hsame
    go_wp2_with fail
    go_end0
    have hs1 := HS1.out
    have hs4 := HS4.out
    have hs5 := HS5.out
    have hg5 := HG5.out
    have hb14 := HB14.out
    refine ⟨rfl, ?_, by simp [World.setCell] at hs5; omega, hg5.os.trans (hb14.os.trans HB1.out.os), hg5.tape.trans (hb14.tape.trans HB1.out.tape), hg5.output.trans (hb14.output.trans HB1.out.output), fun k hk hne => ?_⟩
    · have : merge (some v) n = d := HD.out
      rw [this]; exact HM5.out
    · refine (hg5.block k (by simp [World.setCell]; omega) (fun e => hne (Option.some.inj e))).trans ?_
      exact (Below.heap_setCell _ _ _ _ (by show k ≠ w.heap.size + 1; omega)).trans ((Below.heap_setCell _ _ _ _ (by show k ≠ w.heap.size + 1; omega)).trans ((hb14.block k (by omega)).trans (HB1.out.block k hk)))
end Go.Proofs.Ytdnjmhhjjbdieaa.Q
end
section
namespace Go.Proofs.Ytdnjmhhjjbdieaa.Q
open Go.RowKit Go.Shelf Go.Proofs.YtdnjmhhjjbdieaaW.PrintWords Go.Proofs.YtdnjmhhjjbdieaaW.PrintLast
set_option linter.unusedVariables false
set_option linter.unusedSimpArgs false
attribute [local go_sem] Oper.semAt_some
def IsEnds (S : Int → Prop) (o : Option (Int × Int)) : Prop := match o with | none => ∀ c, ¬ S c | some v => S v.1 ∧ S v.2 ∧ ∀ c, S c → v.1 ≤ c ∧ c ≤ v.2
theorem IsEnds.congr {S T : Int → Prop} {o : Option (Int × Int)} (h : IsEnds S o) (hs : ∀ c, S c ↔ T c) : IsEnds T o := by
  cases o with
  | none => exact fun c hc => h c ((hs c).2 hc)
  | some v => exact ⟨(hs _).1 h.1, (hs _).1 h.2.1, fun c hc => h.2.2 c ((hs c).2 hc)⟩
theorem ends_four (a b c d : Int) : (endsOf [a, b, c, d]).1 = min (min a b) (min c d) ∧ (endsOf [a, b, c, d]).2 = max (max a b) (max c d) := by
  simp only [endsOf, accMin, accMax, List.length_cons, List.length_nil, List.getD]
  simp
  constructor <;> (repeat' split) <;> omega
theorem IsEnds.merge {S T : Int → Prop} {o : Option (Int × Int)} {v : Int × Int} (h : IsEnds S o) (h' : IsEnds T (some v)) : IsEnds (fun c => S c ∨ T c) (some (merge o v)) := by
  obtain ⟨t1, t2, t3⟩ := h'
  have tt := t3 _ t2
  cases o with
  | none => exact ⟨.inr t1, .inr t2, fun c hc => hc.elim (fun q => (h c q).elim) (t3 c)⟩
  | some w =>
    obtain ⟨s1, s2, s3⟩ := h
    have ss := s3 _ s2
    obtain ⟨e1, e2⟩ := ends_four v.1 v.2 w.1 w.2
    show (S _ ∨ T _) ∧ (S _ ∨ T _) ∧ ∀ c, (S c ∨ T c) → (endsOf [v.1, v.2, w.1, w.2]).1 ≤ c ∧ c ≤ (endsOf [v.1, v.2, w.1, w.2]).2
    have k1 : (endsOf [v.1, v.2, w.1, w.2]).1 = v.1 ∨ (endsOf [v.1, v.2, w.1, w.2]).1 = w.1 := by omega
    have k2 : (endsOf [v.1, v.2, w.1, w.2]).2 = v.2 ∨ (endsOf [v.1, v.2, w.1, w.2]).2 = w.2 := by omega
    refine ⟨?_, ?_, fun c hc => ?_⟩
    · show S (endsOf [v.1, v.2, w.1, w.2]).1 ∨ T (endsOf [v.1, v.2, w.1, w.2]).1
      rcases k1 with k | k <;> rw [k]
      · exact .inr t1
      · exact .inl s1
    · show S (endsOf [v.1, v.2, w.1, w.2]).2 ∨ T (endsOf [v.1, v.2, w.1, w.2]).2
      rcases k2 with k | k <;> rw [k]
      · exact .inr t2
      · exact .inl s2
    · rcases hc with hc | hc
      · have := s3 c hc; omega
      · have := t3 c hc; omega
theorem IsEnds.shift {S : Int → Prop} {v : Int × Int} (h : IsEnds S (some v)) (d : Int) : IsEnds (fun c => ∃ c', S c' ∧ c = c' + d) (some (v.1 + d, v.2 + d)) :=
  ⟨⟨v.1, h.1, rfl⟩, ⟨v.2, h.2.1, rfl⟩, fun c ⟨c', h1, h2⟩ => by have := h.2.2 c' h1; show v.1 + d ≤ c ∧ c ≤ v.2 + d; omega⟩
def heldOne (person : Int) (p : (Int × Int) × St) : Int := if p.1.1 = person then 1 else 0
def cnts (least most short : Int) (n : Nat) (mf mh person : Int) (S : St → Int → Prop) (y : St) (c : Int) : Prop := ∃ x, ∃ p ∈ partsOf least most short x mf mh n, p.2 = y ∧ ∃ c', S x c' ∧ c = c' + heldOne person p
set_option maxRecDepth 100000 in
set_option maxHeartbeats 4000000 in
theorem held.fill (n : Nat) (hn : n ≤ 12) (least most short mf mh person : Int) (vv : Value) (S : St → Int → Prop) (M : St → Option (Int × Int)) (i : Nat) (hi : i ≤ 45) (hS : ∀ x c, S x c → Small x i ∧ 0 ≤ c ∧ c ≤ i) (hSM : ∀ x, IsEnds (S x) (M x))
    (sc pc cm cn jc bi bn rb lo cnt : Nat) (ds : List Deferred) (Q : Exit → Act → World → Prop) (v0 v1 v4 v5 v6 v7 v8 v12 v13 v14 v15 v16 v17 v18 v19 v20 v21 v22 v23 v24 v25 v26 v27 v28 v29 v30 v31 v32 v33 v34 v35 v36 v37 v38 v39 v40 v41 v42 v43 v44 v45 v46 v47 v49 v50 v51 v52 v53 v54 v55 v56 v57 v58 v59 v60 v61 v62 v63 v64 v65 v66 v67 v68 v69 v70 v71 v72 v73 v74 v75 v76 v77 v78 v79 v80 v81 v82 v83 v84 v85 v86 v87 v88 v89 v90 v91 v92 v93 v94 v95 v96 v97 v98 v99 v100 v101 : Value) (W : World)
    (hr : RangeIs EP W bi rb M (fun x => M x ≠ none) cnt) (hb : MapIs EP W bn (fun _ => none)) (hbn : bi ≠ bn)
    (h1 : W.heap[sc]? = some (.cells #[.int .i64 n, .int .i64 least, .int .i64 most, .int .i64 short, vv] 33 (0, 0)))
    (h2 : W.heap[cm]? = some (.cells #[.int .u16 mf, .int .u16 mh] 52 (0, 0)))
    (h3 : W.heap[cn]? = some (.cells #[.map (some bn)] 116 (0, 0)))
    (h4 : W.heap[pc]? = some (.cells #[.int .i64 person] 3 (0, 0)))
    (h5 : W.heap[jc]? = some (.cells #[.func (.func 57) #[] #[.pointer (some ⟨cn, 0, none⟩)]] 119 (0, 0)))
    (hlo : lo ≤ W.heap.size) (hds : Coll lo W.heap.size ds W)
    (hdone : ∀ (ds' : List Deferred) (u12 u13 u14 u15 u16 u49 u50 u51 u52 u53 u54 u55 u56 u57 u60 u61 u62 u63 u64 u65 u66 u67 u68 u69 u70 u71 u72 u73 u74 u75 : Value) (M' : St → Option (Int × Int)) (W' : World), Fr (fun k => k = bn ∨ k = rb) W W' → MapIs EP W' bn M' → (∀ y, IsEnds (cnts least most short n mf mh person S y) (M' y)) → Coll lo W'.heap.size ds' W' →
      Q .normal { tmps := (List.toArray (v0 :: v1 :: (.pointer (some ⟨sc, 0, none⟩)) :: (.pointer (some ⟨pc, 0, none⟩)) :: v4 :: v5 :: v6 :: v7 :: v8 :: (.pointer (some ⟨cm, 0, none⟩)) :: (.pointer (some ⟨cn, 0, none⟩)) :: (.pointer (some ⟨jc, 0, none⟩)) :: u12 :: u13 :: u14 :: u15 :: u16 :: v17 :: v18 :: v19 :: v20 :: v21 :: v22 :: v23 :: v24 :: v25 :: v26 :: v27 :: v28 :: v29 :: v30 :: v31 :: v32 :: v33 :: v34 :: v35 :: v36 :: v37 :: v38 :: v39 :: v40 :: v41 :: v42 :: v43 :: v44 :: v45 :: v46 :: v47 :: (.pointer (some ⟨rb, 0, none⟩)) :: u49 :: u50 :: u51 :: u52 :: u53 :: u54 :: u55 :: u56 :: u57 :: v58 :: v59 :: u60 :: u61 :: u62 :: u63 :: u64 :: u65 :: u66 :: u67 :: u68 :: u69 :: u70 :: u71 :: u72 :: u73 :: u74 :: u75 :: v76 :: v77 :: v78 :: v79 :: v80 :: v81 :: v82 :: v83 :: v84 :: v85 :: v86 :: v87 :: v88 :: v89 :: v90 :: v91 :: v92 :: v93 :: v94 :: v95 :: v96 :: v97 :: v98 :: v99 :: v100 :: v101 :: [])), defers := ds' } W') :
    (blockOf 2 Try.f24).wpIn Fence.wide 0 Try.prog (Exit.inBlock 2 Q) { tmps := (List.toArray (v0 :: v1 :: (.pointer (some ⟨sc, 0, none⟩)) :: (.pointer (some ⟨pc, 0, none⟩)) :: v4 :: v5 :: v6 :: v7 :: v8 :: (.pointer (some ⟨cm, 0, none⟩)) :: (.pointer (some ⟨cn, 0, none⟩)) :: (.pointer (some ⟨jc, 0, none⟩)) :: v12 :: v13 :: v14 :: v15 :: v16 :: v17 :: v18 :: v19 :: v20 :: v21 :: v22 :: v23 :: v24 :: v25 :: v26 :: v27 :: v28 :: v29 :: v30 :: v31 :: v32 :: v33 :: v34 :: v35 :: v36 :: v37 :: v38 :: v39 :: v40 :: v41 :: v42 :: v43 :: v44 :: v45 :: v46 :: v47 :: (.pointer (some ⟨rb, 0, none⟩)) :: v49 :: v50 :: v51 :: v52 :: v53 :: v54 :: v55 :: v56 :: v57 :: v58 :: v59 :: v60 :: v61 :: v62 :: v63 :: v64 :: v65 :: v66 :: v67 :: v68 :: v69 :: v70 :: v71 :: v72 :: v73 :: v74 :: v75 :: v76 :: v77 :: v78 :: v79 :: v80 :: v81 :: v82 :: v83 :: v84 :: v85 :: v86 :: v87 :: v88 :: v89 :: v90 :: v91 :: v92 :: v93 :: v94 :: v95 :: v96 :: v97 :: v98 :: v99 :: v100 :: v101 :: [])), defers := ds } W := by
  conv => arg 4; whnf
  have hmx : Try.prog.follows .mixedOrders = true := by kernel_rfl
  have hu := Try.underlying33
  have hu1 := Try.underlying109
  have hu2 := Try.underlying52
  have hu3 := Try.underlying115
  have hu5 := Try.underlying65
  have ksc : sc < W.heap.size := (Array.getElem?_eq_some_iff.1 h1).1
  have kcm : cm < W.heap.size := (Array.getElem?_eq_some_iff.1 h2).1
  have no : ∀ {k : Nat} {cs : Array Value} {t : TypeId}, W.heap[k]? = some (.cells cs t (0, 0)) → ¬ (k = bn ∨ k = rb) := fun hk h => by
    rcases h with rfl | rfl
    · obtain ⟨es, c, e⟩ := hb.isMap; rw [hk] at e; cases e
    · obtain ⟨o, e, ec⟩ := hr.iter; rw [hk] at e; cases e; cases ec
  have nosc := no h1
  have nocm := no h2
  have nocn := no h3
  have nopc := no h4
  have nojc := no h5
  have norb : rb ≠ bn := fun h => by
    subst h
    obtain ⟨es, c, e⟩ := hb.isMap
    obtain ⟨D, left, ⟨es, clock, since, seen, c0, q1, q2, q3, q4, q5, q6⟩, ht, hl⟩ := hr
    rw [q5] at e; cases e
  have H1 := Lib.hid h1
  have H2 := Lib.hid h2
  have H3 := Lib.hid h3
  have H4 := Lib.hid h4
  have H5 := Lib.hid h5
  clear h1 h2 h3 h4 h5 no
  refine wpIn_loop_lay (fun (tT : List Value) (a' : Act) (wv : World) => ∃ (dfs : List Deferred) (u12 u13 u14 u15 u16 u49 u50 u51 u52 u53 u54 u55 u56 u57 u60 u61 u62 u63 u64 u65 u66 u67 u68 u69 u70 u71 u72 u73 u74 u75 : Value), ((fun dfs w' => ∃ L cnt M', RangeIs EP w' bi rb M L cnt ∧ MapIs EP w' bn M' ∧ (∀ y, IsEnds (cnts least most short n mf mh person (fun x c => S x c ∧ ¬ L x) y) (M' y)) ∧ Fr (fun k => k = bn ∨ k = rb) W w' ∧ Coll lo w'.heap.size dfs w')  dfs wv) ∧ a' = { tmps := (lay [none, none, none, none, none, none, none, none, none, none, none, none, some u12, some u13, some u14, some u15, some u16, none, none, none, none, none, none, none, none, none, none, none, none, none, none, none, none, none, none, none, none, none, none, none, none, none, none, none, none, none, none, none, none, some u49, some u50, some u51, some u52, some u53, some u54, some u55, some u56, some u57, none, none, some u60, some u61, some u62, some u63, some u64, some u65, some u66, some u67, some u68, some u69, some u70, some u71, some u72, some u73, some u74, some u75] tT).toArray, defers := dfs }) (fun (a' : Act) (wv : World) => (fun w' => w'.rangeLeft bi rb)  wv) ?atStart ?round
  case' atStart =>
    dsimp only [lay]
    (repeat apply Exists.intro)
    refine ⟨?_, rfl⟩
  case' round =>
    dsimp only [lay]
    intro _ wr hinv
    obtain ⟨dfs, hinv⟩ := hinv
    obtain ⟨u12, hinv⟩ := hinv
    obtain ⟨u13, hinv⟩ := hinv
    obtain ⟨u14, hinv⟩ := hinv
    obtain ⟨u15, hinv⟩ := hinv
    obtain ⟨u16, hinv⟩ := hinv
    obtain ⟨u49, hinv⟩ := hinv
    obtain ⟨u50, hinv⟩ := hinv
    obtain ⟨u51, hinv⟩ := hinv
    obtain ⟨u52, hinv⟩ := hinv
    obtain ⟨u53, hinv⟩ := hinv
    obtain ⟨u54, hinv⟩ := hinv
    obtain ⟨u55, hinv⟩ := hinv
    obtain ⟨u56, hinv⟩ := hinv
    obtain ⟨u57, hinv⟩ := hinv
    obtain ⟨u60, hinv⟩ := hinv
    obtain ⟨u61, hinv⟩ := hinv
    obtain ⟨u62, hinv⟩ := hinv
    obtain ⟨u63, hinv⟩ := hinv
    obtain ⟨u64, hinv⟩ := hinv
    obtain ⟨u65, hinv⟩ := hinv
    obtain ⟨u66, hinv⟩ := hinv
    obtain ⟨u67, hinv⟩ := hinv
    obtain ⟨u68, hinv⟩ := hinv
    obtain ⟨u69, hinv⟩ := hinv
    obtain ⟨u70, hinv⟩ := hinv
    obtain ⟨u71, hinv⟩ := hinv
    obtain ⟨u72, hinv⟩ := hinv
    obtain ⟨u73, hinv⟩ := hinv
    obtain ⟨u74, hinv⟩ := hinv
    obtain ⟨u75, hinv⟩ := hinv
    obtain ⟨hrel, ha⟩ := hinv
    subst ha
    try dsimp only
  case atStart =>
    refine ⟨_, cnt, _, hr, hb, fun y c ⟨x, p, hp, hy, c', ⟨q1, q2⟩, q3⟩ => q2 (fun e => ?_), Fr.refl _ _, hds⟩
    have := hSM x
    rw [e] at this
    exact this c' q1
  case round =>
    obtain ⟨L, cn2, M', hR, hB, hE, hF, hC⟩ := hrel
    clear hr hb hds
    rcases hR.next 0 with ⟨hall, hrun⟩ | ⟨x, v, W1, cnt1, hLx, hMx, hbx, hrun, hR1, hlt, hg1, hs1, hen⟩
    · gi_wp2
      refine hdone dfs _ _ _ _ _ _ _ _ _ _ _ _ _ _ _ _ _ _ _ _ _ _ _ _ _ _ _ _ _ _ M' wr hF hB (fun y => (hE y).congr (fun c => exists_congr (fun x => exists_congr (fun p => and_congr Iff.rfl (and_congr Iff.rfl (exists_congr (fun c' => and_congr ⟨fun h => h.1, fun h => ⟨h, fun hL => ?_⟩⟩ Iff.rfl))))))) hC
      have := hSM x
      rw [hall x hL] at this
      exact this c' h
    · simp only [encSt] at hrun hen
      replace hrun : (Instr.next (.pointer (some ⟨rb, 0, none⟩)) false 0).run Try.prog wr = .ok (.tuple #[.bool true, .agg #[.int .i64 x.holder, .int .i64 x.turn, .int .i64 x.short, .bool x.own], .agg #[.int .i64 v.1, .int .i64 v.2]]) W1 := hrun
      replace hen : (Instr.entry (.pointer (some ⟨rb, 0, none⟩))).run Try.prog W1 = .ok (.tuple #[.agg #[.int .i64 x.holder, .int .i64 x.turn, .int .i64 x.short, .bool x.own], .agg #[.int .i64 v.1, .int .i64 v.2]]) W1 := hen
      have F1 := hF.trans (Fr.grown hg1 (fun r e => by cases e; exact .inr rfl))
      have e10 := F1.cell (cell_of H1.out (i := 0) rfl) nosc
      have e11 := F1.cell (cell_of H1.out (i := 1) rfl) nosc
      have e12 := F1.cell (cell_of H1.out (i := 2) rfl) nosc
      have e13 := F1.cell (cell_of H1.out (i := 3) rfl) nosc
      have e14 := F1.cell (cell_of H1.out (i := 4) rfl) nosc
      have e20 := F1.cell (cell_of H2.out (i := 0) rfl) nocm
      have e21 := F1.cell (cell_of H2.out (i := 1) rfl) nocm
      simp only [List.getElem_toArray, List.getElem_cons_zero, List.getElem_cons_succ] at e10 e11 e12 e13 e14 e20 e21
      have hsW := F1.size
      have k1 : sc < W1.heap.size := by omega
      have k2 : cm < W1.heap.size := by omega
      have k3 : sc < W1.heap.size + 1 := by omega
      have k4 : cm < W1.heap.size + 1 := by omega
      have hB1 : MapIs EP W1 bn M' := hB.kept hg1 (fun e => norb (Option.some.inj e).symm)
      have hC1 : Coll lo W1.heap.size dfs W1 := (hC.same (SameMarks.grown hg1 (fun r e => by cases e; exact hR.noMark))).up (by omega)
      have HF1 := Lib.hid F1
      have HB1 := Lib.hid hB1
      have HC1 := Lib.hid hC1
      have HR1 := Lib.hid hR1
      have HE := Lib.hid hE
      have HLE := Lib.hid hR.left_eq
      have HMX := Lib.hid hMx
      clear F1 hB1 hC1 hR1 hs1 hF hB hC hR hg1 hMx hE
      gi_wp2
      obtain ⟨W2, hW2⟩ : ∃ W2, (W1.alloc (.cells #[.int .i64 x.holder, .int .i64 x.turn, .int .i64 x.short, .bool x.own] 109)).alloc (.cells #[.int .i64 v.1, .int .i64 v.2] 115) = W2 := ⟨_, rfl⟩
      have hb12 : Below W1.heap.size W1 W2 := by rw [← hW2]; exact ((Below.refl _ W1).alloc (Nat.le_refl _) _).alloc (by simp) _
      have hW2s : W2.heap.size = W1.heap.size + 2 := by rw [← hW2]; simp
      have hnv : W2.heap[W1.heap.size + 1]? = some (.cells #[.int .i64 v.1, .int .i64 v.2] 115 (0, 0)) := by rw [← hW2]; exact heap_new (by simp)
      rw [hW2]
      have HB12 := Lib.hid hb12
      have HW2s := Lib.hid hW2s
      have HNV := Lib.hid hnv
      clear hW2 hb12 hW2s hnv e10 e11 e12 e13 e14 e20 e21
      refine ⟨trivial, rfl, (callsIn_wide.2 (parts.calls' n least most short mf mh vv x W2)).mono ?_⟩
      rintro e W3 ⟨rfl, hPA⟩
      have hb13 : Below W1.heap.size W1 W3 := HB12.out.trans (hPA.below.mono (by have := HW2s.out; omega))
      have hs3 := hPA.size
      have hs2 := HW2s.out
      have hs1 : W1.heap.size < W3.heap.size := by omega
      have hf3 : Fr (fun k => k = bn ∨ k = rb) W W3 := HF1.out.trans (Fr.of_below hb13 (fun k q1 q2 => by omega))
      have hR3 : RangeIs EP W3 bi rb M (fun y => L y ∧ y ≠ x) cnt1 := HR1.out.same (hb13.block _ HR1.out.mapIs.lt) (hb13.block _ HR1.out.lt)
      have hB3 : MapIs EP W3 bn M' := HB1.out.same (hb13.block _ HB1.out.lt)
      have hC3 : Coll lo W1.heap.size dfs W3 := HC1.out.same (SameMarks.below hb13 (Nat.le_refl _))
      have hn3 := (hPA.below.block (W1.heap.size + 1) (by omega)).trans HNV.out
      have HF3 := Lib.hid hf3
      have HR3 := Lib.hid hR3
      have HB3 := Lib.hid hB3
      have HC3 := Lib.hid hC3
      have HS3 := Lib.hid hs3
      have HS2 := Lib.hid hs2
      have HS1 := Lib.hid hs1
      have HN3 := Lib.hid hn3
      clear hf3 hR3 hB3 hC3 hb13 hs3 hs2 hs1 hn3
      gi_wp2
      have hEx : IsEnds (S x) (some v) := by have := hSM x; rwa [HMX.out] at this
      have hx0 := (hS x v.1 hEx.1)
      have hx1 := (hS x v.2 hEx.2.1)
      have hs3 := HS3.out
      have hs2 := HS2.out
      have hs1 := HS1.out
      have hlO := HB3.out.lt
      have hlR := HR3.out.lt
      have hli := HR3.out.mapIs.lt
      refine wpIn_iter (gf := 73) (lb := #[.pointer (some ⟨W2.heap.size, 0, none⟩), .pointer (some ⟨W2.heap.size + 2, 0, none⟩), .pointer (some ⟨W2.heap.size + 3, 0, none⟩), .pointer (some ⟨W2.heap.size + 1, 0, none⟩)]) rfl (enters_of Try.func73 (by kernel_rfl) rfl)
        (hPA.iter hn hx0.1 (by omega)) (Nat.le_refl _) (fun _ _ => rfl) (fun k hk => by have := hk.2; omega) (fun _ => rfl)
        (fun pre W' => (Fr (fun k => k = bn ∨ k = rb) W W' ∧ RangeIs EP W' bi rb M (fun y => L y ∧ y ≠ x) cnt1 ∧ Coll lo W1.heap.size dfs W' ∧ W3.heap.size ≤ W'.heap.size ∧ W'.heap[W1.heap.size + 1]? = some (.cells #[.int .i64 v.1, .int .i64 v.2] 115 (0, 0))) ∧
          ∃ M2, MapIs EP W' bn M2 ∧ ∀ y, IsEnds (fun c => cnts least most short n mf mh person (fun x c => S x c ∧ ¬ L x) y c ∨ ∃ p ∈ pre, p.2 = y ∧ ∃ c', S x c' ∧ c = c' + heldOne person p) (M2 y))
        (fun c pre W' => False)
        (OwnFrom.and (OwnFrom.and (ownFrom_fr (by have := HF3.out.size; omega)) (OwnFrom.and (ownFrom_range (by omega) (by omega)) (OwnFrom.and (ownFrom_coll (by omega)) (OwnFrom.and ownFrom_size (ownFrom_block (fun _ => _) (by omega)))))) (fun s A A' row hs hg hr => by obtain ⟨M2, q1, q2⟩ := hs; exact ⟨M2, ownFrom_map (M := fun (_ : Unit) => M2) (B := W3.heap.size) (by omega) () A A' row q1 hg hr, q2⟩))
        (fun c => ownFrom_pure _ _)
        ⟨⟨HF3.out, HR3.out, HC3.out, Nat.le_refl _, HN3.out⟩, M', HB3.out, fun y => by simpa using HE.out y⟩
        (fun pre p a' W' => ∃ B, W3.heap.size ≤ B ∧ W'.heap[B]? = some (.cells #[.int .i64 p.1.1, .int .i64 p.1.2] 65 (0, 0)) ∧ W'.heap[B + 1]? = some (.cells #[.int .i64 p.2.holder, .int .i64 p.2.turn, .int .i64 p.2.short, .bool p.2.own] 109 (0, 0)) ∧ a' = { tmps := (List.toArray (v0 :: v1 :: (.pointer (some ⟨sc, 0, none⟩)) :: (.pointer (some ⟨pc, 0, none⟩)) :: v4 :: v5 :: v6 :: v7 :: v8 :: (.pointer (some ⟨cm, 0, none⟩)) :: (.pointer (some ⟨cn, 0, none⟩)) :: (.pointer (some ⟨jc, 0, none⟩)) :: (.pointer (some ⟨W1.heap.size, 0, none⟩)) :: (.pointer (some ⟨W1.heap.size + 1, 0, none⟩)) :: (.pointer (some ⟨B, 0, none⟩)) :: (.pointer (some ⟨B + 1, 0, none⟩)) :: u16 :: v17 :: v18 :: v19 :: v20 :: v21 :: v22 :: v23 :: v24 :: v25 :: v26 :: v27 :: v28 :: v29 :: v30 :: v31 :: v32 :: v33 :: v34 :: v35 :: v36 :: v37 :: v38 :: v39 :: v40 :: v41 :: v42 :: v43 :: v44 :: v45 :: v46 :: v47 :: (.pointer (some ⟨rb, 0, none⟩)) :: (.tuple #[.bool true, .agg #[.int .i64 x.holder, .int .i64 x.turn, .int .i64 x.short, .bool x.own], .agg #[.int .i64 v.1, .int .i64 v.2]]) :: (.bool true) :: (.tuple #[.agg #[.int .i64 x.holder, .int .i64 x.turn, .int .i64 x.short, .bool x.own], .agg #[.int .i64 v.1, .int .i64 v.2]]) :: (.agg #[.int .i64 x.holder, .int .i64 x.turn, .int .i64 x.short, .bool x.own]) :: (.agg #[.int .i64 v.1, .int .i64 v.2]) :: (.agg #[.int .i64 n, .int .i64 least, .int .i64 most, .int .i64 short, vv]) :: (.agg #[.int .i64 x.holder, .int .i64 x.turn, .int .i64 x.short, .bool x.own]) :: (.agg #[.int .u16 mf, .int .u16 mh]) :: (.func (.func 73) #[] #[.pointer (some ⟨W2.heap.size, 0, none⟩), .pointer (some ⟨W2.heap.size + 2, 0, none⟩), .pointer (some ⟨W2.heap.size + 3, 0, none⟩), .pointer (some ⟨W2.heap.size + 1, 0, none⟩)]) :: (.agg #[.int .i64 p.1.1, .int .i64 p.1.2]) :: (.agg #[.int .i64 p.2.holder, .int .i64 p.2.turn, .int .i64 p.2.short, .bool p.2.own]) :: u60 :: u61 :: u62 :: u63 :: u64 :: u65 :: u66 :: u67 :: u68 :: u69 :: u70 :: u71 :: u72 :: u73 :: u74 :: u75 :: v76 :: v77 :: v78 :: v79 :: v80 :: v81 :: v82 :: v83 :: v84 :: v85 :: v86 :: v87 :: v88 :: v89 :: v90 :: v91 :: v92 :: v93 :: v94 :: v95 :: v96 :: v97 :: v98 :: v99 :: v100 :: v101 :: [])), defers := [] })
        (fun pre p a' _ A A' row hs hg hr => by obtain ⟨B, e1, e2, e3, e4⟩ := hs; exact ⟨B, e1, ownFrom_cells (fun (_ : Unit) => #[.int .i64 p.1.1, .int .i64 p.1.2]) 65 () A A' row e2 hg hr, ownFrom_cells (fun (_ : Unit) => #[.int .i64 p.2.holder, .int .i64 p.2.turn, .int .i64 p.2.short, .bool p.2.own]) 109 () A A' row e3 hg hr, e4⟩)
        ?assign ?body ?done ?stop
      case assign =>
        rintro l1 pre p post W4 K hx' ⟨⟨hI1, hI2, hI3, hI4, hI5⟩, hI6⟩ hK
        have HI := Lib.hid (⟨hI1, hI2, hI3, hI4, hI5⟩ : Fr (fun k => k = bn ∨ k = rb) W W4 ∧ _ ∧ _ ∧ _ ∧ _)
        have HI6 := Lib.hid hI6
        clear hI1 hI2 hI3 hI4 hI5 hI6 hs3 hs2 hs1
        simp only [encPart, encSt]
        gi_wp2
        have hI := HI.out
        have hb2 : Below W4.heap.size W4 ((W4.alloc (.cells #[.int .i64 p.1.1, .int .i64 p.1.2] 65)).alloc (.cells #[.int .i64 p.2.holder, .int .i64 p.2.turn, .int .i64 p.2.short, .bool p.2.own] 109)) := ((Below.refl _ W4).alloc (Nat.le_refl _) _).alloc (by simp) _
        obtain ⟨M2, hM2, hE2⟩ := HI6.out
        exact hK _ _ (KeptC.below hb2 (Nat.le_refl _)) ⟨⟨hI.1.trans (Fr.of_below hb2 (fun k q1 q2 => by omega)), hI.2.1.same (hb2.block _ hI.2.1.mapIs.lt) (hb2.block _ hI.2.1.lt), hI.2.2.1.same (SameMarks.below hb2 (Nat.le_refl _)), by have := hI.2.2.2.1; have := hb2.size; omega, (hb2.block _ (Array.getElem?_eq_some_iff.1 hI.2.2.2.2).1).trans hI.2.2.2.2⟩, M2, hM2.same (hb2.block _ hM2.lt), hE2⟩ ⟨_, hI.2.2.2.1, heap_old (heap_new rfl), heap_new (by simp), rfl⟩
      case body =>
        rintro l1 pre p post a' W4 hx' hl1 ⟨r1, hr1⟩ ⟨hI, M2, hM2, hE2⟩ ⟨B, hB, hbB, hbB1, rfl⟩
        have hpm : p ∈ partsOf least most short x mf mh n := by rw [hx']; simp
        have hsp : Small p.2 (i + 1) := small_parts hn hx0.1 hpm
        have n0 := cell_of hI.2.2.2.2 (i := 0) rfl
        have n1 := cell_of hI.2.2.2.2 (i := 1) rfl
        have e4 := hI.1.cell (cell_of H4.out (i := 0) rfl) nopc
        have e5 := hI.1.cell (cell_of H5.out (i := 0) rfl) nojc
        have f0 := cell_of hbB (i := 0) rfl
        have f2 := cell_of hbB1 (i := 0) rfl
        have f3 := cell_of hbB1 (i := 1) rfl
        have f4 := cell_of hbB1 (i := 2) rfl
        have f5 := cell_of hbB1 (i := 3) rfl
        simp only [List.getElem_toArray, List.getElem_cons_zero, List.getElem_cons_succ] at n0 n1 e4 e5 f0 f2 f3 f4 f5
        have g1 : W1.heap.size + 1 < W4.heap.size := by have := hI.2.2.2.1; omega
        have g2 : B < W4.heap.size := (Array.getElem?_eq_some_iff.1 hbB).1
        have g3 : B + 1 < W4.heap.size := (Array.getElem?_eq_some_iff.1 hbB1).1
        have g4 : pc < W4.heap.size := World.block_lt_of_cell? W4 _ e4
        have g5 : jc < W4.heap.size := World.block_lt_of_cell? W4 _ e5
        have hw1 : IntKind.i64.wrap (v.1 + 1) = v.1 + 1 := by have := hx0.2; simp [IntKind.wrap, IntKind.bits, IntKind.signed]; omega
        have hw2 : IntKind.i64.wrap (v.2 + 1) = v.2 + 1 := by have := hx1.2; simp [IntKind.wrap, IntKind.bits, IntKind.signed]; omega
        have hcn4 := (hI.1.same _ (Array.getElem?_eq_some_iff.1 H3.out).1 nocn).trans H3.out
        have hEs := hEx.shift (heldOne person p)
        have HI := Lib.hid hI
        have HM2 := Lib.hid hM2
        have HE2 := Lib.hid hE2
        have HPM := Lib.hid hpm
        have HX' := Lib.hid hx'
        have HCN4 := Lib.hid hcn4
        have HES := Lib.hid hEs
        have HHEX := Lib.hid hEx
        clear hI hM2 hE2 hpm hx' hr1 hbB hbB1 hs1 hs2 hs3 hcn4 hEs hEx
        have key : ∀ (WK : World) (v' : Int × Int), v' = (v.1 + heldOne person p, v.2 + heldOne person p) → Below W4.heap.size W4 WK →
            CallsIn (Fence.wide.inRound l1) 0 Try.prog 57 #[.agg #[.int .i64 p.2.holder, .int .i64 p.2.turn, .int .i64 p.2.short, .bool p.2.own], .agg #[.int .i64 v'.1, .int .i64 v'.2], .pointer (some ⟨cn, 0, none⟩)] WK (fun e W6 => e = .returned (.tuple #[]) ∧
              (KeptC (partsC W2.heap.size) W3.heap.size W4 W6 ∧ (Fr (fun k => k = bn ∨ k = rb) W W6 ∧ RangeIs EP W6 bi rb M (fun y => L y ∧ y ≠ x) cnt1 ∧ Coll lo W1.heap.size dfs W6 ∧ W3.heap.size ≤ W6.heap.size ∧ W6.heap[W1.heap.size + 1]? = some (.cells #[.int .i64 v.1, .int .i64 v.2] 115 (0, 0))) ∧
                ∃ M2, MapIs EP W6 bn M2 ∧ ∀ y, IsEnds (fun c => cnts least most short n mf mh person (fun x c => S x c ∧ ¬ L x) y c ∨ ∃ r ∈ pre ++ [p], r.2 = y ∧ ∃ c', S x c' ∧ c = c' + heldOne person r) (M2 y))) := by
          intro WK v' hv' hbK
          have hI := HI.out
          have hM2 := HM2.out
          refine CallsIn.inRound l1 ((callsIn_wide.2 (join.calls p.2 (hsp.box (by omega)) v' cn bn M2 WK ((hbK.block _ (Array.getElem?_eq_some_iff.1 HCN4.out).1).trans HCN4.out) (hM2.same (hbK.block _ hM2.lt)))).mono ?_)
          rintro e W6 ⟨rfl, hM6, hsz6, ho6, ht6, hp6, hk6⟩
          have hF46 : Fr (fun k => k = bn) W4 W6 := ⟨ho6.trans hbK.os, ht6.trans hbK.tape, hp6.trans hbK.output, Nat.le_trans hbK.size hsz6, fun k hk hne => (hk6 k (by have := hbK.size; omega) hne).trans (hbK.block k hk)⟩
          have hnb : bn < W1.heap.size := HB1.out.lt
          have hs2 := HS2.out
          refine ⟨rfl, ⟨hF46.size, fun k hk hkl => hF46.same k hkl (fun e => hk.elim (fun q => by have h1 : W2.heap.size ≤ k := q.1; omega) (fun q => by omega))⟩, ⟨hI.1.trans (hF46.mono (fun k _ h => .inl h)), hI.2.1.same (hF46.same bi hI.2.1.mapIs.lt hbn) (hF46.same rb hI.2.1.lt norb), hI.2.2.1.same (SameMarks.fr hF46 (fun k h => by subst h; exact hM2.noMark)), by have := hF46.size; have := hI.2.2.2.1; omega, (hF46.same _ g1 (by omega)).trans hI.2.2.2.2⟩, _, hM6, fun y => ?_⟩
          by_cases e : y = p.2
          · subst e
            rw [if_pos rfl, hv']
            refine ((HE2.out p.2).merge HES.out).congr (fun c => ⟨fun h => ?_, fun h => ?_⟩)
            · rcases h with (h | ⟨q, hq, h⟩) | h
              · exact .inl h
              · exact .inr ⟨q, by simp [hq], h⟩
              · exact .inr ⟨p, by simp, rfl, h⟩
            · rcases h with h | ⟨q, hq, h1, h2⟩
              · exact .inl (.inl h)
              · rcases List.mem_append.1 hq with hq | hq
                · exact .inl (.inr ⟨q, hq, h1, h2⟩)
                · have e2 : q = p := List.mem_singleton.1 hq
                  exact .inr (e2 ▸ h2)
          · rw [if_neg e]
            refine (HE2.out y).congr (fun c => or_congr Iff.rfl ⟨fun ⟨q, hq, h⟩ => ⟨q, by simp [hq], h⟩, fun ⟨q, hq, h1, h2⟩ => ?_⟩)
            rcases List.mem_append.1 hq with hq | hq
            · exact ⟨q, hq, h1, h2⟩
            · have e2 : q = p := List.mem_singleton.1 hq
              exact absurd (e2 ▸ h1.symm) e
        have HK := Lib.hid key
        clear key
        by_cases hp : p.1.1 = person
        · have hpb : (p.1.1 == person) = true := by simpa using hp
          have hho : heldOne person p = 1 := by simp [heldOne, hp]
          have HHO := Lib.hid hho
          clear hho
          gi_wp2
          refine ⟨trivial, rfl, (HK.out _ (v.1 + 1, v.2 + 1) (by rw [HHO.out]) ((Below.refl _ W4).alloc (Nat.le_refl _) _)).mono ?_⟩
          rintro e W6 ⟨rfl, hk6, hI6⟩
          have HK6 := Lib.hid hk6
          have HI6 := Lib.hid hI6
          clear hk6 hI6
          gi_wp2
          exact ⟨HK6.out, HI6.out⟩
        · have hpb : (p.1.1 == person) = false := by simpa using hp
          have hho : heldOne person p = 0 := by simp [heldOne, hp]
          have HHO := Lib.hid hho
          clear hho
          gi_wp2
          refine ⟨trivial, rfl, (HK.out _ (v.1, v.2) (by rw [HHO.out]; simp) ((Below.refl _ W4).alloc (Nat.le_refl _) _)).mono ?_⟩
          rintro e W6 ⟨rfl, hk6, hI6⟩
          have HK6 := Lib.hid hk6
          have HI6 := Lib.hid hI6
          clear hk6 hI6
          gi_wp2
          exact ⟨HK6.out, HI6.out⟩
      case done =>
        rintro D W5 hD ⟨hI, M2, hM2, hE2⟩ hK
        gi_wp2
        refine ⟨?_, ?measure⟩
        · (repeat apply Exists.intro)
          refine ⟨?_, rfl⟩
          have hDl : D < W5.heap.size := (Array.getElem?_eq_some_iff.1 hK).1
          refine ⟨_, cnt1, M2, hI.2.1, hM2, fun y => (hE2 y).congr (fun c => ?_), hI.1, hI.2.2.1.push (by have := HF3.out.size; omega) (by omega) hDl hK⟩
          constructor
          · rintro (⟨z, p, hp, hy, c', ⟨q1, q2⟩, q3⟩ | ⟨p, hp, hy, c', q1, q3⟩)
            · exact ⟨z, p, hp, hy, c', ⟨q1, fun h => q2 h.1⟩, q3⟩
            · exact ⟨x, p, hp, hy, c', ⟨q1, fun h => h.2 rfl⟩, q3⟩
          · rintro ⟨z, p, hp, hy, c', ⟨q1, q2⟩, q3⟩
            by_cases e : z = x
            · subst e; exact .inr ⟨p, hp, hy, c', q1, q3⟩
            · exact .inl ⟨z, p, hp, hy, c', ⟨q1, fun h => q2 ⟨h, e⟩⟩, q3⟩
        case measure =>
          rw [hI.2.1.left_eq, HLE.out]; exact hlt
      case stop =>
        rintro D c pre p post W5 hD hx' hf hK
        exact hf.elim
end Go.Proofs.Ytdnjmhhjjbdieaa.Q
end
section
namespace Go.Proofs.Ytdnjmhhjjbdieaa.Q
open Go.RowKit Go.Shelf Go.Proofs.YtdnjmhhjjbdieaaW.PrintWords Go.Proofs.YtdnjmhhjjbdieaaW.PrintLast
set_option linter.unusedVariables false
set_option linter.unusedSimpArgs false
attribute [local go_sem] Oper.semAt_some
attribute [local go_sem] run_makeMap
def hcnt (least most short : Int) (n : Nat) (l : List S52) (person : Int) : Nat → St → Int → Prop
  | 0 => fun y c => y = beginSt ∧ c = 0
  | j + 1 => match l[j]? with | some m => cnts least most short n m.f0 m.f1 person (hcnt least most short n l person j) | none => fun _ _ => False
theorem hcnt_fwd {least most short : Int} {n : Nat} {l : List S52} {person : Int} : ∀ (j : Nat) (y : St) (c : Int), hcnt least most short n l person j y c → fwd least most short n l j y ∧ 0 ≤ c ∧ c ≤ j
  | 0, y, c, h => by obtain ⟨rfl, rfl⟩ := h; exact ⟨rfl, by omega, by omega⟩
  | j + 1, y, c, h => by
    cases hm : l[j]? with
    | none => simp [hcnt, hm] at h
    | some m =>
      simp only [hcnt, hm] at h
      obtain ⟨x, p, hp, hy, c', hc, rfl⟩ := h
      have := hcnt_fwd j x c' hc
      have hh : heldOne person p = 0 ∨ heldOne person p = 1 := by unfold heldOne; split <;> simp
      refine ⟨?_, by omega, by omega⟩
      simp only [fwd, hm]
      exact ⟨x, this.1, p, hp, hy⟩
theorem fwd_hcnt {least most short : Int} {n : Nat} {l : List S52} {person : Int} : ∀ (j : Nat) (y : St), fwd least most short n l j y → ∃ c, hcnt least most short n l person j y c
  | 0, y, h => ⟨0, h, rfl⟩
  | j + 1, y, h => by
    cases hm : l[j]? with
    | none => simp [fwd, hm] at h
    | some m =>
      simp only [fwd, hm] at h
      obtain ⟨x, hx, p, hp, hy⟩ := h
      obtain ⟨c, hc⟩ := fwd_hcnt (person := person) j x hx
      refine ⟨c + heldOne person p, ?_⟩
      simp only [hcnt, hm]
      exact ⟨x, p, hp, hy, c, hc, rfl⟩
set_option maxRecDepth 100000 in
set_option maxHeartbeats 4000000 in
theorem held.rounds (n : Nat) (hn : n ≤ 12) (least most short person : Int) (A : Option Addr) (c : Nat) (l : List S52) (hl : l.length ≤ 40)
    (sc pc b0 : Nat) (M0 : St → Option (Int × Int)) (Q : Exit → Act → World → Prop) (v0 v1 v4 v5 v6 v8 v9 v10 v11 v12 v13 v14 v15 v16 v17 v18 v19 v20 v21 v22 v23 v24 v25 v26 v27 v28 v29 v30 v31 v32 v33 v34 v35 v36 v37 v38 v42 v43 v44 v45 v46 v47 v48 v49 v50 v51 v52 v53 v54 v55 v56 v57 v58 v59 v60 v61 v62 v63 v64 v65 v66 v67 v68 v69 v70 v71 v72 v73 v74 v75 v76 v77 v78 v79 v80 v81 v82 v83 v84 v85 v86 v87 v88 v89 v90 v91 v92 v93 v94 v95 v96 v97 v98 v99 v100 v101 : Value) (W : World)
    (hA : Kd.C k52 W A l.length l)
    (h1 : W.heap[sc]? = some (.cells #[.int .i64 n, .int .i64 least, .int .i64 most, .int .i64 short, .slice A l.length c] 33 (0, 0)))
    (h4 : W.heap[pc]? = some (.cells #[.int .i64 person] 3 (0, 0)))
    (hM : MapIs EP W b0 M0) (hE : ∀ y, IsEnds (hcnt least most short n l person 0 y) (M0 y))
    (hdone : ∀ (ds' : List Deferred) (bi : Nat) (M' : St → Option (Int × Int)) (u9 u10 u11 u12 u13 u14 u15 u16 u41 u42 u43 u44 u45 u46 u47 u48 u49 u50 u51 u52 u53 u54 u55 u56 u57 u60 u61 u62 u63 u64 u65 u66 u67 u68 u69 u70 u71 u72 u73 u74 u75 u76 u77 : Value) (W' : World), Fr (fun _ => False) W W' → MapIs EP W' bi M' → (∀ y, IsEnds (hcnt least most short n l person l.length y) (M' y)) → Coll W.heap.size W'.heap.size ds' W' →
      Q .normal { tmps := (List.toArray (v0 :: v1 :: (.pointer (some ⟨sc, 0, none⟩)) :: (.pointer (some ⟨pc, 0, none⟩)) :: v4 :: v5 :: v6 :: (.map (some bi)) :: v8 :: u9 :: u10 :: u11 :: u12 :: u13 :: u14 :: u15 :: u16 :: v17 :: v18 :: v19 :: v20 :: v21 :: v22 :: v23 :: v24 :: v25 :: v26 :: v27 :: v28 :: v29 :: v30 :: v31 :: v32 :: v33 :: v34 :: v35 :: v36 :: v37 :: v38 :: (.slice A l.length c) :: (.int .i64 l.length) :: u41 :: u42 :: u43 :: u44 :: u45 :: u46 :: u47 :: u48 :: u49 :: u50 :: u51 :: u52 :: u53 :: u54 :: u55 :: u56 :: u57 :: v58 :: v59 :: u60 :: u61 :: u62 :: u63 :: u64 :: u65 :: u66 :: u67 :: u68 :: u69 :: u70 :: u71 :: u72 :: u73 :: u74 :: u75 :: u76 :: u77 :: v78 :: v79 :: v80 :: v81 :: v82 :: v83 :: v84 :: v85 :: v86 :: v87 :: v88 :: v89 :: v90 :: v91 :: v92 :: v93 :: v94 :: v95 :: v96 :: v97 :: v98 :: v99 :: v100 :: v101 :: [])), defers := ds' } W') :
    (blockOf 0 Try.f24).wpIn Fence.wide 0 Try.prog (Exit.inBlock 0 Q) { tmps := (List.toArray (v0 :: v1 :: (.pointer (some ⟨sc, 0, none⟩)) :: (.pointer (some ⟨pc, 0, none⟩)) :: v4 :: v5 :: v6 :: (.map (some b0)) :: v8 :: v9 :: v10 :: v11 :: v12 :: v13 :: v14 :: v15 :: v16 :: v17 :: v18 :: v19 :: v20 :: v21 :: v22 :: v23 :: v24 :: v25 :: v26 :: v27 :: v28 :: v29 :: v30 :: v31 :: v32 :: v33 :: v34 :: v35 :: v36 :: v37 :: v38 :: (.slice A l.length c) :: (.int .i64 l.length) :: (.int .i64 0) :: v42 :: v43 :: v44 :: v45 :: v46 :: v47 :: v48 :: v49 :: v50 :: v51 :: v52 :: v53 :: v54 :: v55 :: v56 :: v57 :: v58 :: v59 :: v60 :: v61 :: v62 :: v63 :: v64 :: v65 :: v66 :: v67 :: v68 :: v69 :: v70 :: v71 :: v72 :: v73 :: v74 :: v75 :: v76 :: v77 :: v78 :: v79 :: v80 :: v81 :: v82 :: v83 :: v84 :: v85 :: v86 :: v87 :: v88 :: v89 :: v90 :: v91 :: v92 :: v93 :: v94 :: v95 :: v96 :: v97 :: v98 :: v99 :: v100 :: v101 :: [])), defers := [] } W := by
  conv => arg 4; whnf
  have hmx : Try.prog.follows .mixedOrders = true := by kernel_rfl
  have hu := Try.underlying33
  have hu1 := Try.underlying109
  have hu2 := Try.underlying52
  have H1 := Lib.hid h1
  have H4 := Lib.hid h4
  have HA := Lib.hid hA
  have ksc : sc < W.heap.size := (Array.getElem?_eq_some_iff.1 h1).1
  have kpc : pc < W.heap.size := (Array.getElem?_eq_some_iff.1 h4).1
  clear h1 h4 hA
  refine wpIn_loop_lay (fun (tT : List Value) (a' : Act) (wv : World) => ∃ (dfs : List Deferred) (u7 u9 u10 u11 u12 u13 u14 u15 u16 u41 u42 u43 u44 u45 u46 u47 u48 u49 u50 u51 u52 u53 u54 u55 u56 u57 u60 u61 u62 u63 u64 u65 u66 u67 u68 u69 u70 u71 u72 u73 u74 u75 u76 u77 : Value), ((fun u7 u41 dfs w' => ∃ (k bi : Nat) (M : St → Option (Int × Int)), u41 = .int .i64 k ∧ u7 = .map (some bi) ∧ k ≤ l.length ∧ Fr (fun _ => False) W w' ∧ Coll W.heap.size w'.heap.size dfs w' ∧ MapIs EP w' bi M ∧ ∀ y, IsEnds (hcnt least most short n l person k y) (M y)) u7 u41 dfs wv) ∧ a' = { tmps := (lay [none, none, none, none, none, none, none, some u7, none, some u9, some u10, some u11, some u12, some u13, some u14, some u15, some u16, none, none, none, none, none, none, none, none, none, none, none, none, none, none, none, none, none, none, none, none, none, none, none, none, some u41, some u42, some u43, some u44, some u45, some u46, some u47, some u48, some u49, some u50, some u51, some u52, some u53, some u54, some u55, some u56, some u57, none, none, some u60, some u61, some u62, some u63, some u64, some u65, some u66, some u67, some u68, some u69, some u70, some u71, some u72, some u73, some u74, some u75, some u76, some u77] tT).toArray, defers := dfs }) (fun (a' : Act) (wv : World) => (fun u7 u41 w' => l.length - (intOf u41).toNat) (Array.getD a'.tmps 7 undef) (Array.getD a'.tmps 41 undef) wv) ?atStart ?round
  case' atStart =>
    dsimp only [lay]
    (repeat apply Exists.intro)
    refine ⟨?_, rfl⟩
  case' round =>
    dsimp only [lay]
    intro _ wr hinv
    obtain ⟨dfs, hinv⟩ := hinv
    obtain ⟨u7, hinv⟩ := hinv
    obtain ⟨u9, hinv⟩ := hinv
    obtain ⟨u10, hinv⟩ := hinv
    obtain ⟨u11, hinv⟩ := hinv
    obtain ⟨u12, hinv⟩ := hinv
    obtain ⟨u13, hinv⟩ := hinv
    obtain ⟨u14, hinv⟩ := hinv
    obtain ⟨u15, hinv⟩ := hinv
    obtain ⟨u16, hinv⟩ := hinv
    obtain ⟨u41, hinv⟩ := hinv
    obtain ⟨u42, hinv⟩ := hinv
    obtain ⟨u43, hinv⟩ := hinv
    obtain ⟨u44, hinv⟩ := hinv
    obtain ⟨u45, hinv⟩ := hinv
    obtain ⟨u46, hinv⟩ := hinv
    obtain ⟨u47, hinv⟩ := hinv
    obtain ⟨u48, hinv⟩ := hinv
    obtain ⟨u49, hinv⟩ := hinv
    obtain ⟨u50, hinv⟩ := hinv
    obtain ⟨u51, hinv⟩ := hinv
    obtain ⟨u52, hinv⟩ := hinv
    obtain ⟨u53, hinv⟩ := hinv
    obtain ⟨u54, hinv⟩ := hinv
    obtain ⟨u55, hinv⟩ := hinv
    obtain ⟨u56, hinv⟩ := hinv
    obtain ⟨u57, hinv⟩ := hinv
    obtain ⟨u60, hinv⟩ := hinv
    obtain ⟨u61, hinv⟩ := hinv
    obtain ⟨u62, hinv⟩ := hinv
    obtain ⟨u63, hinv⟩ := hinv
    obtain ⟨u64, hinv⟩ := hinv
    obtain ⟨u65, hinv⟩ := hinv
    obtain ⟨u66, hinv⟩ := hinv
    obtain ⟨u67, hinv⟩ := hinv
    obtain ⟨u68, hinv⟩ := hinv
    obtain ⟨u69, hinv⟩ := hinv
    obtain ⟨u70, hinv⟩ := hinv
    obtain ⟨u71, hinv⟩ := hinv
    obtain ⟨u72, hinv⟩ := hinv
    obtain ⟨u73, hinv⟩ := hinv
    obtain ⟨u74, hinv⟩ := hinv
    obtain ⟨u75, hinv⟩ := hinv
    obtain ⟨u76, hinv⟩ := hinv
    obtain ⟨u77, hinv⟩ := hinv
    obtain ⟨hrel, ha⟩ := hinv
    subst ha
    try dsimp only
  case atStart =>
    exact ⟨0, b0, M0, rfl, rfl, Nat.zero_le _, Fr.refl _ _, Coll.nil _ _ _, hM, hE⟩
  case round =>
    obtain ⟨k, bi, M, rfl, rfl, hk, hF, hC, hMk, hEk⟩ := hrel
    clear hM hE
    by_cases hlt : k < l.length
    · have hSz := hF.size
      have hx : Kd.C k52 W A l.length l := HA.out
      obtain ⟨ad, rfl, m0, m1⟩ := at_T52 hx k (by omega) (by omega)
      have hrd : rd_T52 l (k : Int) = l[k] := by simp [rd_T52, List.getD, hlt]
      rw [hrd, Int.toNat_natCast] at m0 m1
      obtain ⟨⟨mf, mh⟩, hm⟩ : ∃ m, l[k] = m := ⟨_, rfl⟩
      rw [hm] at m0 m1
      simp only [] at m0 m1
      have m0' := hF.cell m0 (by simp)
      have m1' := hF.cell m1 (by simp)
      have hk2 : (k : Int) < l.length := by omega
      have hi2 : (ad.add (k * 2)).block < wr.heap.size := World.block_lt_of_cell? wr _ m0'
      have hbil := hMk.lt
      obtain ⟨W1, hW1⟩ : ∃ W1, (((wr.alloc (.cells #[.int .u16 mf, .int .u16 mh] 52)).alloc (.map #[] 0)).alloc (.cells #[.map (some (wr.heap.size + 1))] 116)).alloc (.cells #[.func (.func 57) #[] #[.pointer (some ⟨wr.heap.size + 1 + 1, 0, none⟩)]] 119) = W1 := ⟨_, rfl⟩
      have hb1 : Below wr.heap.size wr W1 := by rw [← hW1]; exact ((((Below.refl _ wr).alloc (Nat.le_refl _) _).alloc (by simp) _).alloc (by simp; omega) _).alloc (by simp; omega) _
      have hs1 : W1.heap.size = wr.heap.size + 4 := by rw [← hW1]; simp
      have hcm : W1.heap[wr.heap.size]? = some (.cells #[.int .u16 mf, .int .u16 mh] 52 (0, 0)) := by rw [← hW1]; exact heap_old (heap_old (heap_old (heap_new rfl)))
      have hcn : W1.heap[wr.heap.size + 1 + 1]? = some (.cells #[.map (some (wr.heap.size + 1))] 116 (0, 0)) := by rw [← hW1]; exact heap_old (heap_new (by simp))
      have hjc : W1.heap[wr.heap.size + 1 + 1 + 1]? = some (.cells #[.func (.func 57) #[] #[.pointer (some ⟨wr.heap.size + 1 + 1, 0, none⟩)]] 119 (0, 0)) := by rw [← hW1]; exact heap_new (by simp)
      have hbn : MapIs EP W1 (wr.heap.size + 1) (fun _ => none) := by
        have hm := MapIs.made (E := EP) (wr.alloc (.cells #[.int .u16 mf, .int .u16 mh] 52))
        rw [World.size_alloc] at hm
        rw [← hW1]
        exact hm.same ((Below.heap_alloc _ _ _ (by simp)).trans (Below.heap_alloc _ _ _ (by simp)))
      have hMk1 := hMk.same (hb1.block _ hMk.lt)
      obtain ⟨W2, cnt, hrng, hR2, hg2, hs2⟩ := hMk1.range
      have hrng : (Instr.range 116 (.map (some bi))).run Try.prog W1 = .ok (.pointer (some ⟨W1.heap.size, 0, none⟩)) W2 := hrng
      have HF := Lib.hid hF
      have HC := Lib.hid hC
      have HMK := Lib.hid hMk
      have HEK := Lib.hid hEk
      have HB1 := Lib.hid hb1
      have HS1 := Lib.hid hs1
      have HCM := Lib.hid hcm
      have HCN := Lib.hid hcn
      have HJC := Lib.hid hjc
      have HBN := Lib.hid hbn
      have HR2 := Lib.hid hR2
      have HG2 := Lib.hid hg2
      have HS2 := Lib.hid hs2
      clear hF hC hMk hEk hb1 hs1 hcm hcn hjc hbn hR2 hg2 hs2 hMk1 m0 m1 hrd hx
      gi_wp2
      have hs1 := HS1.out
      have hs2 : W2.heap.size = W1.heap.size + 1 := HS2.out
      have hF12 : Fr (fun _ => False) W1 W2 := Fr.grown HG2.out (fun r e => by cases e)
      have hFr2 : Fr (fun _ => False) wr W2 := (Fr.of_below HB1.out (fun k q1 q2 => by omega)).trans hF12
      have hF02 : Fr (fun _ => False) W W2 := HF.out.trans hFr2
      have hML : (fun x => M x ≠ none) = fun x => M x ≠ none := rfl
      refine held.fill (Q := _) n hn least most short mf mh person _ (hcnt least most short n l person k) M k (by omega) (fun x c hc => ⟨fwd_small hn k x (hcnt_fwd k x c hc).1, (hcnt_fwd k x c hc).2⟩) HEK.out sc pc wr.heap.size (wr.heap.size + 1 + 1) (wr.heap.size + 1 + 1 + 1) bi (wr.heap.size + 1) W1.heap.size W.heap.size cnt dfs _ _ _ _ _ _ _ _ _ _ _ _ _ _ _ _ _ _ _ _ _ _ _ _ _ _ _ _ _ _ _ _ _ _ _ _ _ _ _ _ _ _ _ _ _ _ _ _ _ _ _ _ _ _ _ _ _ _ _ _ _ _ _ _ _ _ _ _ _ _ _ _ _ _ _ _ _ _ _ _ _ _ _ _ _ _ _ _ _ _ _ _ _ _ _ _ W2
        HR2.out (HBN.out.same (hF12.same _ (by omega) (by simp))) (by omega) ((hF02.same _ ksc (by simp)).trans H1.out) ((hF12.same _ (by omega) (by simp)).trans HCM.out) ((hF12.same _ (by omega) (by simp)).trans HCN.out) ((hF02.same _ kpc (by simp)).trans H4.out) ((hF12.same _ (by omega) (by simp)).trans HJC.out)
        (by have := hF02.size; omega) ((HC.out.same (SameMarks.fr hFr2 (fun k h => h.elim))).up (by omega)) ?_
      rintro ds3 t12 t13 t14 t15 t16 t49 t50 t51 t52 t53 t54 t55 t56 t57 t60 t61 t62 t63 t64 t65 t66 t67 t68 t69 t70 t71 t72 t73 t74 t75 M3 W3 hF3 hM3 hE3 hC3
      have hF03 : Fr (fun _ => False) W W3 := ⟨hF3.os.trans hF02.os, hF3.tape.trans hF02.tape, hF3.output.trans hF02.output, Nat.le_trans hF02.size hF3.size, fun q hq hx => (hF3.same q (by have := hF02.size; omega) (fun h => by have := HF.out.size; rcases h with h | h <;> omega)).trans (hF02.same q hq hx)⟩
      have hcn3 := (hF3.same (wr.heap.size + 1 + 1) (by omega) (fun h => by rcases h with h | h <;> omega)).trans ((hF12.same _ (by omega) (by simp)).trans HCN.out)
      have ecn := cell_of hcn3 (i := 0) rfl
      simp only [List.getElem_toArray, List.getElem_cons_zero] at ecn
      have HF03 := Lib.hid hF03
      have HM3 := Lib.hid hM3
      have HE3 := Lib.hid hE3
      have HC3 := Lib.hid hC3
      have hwr : IntKind.i64.wrap ((k : Int) + 1) = (k : Int) + 1 := by simp [IntKind.wrap, IntKind.bits, IntKind.signed]; omega
      clear hF3 hF03 hM3 hE3 hC3 hcn3 hF12 hFr2 hF02 hs1 hs2 hrng hML
      gi_wp2
      refine ⟨?_, ?measure⟩
      · (repeat apply Exists.intro)
        refine ⟨?_, rfl⟩
        refine ⟨k + 1, _, M3, by simp, rfl, by omega, HF03.out, HC3.out, HM3.out, fun y => ?_⟩
        have hh : hcnt least most short n l person (k + 1) y = cnts least most short n mf mh person (hcnt least most short n l person k) y := by
          simp only [hcnt, List.getElem?_eq_getElem hlt, hm]
        rw [hh]
        exact HE3.out y
      case measure =>
        simp [intOf]
        omega
    · obtain rfl : k = l.length := by omega
      gi_wp2
      exact hdone dfs bi M _ _ _ _ _ _ _ _ _ _ _ _ _ _ _ _ _ _ _ _ _ _ _ _ _ _ _ _ _ _ _ _ _ _ _ _ _ _ _ _ _ _ _ wr hF hMk hEk hC
end Go.Proofs.Ytdnjmhhjjbdieaa.Q
end
section
namespace Go.Proofs.Ytdnjmhhjjbdieaa.Q
open Go.RowKit Go.Shelf Go.Proofs.YtdnjmhhjjbdieaaW.PrintWords Go.Proofs.YtdnjmhhjjbdieaaW.PrintLast
set_option linter.unusedVariables false
set_option linter.unusedSimpArgs false
attribute [local go_sem] Oper.semAt_some
theorem RangeIs.cnt_le {β : Type} {E : Elem β} {w : World} {b r cnt : Nat} {M : St → Option β} {L : St → Prop} (h : RangeIs E w b r M L cnt) : cnt ≤ KB := by
  obtain ⟨D, left, ⟨es, clock, since, seen, c0, h1, h2, h3, h4, h5, h6, h7, h8⟩, ht, hl⟩ := h
  rw [← h7]
  refine Nat.le_trans ?_ h3
  unfold leftOf
  exact Array.size_filter_le
theorem wpListIn_append_run {F : Fence} {m : Nat} {P : Program} {ops : Array Oper} {rest : List Oper} {o : Oper} {a : Act} {w : World} {Q : Exit → Act → World → Prop} (hgd : o.guard = none) (s x : Operand) (t : TypeId)
    (ho : o.op = .call { callee := .builtin .append, args := #[s, x], argTypes := #[t, t] }) (v y v' : Value) (w' : World) (hs : a.eval s = v) (hx : a.eval x = y)
    (hr : (Builtin.append_ #[t, t] o.type #[v, y]).run P w = .ok v' w') (h : wpListIn F m P ops Q rest (a.put o.dst v') w') : wpListIn F m P ops Q (o :: rest) a w := by
  refine wpListIn_plain hgd fun K hK => ?_
  unfold Oper.wpIn
  refine ⟨by simp [Oper.about, ho, resolve, Target.leads, Sem.run_pure], ?_⟩
  rw [Oper.semAt_plain F _ _ (by rw [ho]; intro c hc'; cases hc')]
  simp [execOp, ho, resolve, invoke, builtin, hs, hx, hr, Result.andThen]
  exact hK _ _ h
theorem infoInt : (Try.prog.info? 3).map (fun i => (i.zero, i.size, i.bytes)) = some (some (.int .i64 0), 1, 8) := by kernel_rfl
set_option maxRecDepth 100000 in
set_option maxHeartbeats 4000000 in
theorem held.collect (bi rb cnt lo : Nat) (M : St → Option (Int × Int)) (ds : List Deferred) (Q : Exit → Act → World → Prop) (v0 v1 v2 v3 v4 v5 v6 v8 v9 v10 v11 v12 v13 v14 v15 v16 v18 v19 v20 v21 v22 v23 v24 v25 v26 v27 v28 v29 v30 v31 v32 v33 v34 v35 v36 v37 v38 v39 v40 v41 v42 v43 v44 v45 v46 v47 v48 v49 v50 v51 v52 v53 v54 v55 v56 v57 v58 v59 v60 v61 v62 v63 v64 v65 v66 v67 v68 v69 v70 v71 v72 v73 v74 v75 v76 v77 v78 v79 v80 v81 v82 v84 v85 v86 v87 v88 v89 v90 v91 v92 v93 v94 v95 v96 v97 v98 v99 v100 v101 : Value) (W : World)
    (hr : RangeIs EP W bi rb M (fun x => M x ≠ none) cnt) (hlo : lo ≤ W.heap.size)
    (hdone : ∀ (lv : Value) (xs : List Int) (u19 u84 u85 u86 u87 u88 u89 u90 u91 u92 u93 u94 : Value) (W' : World), Fr (fun k => k = rb) W W' → xs.length ≤ 2 * KB → World.ownsRow W' W.heap.size 3 1 lv xs.length (xs.map (.int .i64)) → (∀ c, c ∈ xs ↔ ∃ x v, M x = some v ∧ (c = v.1 ∨ c = v.2)) →
      Q .normal { tmps := (List.toArray (v0 :: v1 :: v2 :: v3 :: v4 :: v5 :: v6 :: (.map (some bi)) :: v8 :: v9 :: v10 :: v11 :: v12 :: v13 :: v14 :: v15 :: v16 :: lv :: v18 :: u19 :: v20 :: v21 :: v22 :: v23 :: v24 :: v25 :: v26 :: v27 :: v28 :: v29 :: v30 :: v31 :: v32 :: v33 :: v34 :: v35 :: v36 :: v37 :: v38 :: v39 :: v40 :: v41 :: v42 :: v43 :: v44 :: v45 :: v46 :: v47 :: v48 :: v49 :: v50 :: v51 :: v52 :: v53 :: v54 :: v55 :: v56 :: v57 :: v58 :: v59 :: v60 :: v61 :: v62 :: v63 :: v64 :: v65 :: v66 :: v67 :: v68 :: v69 :: v70 :: v71 :: v72 :: v73 :: v74 :: v75 :: v76 :: v77 :: v78 :: v79 :: v80 :: v81 :: v82 :: (.pointer (some ⟨rb, 0, none⟩)) :: u84 :: u85 :: u86 :: u87 :: u88 :: u89 :: u90 :: u91 :: u92 :: u93 :: u94 :: v95 :: v96 :: v97 :: v98 :: v99 :: v100 :: v101 :: [])), defers := ds } W') :
    (blockOf 6 Try.f24).wpIn Fence.wide 0 Try.prog (Exit.inBlock 6 Q) { tmps := (List.toArray (v0 :: v1 :: v2 :: v3 :: v4 :: v5 :: v6 :: (.map (some bi)) :: v8 :: v9 :: v10 :: v11 :: v12 :: v13 :: v14 :: v15 :: v16 :: (.slice none 0 0) :: v18 :: v19 :: v20 :: v21 :: v22 :: v23 :: v24 :: v25 :: v26 :: v27 :: v28 :: v29 :: v30 :: v31 :: v32 :: v33 :: v34 :: v35 :: v36 :: v37 :: v38 :: v39 :: v40 :: v41 :: v42 :: v43 :: v44 :: v45 :: v46 :: v47 :: v48 :: v49 :: v50 :: v51 :: v52 :: v53 :: v54 :: v55 :: v56 :: v57 :: v58 :: v59 :: v60 :: v61 :: v62 :: v63 :: v64 :: v65 :: v66 :: v67 :: v68 :: v69 :: v70 :: v71 :: v72 :: v73 :: v74 :: v75 :: v76 :: v77 :: v78 :: v79 :: v80 :: v81 :: v82 :: (.pointer (some ⟨rb, 0, none⟩)) :: v84 :: v85 :: v86 :: v87 :: v88 :: v89 :: v90 :: v91 :: v92 :: v93 :: v94 :: v95 :: v96 :: v97 :: v98 :: v99 :: v100 :: v101 :: [])), defers := ds } W := by
  conv => arg 4; whnf
  have hmx : Try.prog.follows .mixedOrders = true := by kernel_rfl
  have hu1 := Try.underlying109
  have hu3 := Try.underlying115
  have hcl := hr.cnt_le
  refine wpIn_loop_lay (fun (tT : List Value) (a' : Act) (wv : World) => ∃ (dfs : List Deferred) (u17 u19 u84 u85 u86 u87 u88 u89 u90 u91 u92 u93 u94 : Value), ((fun u17 dfs w' => dfs = ds ∧ ∃ (L : St → Prop) (cnt2 : Nat) (xs : List Int), RangeIs EP w' bi rb M L cnt2 ∧ World.ownsRow w' W.heap.size 3 1 u17 xs.length (xs.map (.int .i64)) ∧ xs.length + 2 * cnt2 ≤ 2 * cnt ∧ Fr (fun k => k = rb) W w' ∧ ∀ c, c ∈ xs ↔ ∃ x v, (M x = some v ∧ ¬ L x) ∧ (c = v.1 ∨ c = v.2)) u17 dfs wv) ∧ a' = { tmps := (lay [none, none, none, none, none, none, none, none, none, none, none, none, none, none, none, none, none, some u17, none, some u19, none, none, none, none, none, none, none, none, none, none, none, none, none, none, none, none, none, none, none, none, none, none, none, none, none, none, none, none, none, none, none, none, none, none, none, none, none, none, none, none, none, none, none, none, none, none, none, none, none, none, none, none, none, none, none, none, none, none, none, none, none, none, none, none, some u84, some u85, some u86, some u87, some u88, some u89, some u90, some u91, some u92, some u93, some u94] tT).toArray, defers := dfs }) (fun (a' : Act) (wv : World) => (fun u17 w' => w'.rangeLeft bi rb) (Array.getD a'.tmps 17 undef) wv) ?atStart ?round
  case' atStart =>
    dsimp only [lay]
    (repeat apply Exists.intro)
    refine ⟨?_, rfl⟩
  case' round =>
    dsimp only [lay]
    intro _ wr hinv
    obtain ⟨dfs, hinv⟩ := hinv
    obtain ⟨u17, hinv⟩ := hinv
    obtain ⟨u19, hinv⟩ := hinv
    obtain ⟨u84, hinv⟩ := hinv
    obtain ⟨u85, hinv⟩ := hinv
    obtain ⟨u86, hinv⟩ := hinv
    obtain ⟨u87, hinv⟩ := hinv
    obtain ⟨u88, hinv⟩ := hinv
    obtain ⟨u89, hinv⟩ := hinv
    obtain ⟨u90, hinv⟩ := hinv
    obtain ⟨u91, hinv⟩ := hinv
    obtain ⟨u92, hinv⟩ := hinv
    obtain ⟨u93, hinv⟩ := hinv
    obtain ⟨u94, hinv⟩ := hinv
    obtain ⟨hrel, ha⟩ := hinv
    subst ha
    try dsimp only
  case atStart =>
    refine ⟨rfl, _, cnt, [], hr, World.ownsRow_nil W _ _ _, by simp, Fr.refl _ _, fun c => ⟨fun h => (by cases h), fun ⟨x, v, ⟨h1, h2⟩, _⟩ => (h2 (by rw [h1]; simp)).elim⟩⟩
  case round =>
    obtain ⟨hd2, L, cn2, xs, hR, hrow, hlen, hF, hmem⟩ := hrel
    obtain rfl := hd2.symm
    clear hr
    rcases hR.next 0 with ⟨hall, hrun⟩ | ⟨x, v, W1, cnt1, hLx, hMx, hbx, hrun, hR1, hlt, hg1, hs1, hen⟩
    · gi_wp2
      refine hdone _ xs _ _ _ _ _ _ _ _ _ _ _ _ wr hF (by omega) hrow (fun c => (hmem c).trans ⟨fun ⟨x, v, h1, h2⟩ => ⟨x, v, h1.1, h2⟩, fun ⟨x, v, h1, h2⟩ => ⟨x, v, ⟨h1, fun hL => ?_⟩, h2⟩⟩)
      rw [hall x hL] at h1; cases h1
    · simp only [encSt] at hrun hen
      replace hrun : (Instr.next (.pointer (some ⟨rb, 0, none⟩)) false 0).run Try.prog wr = .ok (.tuple #[.bool true, .agg #[.int .i64 x.holder, .int .i64 x.turn, .int .i64 x.short, .bool x.own], .agg #[.int .i64 v.1, .int .i64 v.2]]) W1 := hrun
      replace hen : (Instr.entry (.pointer (some ⟨rb, 0, none⟩))).run Try.prog W1 = .ok (.tuple #[.agg #[.int .i64 x.holder, .int .i64 x.turn, .int .i64 x.short, .bool x.own], .agg #[.int .i64 v.1, .int .i64 v.2]]) W1 := hen
      have hblk : ∀ k, u17.ownBlock = some k → k < wr.heap.size ∧ k ≠ rb ∧ W.heap.size ≤ k ∧ k ≠ bi := fun k hk => by
        rcases hrow.2 with ⟨e, _⟩ | ⟨g', cap, cur, e, r1, r2, _⟩
        · rw [e] at hk; cases hk
        · rw [e] at hk
          obtain rfl : g' = k := Option.some.inj hk
          refine ⟨(Array.getElem?_eq_some_iff.1 r2).1, fun e2 => ?_, r1, fun e2 => ?_⟩
          · subst e2
            obtain ⟨o, q, qc⟩ := hR.iter
            rw [r2] at q; cases q; cases qc
          · subst e2
            obtain ⟨es, cl, q⟩ := hR.mapIs.isMap
            rw [r2] at q; cases q
      obtain ⟨Wz, hWz⟩ : ∃ Wz, (W1.alloc (.cells #[.int .i64 v.1, .int .i64 v.2] 115)).alloc (.cells #[.int .i64 v.1, .int .i64 v.2] 3) = Wz := ⟨_, rfl⟩
      have hbz : Below W1.heap.size W1 Wz := by rw [← hWz]; exact ((Below.refl _ W1).alloc (Nat.le_refl _) _).alloc (by simp) _
      have hzz : Wz.heap.size = W1.heap.size + 2 := by rw [← hWz]; simp
      have hnz : Wz.heap[W1.heap.size + 1]? = some (.cells #[.int .i64 v.1, .int .i64 v.2] 3 (0, 0)) := by rw [← hWz]; exact heap_new (by simp)
      have hownz : Wz.ownsRow W.heap.size 3 1 u17 xs.length (xs.map (Value.int .i64)) := own_move hrow (fun k hk => by
        obtain ⟨h1, h2, h3, _⟩ := hblk k hk
        exact (hbz.block k (by omega)).trans (hg1.block k h1 (fun e => h2 (Option.some.inj e))))
      obtain ⟨inf, hinf, hif⟩ : ∃ i, Try.prog.info? 3 = some i ∧ (i.zero, i.size, i.bytes) = (some (.int .i64 0), 1, 8) := by
        have h := infoInt
        cases h2 : Try.prog.info? 3 with
        | none => rw [h2] at h; cases h
        | some i => rw [h2] at h; exact ⟨i, rfl, Option.some.inj h⟩
      simp only [Prod.mk.injEq] at hif
      have hkb : xs.length ≤ 2 * KB := by omega
      have hsW := hF.size
      obtain ⟨v', W5, happ, hrow5, hg5, _, hat5⟩ := run_append_own_at (P := Try.prog) Wz W.heap.size 120 120 3 inf (.int .i64 0) 1 8 Try.underlying120 hinf hif.1 hif.2.1 hif.2.2 rfl (by omega)
        u17 xs.length _ hownz ⟨W1.heap.size + 1, 0, none⟩ 2 2 [.int .i64 v.1, .int .i64 v.2] rfl (fun j u hj => by
          have : j = 0 ∨ j = 1 := by rcases Nat.lt_or_ge j 2 with h | h; · omega
                                     · rw [List.getElem?_eq_none (by simpa using h)] at hj; cases hj
          rcases this with rfl | rfl
          · cases hj; exact cell_of hnz rfl
          · cases hj; exact cell_of hnz rfl) (by simp [Value.oneCell']) (by unfold maxLen; unfold KB at hkb; omega) (by unfold KB at hkb; omega) (by omega)
      have HBZ := Lib.hid hbz
      have HZZ := Lib.hid hzz
      have HROW5 := Lib.hid hrow5
      have HG5 := Lib.hid hg5
      have HR1 := Lib.hid hR1
      have HF := Lib.hid hF
      have HMEM := Lib.hid hmem
      have HLEN := Lib.hid hlen
      have HLE := Lib.hid hR.left_eq
      have HBLK := Lib.hid hblk
      have HG1 := Lib.hid hg1
      have HAPP := Lib.hid happ
      have HMX := Lib.hid hMx
      have HS1 := Lib.hid hs1
      clear hs1 hbz hzz hrow5 hg5 hR1 hF hmem hlen hR hblk hg1 happ hMx hnz hownz hrow hat5 hd2 hkb hcl
      gi_wp2_with (gi_at_builtin; refine wpListIn_append_run (by rfl) (.tmp 88) (.tmp 93) 120 (by rfl) u17 (.slice (some ⟨W1.heap.size + 1, 0, none⟩) 2 2) _ _ (by first | rfl | simp [Act.eval]) (by first | rfl | simp [Act.eval]) (by first | exact HAPP.out | (rw [hWz]; exact HAPP.out)) ?_)
      have hs1 := HS1.out
      have hg5 := HG5.out
      have hgrow : ∀ k, k < wr.heap.size → u17.ownBlock ≠ some k → W5.heap[k]? = W1.heap[k]? := fun k hk hne =>
        (hg5.block k (by have := HBZ.out.size; omega) (fun e => hne e.symm)).trans (HBZ.out.block k (by omega))
      have hR5 : RangeIs EP W5 bi rb M (fun y => L y ∧ y ≠ x) cnt1 := HR1.out.same (hgrow bi (by have := HR1.out.mapIs.lt; omega) (fun e => (HBLK.out bi e).2.2.2 rfl)) (hgrow rb (by have := HR1.out.lt; omega) (fun e => (HBLK.out rb e).2.1 rfl))
      have hlen := HLEN.out
      have hle := HLE.out
      refine ⟨?_, ?measure⟩
      · (repeat apply Exists.intro)
        refine ⟨?_, rfl⟩
        refine ⟨rfl, _, cnt1, xs ++ [v.1, v.2], hR5, by simpa using HROW5.out, by simp; omega, ?_, fun c => ?_⟩
        · refine ⟨hg5.os.trans (HBZ.out.os.trans (HG1.out.os.trans HF.out.os)), hg5.tape.trans (HBZ.out.tape.trans (HG1.out.tape.trans HF.out.tape)), hg5.output.trans (HBZ.out.output.trans (HG1.out.output.trans HF.out.output)), by have := hg5.size; have := HBZ.out.size; omega, fun k hk hne => ?_⟩
          exact (hgrow k (by omega) (fun e => by have := (HBLK.out k e).2.2.1; omega)).trans ((HG1.out.block k (by omega) (fun e => hne (Option.some.inj e))).trans (HF.out.same k hk hne))
        · rw [List.mem_append, HMEM.out c]
          constructor
          · rintro (⟨z, u, ⟨h1, h2⟩, h3⟩ | hc)
            · exact ⟨z, u, ⟨h1, fun h => h2 h.1⟩, h3⟩
            · exact ⟨x, v, ⟨HMX.out, fun h => h.2 rfl⟩, by simpa using hc⟩
          · rintro ⟨z, u, ⟨h1, h2⟩, h3⟩
            by_cases e : z = x
            · subst e
              rw [HMX.out] at h1
              cases h1
              exact .inr (by simpa using h3)
            · exact .inl ⟨z, u, ⟨h1, fun h => h2 ⟨h, e⟩⟩, h3⟩
      case measure =>
        rw [hR5.left_eq, hle]; exact hlt
end Go.Proofs.Ytdnjmhhjjbdieaa.Q
end
section
namespace Go.Proofs.Ytdnjmhhjjbdieaa.Q
open Go.RowKit Go.Shelf Go.Proofs.YtdnjmhhjjbdieaaW.PrintWords Go.Proofs.YtdnjmhhjjbdieaaW.PrintLast
set_option linter.unusedVariables false
def addPr (S : List (St × Int)) (y : St × Int) : List (St × Int) := if y ∈ S then S else S ++ [y]
theorem mem_addPrs (ys : List (St × Int)) : ∀ (S : List (St × Int)) (x : St × Int), x ∈ ys.foldl addPr S ↔ x ∈ S ∨ x ∈ ys := by
  induction ys with
  | nil => intro S x; simp
  | cons y ys ih =>
    intro S x
    rw [List.foldl_cons, ih]
    have h : x ∈ addPr S y ↔ x ∈ S ∨ x = y := by
      unfold addPr
      split
      · rename_i hy
        exact ⟨.inl, fun h => h.elim id (fun e => e ▸ hy)⟩
      · simp
    rw [h, List.mem_cons, or_assoc]
def cntL (least most short : Int) (n : Nat) (l : List S52) (person : Int) : Nat → List (St × Int)
  | 0 => [(beginSt, 0)]
  | j + 1 => match l[j]? with
    | some m => ((cntL least most short n l person j).flatMap fun x => (partsOf least most short x.1 m.f0 m.f1 n).map fun p => (p.2, x.2 + heldOne person p)).foldl addPr []
    | none => []
theorem mem_cntL {least most short : Int} {n : Nat} {l : List S52} {person : Int} : ∀ (j : Nat) (y : St) (c : Int), (y, c) ∈ cntL least most short n l person j ↔ hcnt least most short n l person j y c
  | 0, y, c => by simp [cntL, hcnt]
  | j + 1, y, c => by
    cases hm : l[j]? with
    | none => simp [cntL, hcnt, hm]
    | some m =>
      simp only [cntL, hcnt, hm, cnts]
      rw [mem_addPrs, List.mem_flatMap]
      simp only [List.not_mem_nil, false_or]
      constructor
      · rintro ⟨⟨x, c'⟩, hx, hp⟩
        obtain ⟨p, hp, e⟩ := List.mem_map.1 hp
        injection e with e1 e2
        exact ⟨x, p, hp, e1, c', (mem_cntL j x c').1 hx, e2.symm⟩
      · rintro ⟨x, p, hp, e1, c', hc, e2⟩
        exact ⟨(x, c'), (mem_cntL j x c').2 hc, List.mem_map.2 ⟨p, hp, by rw [e1, e2]⟩⟩
def floor_Held.f (a0_0 a0_1 a0_2 a0_3 : Int) (l0_4 : List S52) (a1 : Int) : Option (Int × Int × Int) :=
  match floor_Scene_check.f a0_0 a0_1 a0_2 a0_3 l0_4 with
  | none => none
  | some r => if r = 0 then
      if win a1 0 (a0_0 - 1) = true then
        if (fwdL a0_1 a0_2 a0_3 a0_0.toNat l0_4 l0_4.length).isEmpty then some (0, 0, 10)
        else some ((endsOf ((cntL a0_1 a0_2 a0_3 a0_0.toNat l0_4 a1 l0_4.length).map (·.2))).1, (endsOf ((cntL a0_1 a0_2 a0_3 a0_0.toNat l0_4 a1 l0_4.length).map (·.2))).2, 0)
      else some (0, 0, 2)
    else some (0, 0, r)
theorem getD_mem {xs : List Int} {j : Nat} (h : j < xs.length) : xs.getD j 0 ∈ xs := by
  rw [List.getD_eq_getElem?_getD, List.getElem?_eq_getElem h]; exact List.getElem_mem h
theorem accMin_spec {xs : List Int} (h0 : 0 < xs.length) : ∀ k, k ≤ xs.length → accMin xs k ∈ xs ∧ ∀ j, j < k → accMin xs k ≤ xs.getD j 0
  | 0, _ => ⟨getD_mem h0, fun j hj => absurd hj (Nat.not_lt_zero j)⟩
  | k + 1, hk => by
    obtain ⟨h1, h2⟩ := accMin_spec h0 k (by omega)
    unfold accMin
    split
    · exact ⟨getD_mem (by omega), fun j hj => by
        rcases Nat.lt_or_ge j k with h | h
        · have := h2 j h; omega
        · obtain rfl : j = k := by omega
          exact Int.le_refl _⟩
    · exact ⟨h1, fun j hj => by
        rcases Nat.lt_or_ge j k with h | h
        · exact h2 j h
        · obtain rfl : j = k := by omega
          omega⟩
theorem accMax_spec {xs : List Int} (h0 : 0 < xs.length) : ∀ k, k ≤ xs.length → accMax xs k ∈ xs ∧ ∀ j, j < k → xs.getD j 0 ≤ accMax xs k
  | 0, _ => ⟨getD_mem h0, fun j hj => absurd hj (Nat.not_lt_zero j)⟩
  | k + 1, hk => by
    obtain ⟨h1, h2⟩ := accMax_spec h0 k (by omega)
    unfold accMax
    split
    · exact ⟨getD_mem (by omega), fun j hj => by
        rcases Nat.lt_or_ge j k with h | h
        · have := h2 j h; omega
        · obtain rfl : j = k := by omega
          exact Int.le_refl _⟩
    · exact ⟨h1, fun j hj => by
        rcases Nat.lt_or_ge j k with h | h
        · exact h2 j h
        · obtain rfl : j = k := by omega
          omega⟩
theorem endsOf_isEnds {xs : List Int} (h0 : 0 < xs.length) : IsEnds (fun c => c ∈ xs) (some (endsOf xs)) :=
  ⟨(accMin_spec h0 _ (Nat.le_refl _)).1, (accMax_spec h0 _ (Nat.le_refl _)).1, fun c hc => by
    obtain ⟨j, hj, rfl⟩ := List.getElem_of_mem hc
    have a := (accMin_spec h0 _ (Nat.le_refl _)).2 j hj
    have b := (accMax_spec h0 _ (Nat.le_refl _)).2 j hj
    rw [List.getD_eq_getElem?_getD, List.getElem?_eq_getElem hj] at a b
    exact ⟨a, b⟩⟩
theorem IsEnds.unique {S : Int → Prop} {v w : Int × Int} (h : IsEnds S (some v)) (h' : IsEnds S (some w)) : v = w := by
  have a := h.2.2 _ h'.1
  have b := h.2.2 _ h'.2.1
  have c := h'.2.2 _ h.1
  have d := h'.2.2 _ h.2.1
  exact Prod.ext (by omega) (by omega)
end Go.Proofs.Ytdnjmhhjjbdieaa.Q
end
section
namespace Go.Proofs.Ytdnjmhhjjbdieaa.Q
open Go.RowKit Go.Shelf Go.Proofs.YtdnjmhhjjbdieaaW.PrintWords Go.Proofs.YtdnjmhhjjbdieaaW.PrintLast
set_option linter.unusedVariables false
set_option linter.unusedSimpArgs false
attribute [local go_sem] Oper.semAt_some
attribute [local go_sem] run_makeMap
set_option maxRecDepth 100000 in
set_option maxHeartbeats 4000000 in
theorem floor_Held.calls (a0_0 a0_1 a0_2 a0_3 : Int) (A0_4 : Option Addr) (c0_4 : Nat) (l0_4 : List S52) (a1 r1 r2 r3 : Int) (w : World) (hr0_4 : Kd.C k52 w A0_4 l0_4.length l0_4) (hc0_4 : l0_4.length ≤ c0_4)
    (h : floor_Held.f a0_0 a0_1 a0_2 a0_3 l0_4 a1 = some (r1, r2, r3)) :
    Calls Try.prog 24 #[.agg #[.int .i64 a0_0, .int .i64 a0_1, .int .i64 a0_2, .int .i64 a0_3, .slice A0_4 l0_4.length c0_4], .int .i64 a1] w fun e w' => e = .returned (.tuple #[.agg #[.int .i64 r1, .int .i64 r2], .int .i64 r3]) ∧ Below w.heap.size w w' := by
  have hu := Try.underlying33
  have hu4 := Try.underlying42
  refine (callsIn_wide (n := 0)).1 ?_
  refine callsIn_of_wp_marks Try.func24 rfl trivial ?_ rfl
  simp only [Try.ntmps24, List.size_toArray, List.length_cons, List.length_nil, Nat.reduceAdd, Nat.reduceSub, Array.replicate_succ, Array.replicate_zero, List.push_toArray, List.append_toArray, List.nil_append, List.cons_append]
  unfold floor_Held.f at h
  have HR := Lib.hid hr0_4
  have HH := Lib.hid h
  clear hr0_4 h
  obtain ⟨W0, hW0⟩ : ∃ W0, ((w.alloc (.cells #[.int .i64 a0_0, .int .i64 a0_1, .int .i64 a0_2, .int .i64 a0_3, .slice A0_4 l0_4.length c0_4] 33)).alloc (.cells #[.int .i64 a1] 3)).alloc (.cells #[.int .i64 0, .int .i64 0] 42) = W0 := ⟨_, rfl⟩
  have hb0 : Below w.heap.size w W0 := by rw [← hW0]; exact (((Below.refl _ w).alloc (Nat.le_refl _) _).alloc (by simp) _).alloc (by simp; omega) _
  have hs0 : W0.heap.size = w.heap.size + 3 := by rw [← hW0]; simp
  have hsc0 : W0.heap[w.heap.size]? = some (.cells #[.int .i64 a0_0, .int .i64 a0_1, .int .i64 a0_2, .int .i64 a0_3, .slice A0_4 l0_4.length c0_4] 33 (0, 0)) := by rw [← hW0]; exact heap_old (heap_old (heap_new rfl))
  have hpc0 : W0.heap[w.heap.size + 1]? = some (.cells #[.int .i64 a1] 3 (0, 0)) := by rw [← hW0]; exact heap_old (heap_new (by simp))
  have hrc0 : W0.heap[w.heap.size + 1 + 1]? = some (.cells #[.int .i64 0, .int .i64 0] 42 (0, 0)) := by rw [← hW0]; exact heap_new (by simp)
  have e0 := cell_of hsc0 (i := 0) rfl
  have e1 := cell_of hsc0 (i := 1) rfl
  have e2 := cell_of hsc0 (i := 2) rfl
  have e3 := cell_of hsc0 (i := 3) rfl
  have e4 := cell_of hsc0 (i := 4) rfl
  simp only [List.getElem_toArray, List.getElem_cons_zero, List.getElem_cons_succ] at e0 e1 e2 e3 e4
  have HB0 := Lib.hid hb0
  have HS0 := Lib.hid hs0
  have HSC := Lib.hid hsc0
  have HPC := Lib.hid hpc0
  have HRC := Lib.hid hrc0
  clear hb0 hs0 hsc0 hpc0 hrc0
  gi_wp2
  clear hW0
  cases hck : floor_Scene_check.f a0_0 a0_1 a0_2 a0_3 l0_4 with
  | none => have h' := HH.out; rw [hck] at h'; cases h'
  | some r =>
    have HCK := Lib.hid hck
    have h' := HH.out
    rw [hck] at h'
    simp only [] at h'
    clear hck HH
    refine ⟨trivial, rfl, (callsIn_wide.2 (floor_Scene_check.calls a0_0 a0_1 a0_2 a0_3 A0_4 c0_4 l0_4 r W0 (Kd.C_below HR.out HB0.out) hc0_4 HCK.out)).mono ?_⟩
    rintro e W1 ⟨rfl, hb1⟩
    have hz := hb1.size
    have hs0 := HS0.out
    have hrc1 := (hb1.block _ (by omega)).trans HRC.out
    have c0 := cell_of hrc1 (i := 0) rfl
    have c1 := cell_of hrc1 (i := 1) rfl
    have f0 := not_frozen (i := 0) hrc1
    have f1 := not_frozen (i := 1) hrc1
    have HB1 := Lib.hid hb1
    by_cases hr : r = 0
    · subst hr
      obtain ⟨hl, ⟨n, rfl, hn1, hn⟩, _⟩ := check_ok HCK.out
      have hnn : (n : Int).toNat = n := Int.toNat_natCast n
      simp only [↓reduceIte, hnn] at h'
      have HH := Lib.hid h'
      have hwr : IntKind.i64.wrap ((n : Int) - 1) = (n : Int) - 1 := by simp [IntKind.wrap, IntKind.bits, IntKind.signed]; omega
      have hb01 := HB0.out.trans (hb1.mono HB0.out.size)
      have hpc1 := (hb1.block _ (by omega)).trans HPC.out
      have hsc1 := (hb1.block _ (by omega)).trans HSC.out
      have p0 := cell_of hpc1 (i := 0) rfl
      have s0 := cell_of hsc1 (i := 0) rfl
      simp only [List.getElem_toArray, List.getElem_cons_zero, List.getElem_cons_succ] at p0 s0
      have HB01 := Lib.hid hb01
      have HPC1 := Lib.hid hpc1
      have HSC1 := Lib.hid hsc1
      have HRC1 := Lib.hid hrc1
      clear hb1 hz hs0 hrc1 hb01 hpc1 hsc1 h' e0 e1 e2 e3 e4
      gi_wp2
      cases hw : win a1 0 ((n : Int) - 1) with
      | false =>
        refine ⟨trivial, rfl, (callsIn_wide.2 (within.calls a1 0 ((n : Int) - 1) false W1 hw)).mono ?_⟩
        rintro e w2 ⟨rfl, rfl⟩
        have h' := HH.out
        rw [hw] at h'
        simp only [Bool.false_eq_true, ↓reduceIte, Option.some.injEq, Prod.mk.injEq] at h'
        obtain ⟨rfl, rfl, rfl⟩ := h'
        clear HH
        gi_wp2
        obtain ⟨W2, hW2⟩ : ∃ W2, (W1.setCell ⟨w.heap.size + 1 + 1, 0, none⟩ (.int .i64 0)).setCell ⟨w.heap.size + 1 + 1, 1, none⟩ (.int .i64 0) = W2 := ⟨_, rfl⟩
        have hr2c : W2.heap[w.heap.size + 1 + 1]? = some (.cells #[.int .i64 0, .int .i64 0] 42 (0, 0)) := by
          rw [← hW2]; exact heap_set (heap_set HRC1.out 0 _) 1 _
        have hb2 : Below w.heap.size w W2 := by
          rw [← hW2]
          exact (HB01.out.setCell (p := ⟨w.heap.size + 1 + 1, 0, none⟩) (by show w.heap.size ≤ w.heap.size + 2; omega) _).setCell (p := ⟨w.heap.size + 1 + 1, 1, none⟩) (by show w.heap.size ≤ w.heap.size + 2; omega) _
        rw [hW2]
        have d0 := cell_of hr2c (i := 0) rfl
        have d1 := cell_of hr2c (i := 1) rfl
        simp only [List.getElem_toArray, List.getElem_cons_zero, List.getElem_cons_succ] at d0 d1
        refine ⟨.tuple #[.agg #[.int .i64 0, .int .i64 0], .int .i64 2], by simp [results, Try.results24, go_sem, hu4, d0, d1], rfl, hb2⟩
      | true =>
        refine ⟨trivial, rfl, (callsIn_wide.2 (within.calls a1 0 ((n : Int) - 1) true W1 hw)).mono ?_⟩
        rintro e w2 ⟨rfl, rfl⟩
        have h' := HH.out
        rw [hw] at h'
        simp only [↓reduceIte] at h'
        have HH' := Lib.hid h'
        have hmA : MapIs EP ((W1.alloc (.map #[] 0)).alloc (.cells #[.int .i64 (-2), .int .i64 0, .int .i64 0, .bool false] 109)) W1.heap.size (fun _ => none) := (MapIs.made W1).same (Below.heap_alloc _ _ _ (by simp))
        obtain ⟨WA, hupA, hMA, hgA, _, hsA⟩ := hmA.update beginSt ((beginSt_small 0).box (by omega)) (0, 0)
        have hupA : (Instr.mapUpdate 116 (.map (some W1.heap.size)) (.agg #[.int .i64 (-2), .int .i64 0, .int .i64 0, .bool false]) (.agg #[.int .i64 0, .int .i64 0])).run Try.prog ((W1.alloc (.map #[] 0)).alloc (.cells #[.int .i64 (-2), .int .i64 0, .int .i64 0, .bool false] 109)) = .ok () WA := hupA
        have HMA := Lib.hid hMA
        have HGA := Lib.hid hgA
        have HSA := Lib.hid hsA
        have hFA : Fr (fun _ => False) W1 WA := Fr.mono (X := fun k => k = W1.heap.size) (((Fr.alloc W1 (.map #[] 0)).trans (Fr.alloc _ _)).trans (Fr.grown hgA (fun r e => by cases e; rfl))) (fun k hk h => by omega)
        have hscA := (hFA.same _ (Array.getElem?_eq_some_iff.1 HSC1.out).1 (by simp)).trans HSC1.out
        have hpcA := (hFA.same _ (Array.getElem?_eq_some_iff.1 HPC1.out).1 (by simp)).trans HPC1.out
        have s4 := cell_of hscA (i := 4) rfl
        simp only [List.getElem_toArray, List.getElem_cons_zero, List.getElem_cons_succ] at s4
        have HFA := Lib.hid hFA
        have HSCA := Lib.hid hscA
        have HPCA := Lib.hid hpcA
        clear h' HH hmA hMA hgA hsA hFA hscA hpcA
        gi_wp2
        refine ⟨trivial, rfl, (callsIn_wide.2 (begin.calls _)).mono ?_⟩
        rintro e w' ⟨rfl, rfl⟩
        gi_wp2
        have hb0A : Below w.heap.size w WA := HB01.out.trans ((HFA.out.below (Nat.le_refl _) (by simp)).mono HB01.out.size)
        refine held.rounds n hn a0_1 a0_2 a0_3 a1 A0_4 c0_4 l0_4 hl w.heap.size (w.heap.size + 1) W1.heap.size _ _ _ _ _ _ _ _ _ _ _ _ _ _ _ _ _ _ _ _ _ _ _ _ _ _ _ _ _ _ _ _ _ _ _ _ _ _ _ _ _ _ _ _ _ _ _ _ _ _ _ _ _ _ _ _ _ _ _ _ _ _ _ _ _ _ _ _ _ _ _ _ _ _ _ _ _ _ _ _ _ _ _ _ _ _ _ _ _ _ _ _ _ _ _ _ _ _ WA (Kd.C_below HR.out hb0A) HSCA.out HPCA.out HMA.out (fun y => ?_) ?_
        · by_cases e : y = beginSt
          · rw [if_pos e]
            exact ⟨⟨e, rfl⟩, ⟨e, rfl⟩, fun c hc => by have := hc.2; show (0 : Int) ≤ c ∧ c ≤ 0; omega⟩
          · rw [if_neg e]
            exact fun c hc => e hc.1
        · rintro ds3 bi M' a9 a10 a11 a12 a13 a14 a15 a16 a41 a42 a43 a44 a45 a46 a47 a48 a49 a50 a51 a52 a53 a54 a55 a56 a57 a60 a61 a62 a63 a64 a65 a66 a67 a68 a69 a70 a71 a72 a73 a74 a75 a76 a77 W3 hF hM hE hC
          have hb03 : Below w.heap.size w W3 := hb0A.trans ((hF.below (Nat.le_refl _) (by simp)).mono hb0A.size)
          have hrcA := (HFA.out.same _ (Array.getElem?_eq_some_iff.1 HRC1.out).1 (by simp)).trans HRC1.out
          have hrc3 := (hF.same _ (Array.getElem?_eq_some_iff.1 hrcA).1 (by simp)).trans hrcA
          have z0 := cell_of hrc3 (i := 0) rfl
          have z1 := cell_of hrc3 (i := 1) rfl
          have g0 := not_frozen (i := 0) hrc3
          have g1 := not_frozen (i := 1) hrc3
          simp only [List.getElem_toArray, List.getElem_cons_zero, List.getElem_cons_succ] at z0 z1
          obtain ⟨nl, hnl, hlen, hzero⟩ := hM.len 3
          have hlen : (Builtin.len_ #[116] 3 #[.map (some bi)]).run Try.prog W3 = .ok (.int .i64 nl) W3 := hlen
          have HB03 := Lib.hid hb03
          have HRC3 := Lib.hid hrc3
          have HF3 := Lib.hid hF
          have HM3 := Lib.hid hM
          have HE3 := Lib.hid hE
          have HC3 := Lib.hid hC
          have HZ := Lib.hid hzero
          clear hb03 hrc3 hrcA hF hM hE hC hzero hb0A
          by_cases hz : nl = 0
          · subst hz
            have h' := HH'.out
            have hem : (fwdL a0_1 a0_2 a0_3 n l0_4 l0_4.length).isEmpty = true := fwdL_empty.2 (fun y hy => by
              obtain ⟨c, hc⟩ := fwd_hcnt (person := a1) l0_4.length y hy
              have := HE3.out y
              rw [HZ.out.1 rfl y] at this
              exact this c hc)
            rw [if_pos hem] at h'
            simp only [Option.some.injEq, Prod.mk.injEq] at h'
            obtain ⟨rfl, rfl, rfl⟩ := h'
            clear hem
            gi_wp2
            obtain ⟨W4, hW4⟩ : ∃ W4, (W3.setCell ⟨w.heap.size + 1 + 1, 0, none⟩ (.int .i64 0)).setCell ⟨w.heap.size + 1 + 1, 1, none⟩ (.int .i64 0) = W4 := ⟨_, rfl⟩
            have hr4 : W4.heap[w.heap.size + 1 + 1]? = some (.cells #[.int .i64 0, .int .i64 0] 42 (0, 0)) := by
              rw [← hW4]; exact heap_set (heap_set HRC3.out 0 _) 1 _
            have hb4 : Below w.heap.size w W4 := by
              rw [← hW4]
              exact (HB03.out.setCell (p := ⟨w.heap.size + 1 + 1, 0, none⟩) (by show w.heap.size ≤ w.heap.size + 2; omega) _).setCell (p := ⟨w.heap.size + 1 + 1, 1, none⟩) (by show w.heap.size ≤ w.heap.size + 2; omega) _
            have hC4 : Coll WA.heap.size W3.heap.size ds3 W4 := HC3.out.same (by rw [← hW4]; exact (SameMarks.setCell _ _ _).trans (SameMarks.setCell _ _ _))
            rw [hW4]
            refine leave_marks _ _ hC4 (fun W5 hF5 => ?_)
            have hr5 := (hF5.same _ (Array.getElem?_eq_some_iff.1 hr4).1 (fun q => by rw [hr4] at q; cases q.2.2)).trans hr4
            have d0 := cell_of hr5 (i := 0) rfl
            have d1 := cell_of hr5 (i := 1) rfl
            simp only [List.getElem_toArray, List.getElem_cons_zero, List.getElem_cons_succ] at d0 d1
            refine ⟨.tuple #[.agg #[.int .i64 0, .int .i64 0], .int .i64 10], by simp [results, Try.results24, go_sem, hu4, d0, d1], rfl, hb4.trans (hF5.below (n := w.heap.size) hb4.size (fun k hk q => by have := HB01.out.size; have := HFA.out.size; omega))⟩
          · have hnz : ¬ ((nl : Int) = 0) := by omega
            obtain ⟨W4, cnt, hrng, hR4, hg4, hs4⟩ := HM3.out.range
            have hrng : (Instr.range 116 (.map (some bi))).run Try.prog W3 = .ok (.pointer (some ⟨W3.heap.size, 0, none⟩)) W4 := hrng
            have HR4 := Lib.hid hR4
            have HG4 := Lib.hid hg4
            have HS4 := Lib.hid hs4
            clear hR4 hg4 hs4
            gi_wp2
            refine held.collect bi W3.heap.size cnt W3.heap.size M' ds3 _ _ _ _ _ _ _ _ _ _ _ _ _ _ _ _ _ _ _ _ _ _ _ _ _ _ _ _ _ _ _ _ _ _ _ _ _ _ _ _ _ _ _ _ _ _ _ _ _ _ _ _ _ _ _ _ _ _ _ _ _ _ _ _ _ _ _ _ _ _ _ _ _ _ _ _ _ _ _ _ _ _ _ _ _ _ _ _ _ _ _ _ _ _ _ _ _ _ _ _ W4 HR4.out (by have := HS4.out; omega) ?_
            rintro lv xs c19 c84 c85 c86 c87 c88 c89 c90 c91 c92 c93 c94 W5 hF5 hxl hrow hmem
            have hne : 0 < xs.length := by
              obtain ⟨x, v, hv⟩ : ∃ x v, M' x = some v := Classical.byContradiction (fun hc => hz (HZ.out.2 (fun x => by
                cases hx : M' x with
                | none => rfl
                | some v => exact (hc ⟨x, v, hx⟩).elim)))
              exact List.length_pos_of_mem ((hmem v.1).2 ⟨x, v, hv, .inl rfl⟩)
            obtain ⟨b, cap, rfl, hbl⟩ : ∃ b cap, lv = .slice (some ⟨b, 0, none⟩) xs.length cap ∧ W4.heap.size ≤ b := by
              rcases hrow.2 with ⟨_, q⟩ | ⟨g', cap, cur, r1, r2, r3, _⟩
              · omega
              · exact ⟨g', cap, r1, r2⟩
            have hcells : ∀ j, j < xs.length → W5.cell? ⟨b, j, none⟩ = some (.int .i64 (xs.getD j 0)) := fun j hj => by
              have := hrow.cells (g := b) rfl j (.int .i64 (xs.getD j 0)) (by simp [List.getD, hj])
              rcases j with _ | j <;> simpa [Addr.add] using this
            have hF45 : Fr (fun k => k = W3.heap.size) W4 W5 := hF5
            have HROW := Lib.hid hrow
            have HMEM := Lib.hid hmem
            have HF45 := Lib.hid hF45
            have HCE := Lib.hid hcells
            clear hrow hmem hF5 hF45 hcells
            gi_wp2
            refine ⟨trivial, rfl, (callsIn_wide.2 (ends.calls b cap xs hne (by unfold KB at hxl; omega) W5 HCE.out)).mono ?_⟩
            rintro e W6 ⟨rfl, hb6⟩
            obtain ⟨d, hd⟩ : ∃ d, endsOf xs = d := ⟨_, rfl⟩
            rw [hd]
            have hF34 : Fr (fun _ => False) W3 W4 := Fr.grown HG4.out (fun r e => by cases e)
            have hs6 := hb6.size
            have hF36 : Fr (fun k => k = W3.heap.size) W3 W6 := ((hF34.mono (fun k _ h => h.elim)).trans HF45.out).trans (Fr.of_below hb6 (fun k q1 q2 => by omega))
            have hlt := (Array.getElem?_eq_some_iff.1 HRC3.out).1
            have hr6 := (hF36.same _ hlt (by omega)).trans HRC3.out
            have y0 := cell_of hr6 (i := 0) rfl
            have y1 := cell_of hr6 (i := 1) rfl
            have l0 := not_frozen (i := 0) hr6
            have l1 := not_frozen (i := 1) hr6
            have k6 : w.heap.size + 1 + 1 < W6.heap.size := (Array.getElem?_eq_some_iff.1 hr6).1
            simp only [List.getElem_toArray, List.getElem_cons_zero, List.getElem_cons_succ] at y0 y1
            have HF36 := Lib.hid hF36
            have HR6 := Lib.hid hr6
            have HD := Lib.hid hd
            clear hF34 hs6 hF36 hlt hr6 hd hb6
            gi_wp2
            have h' := HH'.out
            have hem : ¬ (fwdL a0_1 a0_2 a0_3 n l0_4 l0_4.length).isEmpty = true := fun hc => by
              refine hz (HZ.out.2 (fun x => ?_))
              cases hx : M' x with
              | none => rfl
              | some v =>
                have := HE3.out x
                rw [hx] at this
                exact (fwdL_empty.1 hc x (hcnt_fwd _ _ _ this.1).1).elim
            rw [if_neg hem] at h'
            simp only [Option.some.injEq, Prod.mk.injEq] at h'
            have hmem2 : ∀ c, c ∈ (cntL a0_1 a0_2 a0_3 n l0_4 a1 l0_4.length).map (·.2) ↔ ∃ y, hcnt a0_1 a0_2 a0_3 n l0_4 a1 l0_4.length y c := fun c => by
              rw [List.mem_map]
              exact ⟨fun ⟨⟨y, c'⟩, hy, e⟩ => ⟨y, by subst e; exact (mem_cntL _ _ _).1 hy⟩, fun ⟨y, hy⟩ => ⟨(y, c), (mem_cntL _ _ _).2 hy, rfl⟩⟩
            have hd1 : IsEnds (fun c => ∃ y, hcnt a0_1 a0_2 a0_3 n l0_4 a1 l0_4.length y c) (some d) := by
              have k := endsOf_isEnds hne
              rw [HD.out] at k
              have hin : ∀ c, c ∈ xs → ∃ y, hcnt a0_1 a0_2 a0_3 n l0_4 a1 l0_4.length y c := fun c hc => by
                obtain ⟨x, v, hv, e⟩ := (HMEM.out c).1 hc
                have := HE3.out x
                rw [hv] at this
                rcases e with rfl | rfl
                · exact ⟨x, this.1⟩
                · exact ⟨x, this.2.1⟩
              refine ⟨hin _ k.1, hin _ k.2.1, fun c ⟨y, hy⟩ => ?_⟩
              have := HE3.out y
              cases hv : M' y with
              | none => rw [hv] at this; exact (this c hy).elim
              | some v =>
                rw [hv] at this
                have a := k.2.2 _ ((HMEM.out v.1).2 ⟨y, v, hv, .inl rfl⟩)
                have b := k.2.2 _ ((HMEM.out v.2).2 ⟨y, v, hv, .inr rfl⟩)
                have c := this.2.2 _ hy
                omega
            have hlen2 : 0 < ((cntL a0_1 a0_2 a0_3 n l0_4 a1 l0_4.length).map (·.2)).length := List.length_pos_of_mem ((hmem2 _).2 hd1.1)
            have hde : d = endsOf ((cntL a0_1 a0_2 a0_3 n l0_4 a1 l0_4.length).map (·.2)) := hd1.unique ((endsOf_isEnds hlen2).congr hmem2)
            rw [← hde] at h'
            obtain ⟨rfl, rfl, rfl⟩ := h'
            obtain ⟨W7, hW7⟩ : ∃ W7, ((W6.setCell ⟨w.heap.size + 1 + 1, 0, none⟩ (.int .i64 d.1)).setCell ⟨w.heap.size + 1 + 1, 1, none⟩ (.int .i64 d.2)).alloc (.cells #[.int .i64 d.1, .int .i64 d.2] 115) = W7 := ⟨_, rfl⟩
            rw [hW7]
            have hr7 : W7.heap[w.heap.size + 1 + 1]? = some (.cells #[.int .i64 d.1, .int .i64 d.2] 42 (0, 0)) := by
              rw [← hW7]; exact heap_old (heap_set (heap_set HR6.out 0 _) 1 _)
            have hF67 : Fr (fun k => w.heap.size ≤ k) W6 W7 := by
              rw [← hW7]
              exact ((Fr.setCell _ _ _ (by show w.heap.size ≤ w.heap.size + 2; omega)).trans (Fr.setCell _ _ _ (by show w.heap.size ≤ w.heap.size + 2; omega))).trans (Fr.alloc _ _)
            have hmk7 : SameMarks W6 W7 := by rw [← hW7]; exact ((SameMarks.setCell _ _ _).trans (SameMarks.setCell _ _ _)).trans (SameMarks.alloc _ _)
            have hz3 := HB03.out.size
            have hmk36 : SameMarks W3 W6 := fun D q => (HF36.out.same D (Array.getElem?_eq_some_iff.1 q).1 (by have := (Array.getElem?_eq_some_iff.1 q).1; omega)).trans q
            have hC7 : Coll WA.heap.size W3.heap.size ds3 W7 := HC3.out.same (hmk36.trans hmk7)
            have hb7 : Below w.heap.size w W7 := (HB03.out.trans (HF36.out.below (n := w.heap.size) hz3 (fun k hk e => by omega))).trans (hF67.below (n := w.heap.size) (by have := HF36.out.size; omega) (fun k hk e => by omega))
            refine leave_marks _ _ hC7 (fun W8 hF8 => ?_)
            have hr8 := (hF8.same _ (Array.getElem?_eq_some_iff.1 hr7).1 (fun q => by rw [hr7] at q; cases q.2.2)).trans hr7
            have d0 := cell_of hr8 (i := 0) rfl
            have d1 := cell_of hr8 (i := 1) rfl
            simp only [List.getElem_toArray, List.getElem_cons_zero, List.getElem_cons_succ] at d0 d1
            refine ⟨.tuple #[.agg #[.int .i64 d.1, .int .i64 d.2], .int .i64 0], by simp [results, Try.results24, go_sem, hu4, d0, d1], rfl, hb7.trans (hF8.below (n := w.heap.size) hb7.size (fun k hk q => by have := HB01.out.size; have := HFA.out.size; omega))⟩
    · rw [if_neg hr] at h'
      have hr2 : (r == 0) = false := by simpa using hr
      simp only [Option.some.injEq, Prod.mk.injEq] at h'
      obtain ⟨rfl, rfl, rfl⟩ := h'
      have HRC1 := Lib.hid hrc1
      clear hb1 hz hs0 hrc1
      gi_wp2
      obtain ⟨W2, hW2⟩ : ∃ W2, (W1.setCell ⟨w.heap.size + 1 + 1, 0, none⟩ (.int .i64 0)).setCell ⟨w.heap.size + 1 + 1, 1, none⟩ (.int .i64 0) = W2 := ⟨_, rfl⟩
      have hr2c : W2.heap[w.heap.size + 1 + 1]? = some (.cells #[.int .i64 0, .int .i64 0] 42 (0, 0)) := by
        rw [← hW2]; exact heap_set (heap_set HRC1.out 0 _) 1 _
      have hb2 : Below w.heap.size w W2 := by
        rw [← hW2]
        exact ((HB0.out.trans (HB1.out.mono HB0.out.size)).setCell (p := ⟨w.heap.size + 1 + 1, 0, none⟩) (by show w.heap.size ≤ w.heap.size + 2; omega) _).setCell (p := ⟨w.heap.size + 1 + 1, 1, none⟩) (by show w.heap.size ≤ w.heap.size + 2; omega) _
      rw [hW2]
      have d0 := cell_of hr2c (i := 0) rfl
      have d1 := cell_of hr2c (i := 1) rfl
      simp only [List.getElem_toArray, List.getElem_cons_zero, List.getElem_cons_succ] at d0 d1
      refine ⟨.tuple #[.agg #[.int .i64 0, .int .i64 0], .int .i64 r], by simp [results, Try.results24, go_sem, hu4, d0, d1], rfl, hb2⟩
end Go.Proofs.Ytdnjmhhjjbdieaa.Q
end
section
namespace Go.Proofs.Ytdnjmhhjjbdieaa.Q
open Go.RowKit Go.Proofs.YtdnjmhhjjbdieaaW.PrintWords
set_option linter.unusedVariables false
theorem held_ok {a1 a2 a3 person : Int} {n : Nat} {l : List S52} (hc : floor_Scene_check.f n a1 a2 a3 l = some 0) (he : ∃ x, fwd a1 a2 a3 n l l.length x) (hp : 0 ≤ person ∧ person < n) :
    ∃ v, floor_Held.f n a1 a2 a3 l person = some (v.1, v.2, 0) ∧ IsEnds (fun c => ∃ y, hcnt a1 a2 a3 n l person l.length y c) (some v) := by
  have hw : win person 0 ((n : Int) - 1) = true := by unfold win; simp; omega
  refine ⟨endsOf ((cntL a1 a2 a3 n l person l.length).map (·.2)), ?_, ?_⟩
  · unfold floor_Held.f
    rw [hc]
    simp only [if_true, hw, Int.toNat_natCast]
    rw [if_neg (fun h => by obtain ⟨x, hx⟩ := he; exact fwdL_empty.1 h x hx)]
  · have h0 : 0 < ((cntL a1 a2 a3 n l person l.length).map (·.2)).length := by
      obtain ⟨x, hx⟩ := he
      obtain ⟨c, hcn⟩ := fwd_hcnt (person := person) l.length x hx
      rw [List.length_map]
      exact List.length_pos_of_mem ((mem_cntL _ _ _).2 hcn)
    refine (endsOf_isEnds h0).congr (fun c => ?_)
    rw [List.mem_map]
    exact ⟨fun ⟨p, hp, e⟩ => ⟨p.1, by subst e; exact (mem_cntL _ _ _).1 hp⟩, fun ⟨y, hy⟩ => ⟨(y, c), (mem_cntL _ _ _).2 hy, rfl⟩⟩
end Go.Proofs.Ytdnjmhhjjbdieaa.Q
end
