/- Texts of a proof, joined: see the last one. -/
import Derived.Test.YtdnjmhhjjbdieaaG1
import Derived.Test.YtdnjmhhjjbdieaaG3
import Derived.StillTailTactics
import Derived.Lib.Hide
import Derived.Outline
import Derived.BigRegion
import Derived.ChangeAlike
import Derived.Laws.EntriesVeiled
import Derived.Maps.RangeWalk
import Derived.DeepKeys4
import Derived.Carry
import Derived.ProofKit
import Derived.IntWalk
import Derived.WalkKit
namespace Go.Proofs.YtdnjmhhjjbdieaaW.PrintLast
end Go.Proofs.YtdnjmhhjjbdieaaW.PrintLast
namespace Go.Proofs.YtdnjmhhjjbdieaaW.PrintWords
end Go.Proofs.YtdnjmhhjjbdieaaW.PrintWords
section
namespace Go.Proofs.Ytdnjmhhjjbdieaa.Q
open Go.RowKit Go.Proofs.YtdnjmhhjjbdieaaW.PrintWords Go.Proofs.YtdnjmhhjjbdieaaW.PrintLast
set_option linter.unusedVariables false
set_option linter.unusedSimpArgs false
structure St where
  holder : Int
  turn : Int
  short : Int
  own : Bool
  deriving DecidableEq
def encSt (x : St) : Value := .agg #[.int .i64 x.holder, .int .i64 x.turn, .int .i64 x.short, .bool x.own]
def stepOut (most short : Int) (x : St) (h v turn : Int) : St × Bool :=
  (⟨h, turn, if v ≠ -1 ∧ v ≠ h then x.short + 1 else 0, v == h⟩, decide (turn ≤ most) && decide ((if v ≠ -1 ∧ v ≠ h then x.short + 1 else 0) ≤ short))
def stepF (least most short : Int) (x : St) (h v : Int) : St × Bool :=
  if h = -1 then (⟨-1, 0, 0, false⟩, (decide (x.holder < 0) || (decide (least ≤ x.turn) && x.own)) && decide (v = -1))
  else if h = x.holder then stepOut most short x h v (x.turn + 1)
  else if v ≠ h then (⟨0, 0, 0, false⟩, false)
  else if 0 ≤ x.holder ∧ (x.turn < least ∨ x.own = false) then (⟨0, 0, 0, false⟩, false)
  else stepOut most short x h v 1
theorem beq_dec (a b : Int) : (a == b) = decide (a = b) := by by_cases h : a = b <;> simp [h]
set_option maxRecDepth 100000 in
set_option maxHeartbeats 1000000 in
theorem step.A1 (a0 least most short : Int) (vv : Value) (xt xs : Int) (v : Int) (xh : Int) (xo : Bool) (w : World) (hx1 : 0 ≤ xt) (hx2 : xt ≤ 1000) (hx3 : 0 ≤ xs) (hx4 : xs ≤ 1000) (h1 : xh < 0) :
    Calls Try.prog 67 #[.agg #[.int .i64 a0, .int .i64 least, .int .i64 most, .int .i64 short, vv], .agg #[.int .i64 xh, .int .i64 xt, .int .i64 xs, .bool xo], .agg #[.int .i64 (-1), .int .i64 v]] w fun e w' =>
      e = .returned (.tuple #[.agg #[.int .i64 (-1), .int .i64 0, .int .i64 0, .bool false], .bool (v == -1)]) ∧ Below w.heap.size w w' := by
  have hu := Try.underlying33
  have hu1 := Try.underlying109
  have hu2 := Try.underlying65
  go_enter Try.func67, Try.ntmps67
  go_wp2
  go_region
  all_goals
    go_wp2
    refine bodyPost_ret (v := .tuple #[.agg #[.int .i64 (-1), .int .i64 0, .int .i64 0, .bool false], .bool (v == -1)]) (by simp [results, Try.results67, go_sem, hu1]) rfl ⟨rfl, ?_⟩
    repeat (first | exact Below.refl _ _ | refine Below.drew ?_ | (refine Below.alloc ?_ (by simp; try omega) _) | (refine Below.setCell ?_ (by simp; try omega) _))
set_option maxRecDepth 100000 in
set_option maxHeartbeats 1000000 in
theorem step.A2 (a0 least most short : Int) (vv : Value) (xt xs : Int) (v : Int) (xh : Int) (w : World) (hx1 : 0 ≤ xt) (hx2 : xt ≤ 1000) (hx3 : 0 ≤ xs) (hx4 : xs ≤ 1000) (h1 : 0 ≤ xh) (h2 : least ≤ xt) :
    Calls Try.prog 67 #[.agg #[.int .i64 a0, .int .i64 least, .int .i64 most, .int .i64 short, vv], .agg #[.int .i64 xh, .int .i64 xt, .int .i64 xs, .bool true], .agg #[.int .i64 (-1), .int .i64 v]] w fun e w' =>
      e = .returned (.tuple #[.agg #[.int .i64 (-1), .int .i64 0, .int .i64 0, .bool false], .bool (v == -1)]) ∧ Below w.heap.size w w' := by
  have hu := Try.underlying33
  have hu1 := Try.underlying109
  have hu2 := Try.underlying65
  go_enter Try.func67, Try.ntmps67
  go_wp2
  go_region
  all_goals
    go_wp2
    refine bodyPost_ret (v := .tuple #[.agg #[.int .i64 (-1), .int .i64 0, .int .i64 0, .bool false], .bool (v == -1)]) (by simp [results, Try.results67, go_sem, hu1]) rfl ⟨rfl, ?_⟩
    repeat (first | exact Below.refl _ _ | refine Below.drew ?_ | (refine Below.alloc ?_ (by simp; try omega) _) | (refine Below.setCell ?_ (by simp; try omega) _))
set_option maxRecDepth 100000 in
set_option maxHeartbeats 1000000 in
theorem step.A3 (a0 least most short : Int) (vv : Value) (xt xs : Int) (v : Int) (xh : Int) (w : World) (hx1 : 0 ≤ xt) (hx2 : xt ≤ 1000) (hx3 : 0 ≤ xs) (hx4 : xs ≤ 1000) (h1 : 0 ≤ xh) (h2 : least ≤ xt) :
    Calls Try.prog 67 #[.agg #[.int .i64 a0, .int .i64 least, .int .i64 most, .int .i64 short, vv], .agg #[.int .i64 xh, .int .i64 xt, .int .i64 xs, .bool false], .agg #[.int .i64 (-1), .int .i64 v]] w fun e w' =>
      e = .returned (.tuple #[.agg #[.int .i64 (-1), .int .i64 0, .int .i64 0, .bool false], .bool false]) ∧ Below w.heap.size w w' := by
  have hu := Try.underlying33
  have hu1 := Try.underlying109
  have hu2 := Try.underlying65
  have hd0 : decide (xh < 0) = false := by simp; omega
  go_enter Try.func67, Try.ntmps67
  go_wp2
  go_region
  all_goals
    go_wp2
    refine bodyPost_ret (v := .tuple #[.agg #[.int .i64 (-1), .int .i64 0, .int .i64 0, .bool false], .bool false]) (by simp [results, Try.results67, go_sem, hu1]) rfl ⟨rfl, ?_⟩
    repeat (first | exact Below.refl _ _ | refine Below.drew ?_ | (refine Below.alloc ?_ (by simp; try omega) _) | (refine Below.setCell ?_ (by simp; try omega) _))
set_option maxRecDepth 100000 in
set_option maxHeartbeats 1000000 in
theorem step.A4 (a0 least most short : Int) (vv : Value) (xt xs : Int) (v : Int) (xh : Int) (xo : Bool) (w : World) (hx1 : 0 ≤ xt) (hx2 : xt ≤ 1000) (hx3 : 0 ≤ xs) (hx4 : xs ≤ 1000) (h1 : 0 ≤ xh) (h2 : xt < least) :
    Calls Try.prog 67 #[.agg #[.int .i64 a0, .int .i64 least, .int .i64 most, .int .i64 short, vv], .agg #[.int .i64 xh, .int .i64 xt, .int .i64 xs, .bool xo], .agg #[.int .i64 (-1), .int .i64 v]] w fun e w' =>
      e = .returned (.tuple #[.agg #[.int .i64 (-1), .int .i64 0, .int .i64 0, .bool false], .bool false]) ∧ Below w.heap.size w w' := by
  have hu := Try.underlying33
  have hu1 := Try.underlying109
  have hu2 := Try.underlying65
  have hd0 : decide (xh < 0) = false := by simp; omega
  go_enter Try.func67, Try.ntmps67
  go_wp2
  go_region
  all_goals
    go_wp2
    refine bodyPost_ret (v := .tuple #[.agg #[.int .i64 (-1), .int .i64 0, .int .i64 0, .bool false], .bool false]) (by simp [results, Try.results67, go_sem, hu1]) rfl ⟨rfl, ?_⟩
    repeat (first | exact Below.refl _ _ | refine Below.drew ?_ | (refine Below.alloc ?_ (by simp; try omega) _) | (refine Below.setCell ?_ (by simp; try omega) _))
set_option maxRecDepth 100000 in
set_option maxHeartbeats 1000000 in
theorem step.B1a1 (a0 least most short : Int) (vv : Value) (xt xs : Int) (h : Int) (xo : Bool) (w : World) (hx1 : 0 ≤ xt) (hx2 : xt ≤ 1000) (hx3 : 0 ≤ xs) (hx4 : xs ≤ 1000) (h0 : (h == -1) = false) (h0' : (h != -1) = true) (h3 : xt + 1 ≤ most) :
    Calls Try.prog 67 #[.agg #[.int .i64 a0, .int .i64 least, .int .i64 most, .int .i64 short, vv], .agg #[.int .i64 h, .int .i64 xt, .int .i64 xs, .bool xo], .agg #[.int .i64 h, .int .i64 h]] w fun e w' =>
      e = .returned (.tuple #[.agg #[.int .i64 h, .int .i64 (xt + 1), .int .i64 0, .bool true], .bool (decide (0 ≤ short))]) ∧ Below w.heap.size w w' := by
  have hu := Try.underlying33
  have hu1 := Try.underlying109
  have hu2 := Try.underlying65
  go_enter Try.func67, Try.ntmps67
  go_wp2
  go_region
  all_goals
    go_wp2
    refine bodyPost_ret (v := .tuple #[.agg #[.int .i64 h, .int .i64 (xt + 1), .int .i64 0, .bool true], .bool (decide (0 ≤ short))]) (by simp [results, Try.results67, go_sem, hu1]) rfl ⟨rfl, ?_⟩
    repeat (first | exact Below.refl _ _ | refine Below.drew ?_ | (refine Below.alloc ?_ (by simp; try omega) _) | (refine Below.setCell ?_ (by simp; try omega) _))
set_option maxRecDepth 100000 in
set_option maxHeartbeats 1000000 in
theorem step.B1a2 (a0 least most short : Int) (vv : Value) (xt xs : Int) (h : Int) (xo : Bool) (w : World) (hx1 : 0 ≤ xt) (hx2 : xt ≤ 1000) (hx3 : 0 ≤ xs) (hx4 : xs ≤ 1000) (h0 : (h == -1) = false) (h0' : (h != -1) = true) (h3 : most < xt + 1) :
    Calls Try.prog 67 #[.agg #[.int .i64 a0, .int .i64 least, .int .i64 most, .int .i64 short, vv], .agg #[.int .i64 h, .int .i64 xt, .int .i64 xs, .bool xo], .agg #[.int .i64 h, .int .i64 h]] w fun e w' =>
      e = .returned (.tuple #[.agg #[.int .i64 h, .int .i64 (xt + 1), .int .i64 0, .bool true], .bool false]) ∧ Below w.heap.size w w' := by
  have hu := Try.underlying33
  have hu1 := Try.underlying109
  have hu2 := Try.underlying65
  have hd0 : decide (xt + 1 ≤ most) = false := by simp; omega
  go_enter Try.func67, Try.ntmps67
  go_wp2
  go_region
  all_goals
    go_wp2
    refine bodyPost_ret (v := .tuple #[.agg #[.int .i64 h, .int .i64 (xt + 1), .int .i64 0, .bool true], .bool false]) (by simp [results, Try.results67, go_sem, hu1]) rfl ⟨rfl, ?_⟩
    repeat (first | exact Below.refl _ _ | refine Below.drew ?_ | (refine Below.alloc ?_ (by simp; try omega) _) | (refine Below.setCell ?_ (by simp; try omega) _))
set_option maxRecDepth 100000 in
set_option maxHeartbeats 1000000 in
theorem step.B1b1 (a0 least most short : Int) (vv : Value) (xt xs : Int) (h : Int) (xo : Bool) (w : World) (hx1 : 0 ≤ xt) (hx2 : xt ≤ 1000) (hx3 : 0 ≤ xs) (hx4 : xs ≤ 1000) (h0 : (h == -1) = false) (h0' : (-1 == h) = false) (h3 : xt + 1 ≤ most) :
    Calls Try.prog 67 #[.agg #[.int .i64 a0, .int .i64 least, .int .i64 most, .int .i64 short, vv], .agg #[.int .i64 h, .int .i64 xt, .int .i64 xs, .bool xo], .agg #[.int .i64 h, .int .i64 (-1)]] w fun e w' =>
      e = .returned (.tuple #[.agg #[.int .i64 h, .int .i64 (xt + 1), .int .i64 0, .bool false], .bool (decide (0 ≤ short))]) ∧ Below w.heap.size w w' := by
  have hu := Try.underlying33
  have hu1 := Try.underlying109
  have hu2 := Try.underlying65
  go_enter Try.func67, Try.ntmps67
  go_wp2
  go_region
  all_goals
    go_wp2
    refine bodyPost_ret (v := .tuple #[.agg #[.int .i64 h, .int .i64 (xt + 1), .int .i64 0, .bool false], .bool (decide (0 ≤ short))]) (by simp [results, Try.results67, go_sem, hu1]) rfl ⟨rfl, ?_⟩
    repeat (first | exact Below.refl _ _ | refine Below.drew ?_ | (refine Below.alloc ?_ (by simp; try omega) _) | (refine Below.setCell ?_ (by simp; try omega) _))
set_option maxRecDepth 100000 in
set_option maxHeartbeats 1000000 in
theorem step.B1b2 (a0 least most short : Int) (vv : Value) (xt xs : Int) (h : Int) (xo : Bool) (w : World) (hx1 : 0 ≤ xt) (hx2 : xt ≤ 1000) (hx3 : 0 ≤ xs) (hx4 : xs ≤ 1000) (h0 : (h == -1) = false) (h0' : (-1 == h) = false) (h3 : most < xt + 1) :
    Calls Try.prog 67 #[.agg #[.int .i64 a0, .int .i64 least, .int .i64 most, .int .i64 short, vv], .agg #[.int .i64 h, .int .i64 xt, .int .i64 xs, .bool xo], .agg #[.int .i64 h, .int .i64 (-1)]] w fun e w' =>
      e = .returned (.tuple #[.agg #[.int .i64 h, .int .i64 (xt + 1), .int .i64 0, .bool false], .bool false]) ∧ Below w.heap.size w w' := by
  have hu := Try.underlying33
  have hu1 := Try.underlying109
  have hu2 := Try.underlying65
  have hd0 : decide (xt + 1 ≤ most) = false := by simp; omega
  go_enter Try.func67, Try.ntmps67
  go_wp2
  go_region
  all_goals
    go_wp2
    refine bodyPost_ret (v := .tuple #[.agg #[.int .i64 h, .int .i64 (xt + 1), .int .i64 0, .bool false], .bool false]) (by simp [results, Try.results67, go_sem, hu1]) rfl ⟨rfl, ?_⟩
    repeat (first | exact Below.refl _ _ | refine Below.drew ?_ | (refine Below.alloc ?_ (by simp; try omega) _) | (refine Below.setCell ?_ (by simp; try omega) _))
set_option maxRecDepth 100000 in
set_option maxHeartbeats 1000000 in
theorem step.B1c1 (a0 least most short : Int) (vv : Value) (xt xs : Int) (h : Int) (v : Int) (xo : Bool) (w : World) (hx1 : 0 ≤ xt) (hx2 : xt ≤ 1000) (hx3 : 0 ≤ xs) (hx4 : xs ≤ 1000) (h0 : (h == -1) = false) (h1 : (v == -1) = false) (h1' : (v != -1) = true) (h2 : (v == h) = false) (h3 : xt + 1 ≤ most) :
    Calls Try.prog 67 #[.agg #[.int .i64 a0, .int .i64 least, .int .i64 most, .int .i64 short, vv], .agg #[.int .i64 h, .int .i64 xt, .int .i64 xs, .bool xo], .agg #[.int .i64 h, .int .i64 v]] w fun e w' =>
      e = .returned (.tuple #[.agg #[.int .i64 h, .int .i64 (xt + 1), .int .i64 (xs + 1), .bool false], .bool (decide ((xs + 1) ≤ short))]) ∧ Below w.heap.size w w' := by
  have hu := Try.underlying33
  have hu1 := Try.underlying109
  have hu2 := Try.underlying65
  go_enter Try.func67, Try.ntmps67
  go_wp2
  go_region
  all_goals
    go_wp2
    refine bodyPost_ret (v := .tuple #[.agg #[.int .i64 h, .int .i64 (xt + 1), .int .i64 (xs + 1), .bool false], .bool (decide ((xs + 1) ≤ short))]) (by simp [results, Try.results67, go_sem, hu1]) rfl ⟨rfl, ?_⟩
    repeat (first | exact Below.refl _ _ | refine Below.drew ?_ | (refine Below.alloc ?_ (by simp; try omega) _) | (refine Below.setCell ?_ (by simp; try omega) _))
set_option maxRecDepth 100000 in
set_option maxHeartbeats 1000000 in
theorem step.B1c2 (a0 least most short : Int) (vv : Value) (xt xs : Int) (h : Int) (v : Int) (xo : Bool) (w : World) (hx1 : 0 ≤ xt) (hx2 : xt ≤ 1000) (hx3 : 0 ≤ xs) (hx4 : xs ≤ 1000) (h0 : (h == -1) = false) (h1 : (v == -1) = false) (h1' : (v != -1) = true) (h2 : (v == h) = false) (h3 : most < xt + 1) :
    Calls Try.prog 67 #[.agg #[.int .i64 a0, .int .i64 least, .int .i64 most, .int .i64 short, vv], .agg #[.int .i64 h, .int .i64 xt, .int .i64 xs, .bool xo], .agg #[.int .i64 h, .int .i64 v]] w fun e w' =>
      e = .returned (.tuple #[.agg #[.int .i64 h, .int .i64 (xt + 1), .int .i64 (xs + 1), .bool false], .bool false]) ∧ Below w.heap.size w w' := by
  have hu := Try.underlying33
  have hu1 := Try.underlying109
  have hu2 := Try.underlying65
  have hd0 : decide (xt + 1 ≤ most) = false := by simp; omega
  go_enter Try.func67, Try.ntmps67
  go_wp2
  go_region
  all_goals
    go_wp2
    refine bodyPost_ret (v := .tuple #[.agg #[.int .i64 h, .int .i64 (xt + 1), .int .i64 (xs + 1), .bool false], .bool false]) (by simp [results, Try.results67, go_sem, hu1]) rfl ⟨rfl, ?_⟩
    repeat (first | exact Below.refl _ _ | refine Below.drew ?_ | (refine Below.alloc ?_ (by simp; try omega) _) | (refine Below.setCell ?_ (by simp; try omega) _))
set_option maxRecDepth 100000 in
set_option maxHeartbeats 1000000 in
theorem step.B2a (a0 least most short : Int) (vv : Value) (xt xs : Int) (h : Int) (v : Int) (xh : Int) (xo : Bool) (w : World) (hx1 : 0 ≤ xt) (hx2 : xt ≤ 1000) (hx3 : 0 ≤ xs) (hx4 : xs ≤ 1000) (h0 : (h == -1) = false) (h1 : (h == xh) = false) (h2 : (v == h) = false) :
    Calls Try.prog 67 #[.agg #[.int .i64 a0, .int .i64 least, .int .i64 most, .int .i64 short, vv], .agg #[.int .i64 xh, .int .i64 xt, .int .i64 xs, .bool xo], .agg #[.int .i64 h, .int .i64 v]] w fun e w' =>
      e = .returned (.tuple #[.agg #[.int .i64 0, .int .i64 0, .int .i64 0, .bool false], .bool false]) ∧ Below w.heap.size w w' := by
  have hu := Try.underlying33
  have hu1 := Try.underlying109
  have hu2 := Try.underlying65
  go_enter Try.func67, Try.ntmps67
  go_wp2
  refine bodyPost_ret (v := .tuple #[.agg #[.int .i64 0, .int .i64 0, .int .i64 0, .bool false], .bool false]) (by simp [results, Try.results67, go_sem, hu1]) rfl ⟨rfl, ?_⟩
  repeat (first | exact Below.refl _ _ | refine Below.drew ?_ | (refine Below.alloc ?_ (by simp; try omega) _) | (refine Below.setCell ?_ (by simp; try omega) _))
set_option maxRecDepth 100000 in
set_option maxHeartbeats 1000000 in
theorem step.B2b1 (a0 least most short : Int) (vv : Value) (xt xs : Int) (h : Int) (xh : Int) (xo : Bool) (w : World) (hx1 : 0 ≤ xt) (hx2 : xt ≤ 1000) (hx3 : 0 ≤ xs) (hx4 : xs ≤ 1000) (h0 : (h == -1) = false) (h00 : (h != -1) = true) (h1 : (h == xh) = false) (h2 : xh < 0) (h3 : 1 ≤ most) :
    Calls Try.prog 67 #[.agg #[.int .i64 a0, .int .i64 least, .int .i64 most, .int .i64 short, vv], .agg #[.int .i64 xh, .int .i64 xt, .int .i64 xs, .bool xo], .agg #[.int .i64 h, .int .i64 h]] w fun e w' =>
      e = .returned (.tuple #[.agg #[.int .i64 h, .int .i64 1, .int .i64 0, .bool true], .bool (decide (0 ≤ short))]) ∧ Below w.heap.size w w' := by
  have hu := Try.underlying33
  have hu1 := Try.underlying109
  have hu2 := Try.underlying65
  go_enter Try.func67, Try.ntmps67
  go_wp2
  go_region
  all_goals
    go_wp2
    refine bodyPost_ret (v := .tuple #[.agg #[.int .i64 h, .int .i64 1, .int .i64 0, .bool true], .bool (decide (0 ≤ short))]) (by simp [results, Try.results67, go_sem, hu1]) rfl ⟨rfl, ?_⟩
    repeat (first | exact Below.refl _ _ | refine Below.drew ?_ | (refine Below.alloc ?_ (by simp; try omega) _) | (refine Below.setCell ?_ (by simp; try omega) _))
set_option maxRecDepth 100000 in
set_option maxHeartbeats 1000000 in
theorem step.B2b2 (a0 least most short : Int) (vv : Value) (xt xs : Int) (h : Int) (xh : Int) (xo : Bool) (w : World) (hx1 : 0 ≤ xt) (hx2 : xt ≤ 1000) (hx3 : 0 ≤ xs) (hx4 : xs ≤ 1000) (h0 : (h == -1) = false) (h00 : (h != -1) = true) (h1 : (h == xh) = false) (h2 : xh < 0) (h3 : most < 1) :
    Calls Try.prog 67 #[.agg #[.int .i64 a0, .int .i64 least, .int .i64 most, .int .i64 short, vv], .agg #[.int .i64 xh, .int .i64 xt, .int .i64 xs, .bool xo], .agg #[.int .i64 h, .int .i64 h]] w fun e w' =>
      e = .returned (.tuple #[.agg #[.int .i64 h, .int .i64 1, .int .i64 0, .bool true], .bool false]) ∧ Below w.heap.size w w' := by
  have hu := Try.underlying33
  have hu1 := Try.underlying109
  have hu2 := Try.underlying65
  have hd0 : decide (1 ≤ most) = false := by simp; omega
  go_enter Try.func67, Try.ntmps67
  go_wp2
  go_region
  all_goals
    go_wp2
    refine bodyPost_ret (v := .tuple #[.agg #[.int .i64 h, .int .i64 1, .int .i64 0, .bool true], .bool false]) (by simp [results, Try.results67, go_sem, hu1]) rfl ⟨rfl, ?_⟩
    repeat (first | exact Below.refl _ _ | refine Below.drew ?_ | (refine Below.alloc ?_ (by simp; try omega) _) | (refine Below.setCell ?_ (by simp; try omega) _))
set_option maxRecDepth 100000 in
set_option maxHeartbeats 1000000 in
theorem step.B2c (a0 least most short : Int) (vv : Value) (xt xs : Int) (h : Int) (xh : Int) (xo : Bool) (w : World) (hx1 : 0 ≤ xt) (hx2 : xt ≤ 1000) (hx3 : 0 ≤ xs) (hx4 : xs ≤ 1000) (h0 : (h == -1) = false) (h00 : (h != -1) = true) (h1 : (h == xh) = false) (h2 : 0 ≤ xh) (h3 : xt < least) :
    Calls Try.prog 67 #[.agg #[.int .i64 a0, .int .i64 least, .int .i64 most, .int .i64 short, vv], .agg #[.int .i64 xh, .int .i64 xt, .int .i64 xs, .bool xo], .agg #[.int .i64 h, .int .i64 h]] w fun e w' =>
      e = .returned (.tuple #[.agg #[.int .i64 0, .int .i64 0, .int .i64 0, .bool false], .bool false]) ∧ Below w.heap.size w w' := by
  have hu := Try.underlying33
  have hu1 := Try.underlying109
  have hu2 := Try.underlying65
  go_enter Try.func67, Try.ntmps67
  go_wp2
  refine bodyPost_ret (v := .tuple #[.agg #[.int .i64 0, .int .i64 0, .int .i64 0, .bool false], .bool false]) (by simp [results, Try.results67, go_sem, hu1]) rfl ⟨rfl, ?_⟩
  repeat (first | exact Below.refl _ _ | refine Below.drew ?_ | (refine Below.alloc ?_ (by simp; try omega) _) | (refine Below.setCell ?_ (by simp; try omega) _))
set_option maxRecDepth 100000 in
set_option maxHeartbeats 1000000 in
theorem step.B2d (a0 least most short : Int) (vv : Value) (xt xs : Int) (h : Int) (xh : Int) (w : World) (hx1 : 0 ≤ xt) (hx2 : xt ≤ 1000) (hx3 : 0 ≤ xs) (hx4 : xs ≤ 1000) (h0 : (h == -1) = false) (h00 : (h != -1) = true) (h1 : (h == xh) = false) (h2 : 0 ≤ xh) (h3 : least ≤ xt) :
    Calls Try.prog 67 #[.agg #[.int .i64 a0, .int .i64 least, .int .i64 most, .int .i64 short, vv], .agg #[.int .i64 xh, .int .i64 xt, .int .i64 xs, .bool false], .agg #[.int .i64 h, .int .i64 h]] w fun e w' =>
      e = .returned (.tuple #[.agg #[.int .i64 0, .int .i64 0, .int .i64 0, .bool false], .bool false]) ∧ Below w.heap.size w w' := by
  have hu := Try.underlying33
  have hu1 := Try.underlying109
  have hu2 := Try.underlying65
  go_enter Try.func67, Try.ntmps67
  go_wp2
  refine bodyPost_ret (v := .tuple #[.agg #[.int .i64 0, .int .i64 0, .int .i64 0, .bool false], .bool false]) (by simp [results, Try.results67, go_sem, hu1]) rfl ⟨rfl, ?_⟩
  repeat (first | exact Below.refl _ _ | refine Below.drew ?_ | (refine Below.alloc ?_ (by simp; try omega) _) | (refine Below.setCell ?_ (by simp; try omega) _))
set_option maxRecDepth 100000 in
set_option maxHeartbeats 1000000 in
theorem step.B2e1 (a0 least most short : Int) (vv : Value) (xt xs : Int) (h : Int) (xh : Int) (w : World) (hx1 : 0 ≤ xt) (hx2 : xt ≤ 1000) (hx3 : 0 ≤ xs) (hx4 : xs ≤ 1000) (h0 : (h == -1) = false) (h00 : (h != -1) = true) (h1 : (h == xh) = false) (h2 : 0 ≤ xh) (h3 : least ≤ xt) (h4 : 1 ≤ most) :
    Calls Try.prog 67 #[.agg #[.int .i64 a0, .int .i64 least, .int .i64 most, .int .i64 short, vv], .agg #[.int .i64 xh, .int .i64 xt, .int .i64 xs, .bool true], .agg #[.int .i64 h, .int .i64 h]] w fun e w' =>
      e = .returned (.tuple #[.agg #[.int .i64 h, .int .i64 1, .int .i64 0, .bool true], .bool (decide (0 ≤ short))]) ∧ Below w.heap.size w w' := by
  have hu := Try.underlying33
  have hu1 := Try.underlying109
  have hu2 := Try.underlying65
  go_enter Try.func67, Try.ntmps67
  go_wp2
  go_region
  all_goals
    go_wp2
    refine bodyPost_ret (v := .tuple #[.agg #[.int .i64 h, .int .i64 1, .int .i64 0, .bool true], .bool (decide (0 ≤ short))]) (by simp [results, Try.results67, go_sem, hu1]) rfl ⟨rfl, ?_⟩
    repeat (first | exact Below.refl _ _ | refine Below.drew ?_ | (refine Below.alloc ?_ (by simp; try omega) _) | (refine Below.setCell ?_ (by simp; try omega) _))
set_option maxRecDepth 100000 in
set_option maxHeartbeats 1000000 in
theorem step.B2e2 (a0 least most short : Int) (vv : Value) (xt xs : Int) (h : Int) (xh : Int) (w : World) (hx1 : 0 ≤ xt) (hx2 : xt ≤ 1000) (hx3 : 0 ≤ xs) (hx4 : xs ≤ 1000) (h0 : (h == -1) = false) (h00 : (h != -1) = true) (h1 : (h == xh) = false) (h2 : 0 ≤ xh) (h3 : least ≤ xt) (h4 : most < 1) :
    Calls Try.prog 67 #[.agg #[.int .i64 a0, .int .i64 least, .int .i64 most, .int .i64 short, vv], .agg #[.int .i64 xh, .int .i64 xt, .int .i64 xs, .bool true], .agg #[.int .i64 h, .int .i64 h]] w fun e w' =>
      e = .returned (.tuple #[.agg #[.int .i64 h, .int .i64 1, .int .i64 0, .bool true], .bool false]) ∧ Below w.heap.size w w' := by
  have hu := Try.underlying33
  have hu1 := Try.underlying109
  have hu2 := Try.underlying65
  have hd0 : decide (1 ≤ most) = false := by simp; omega
  go_enter Try.func67, Try.ntmps67
  go_wp2
  go_region
  all_goals
    go_wp2
    refine bodyPost_ret (v := .tuple #[.agg #[.int .i64 h, .int .i64 1, .int .i64 0, .bool true], .bool false]) (by simp [results, Try.results67, go_sem, hu1]) rfl ⟨rfl, ?_⟩
    repeat (first | exact Below.refl _ _ | refine Below.drew ?_ | (refine Below.alloc ?_ (by simp; try omega) _) | (refine Below.setCell ?_ (by simp; try omega) _))
theorem step.calls (a0 least most short : Int) (vv : Value) (x : St) (h v : Int) (w : World) (hx1 : 0 ≤ x.turn) (hx2 : x.turn ≤ 1000) (hx3 : 0 ≤ x.short) (hx4 : x.short ≤ 1000) :
    Calls Try.prog 67 #[.agg #[.int .i64 a0, .int .i64 least, .int .i64 most, .int .i64 short, vv], .agg #[.int .i64 x.holder, .int .i64 x.turn, .int .i64 x.short, .bool x.own], .agg #[.int .i64 h, .int .i64 v]] w fun e w' =>
      e = .returned (.tuple #[encSt (stepF least most short x h v).1, .bool (stepF least most short x h v).2]) ∧ Below w.heap.size w w' := by
  obtain ⟨xh, xt, xs, xo⟩ := x
  simp only at hx1 hx2 hx3 hx4 ⊢
  have fin : ∀ (y : St) (b : Bool), stepF least most short ⟨xh, xt, xs, xo⟩ h v = (y, b) → ∀ {e : Ending} {w' : World}, (e = .returned (.tuple #[.agg #[.int .i64 y.holder, .int .i64 y.turn, .int .i64 y.short, .bool y.own], .bool b]) ∧ Below w.heap.size w w') →
      e = .returned (.tuple #[encSt (stepF least most short ⟨xh, xt, xs, xo⟩ h v).1, .bool (stepF least most short ⟨xh, xt, xs, xo⟩ h v).2]) ∧ Below w.heap.size w w' := by
    intro y b hs e w' hh
    rw [hs]
    exact hh
  by_cases hh : h = -1
  · subst hh
    by_cases h1 : xh < 0
    · exact (step.A1 a0 least most short vv xt xs v xh xo w hx1 hx2 hx3 hx4 h1).mono fun e w' q => fin ⟨-1, 0, 0, false⟩ (v == -1) (by simp [stepF, h1, beq_dec]) q
    · by_cases h2 : least ≤ xt
      · cases xo
        · exact (step.A3 a0 least most short vv xt xs v xh w hx1 hx2 hx3 hx4 (by omega) h2).mono fun e w' q => fin ⟨-1, 0, 0, false⟩ false (by simp [stepF, h1]) q
        · exact (step.A2 a0 least most short vv xt xs v xh w hx1 hx2 hx3 hx4 (by omega) h2).mono fun e w' q => fin ⟨-1, 0, 0, false⟩ (v == -1) (by simp [stepF, h1, h2, beq_dec]) q
      · exact (step.A4 a0 least most short vv xt xs v xh xo w hx1 hx2 hx3 hx4 (by omega) (by omega)).mono fun e w' q => fin ⟨-1, 0, 0, false⟩ false (by simp [stepF, h1, h2]) q
  · have e0 : (h == -1) = false := by simpa using hh
    have e0' : (h != -1) = true := by simpa using hh
    by_cases hs : h = xh
    · subst hs
      by_cases hv : v = h
      · subst hv
        by_cases h3 : xt + 1 ≤ most
        · exact (step.B1a1 a0 least most short vv xt xs v xo w hx1 hx2 hx3 hx4 e0 e0' h3).mono fun e w' q => fin ⟨v, xt + 1, 0, true⟩ (decide (0 ≤ short)) (by simp [stepF, stepOut, hh, h3]) q
        · exact (step.B1a2 a0 least most short vv xt xs v xo w hx1 hx2 hx3 hx4 e0 e0' (by omega)).mono fun e w' q => fin ⟨v, xt + 1, 0, true⟩ false (by simp [stepF, stepOut, hh, h3]) q
      · by_cases hn : v = -1
        · subst hn
          have e1 : (-1 == h) = false := by simpa using hv
          by_cases h3 : xt + 1 ≤ most
          · exact (step.B1b1 a0 least most short vv xt xs h xo w hx1 hx2 hx3 hx4 e0 e1 h3).mono fun e w' q => fin ⟨h, xt + 1, 0, false⟩ (decide (0 ≤ short)) (by simp [stepF, stepOut, hh, hv, h3]) q
          · exact (step.B1b2 a0 least most short vv xt xs h xo w hx1 hx2 hx3 hx4 e0 e1 (by omega)).mono fun e w' q => fin ⟨h, xt + 1, 0, false⟩ false (by simp [stepF, stepOut, hh, hv, h3]) q
        · have e1 : (v == -1) = false := by simpa using hn
          have e1' : (v != -1) = true := by simpa using hn
          have e2 : (v == h) = false := by simpa using hv
          by_cases h3 : xt + 1 ≤ most
          · exact (step.B1c1 a0 least most short vv xt xs h v xo w hx1 hx2 hx3 hx4 e0 e1 e1' e2 h3).mono fun e w' q => fin ⟨h, xt + 1, xs + 1, false⟩ (decide (xs + 1 ≤ short)) (by simp [stepF, stepOut, hh, hv, hn, h3]) q
          · exact (step.B1c2 a0 least most short vv xt xs h v xo w hx1 hx2 hx3 hx4 e0 e1 e1' e2 (by omega)).mono fun e w' q => fin ⟨h, xt + 1, xs + 1, false⟩ false (by simp [stepF, stepOut, hh, hv, hn, h3]) q
    · have e1 : (h == xh) = false := by simpa using hs
      by_cases hv : v = h
      · subst hv
        by_cases h2 : xh < 0
        · by_cases h3 : 1 ≤ most
          · exact (step.B2b1 a0 least most short vv xt xs v xh xo w hx1 hx2 hx3 hx4 e0 e0' e1 h2 h3).mono fun e w' q => fin ⟨v, 1, 0, true⟩ (decide (0 ≤ short)) (by simp [stepF, stepOut, hh, hs, h3, show ¬ (0 ≤ xh) by omega]) q
          · exact (step.B2b2 a0 least most short vv xt xs v xh xo w hx1 hx2 hx3 hx4 e0 e0' e1 h2 (by omega)).mono fun e w' q => fin ⟨v, 1, 0, true⟩ false (by simp [stepF, stepOut, hh, hs, h3, show ¬ (0 ≤ xh) by omega]) q
        · by_cases h3 : least ≤ xt
          · cases xo
            · exact (step.B2d a0 least most short vv xt xs v xh w hx1 hx2 hx3 hx4 e0 e0' e1 (by omega) h3).mono fun e w' q => fin ⟨0, 0, 0, false⟩ false (by simp [stepF, hh, hs, show 0 ≤ xh by omega]) q
            · by_cases h4 : 1 ≤ most
              · exact (step.B2e1 a0 least most short vv xt xs v xh w hx1 hx2 hx3 hx4 e0 e0' e1 (by omega) h3 h4).mono fun e w' q => fin ⟨v, 1, 0, true⟩ (decide (0 ≤ short)) (by simp [stepF, stepOut, hh, hs, h4, show ¬ (xt < least) by omega]) q
              · exact (step.B2e2 a0 least most short vv xt xs v xh w hx1 hx2 hx3 hx4 e0 e0' e1 (by omega) h3 (by omega)).mono fun e w' q => fin ⟨v, 1, 0, true⟩ false (by simp [stepF, stepOut, hh, hs, h4, show ¬ (xt < least) by omega]) q
          · exact (step.B2c a0 least most short vv xt xs v xh xo w hx1 hx2 hx3 hx4 e0 e0' e1 (by omega) (by omega)).mono fun e w' q => fin ⟨0, 0, 0, false⟩ false (by simp [stepF, hh, hs, show 0 ≤ xh by omega, show xt < least by omega]) q
      · have e2 : (v == h) = false := by simpa using hv
        exact (step.B2a a0 least most short vv xt xs h v xh xo w hx1 hx2 hx3 hx4 e0 e1 e2).mono fun e w' q => fin ⟨0, 0, 0, false⟩ false (by simp [stepF, hh, hs, hv]) q
end Go.Proofs.Ytdnjmhhjjbdieaa.Q
end
section
namespace Go.Proofs.Ytdnjmhhjjbdieaa.Q
open Go.RowKit Go.Shelf Go.Proofs.YtdnjmhhjjbdieaaW.PrintWords Go.Proofs.YtdnjmhhjjbdieaaW.PrintLast
set_option linter.unusedVariables false
set_option linter.unusedSimpArgs false
attribute [local go_sem] Oper.semAt_some
theorem ownFrom_block {β : Type} {B k : Nat} (o : β → Obj) (hk : k < B) : OwnFrom B (fun (s : β) W => W.heap[k]? = some (o s)) :=
  fun s W W' row hs hg hr => (hg.block k (Array.getElem?_eq_some_iff.1 hs).1 (fun e => by have := (hr k e.symm).1; omega)).trans hs
theorem ownFrom_cells {β : Type} {B k : Nat} (c : β → Array Value) (t : TypeId) : OwnFrom B (fun (s : β) W => W.heap[k]? = some (.cells (c s) t (0, 0))) :=
  fun s W W' row hs hg hr => (hg.block k (Array.getElem?_eq_some_iff.1 hs).1 (fun e => by obtain ⟨_, o, ho, hc⟩ := hr k e.symm; rw [hs] at ho; cases ho; cases hc)).trans hs
theorem ownFrom_keptC {β : Type} {B B' : Nat} {C : Nat → Prop} {W0 : World} (hB : W0.heap.size ≤ B') : OwnFrom B' (fun (_ : β) W => KeptC C B W0 W) :=
  fun s W W' row hs hg hr => ⟨Nat.le_trans hs.size hg.size, fun k hk hl => (hg.block k (Nat.lt_of_lt_of_le hl hs.size) (fun e => by have := (hr k e.symm).1; omega)).trans (hs.same k hk hl)⟩
theorem OwnFrom.below {β : Type} {B : Nat} {I : β → World → Prop} (h : OwnFrom B I) {s : β} {W W' : World} (hs : I s W) (hb : Below W.heap.size W W') : I s W' :=
  h s W W' none hs ⟨hb.os, hb.tape, hb.output, hb.size, fun k hk _ => hb.block k hk⟩ (fun r e => by cases e)
def CapK (C : Nat → Prop) (W W' : World) : Prop := ∀ k, C k → W'.heap[k]? = W.heap[k]?
theorem CapK.refl (C : Nat → Prop) (W : World) : CapK C W W := fun _ _ => rfl
theorem CapK.alloc {C : Nat → Prop} {W W' : World} (h : CapK C W W') (hC : ∀ k, C k → k < W.heap.size) (hs : W.heap.size ≤ W'.heap.size) (o : Obj) : CapK C W (W'.alloc o) := fun k hk => (Below.heap_alloc W' o k (by have := hC k hk; omega)).trans (h k hk)
theorem CapK.below {C : Nat → Prop} {W W' W2 : World} (h : CapK C W W') (hC : ∀ k, C k → k < W.heap.size) {n : Nat} (hb : Below n W' W2) (hn : W.heap.size ≤ n) : CapK C W W2 := fun k hk => (hb.block k (by have := hC k hk; omega)).trans (h k hk)
theorem CapK.kept {C C' : Nat → Prop} {B : Nat} {W W' W2 : World} (h : CapK C W W') (hC : ∀ k, C k → k < W.heap.size) (hs : W.heap.size ≤ W'.heap.size) (hk : KeptC C' B W' W2) (hCC : ∀ k, C k → C' k ∨ B ≤ k) : CapK C W W2 := fun k q => (hk.same k (hCC k q) (by have := hC k q; omega)).trans (h k q)
theorem ownFrom_cap {β : Type} {B : Nat} {C : Nat → Prop} {W0 : World} (hC : ∀ k, C k → k < W0.heap.size) (hB : ∀ k, C k → k < B) : OwnFrom B (fun (_ : β) W => CapK C W0 W) :=
  fun s W W' row hs hg hr k hk => by
    have h0 := hs k hk
    have hl : k < W.heap.size := by
      have h1 := hC k hk
      rcases Nat.lt_or_ge k W.heap.size with h2 | h2
      · exact h2
      · rw [Array.getElem?_eq_none h2, Array.getElem?_eq_getElem h1] at h0; cases h0
    exact (hg.block k hl (fun e => by have := (hr k e.symm).1; have := hB k hk; omega)).trans h0
theorem ownFrom_size {β : Type} {B n : Nat} : OwnFrom B (fun (_ : β) W => n ≤ W.heap.size) := fun s W W' row hs hg hr => Nat.le_trans hs hg.size
def encPart (p : (Int × Int) × St) : Array Value := #[.agg #[.int .i64 p.1.1, .int .i64 p.1.2], encSt p.2]
def voiceOf (least most short : Int) (x : St) (h v : Int) : List ((Int × Int) × St) := if (stepF least most short x h v).2 then [((h, v), (stepF least most short x h v).1)] else []
def rowOf (least most short : Int) (x : St) (heard : Int) (n : Nat) (h : Int) : List ((Int × Int) × St) :=
  (upTo heard (n + 1)).flatMap (voiceOf least most short x h)
def partsOf (least most short : Int) (x : St) (floor heard : Int) (n : Nat) : List ((Int × Int) × St) :=
  (upTo floor (n + 1)).flatMap (rowOf least most short x heard n)
set_option maxRecDepth 100000 in
set_option maxHeartbeats 400000 in
theorem parts.calls (n least most short floor heard : Int) (vv : Value) (x : St) (w : World) :
    Calls Try.prog 51 #[.agg #[.int .i64 n, .int .i64 least, .int .i64 most, .int .i64 short, vv], encSt x, .agg #[.int .u16 floor, .int .u16 heard]] w fun e w' =>
      e = .returned (.func (.func 73) #[] #[.pointer (some ⟨w.heap.size, 0, none⟩), .pointer (some ⟨w.heap.size + 2, 0, none⟩), .pointer (some ⟨w.heap.size + 3, 0, none⟩), .pointer (some ⟨w.heap.size + 1, 0, none⟩)]) ∧
      w' = (((w.alloc (.cells #[.int .i64 n, .int .i64 least, .int .i64 most, .int .i64 short, vv] 33)).alloc (.cells #[.int .i64 x.holder, .int .i64 x.turn, .int .i64 x.short, .bool x.own] 109)).alloc (.cells #[.int .u16 floor, .int .u16 heard] 52)).alloc
        (.cells #[.func (.func 67) #[.agg #[.int .i64 n, .int .i64 least, .int .i64 most, .int .i64 short, vv]] #[]] 129) := by
  have hu := Try.underlying33
  have hu1 := Try.underlying109
  have hu2 := Try.underlying52
  unfold encSt
  go_enter Try.func51, Try.ntmps51
  go_wp2
  go_ret
  exact ⟨rfl, rfl⟩
def partsC (B : Nat) (k : Nat) : Prop := B ≤ k ∧ k < B + 4
set_option maxRecDepth 100000 in
set_option maxHeartbeats 2000000 in
theorem parts1.iter (n : Nat) (hn : n ≤ 12) (least most short floor heard : Int) (vv : Value) (x : St) (hx1 : 0 ≤ x.turn) (hx2 : x.turn ≤ 1000) (hx3 : 0 ≤ x.short) (hx4 : x.short ≤ 1000) (B : Nat) (w : World)
    (h0 : w.heap[B]? = some (.cells #[.int .i64 n, .int .i64 least, .int .i64 most, .int .i64 short, vv] 33 (0, 0)))
    (h1 : w.heap[B + 1]? = some (.cells #[.int .i64 x.holder, .int .i64 x.turn, .int .i64 x.short, .bool x.own] 109 (0, 0)))
    (h2 : w.heap[B + 2]? = some (.cells #[.int .u16 floor, .int .u16 heard] 52 (0, 0)))
    (h3 : w.heap[B + 3]? = some (.cells #[.func (.func 67) #[.agg #[.int .i64 n, .int .i64 least, .int .i64 most, .int .i64 short, vv]] #[]] 129 (0, 0))) :
    IterK Try.prog 73 #[.pointer (some ⟨B, 0, none⟩), .pointer (some ⟨B + 2, 0, none⟩), .pointer (some ⟨B + 3, 0, none⟩), .pointer (some ⟨B + 1, 0, none⟩)] encPart (partsOf least most short x floor heard n) (partsC B) w := by
  intro l J Jx W hWs hWC hJ hJx hY hJ0
  have hu := Try.underlying33
  have hu1 := Try.underlying109
  have hu2 := Try.underlying52
  have hu3 := Try.underlying65
  have b0 := (hWC B ⟨by omega, by omega⟩).trans h0
  have b1 := (hWC (B + 1) ⟨by omega, by omega⟩).trans h1
  have b2 := (hWC (B + 2) ⟨by omega, by omega⟩).trans h2
  have b3 := (hWC (B + 3) ⟨by omega, by omega⟩).trans h3
  have hB3 : B + 3 < W.heap.size := (Array.getElem?_eq_some_iff.1 b3).1
  clear h0 h1 h2 h3 hWC hWs
  refine callsIn_of_wp_marks Try.func73 rfl trivial ?_ rfl
  simp only [Try.ntmps73, List.size_toArray, List.length_cons, List.length_nil, Nat.reduceAdd, Nat.reduceSub, Array.replicate_succ, Array.replicate_zero, List.push_toArray, List.append_toArray, List.nil_append, List.cons_append]
  have c0 : ∀ i v, (#[.int .i64 (n : Int), .int .i64 least, .int .i64 most, .int .i64 short, vv] : Array Value)[i]? = some v → W.cell? ⟨B, i, none⟩ = some v := fun i v hv => by simp [World.cell?, b0, hv]
  have c00 := c0 0 _ rfl
  have c01 := c0 1 _ rfl
  have c02 := c0 2 _ rfl
  have c03 := c0 3 _ rfl
  have c04 := c0 4 _ rfl
  have c20 : W.cell? ⟨B + 2, 0, none⟩ = some (.int .u16 floor) := by simp [World.cell?, b2]
  clear c0
  have k0 : B < W.heap.size := by omega
  have k1 : B + 1 < W.heap.size := by omega
  have k2 : B + 2 < W.heap.size := by omega
  have B0 := Lib.hid b0
  have B1 := Lib.hid b1
  have B2 := Lib.hid b2
  have B3 := Lib.hid b3
  clear b0 b1 b2 b3
  gi_wp2_with fail
  refine ⟨trivial, rfl, (callsIn_wide.2 (in.calls _ _ _ _ _ _ _)).mono ?_⟩
  rintro e w' ⟨rfl, rfl⟩
  gi_wp2
  have hW0s : (((W.alloc (.cells #[.func (.yield l) #[] #[]] 133)).alloc (.cells #[.int .i64 n, .int .i64 least, .int .i64 most, .int .i64 short, vv] 33)).alloc (.cells #[.int .u16 floor] 49)).heap.size = W.heap.size + 3 := by simp
  have hW0b : Below W.heap.size W (((W.alloc (.cells #[.func (.yield l) #[] #[]] 133)).alloc (.cells #[.int .i64 n, .int .i64 least, .int .i64 most, .int .i64 short, vv] 33)).alloc (.cells #[.int .u16 floor] 49)) := (((Below.refl _ W).alloc (Nat.le_refl _) _).alloc (by simp) _).alloc (by simp; omega) _
  have hy0 : (((W.alloc (.cells #[.func (.yield l) #[] #[]] 133)).alloc (.cells #[.int .i64 n, .int .i64 least, .int .i64 most, .int .i64 short, vv] 33)).alloc (.cells #[.int .u16 floor] 49)).heap[W.heap.size]? = some (.cells #[.func (.yield l) #[] #[]] 133 (0, 0)) :=
    (Below.heap_alloc _ _ _ (by simp; omega)).trans ((Below.heap_alloc _ _ _ (by simp)).trans (World.alloc_heap_new W _))
  have hs0 : (((W.alloc (.cells #[.func (.yield l) #[] #[]] 133)).alloc (.cells #[.int .i64 n, .int .i64 least, .int .i64 most, .int .i64 short, vv] 33)).alloc (.cells #[.int .u16 floor] 49)).heap[W.heap.size + 1]? = some (.cells #[.int .i64 n, .int .i64 least, .int .i64 most, .int .i64 short, vv] 33 (0, 0)) :=
    (Below.heap_alloc _ _ _ (by simp)).trans (by have := World.alloc_heap_new (W.alloc (.cells #[.func (.yield l) #[] #[]] 133)) (.cells #[.int .i64 n, .int .i64 least, .int .i64 most, .int .i64 short, vv] 33); rwa [World.size_alloc] at this)
  have ht0 : (((W.alloc (.cells #[.func (.yield l) #[] #[]] 133)).alloc (.cells #[.int .i64 n, .int .i64 least, .int .i64 most, .int .i64 short, vv] 33)).alloc (.cells #[.int .u16 floor] 49)).heap[W.heap.size + 1 + 1]? = some (.cells #[.int .u16 floor] 49 (0, 0)) := by
    have := World.alloc_heap_new ((W.alloc (.cells #[.func (.yield l) #[] #[]] 133)).alloc (.cells #[.int .i64 n, .int .i64 least, .int .i64 most, .int .i64 short, vv] 33)) (.cells #[.int .u16 floor] 49)
    rwa [World.size_alloc, World.size_alloc] at this
  obtain ⟨W0, hW0⟩ : ∃ W0, (((W.alloc (.cells #[.func (.yield l) #[] #[]] 133)).alloc (.cells #[.int .i64 n, .int .i64 least, .int .i64 most, .int .i64 short, vv] 33)).alloc (.cells #[.int .u16 floor] 49)) = W0 := ⟨_, rfl⟩
  rw [hW0] at hW0s hW0b hy0 hs0 ht0 ⊢
  clear hW0
  have hCW : ∀ k, partsC B k → k < W.heap.size := fun k hk => by have := hk.2; omega
  have hJ00 : J [] W0 := OwnFrom.below hJ hJ0 hW0b
  refine wpIn_iter (gf := 83) (lb := #[.pointer (some ⟨W.heap.size + 1, 0, none⟩), .pointer (some ⟨W.heap.size + 1 + 1, 0, none⟩)]) rfl (enters_of Try.func83 (by kernel_rfl) rfl)
    (in1.iter n hn least most short floor vv (W.heap.size + 1) (W.heap.size + 1 + 1) W0 hs0 ht0) (Nat.le_refl _) (fun _ _ => rfl) (fun k hk => by rcases hk with rfl | rfl <;> omega) (fun _ => rfl)
    (fun pre W' => J (pre.flatMap (rowOf least most short x heard n)) W' ∧ CapK (partsC B) W W' ∧ W'.heap[W.heap.size]? = some (.cells #[.func (.yield l) #[] #[]] 133 (0, 0)) ∧ W.heap.size + 3 ≤ W'.heap.size)
    (fun c pre W' => c = .ret ∧ ∃ q p post, partsOf least most short x floor heard n = q ++ p :: post ∧ Jx (q ++ [p]) W')
    (OwnFrom.and (fun s A A' row hs hg hr => hJ _ A A' row hs hg (fun r e => ⟨by have := (hr r e).1; omega, (hr r e).2⟩)) (OwnFrom.and (ownFrom_cap hCW (fun k hk => by have := hCW k hk; omega)) (OwnFrom.and (ownFrom_block (fun _ => _) (by omega)) ownFrom_size)))
    (fun c => OwnFrom.and (ownFrom_pure _ _) (fun s A A' row hs hg hr => by obtain ⟨q, p, post, e1, e2⟩ := hs; exact ⟨q, p, post, e1, hJx _ A A' row e2 hg (fun r e => ⟨by have := (hr r e).1; omega, (hr r e).2⟩)⟩))
    ⟨hJ00, fun k hk => hW0b.block k (hCW k hk), hy0, by omega⟩
    (fun pre h a' W' => ∃ Bh, W0.heap.size ≤ Bh ∧ W'.heap[Bh]? = some (.cells #[.int .i64 h] 3 (0, 0)) ∧ a' = { tmps := #[.func (.yield l) #[] #[], .pointer (some ⟨B, 0, none⟩), .pointer (some ⟨B + 2, 0, none⟩), .pointer (some ⟨B + 3, 0, none⟩), .pointer (some ⟨B + 1, 0, none⟩), .pointer (some ⟨W.heap.size, 0, none⟩), .pointer (some ⟨Bh, 0, none⟩), undef, undef, undef, undef, .agg #[.int .i64 n, .int .i64 least, .int .i64 most, .int .i64 short, vv], .pointer (some ⟨B + 2, 0, none⟩), .int .u16 floor, .func (.func 83) #[] #[.pointer (some ⟨W.heap.size + 1, 0, none⟩), .pointer (some ⟨W.heap.size + 1 + 1, 0, none⟩)], .int .i64 h, undef, undef, undef, undef, undef, undef, undef, undef, undef, undef, undef, undef, undef, undef, undef, undef, undef, undef, undef, undef, undef, undef, undef], defers := [] })
    (fun pre h a' _ A A' row hs hg hr => by obtain ⟨Bh, e1, e2, e3⟩ := hs; exact ⟨Bh, e1, ownFrom_cells (fun (_ : Unit) => #[.int .i64 h]) 3 () A A' row e2 hg hr, e3⟩)
    ?assign ?body ?done ?stop
  case assign =>
    rintro l1 pre h post W1 K hx ⟨hJ1, hcap, hyb, hsz⟩ hK
    gi_wp2
    exact hK _ _ (KeptC.alloc _ _ _ _) ⟨OwnFrom.below hJ hJ1 ((Below.refl _ _).alloc (Nat.le_refl _) _), hcap.alloc hCW (by omega) _, (Below.heap_alloc _ _ _ (by omega)).trans hyb, by simp; omega⟩ ⟨W1.heap.size, by omega, World.alloc_heap_new _ _, rfl⟩
  case body =>
    rintro l1 pre h post a' W1 hx hl1 ⟨r1, hr1⟩ ⟨hJ1, hcap, hyb, hsz⟩ ⟨Bh, hBh, hbh, rfl⟩
    have cc : ∀ k i (v : Value) (cs : Array Value) t, partsC B k → W.heap[k]? = some (.cells cs t (0, 0)) → cs[i]? = some v → W1.cell? ⟨k, i, none⟩ = some v := fun k i v cs t hk hc hv => by
      have := (hcap k hk).trans hc
      simp [World.cell?, this, hv]
    have d00 := cc B 0 _ _ _ ⟨by omega, by omega⟩ B0.out rfl
    have d01 := cc B 1 _ _ _ ⟨by omega, by omega⟩ B0.out rfl
    have d02 := cc B 2 _ _ _ ⟨by omega, by omega⟩ B0.out rfl
    have d03 := cc B 3 _ _ _ ⟨by omega, by omega⟩ B0.out rfl
    have d04 := cc B 4 _ _ _ ⟨by omega, by omega⟩ B0.out rfl
    have d21 := cc (B + 2) 1 _ _ _ ⟨by omega, by omega⟩ B2.out rfl
    have HBH := Lib.hid hbh
    have HYB := Lib.hid hyb
    have HR1 := Lib.hid hr1
    have HX := Lib.hid hx
    clear cc hbh hyb hr1 hx c00 c01 c02 c03 c04 c20 hs0 ht0 hy0
    gi_wp2_with fail
    refine ⟨trivial, rfl, CallsIn.inRound l1 ((callsIn_wide.2 (in.calls _ _ _ _ _ _ _)).mono ?_)⟩
    rintro e w' ⟨rfl, rfl⟩
    gi_wp2
    have hW2s : ((W1.alloc (.cells #[.int .i64 n, .int .i64 least, .int .i64 most, .int .i64 short, vv] 33)).alloc (.cells #[.int .u16 heard] 49)).heap.size = W1.heap.size + 2 := by simp
    have hW2b : Below W1.heap.size W1 ((W1.alloc (.cells #[.int .i64 n, .int .i64 least, .int .i64 most, .int .i64 short, vv] 33)).alloc (.cells #[.int .u16 heard] 49)) := ((Below.refl _ W1).alloc (Nat.le_refl _) _).alloc (by simp) _
    have hs1 : ((W1.alloc (.cells #[.int .i64 n, .int .i64 least, .int .i64 most, .int .i64 short, vv] 33)).alloc (.cells #[.int .u16 heard] 49)).heap[W1.heap.size]? = some (.cells #[.int .i64 n, .int .i64 least, .int .i64 most, .int .i64 short, vv] 33 (0, 0)) := (Below.heap_alloc _ _ _ (by simp)).trans (World.alloc_heap_new W1 _)
    have ht1 : ((W1.alloc (.cells #[.int .i64 n, .int .i64 least, .int .i64 most, .int .i64 short, vv] 33)).alloc (.cells #[.int .u16 heard] 49)).heap[W1.heap.size + 1]? = some (.cells #[.int .u16 heard] 49 (0, 0)) := by
      have := World.alloc_heap_new (W1.alloc (.cells #[.int .i64 n, .int .i64 least, .int .i64 most, .int .i64 short, vv] 33)) (.cells #[.int .u16 heard] 49)
      rwa [World.size_alloc] at this
    obtain ⟨W2, hW2⟩ : ∃ W2, ((W1.alloc (.cells #[.int .i64 n, .int .i64 least, .int .i64 most, .int .i64 short, vv] 33)).alloc (.cells #[.int .u16 heard] 49)) = W2 := ⟨_, rfl⟩
    rw [hW2] at hW2s hW2b hs1 ht1 ⊢
    clear hW2
    have hBh1 : Bh < W1.heap.size := (Array.getElem?_eq_some_iff.1 HBH.out).1
    have hl1s : l1 < W1.heap.size := (Array.getElem?_eq_some_iff.1 HR1.out).1
    refine wpIn_iterN (l₀ := l1) (r₀ := r1) ((hW2b.block l1 hl1s).trans HR1.out) (gf := 83) (lb := #[.pointer (some ⟨W1.heap.size, 0, none⟩), .pointer (some ⟨W1.heap.size + 1, 0, none⟩)]) rfl (enters_of Try.func83 (by kernel_rfl) rfl)
      (in1.iter n hn least most short heard vv W1.heap.size (W1.heap.size + 1) W2 hs1 ht1) (Nat.le_refl _) (fun _ _ => rfl) (fun k hk => by rcases hk with rfl | rfl <;> omega) (fun _ => rfl)
      (fun pre' W' => J (pre.flatMap (rowOf least most short x heard n) ++ pre'.flatMap (voiceOf least most short x h)) W' ∧ CapK (partsC B) W W' ∧ W'.heap[W.heap.size]? = some (.cells #[.func (.yield l) #[] #[]] 133 (0, 0)) ∧ W'.heap[Bh]? = some (.cells #[.int .i64 h] 3 (0, 0)) ∧ KeptC (partsC B) W.heap.size W1 W')
      (fun c pre' W' => c = .ret ∧ (∃ q p post, partsOf least most short x floor heard n = q ++ p :: post ∧ Jx (q ++ [p]) W') ∧ KeptC (partsC B) W.heap.size W1 W')
      (OwnFrom.and (fun s A A' row hs hg hr => hJ _ A A' row hs hg (fun r e => ⟨by have := (hr r e).1; omega, (hr r e).2⟩)) (OwnFrom.and (ownFrom_cap hCW (fun k hk => by have := hCW k hk; omega)) (OwnFrom.and (ownFrom_block (fun _ => _) (by omega)) (OwnFrom.and (ownFrom_block (fun _ => _) (by omega)) (ownFrom_keptC (by omega))))))
      (fun c => OwnFrom.and (ownFrom_pure _ _) (OwnFrom.and (fun s A A' row hs hg hr => by obtain ⟨q, p, post, e1, e2⟩ := hs; exact ⟨q, p, post, e1, hJx _ A A' row e2 hg (fun r e => ⟨by have := (hr r e).1; omega, (hr r e).2⟩)⟩) (ownFrom_keptC (by omega))))
      ⟨by simpa using OwnFrom.below hJ hJ1 hW2b, fun k hk => (hW2b.block k (by have := hCW k hk; omega)).trans (hcap k hk), (hW2b.block _ (by omega)).trans HYB.out, (hW2b.block _ hBh1).trans HBH.out, KeptC.below hW2b (Nat.le_refl _)⟩
      (fun pre' v a'' _ => a'' = { tmps := #[.func (.yield l) #[] #[], .pointer (some ⟨B, 0, none⟩), .pointer (some ⟨B + 2, 0, none⟩), .pointer (some ⟨B + 3, 0, none⟩), .pointer (some ⟨B + 1, 0, none⟩), .pointer (some ⟨W.heap.size, 0, none⟩), .pointer (some ⟨Bh, 0, none⟩), .int .i64 v, undef, undef, undef, .agg #[.int .i64 n, .int .i64 least, .int .i64 most, .int .i64 short, vv], .pointer (some ⟨B + 2, 0, none⟩), .int .u16 floor, .func (.func 83) #[] #[.pointer (some ⟨W.heap.size + 1, 0, none⟩), .pointer (some ⟨W.heap.size + 1 + 1, 0, none⟩)], .int .i64 h, .agg #[.int .i64 n, .int .i64 least, .int .i64 most, .int .i64 short, vv], .pointer (some ⟨B + 2, 1, none⟩), .int .u16 heard, .func (.func 83) #[] #[.pointer (some ⟨W1.heap.size, 0, none⟩), .pointer (some ⟨W1.heap.size + 1, 0, none⟩)], .int .i64 v, undef, undef, undef, undef, undef, undef, undef, undef, undef, undef, undef, undef, undef, undef, undef, undef, undef, undef], defers := [] })
      (fun _ _ _ => ownFrom_pure _ _)
      ?assign2 ?body2 ?done2 ?stop2
    case assign2 =>
      rintro l2 pre' v post' W3 K hx' hi hK
      gi_wp2
      exact hK _ _ (KeptC.refl _ _ _) hi rfl
    case body2 =>
      rintro l2 pre' v post' a'' W3 hx' hl2 _ ⟨hJ3, hcap3, hyb3, hbh3, hkp3⟩ rfl
      have hs3 := hkp3.size
      have cc : ∀ k i (v : Value) (cs : Array Value) t, partsC B k → W.heap[k]? = some (.cells cs t (0, 0)) → cs[i]? = some v → W3.cell? ⟨k, i, none⟩ = some v := fun k i v cs t hk hc hv => by
        have := (hcap3 k hk).trans hc
        simp [World.cell?, this, hv]
      have e10 := cc (B + 1) 0 _ _ _ ⟨by omega, by omega⟩ B1.out rfl
      have e11 := cc (B + 1) 1 _ _ _ ⟨by omega, by omega⟩ B1.out rfl
      have e12 := cc (B + 1) 2 _ _ _ ⟨by omega, by omega⟩ B1.out rfl
      have e13 := cc (B + 1) 3 _ _ _ ⟨by omega, by omega⟩ B1.out rfl
      have e30 := cc (B + 3) 0 _ _ _ ⟨by omega, by omega⟩ B3.out rfl
      have eh : W3.cell? ⟨Bh, 0, none⟩ = some (.int .i64 h) := by simp [World.cell?, hbh3]
      have ey : W3.cell? ⟨W.heap.size, 0, none⟩ = some (.func (.yield l) #[] #[]) := by simp [World.cell?, hyb3]
      have q1 : B + 1 < W3.heap.size := by omega
      have q3 : B + 3 < W3.heap.size := by omega
      have qh : Bh < W3.heap.size := by omega
      have qy : W.heap.size < W3.heap.size := by omega
      have HYB3 := Lib.hid hyb3
      have HBH3 := Lib.hid hbh3
      have HX' := Lib.hid hx'
      clear cc hyb3 hbh3 hx' d00 d01 d02 d03 d04 d21 hs1 ht1
      gi_wp2_with fail
      refine ⟨trivial, rfl, CallsIn.inRound l2 ((callsIn_wide.2 (step.calls n least most short vv x h v _ hx1 hx2 hx3 hx4)).mono ?_)⟩
      rintro e w4 ⟨rfl, hb4⟩
      obtain ⟨r, hr⟩ : ∃ r, stepF least most short x h v = r := ⟨_, rfl⟩
      have hvo : voiceOf least most short x h v = if r.2 then [((h, v), r.1)] else [] := by rw [voiceOf, hr]
      rw [hr]
      obtain ⟨⟨yh, yt, ys, yo⟩, b⟩ := r
      simp only [encSt]
      have hbW : Below W3.heap.size W3 w4 := ((Below.refl _ W3).alloc (Nat.le_refl _) (.cells #[.int .i64 h, .int .i64 v] 65)).trans (hb4.mono (by simp))
      have hs4 : W3.heap.size + 1 ≤ w4.heap.size := by have := hb4.size; simp at this; omega
      have hp0 : (W3.alloc (.cells #[.int .i64 h, .int .i64 v] 65)).heap[W3.heap.size]? = some (.cells #[.int .i64 h, .int .i64 v] 65 (0, 0)) := World.alloc_heap_new W3 _
      have hp4 := (hb4.block W3.heap.size (by simp)).trans hp0
      have f0 : w4.cell? ⟨W3.heap.size, 0, none⟩ = some (.int .i64 h) := by simp [World.cell?, hp4]
      have f1 : w4.cell? ⟨W3.heap.size, 1, none⟩ = some (.int .i64 v) := by simp [World.cell?, hp4]
      have fy : w4.cell? ⟨W.heap.size, 0, none⟩ = some (.func (.yield l) #[] #[]) := (hbW.cell (p := ⟨W.heap.size, 0, none⟩) qy).trans ey
      have q5 : W3.heap.size < w4.heap.size := by omega
      have q6 : W.heap.size < w4.heap.size := by omega
      have hbY : Below W3.heap.size W3 (w4.alloc (.cells #[.int .i64 yh, .int .i64 yt, .int .i64 ys, .bool yo] 109)) := hbW.alloc (by omega) _
      have hJ5 := OwnFrom.below hJ hJ3 hbY
      have hcap5 : CapK (partsC B) W (w4.alloc (.cells #[.int .i64 yh, .int .i64 yt, .int .i64 ys, .bool yo] 109)) := hcap3.below hCW hbY (by omega)
      have hkY : KeptC (partsC B) W.heap.size W3 (w4.alloc (.cells #[.int .i64 yh, .int .i64 yt, .int .i64 ys, .bool yo] 109)) := KeptC.below hbY (Nat.le_refl _)
      have hyY := (hbY.block _ qy).trans HYB3.out
      have hhY := (hbY.block _ qh).trans HBH3.out
      have HVO := Lib.hid hvo
      have HHY := Lib.hid hhY
      have HYY := Lib.hid hyY
      clear hr hp0 hp4 hvo e10 e11 e12 e13 e30 eh ey hhY hyY
      have hkc : ∀ {X Y : World}, KeptC (partsC B) W.heap.size X Y → KeptC (inC W1.heap.size (W1.heap.size + 1)) W2.heap.size X Y := fun hk => hk.mono (fun k q => .inr (by rcases q with rfl | rfl <;> omega)) (by omega)
      cases b
      · gi_wp2
        refine ⟨fun _ h => (by cases h), ?_⟩
        gi_wp2
        refine ⟨hkc hkY, ?_, hcap5, HYY.out, HHY.out, hkp3.trans hkY⟩
        rw [List.flatMap_append]
        simpa [HVO.out] using hJ5
      · have hsplit : ∃ post'', partsOf least most short x floor heard n = (pre.flatMap (rowOf least most short x heard n) ++ pre'.flatMap (voiceOf least most short x h)) ++ ((h, v), ⟨yh, yt, ys, yo⟩) :: post'' := by
          refine ⟨post'.flatMap (voiceOf least most short x h) ++ post.flatMap (rowOf least most short x heard n), ?_⟩
          rw [partsOf, HX.out, List.flatMap_append, List.flatMap_cons, rowOf, HX'.out, List.flatMap_append, List.flatMap_cons, HVO.out]
          simp
        obtain ⟨post'', hsp⟩ := hsplit
        obtain ⟨fn, tmps, assign, body, hy, hR⟩ := hY _ _ _ _ hsp hJ5
        simp only [encPart, encSt] at hy
        have HSP := Lib.hid hsp
        clear hsp hY
        gi_wp2
        refine ⟨rfl, RoundIn.mono hR ?_⟩
        rintro e W6 ⟨hk6, (⟨rfl, hJ6⟩ | ⟨rfl, hJx6⟩)⟩
        · gi_wp2
          have hs6 := hk6.size
          refine ⟨hkc (hkY.trans hk6), ?_, hcap5.kept hCW (by have := hkY.size; omega) hk6 (fun k q => .inl q), (hk6.same _ (.inr (Nat.le_refl _)) (by have := hkY.size; omega)).trans HYY.out, (hk6.same _ (.inr (by omega)) (by have := hkY.size; omega)).trans HHY.out, (hkp3.trans hkY).trans hk6⟩
          rw [List.flatMap_append]
          simpa [HVO.out] using hJ6
        · gi_wp2
          exact ⟨hkc (hkY.trans hk6), rfl, ⟨_, _, _, HSP.out, hJx6⟩, (hkp3.trans hkY).trans hk6⟩
    case done2 =>
      rintro W3 ⟨hJ3, hcap3, hyb3, hbh3, hkp3⟩
      have hs3 := hkp3.size
      gi_wp2
      refine ⟨hkp3.mono (fun k q => .inr (by rcases q with rfl | rfl <;> omega)) (by omega), ?_, hcap3, hyb3, by omega⟩
      rw [List.flatMap_append]
      simpa [rowOf] using hJ3
    case stop2 =>
      rintro c pre' v post' W3 hx' ⟨rfl, hex, hkp3⟩
      gi_wp2
      exact ⟨hkp3.mono (fun k q => .inr (by rcases q with rfl | rfl <;> omega)) (by omega), rfl, hex⟩
  case done =>
    rintro D W1 hD ⟨hJ1, hcap, hyb, hsz⟩ hK
    gi_wp2
    refine ⟨by simp, .inl ⟨_, _, rfl, run_takeDeferred hK, ?_⟩⟩
    refine ⟨_, results_none rfl _ _ _, ⟨_, rfl⟩, .inl ?_⟩
    exact OwnFrom.putObj hJ _ hJ1 (by omega) hK rfl
  case stop =>
    rintro D c pre h post W1 hD hx ⟨rfl, q, p, post', hq, hJx1⟩ hK
    gi_wp2
    refine ⟨by simp, .inl ⟨_, _, rfl, run_takeDeferred hK, ?_⟩⟩
    refine ⟨_, results_none rfl _ _ _, ⟨_, rfl⟩, .inr ⟨q, p, post', hq, ?_⟩⟩
    exact OwnFrom.putObj hJx _ hJx1 (by omega) hK rfl
end Go.Proofs.Ytdnjmhhjjbdieaa.Q
end
section
namespace Go.Proofs.Ytdnjmhhjjbdieaa.Q
open Go.RowKit Go.Maps
set_option linter.unusedVariables false
set_option linter.unusedSimpArgs false
def InBox (x : St) : Prop := (-2 ≤ x.holder ∧ x.holder ≤ 16) ∧ (0 ≤ x.turn ∧ x.turn ≤ 100) ∧ (0 ≤ x.short ∧ x.short ≤ 100)
theorem keyTypeSt : Try.prog.keyType 109 = true := by kernel_rfl
theorem typesN : Try.prog.types.size = 164 := by kernel_rfl
theorem keyAtSt : Try.prog.keyTypeAt 5 109 = true := by kernel_rfl
theorem laidOutQ : laidOutB Try.prog = true := by kernel_rfl
theorem keyedSt : Keyed Try.prog 109 :=
  Keyed.of_law (deep_law_laid (P := Try.prog) (k := 109) (m := 5) laidOutQ (by omega) (by rw [typesN]; decide) keyAtSt (by rw [Try.underlying109]))
theorem keyLits_ex (d : Nat) (a b c : Int) (o : Bool) (w1 : (Lit.int .i64 a).wf = true) (w2 : (Lit.int .i64 b).wf = true) (w3 : (Lit.int .i64 c).wf = true) : ∃ ls, Try.prog.keyLits (d + 1 + 1) 109 [.int .i64 a, .int .i64 b, .int .i64 c, .bool o] = some ls := by
  have hu := Try.underlying109
  have hui := Try.underlying3
  have hub := Try.underlying4
  have hc : Try.prog.cellsOf 109 = 4 := by kernel_rfl
  have hci : Try.prog.cellsOf 3 = 1 := by kernel_rfl
  have hcb : Try.prog.cellsOf 4 = 1 := by kernel_rfl
  unfold Program.keyLits
  simp only [hu, hc]
  simp [Program.keyLits, hui, hub, hci, hcb, w1, w2, w3]
set_option maxRecDepth 100000 in
theorem keyOf_ex (x : St) (hx : InBox x) : ∃ l, keyOf Try.prog 109 (encSt x) = some l := by
  obtain ⟨⟨h1, h2⟩, ⟨h3, h4⟩, ⟨h5, h6⟩⟩ := hx
  have hu := Try.underlying109
  have hui := Try.underlying3
  have hub := Try.underlying4
  have w1 : (Lit.int .i64 x.holder).wf = true := WalkArith.wf_i64 (by omega)
  have w2 : (Lit.int .i64 x.turn).wf = true := WalkArith.wf_i64 (by omega)
  have w3 : (Lit.int .i64 x.short).wf = true := WalkArith.wf_i64 (by omega)
  have hc : Try.prog.cellsOf 109 = 4 := by kernel_rfl
  unfold keyOf
  rw [hu]
  simp only [keyTypeSt, encSt, Value.formed, hu, hc, Bool.true_and]
  rw [if_pos (by rfl), typesN]
  obtain ⟨ls, hls⟩ := keyLits_ex 163 x.holder x.turn x.short x.own w1 w2 w3
  exact ⟨.string (keyBytes ls), by
    have : Try.prog.keyLits (164 + 1) 109 (Value.agg #[.int .i64 x.holder, .int .i64 x.turn, .int .i64 x.short, .bool x.own]).cells.toList = some ls := hls
    rw [this]; rfl⟩
open Classical in
theorem nodup_length_le {α : Type} : ∀ (l L : List α), l.Nodup → (∀ a ∈ l, a ∈ L) → l.length ≤ L.length
  | [], _, _, _ => Nat.zero_le _
  | a :: l, L, hn, hs => by
    obtain ⟨h1, h2⟩ := List.nodup_cons.1 hn
    have ha := hs a (by simp)
    have := nodup_length_le l (L.erase a) h2 (fun b hb => (List.mem_erase_of_ne (fun (e : b = a) => h1 (by rw [← e]; exact hb))).2 (hs b (by simp [hb])))
    rw [List.length_erase_of_mem ha] at this
    have := List.length_pos_of_mem ha
    simp only [List.length_cons]
    omega
def unbox (n : Nat) : St := ⟨(n % 19 : Nat) - 2, (n / 19 % 101 : Nat), (n / 1919 % 101 : Nat), n / 193819 == 1⟩
theorem unbox_ex (x : St) (hx : InBox x) : ∃ n, n < 387638 ∧ unbox n = x := by
  obtain ⟨h, t, s, o⟩ := x
  obtain ⟨⟨h1, h2⟩, ⟨h3, h4⟩, ⟨h5, h6⟩⟩ := hx
  simp only at *
  refine ⟨(h + 2).toNat + 19 * t.toNat + 1919 * s.toNat + 193819 * o.toNat, ?_, ?_⟩
  · cases o <;> simp <;> omega
  · have e1 : ((h + 2).toNat + 19 * t.toNat + 1919 * s.toNat + 193819 * o.toNat) % 19 = (h + 2).toNat := by omega
    have e2 : ((h + 2).toNat + 19 * t.toNat + 1919 * s.toNat + 193819 * o.toNat) / 19 % 101 = t.toNat := by omega
    have e3 : ((h + 2).toNat + 19 * t.toNat + 1919 * s.toNat + 193819 * o.toNat) / 1919 % 101 = s.toNat := by omega
    have e4 : ((h + 2).toNat + 19 * t.toNat + 1919 * s.toNat + 193819 * o.toNat) / 193819 = o.toNat := by omega
    unfold unbox
    rw [e1, e2, e3, e4]
    cases o <;> simp <;> omega
abbrev KB : Nat := 387638
theorem size_le_KB (es : List (Lit × DataW Unit)) (hd : es.Pairwise (fun p q => p.1 ≠ q.1)) (hk : ∀ p ∈ es, ∃ x, InBox x ∧ keyOf Try.prog 109 (encSt x) = some p.1) : es.length ≤ KB := by
  have hn : (es.map Prod.fst).Nodup := by
    rw [List.nodup_iff_pairwise_ne, List.pairwise_map]
    exact hd
  have := nodup_length_le (α := Lit) (es.map Prod.fst) ((List.range KB).filterMap fun n => keyOf Try.prog 109 (encSt (unbox n))) hn (fun a ha => by
    obtain ⟨p, hp, rfl⟩ := List.mem_map.1 ha
    obtain ⟨x, hx, hkx⟩ := hk p hp
    obtain ⟨n, hlt, rfl⟩ := unbox_ex x hx
    exact List.mem_filterMap.2 ⟨n, List.mem_range.2 hlt, hkx⟩)
  have h2 := List.length_filterMap_le (fun n => keyOf Try.prog 109 (encSt (unbox n))) (List.range KB)
  rw [List.length_map] at this
  rw [List.length_range] at h2
  omega
structure Elem (β : Type) where
  t : TypeId
  e : TypeId
  R : Value → Option (DataW Unit × List MemPlace)
  enc : β → Value
  dat : β → DataW Unit
  z : Value
  zd : DataW Unit
  ht : Try.prog.underlying t = some (.map 109 e)
  encR : ∀ b, R (enc b) = some (dat b, [])
  inv : ∀ v b ps, R v = some (dat b, ps) → v = enc b
  hz : ∀ w, (zeroValue e).run Try.prog w = .ok z w
  zR : R z = some (zd, [])
  zinv : ∀ v ps, R v = some (zd, ps) → v = z
  some_dat : ∀ v y, R v = some y → (∃ b, y.1 = dat b) ∨ y.1 = zd
variable {β : Type} (E : Elem β)
structure Tells (D : DataW Unit) (M : St → Option β) : Prop where
  box : ∀ x, M x ≠ none → InBox x
  at_ : ∀ x kl v, keyOf Try.prog 109 (encSt x) = some kl → M x = some v → has D kl = true ∧ ∀ z, D.atKey kl z = E.dat v
  no : ∀ x kl, keyOf Try.prog 109 (encSt x) = some kl → M x = none → has D kl = false
  keys : ∀ kl, has D kl = true → ∃ x, InBox x ∧ keyOf Try.prog 109 (encSt x) = some kl
def MapIs (w : World) (b : Nat) (M : St → Option β) : Prop := ∃ D, w.ownsMap Try.prog 109 E.R b KB D ∧ Tells E D M
variable {E} {w w' : World} {b : Nat} {M : St → Option β}
theorem encSt_inj {x y : St} (h : encSt x = encSt y) : x = y := by
  obtain ⟨a, b, c, d⟩ := x
  obtain ⟨a', b', c', d'⟩ := y
  simp [encSt] at h
  obtain ⟨rfl, rfl, rfl, rfl⟩ := h
  rfl
theorem key_inj {x y : St} {kl : Lit} (hx : keyOf Try.prog 109 (encSt x) = some kl) (hy : keyOf Try.prog 109 (encSt y) = some kl) : x = y := encSt_inj (keyedSt.inj hx hy)
theorem MapIs.lt (h : MapIs E w b M) : b < w.heap.size := by obtain ⟨D, h, _⟩ := h; exact h.lt
theorem MapIs.kept {row : Option Nat} (h : MapIs E w b M) (hg : w.grownBy w' row) (hne : some b ≠ row) : MapIs E w' b M := by obtain ⟨D, h, ht⟩ := h; exact ⟨D, h.kept hg hne, ht⟩
theorem MapIs.same (h : MapIs E w b M) (hb : w'.heap[b]? = w.heap[b]?) : MapIs E w' b M := by
  obtain ⟨D, ⟨es, clock, h1, h2⟩, ht⟩ := h
  exact ⟨D, ⟨es, clock, hb.trans h1, h2⟩, ht⟩
theorem MapIs.isMap (h : MapIs E w b M) : ∃ es clock, w.heap[b]? = some (.map es clock) := by obtain ⟨D, ⟨es, clock, h1, _⟩, _⟩ := h; exact ⟨es, clock, h1⟩
theorem MapIs.made (w : World) : MapIs E (w.alloc (.map #[] 0)) w.heap.size (fun _ => none) :=
  ⟨.map [], (World.ownsMap_made w _ _ _).mono (Nat.zero_le _), ⟨fun x h => absurd rfl h, fun x kl v _ h => (by cases h), fun x kl _ _ => rfl, fun kl h => by cases h⟩⟩
set_option maxRecDepth 100000 in
theorem MapIs.update (h : MapIs E w b M) (x : St) (hx : InBox x) (v : β) :
    ∃ w', (Instr.mapUpdate E.t (.map (some b)) (encSt x) (E.enc v)).run Try.prog w = .ok () w' ∧ MapIs E w' b (fun y => if y = x then some v else M y) ∧ w.grownBy w' (some b) ∧ w.mapTurned w' b ∧ w'.heap.size = w.heap.size := by
  obtain ⟨D, ho, ht⟩ := h
  obtain ⟨kl, hkl⟩ := keyOf_ex x hx
  obtain ⟨w', hrun, ho', hturn⟩ := ho.store (val := E.enc v) keyedSt E.ht (by unfold maxLen KB; omega) hkl (E.encR v)
  have hm : IsMap D := ho.isMap
  have hkk : WideAt.IsKeyLit kl := keyedSt.key hkl
  have hT : Tells E (D.put kl (E.dat v)) (fun y => if y = x then some v else M y) := by
    refine ⟨fun y hy => ?_, fun y kl' u hk hu => ?_, fun y kl' hk hn => ?_, fun kl' hh => ?_⟩
    · by_cases e : y = x
      · exact e ▸ hx
      · rw [if_neg e] at hy; exact ht.box y hy
    · by_cases e : y = x
      · subst e
        rw [if_pos rfl] at hu
        cases hu
        obtain rfl : kl' = kl := Option.some.inj (hk.symm.trans hkl)
        exact ⟨has_put_same hm hkk _, fun z => atKey_put_same hm hkk _ z⟩
      · rw [if_neg e] at hu
        have hne : kl' ≠ kl := fun e' => e (key_inj hk (e' ▸ hkl))
        obtain ⟨h1, h2⟩ := ht.at_ y kl' u hk hu
        exact ⟨(has_put_other hne _).trans h1, fun z => (atKey_put_other hne _ z).trans (h2 z)⟩
    · by_cases e : y = x
      · rw [if_pos e] at hn; cases hn
      · rw [if_neg e] at hn
        have hne : kl' ≠ kl := fun e' => e (key_inj hk (e' ▸ hkl))
        exact (has_put_other hne _).trans (ht.no y kl' hk hn)
    · by_cases e : kl' = kl
      · exact ⟨x, hx, e ▸ hkl⟩
      · exact ht.keys kl' ((has_put_other e _).symm.trans hh)
  refine ⟨w', hrun, ⟨D.put kl (E.dat v), ?_, hT⟩, hturn.grown, hturn, ?_⟩
  · obtain ⟨es, clock, hb, F, hs, hD⟩ := ho'
    refine ⟨es, clock, hb, F, ?_, hD⟩
    obtain ⟨es', hD', hp, hk⟩ := World.ownsMap.entries ⟨es, clock, hb, F, hs, hD⟩ keyedSt
    have e1 : es.size = es'.length := by
      have := length_read (R0 := E.R) (k := 109) (P := Try.prog) es
      rw [← this]
      rw [hD'] at hD
      injection hD with hD
      rw [hD]
    rw [e1]
    refine size_le_KB es' hp fun p hp' => ?_
    refine hT.keys p.1 ?_
    rw [hD']
    exact List.any_eq_true.2 ⟨p, hp', WideAt.sameKey_self (hk p hp')⟩
  · obtain ⟨_, _, _, _, _, rfl⟩ := hturn
    simp [ChangeMaps.setBlock]
theorem MapIs.look (h : MapIs E w b M) (x : St) (hx : InBox x) :
    (Instr.lookup E.t (.map (some b)) (encSt x) false).run Try.prog w = .ok (match M x with | some v => E.enc v | none => E.z) w := by
  obtain ⟨D, ho, ht⟩ := h
  obtain ⟨kl, hkl⟩ := keyOf_ex x hx
  obtain ⟨v, ps, hrun, hv⟩ := ho.lookup keyedSt E.ht (E.hz w) E.zR hkl
  rw [hrun]
  cases hM : M x with
  | none => rw [atKey_of_not_has (ht.no x kl hkl hM)] at hv; rw [E.zinv v ps hv]
  | some u => rw [(ht.at_ x kl u hkl hM).2] at hv; rw [E.inv v u ps hv]
theorem MapIs.lookOk (h : MapIs E w b M) (x : St) (hx : InBox x) :
    (Instr.lookup E.t (.map (some b)) (encSt x) true).run Try.prog w = .ok (.tuple #[(match M x with | some v => E.enc v | none => E.z), .bool (M x).isSome]) w := by
  obtain ⟨D, ho, ht⟩ := h
  obtain ⟨kl, hkl⟩ := keyOf_ex x hx
  obtain ⟨v, ps, hrun, hv⟩ := ho.look_ok keyedSt E.ht (E.hz w) E.zR hkl
  rw [hrun]
  cases hM : M x with
  | none =>
    have h0 := ht.no x kl hkl hM
    rw [atKey_of_not_has h0] at hv
    rw [E.zinv v ps hv, h0]; rfl
  | some u =>
    have h0 := ht.at_ x kl u hkl hM
    rw [h0.2] at hv
    rw [E.inv v u ps hv, h0.1]; rfl
theorem MapIs.len (h : MapIs E w b M) (ty : TypeId) : ∃ n : Nat, n ≤ KB ∧ (Builtin.len_ #[E.t] ty #[.map (some b)]).run Try.prog w = .ok (.int .i64 n) w ∧ (n = 0 ↔ ∀ x, M x = none) := by
  obtain ⟨D, ho, ht⟩ := h
  refine ⟨Maps.size D, ho.size_le, ho.len E.ht ty, ?_⟩
  obtain ⟨es, rfl, hp, hk⟩ := ho.entries keyedSt
  rw [size_eq, List.length_eq_zero_iff]
  constructor
  · rintro rfl x
    cases hM : M x with
    | none => rfl
    | some v =>
      obtain ⟨kl, hkl⟩ := keyOf_ex x (ht.box x (by rw [hM]; simp))
      have := (ht.at_ x kl v hkl hM).1
      cases this
  · intro hall
    cases es with
    | nil => rfl
    | cons p r =>
      have hh : has (.map (p :: r)) p.1 = true := List.any_eq_true.2 ⟨p, by simp, WideAt.sameKey_self (hk p (by simp))⟩
      obtain ⟨x, hx, hkx⟩ := ht.keys p.1 hh
      rw [ht.no x p.1 hkx (hall x)] at hh
      cases hh
def RangeIs (E : Elem β) (w : World) (b r : Nat) (M : St → Option β) (L : St → Prop) (cnt : Nat) : Prop :=
  ∃ D left, w.ranges Try.prog 109 E.R b r KB D left cnt ∧ Tells E D M ∧ (∀ kl, left kl = true ↔ ∃ x, L x ∧ M x ≠ none ∧ keyOf Try.prog 109 (encSt x) = some kl)
variable {r cnt : Nat} {L : St → Prop}
theorem RangeIs.mapIs (h : RangeIs E w b r M L cnt) : MapIs E w b M := by obtain ⟨D, left, h, ht, _⟩ := h; exact ⟨D, h.owns, ht⟩
theorem RangeIs.lt (h : RangeIs E w b r M L cnt) : r < w.heap.size := by obtain ⟨D, left, h, _⟩ := h; exact h.lt
theorem RangeIs.left_eq (h : RangeIs E w b r M L cnt) : w.rangeLeft b r = cnt := by obtain ⟨D, left, h, _⟩ := h; exact h.left_eq
theorem RangeIs.kept {row : Option Nat} (h : RangeIs E w b r M L cnt) (hg : w.grownBy w' row) (hb : some b ≠ row) (hr : some r ≠ row) : RangeIs E w' b r M L cnt := by
  obtain ⟨D, left, h, ht, hl⟩ := h; exact ⟨D, left, h.kept hg hb hr, ht, hl⟩
theorem RangeIs.same (h : RangeIs E w b r M L cnt) (hb : w'.heap[b]? = w.heap[b]?) (hr : w'.heap[r]? = w.heap[r]?) : RangeIs E w' b r M L cnt := by
  obtain ⟨D, left, ⟨es, clock, since, seen, c0, h1, h2, h3, h4, h5, h6⟩, ht, hl⟩ := h
  exact ⟨D, left, ⟨es, clock, since, seen, c0, hb.trans h1, h2, h3, h4, hr.trans h5, h6⟩, ht, hl⟩
theorem RangeIs.iter (h : RangeIs E w b r M L cnt) : ∃ o : Obj, w.heap[r]? = some o ∧ o.isCells = false := by
  obtain ⟨D, left, ⟨es, clock, since, seen, c0, h1, h2, h3, h4, h5, h6⟩, ht, hl⟩ := h
  exact ⟨_, h5, rfl⟩
theorem MapIs.range (h : MapIs E w b M) :
    ∃ w' cnt, (Instr.range E.t (.map (some b))).run Try.prog w = .ok (.pointer (some ⟨w.heap.size, 0, none⟩)) w' ∧ RangeIs E w' b w.heap.size M (fun x => M x ≠ none) cnt ∧ w.grownBy w' none ∧ w'.heap.size = w.heap.size + 1 := by
  obtain ⟨D, ho, ht⟩ := h
  obtain ⟨w', hrun, hr, hg, hs⟩ := ho.range keyedSt E.ht
  refine ⟨w', _, hrun, ⟨D, _, hr, ht, fun kl => ?_⟩, hg, hs⟩
  constructor
  · intro hh
    obtain ⟨x, hx, hkx⟩ := ht.keys kl hh
    refine ⟨x, ?_, ?_, hkx⟩ <;> (intro hn; rw [ht.no x kl hkx hn] at hh; cases hh)
  · rintro ⟨x, hx, _, hkx⟩
    cases hM : M x with
    | none => exact absurd hM hx
    | some v => exact (ht.at_ x kl v hkx hM).1
theorem RangeIs.next (h : RangeIs E w b r M L cnt) (ty : TypeId) :
    ((∀ x, L x → M x = none) ∧ (Instr.next (.pointer (some ⟨r, 0, none⟩)) false ty).run Try.prog w = .ok (.tuple #[.bool false]) w) ∨
    ∃ x v w' cnt', L x ∧ M x = some v ∧ InBox x ∧ (Instr.next (.pointer (some ⟨r, 0, none⟩)) false ty).run Try.prog w = .ok (.tuple #[.bool true, encSt x, E.enc v]) w' ∧
      RangeIs E w' b r M (fun y => L y ∧ y ≠ x) cnt' ∧ cnt' < cnt ∧ w.grownBy w' (some r) ∧ w'.heap.size = w.heap.size ∧ (Instr.entry (.pointer (some ⟨r, 0, none⟩))).run Try.prog w' = .ok (.tuple #[encSt x, E.enc v]) w' := by
  obtain ⟨D, left, hr, ht, hl⟩ := h
  rcases hr.next keyedSt ty with ⟨_, hno, hrun⟩ | ⟨key, v, kl, y, w', cnt', hkey, hlk, hv, hat, hrun, hr', hlt, hg, hs, hen⟩
  · refine .inl ⟨fun x hx => ?_, hrun⟩
    cases hM : M x with
    | none => rfl
    | some v =>
      obtain ⟨kl, hkl⟩ := keyOf_ex x (ht.box x (by rw [hM]; simp))
      have := (hl kl).2 ⟨x, hx, by rw [hM]; simp, hkl⟩
      rw [hno kl] at this; cases this
  · obtain ⟨x, hx, hne, hkx⟩ := (hl kl).1 hlk
    obtain rfl : key = encSt x := keyedSt.inj hkey hkx
    cases hM : M x with
    | none => exact absurd hM hne
    | some u =>
      have h2 := (ht.at_ x kl u hkx hM).2
      have h3 : y.1 = E.dat u := (hat .nil).symm.trans (h2 .nil)
      obtain rfl : v = E.enc u := E.inv v u y.2 (by rw [hv, ← h3])
      refine .inr ⟨x, u, w', cnt', hx, hM, ht.box x (by rw [hM]; simp), hrun, ⟨D, _, hr', ht, fun kl' => ?_⟩, hlt, hg, hs, hen⟩
      rw [Bool.and_eq_true, hl kl']
      constructor
      · rintro ⟨⟨z, hz, hzn, hkz⟩, hsk⟩
        refine ⟨z, ⟨hz, ?_⟩, hzn, hkz⟩
        rintro rfl
        obtain rfl : kl' = kl := Option.some.inj (hkz.symm.trans hkx)
        rw [WideAt.sameKey_self (keyedSt.key hkz)] at hsk
        cases hsk
      · rintro ⟨z, ⟨hz, hzx⟩, hzn, hkz⟩
        refine ⟨⟨z, hz, hzn, hkz⟩, ?_⟩
        have hne' : kl' ≠ kl := fun e => hzx (key_inj hkz (e ▸ hkx))
        rw [sameKey_ne hne']; rfl
theorem RangeIs.drop (h : RangeIs E w b r M L cnt) (x : St) (hx : InBox x) (ty : TypeId) :
    ∃ w' cnt', (Builtin.delete_ #[E.t, 109] ty #[.map (some b), encSt x]).run Try.prog w = .ok (.tuple #[]) w' ∧
      RangeIs E w' b r (fun y => if y = x then none else M y) (fun y => L y ∧ y ≠ x) cnt' ∧ cnt' ≤ cnt ∧ w.mapTurned w' b := by
  obtain ⟨D, left, hr, ht, hl⟩ := h
  obtain ⟨kl, hkl⟩ := keyOf_ex x hx
  obtain ⟨w', cnt', hrun, hr', hle, hturn⟩ := hr.drop keyedSt E.ht hkl ty
  refine ⟨w', cnt', hrun, ⟨D.del kl, _, hr', ⟨fun y hy => ?_, fun y kl' u hk hu => ?_, fun y kl' hk hn => ?_, fun kl' hh => ?_⟩, fun kl' => ?_⟩, hle, hturn⟩
  · by_cases e : y = x
    · rw [if_pos e] at hy; exact absurd rfl hy
    · rw [if_neg e] at hy; exact ht.box y hy
  · by_cases e : y = x
    · rw [if_pos e] at hu; cases hu
    · rw [if_neg e] at hu
      have hne : kl' ≠ kl := fun e' => e (key_inj hk (e' ▸ hkl))
      obtain ⟨h1, h2⟩ := ht.at_ y kl' u hk hu
      exact ⟨(has_del_other hne).trans h1, fun z => (atKey_del_other hne z).trans (h2 z)⟩
  · by_cases e : y = x
    · subst e
      obtain rfl : kl' = kl := Option.some.inj (hk.symm.trans hkl)
      exact has_del_same
    · rw [if_neg e] at hn
      have hne : kl' ≠ kl := fun e' => e (key_inj hk (e' ▸ hkl))
      exact (has_del_other hne).trans (ht.no y kl' hk hn)
  · by_cases e : kl' = kl
    · rw [e, has_del_same] at hh; cases hh
    · exact ht.keys kl' ((has_del_other e).symm.trans hh)
  · rw [Bool.and_eq_true, hl kl']
    constructor
    · rintro ⟨⟨z, hz, hzn, hkz⟩, hsk⟩
      have hzx : z ≠ x := by
        rintro rfl
        obtain rfl : kl' = kl := Option.some.inj (hkz.symm.trans hkl)
        rw [WideAt.sameKey_self (keyedSt.key hkz)] at hsk
        cases hsk
      exact ⟨z, ⟨hz, hzx⟩, by simp only [if_neg hzx]; exact hzn, hkz⟩
    · rintro ⟨z, ⟨hz, hzx⟩, hzn, hkz⟩
      simp only [if_neg hzx] at hzn
      refine ⟨⟨z, hz, hzn, hkz⟩, ?_⟩
      have hne' : kl' ≠ kl := fun e => hzx (key_inj hkz (e ▸ hkl))
      rw [sameKey_ne hne']; rfl
theorem plainElem_bool_inv {H : Type} {P : Program} {e : TypeId} (he : P.underlying e = some .bool) {v : Value} {z : DataW H × List MemPlace} (h : plainElem P e v = some z) : ∃ c, v = .bool c ∧ z = (.lit (.bool c), []) := by
  unfold plainElem at h
  rw [he] at h
  cases v <;> simp at h
  exact ⟨_, rfl, h.symm⟩
noncomputable def EB : Elem Unit where
  t := 104
  e := 4
  R := plainElem Try.prog 4
  enc := fun _ => .bool true
  dat := fun _ => .lit (.bool true)
  z := .bool false
  zd := .lit (.bool false)
  ht := Try.underlying104
  encR := fun _ => plainElem_bool Try.underlying4 true
  inv := fun v b ps h => by
    obtain ⟨c, rfl, hc⟩ := plainElem_bool_inv Try.underlying4 h
    cases hc; rfl
  hz := fun w => by kernel_rfl
  zR := plainElem_bool Try.underlying4 false
  zinv := fun v ps h => by
    obtain ⟨c, rfl, hc⟩ := plainElem_bool_inv Try.underlying4 h
    cases hc; rfl
  some_dat := fun v y h => by
    obtain ⟨c, rfl, rfl⟩ := plainElem_bool_inv Try.underlying4 h
    cases c
    · exact .inr rfl
    · exact .inl ⟨(), rfl⟩
def pairElem (v : Value) : Option (DataW Unit × List MemPlace) :=
  match v with
  | .agg cs => match cs.toList with
    | [.int .i64 a, .int .i64 b] => some (.agg [.lit (.int .i64 a), .lit (.int .i64 b)], [])
    | _ => none
  | _ => none
theorem pairElem_mk (a b : Int) : pairElem (.agg #[.int .i64 a, .int .i64 b]) = some (.agg [.lit (.int .i64 a), .lit (.int .i64 b)], []) := rfl
theorem pairElem_inv {v : Value} {z : DataW Unit × List MemPlace} (h : pairElem v = some z) : ∃ a b, v = .agg #[.int .i64 a, .int .i64 b] ∧ z = (.agg [.lit (.int .i64 a), .lit (.int .i64 b)], []) := by
  unfold pairElem at h
  split at h
  · rename_i cs
    split at h
    · rename_i a b hc
      cases h
      have : cs = #[.int .i64 a, .int .i64 b] := by rw [← Array.toArray_toList (xs := cs), hc]
      exact ⟨a, b, by rw [this], rfl⟩
    · cases h
  · cases h
noncomputable def EP : Elem (Int × Int) where
  t := 116
  e := 115
  R := pairElem
  enc := fun p => .agg #[.int .i64 p.1, .int .i64 p.2]
  dat := fun p => .agg [.lit (.int .i64 p.1), .lit (.int .i64 p.2)]
  z := .agg #[.int .i64 0, .int .i64 0]
  zd := .agg [.lit (.int .i64 0), .lit (.int .i64 0)]
  ht := Try.underlying116
  encR := fun p => pairElem_mk _ _
  inv := fun v p ps h => by
    obtain ⟨a, b, rfl, hc⟩ := pairElem_inv h
    simp at hc
    obtain ⟨⟨rfl, rfl⟩, _⟩ := hc; rfl
  hz := fun w => by kernel_rfl
  zR := pairElem_mk 0 0
  zinv := fun v ps h => by
    obtain ⟨a, b, rfl, hc⟩ := pairElem_inv h
    simp at hc
    obtain ⟨⟨rfl, rfl⟩, _⟩ := hc; rfl
  some_dat := fun v y h => by
    obtain ⟨a, b, rfl, rfl⟩ := pairElem_inv h
    exact .inl ⟨(a, b), rfl⟩
end Go.Proofs.Ytdnjmhhjjbdieaa.Q
end
section
namespace Go.Proofs.Ytdnjmhhjjbdieaa.Q
open Go.RowKit Go.Shelf Go.Proofs.YtdnjmhhjjbdieaaW.PrintWords Go.Proofs.YtdnjmhhjjbdieaaW.PrintLast
set_option linter.unusedVariables false
set_option linter.unusedSimpArgs false
attribute [local go_sem] Oper.semAt_some
theorem heap_new {W : World} {o : Obj} {n : Nat} (h : n = W.heap.size) : (W.alloc o).heap[n]? = some o := by subst h; exact World.alloc_heap_new W o
theorem heap_old {W : World} {o v : Obj} {k : Nat} (h : W.heap[k]? = some v) : (W.alloc o).heap[k]? = some v := (Below.heap_alloc W o k (Array.getElem?_eq_some_iff.1 h).1).trans h
theorem cell_of {W : World} {b i : Nat} {cs : Array Value} {t : TypeId} {fr : Nat × Nat} {v : Value} (h : W.heap[b]? = some (.cells cs t fr)) (hi : cs[i]? = some v) : W.cell? ⟨b, i, none⟩ = some v := by simp [World.cell?, h, hi]
theorem heap_set {W : World} {b : Nat} {cs : Array Value} {t : TypeId} {fr : Nat × Nat} (h : W.heap[b]? = some (.cells cs t fr)) (i : Nat) (v : Value) : (W.setCell ⟨b, i, none⟩ v).heap[b]? = some (.cells (cs.setIfInBounds i v) t fr) := by
  simp only [World.setCell, Array.getElem?_modify, h]
  simp
theorem putObj_old {W : World} {D k : Nat} {o v : Obj} (hne : k ≠ D) (h : W.heap[k]? = some v) : (W.putObj D o).heap[k]? = some v := (World.putObj_heap_other hne).trans h
theorem below_putObj {n D : Nat} {w W : World} (h : Below n w W) (hD : n ≤ D) (o : Obj) : Below n w (W.putObj D o) :=
  h.trans ⟨rfl, rfl, rfl, by simp, fun k hk => World.putObj_heap_other (by omega)⟩
theorem not_frozen {W : World} {b i : Nat} {cs : Array Value} {t : TypeId} (h : W.heap[b]? = some (.cells cs t (0, 0))) : W.frozen? ⟨b, i, none⟩ = false := by simp [World.frozen?, h]
theorem ownFrom_below {β : Type} {B n : Nat} {W0 : World} (hn : n ≤ B) (h0 : n ≤ W0.heap.size) : OwnFrom B (fun (_ : β) W => Below n W0 W) :=
  fun s W W' row hs hg hr => hs.trans ⟨hg.os, hg.tape, hg.output, hg.size, fun k hk => hg.block k (by have := hs.size; omega) (fun e => by have := (hr k e.symm).1; omega)⟩
structure Small (x : St) (i : Nat) : Prop where
  h1 : -2 ≤ x.holder
  h2 : x.holder ≤ 16
  t1 : 0 ≤ x.turn
  t2 : x.turn ≤ (i : Int)
  s1 : 0 ≤ x.short
  s2 : x.short ≤ (i : Int)
theorem Small.box {x : St} {i : Nat} (h : Small x i) (hi : i ≤ 100) : InBox x := by have := h.h1; have := h.h2; have := h.t1; have := h.t2; have := h.s1; have := h.s2; unfold InBox; omega
theorem Small.out {x : St} {i : Nat} (h : Small x i) (most short hh v turn : Int) (h1 : -1 ≤ hh) (h2 : hh ≤ 16) (a : 0 ≤ turn) (b : turn ≤ (i : Int) + 1) : Small (stepOut most short x hh v turn).1 (i + 1) := by
  have s1 := h.s1; have s2 := h.s2
  unfold stepOut
  by_cases c : v ≠ -1 ∧ v ≠ hh
  · rw [if_pos c]
    exact ⟨by dsimp only; omega, by dsimp only; omega, a, by dsimp only; omega, by dsimp only; omega, by dsimp only; omega⟩
  · rw [if_neg c]
    exact ⟨by dsimp only; omega, by dsimp only; omega, a, by dsimp only; omega, by dsimp only; omega, by dsimp only; omega⟩
theorem Small.zero (h : Int) (i : Nat) (h1 : -2 ≤ h) (h2 : h ≤ 16) : Small ⟨h, 0, 0, false⟩ i :=
  ⟨h1, h2, by dsimp only; omega, by dsimp only; omega, by dsimp only; omega, by dsimp only; omega⟩
theorem Small.step {x : St} {i : Nat} (h : Small x i) (least most short hh v : Int) (h1 : -1 ≤ hh) (h2 : hh ≤ 16) : Small (stepF least most short x hh v).1 (i + 1) := by
  have t1 := h.t1; have t2 := h.t2
  unfold stepF
  split
  · exact Small.zero _ _ (by omega) (by omega)
  · split
    · exact h.out _ _ _ _ _ h1 h2 (by omega) (by omega)
    · split
      · exact Small.zero _ _ (by omega) (by omega)
      · split
        · exact Small.zero _ _ (by omega) (by omega)
        · exact h.out _ _ _ _ _ h1 h2 (by omega) (by omega)
theorem mem_upTo {set p : Int} {k : Nat} : p ∈ upTo set k ↔ -1 ≤ p ∧ p < (k : Int) - 1 ∧ inSet set p = true := by
  unfold upTo
  rw [List.mem_filter, List.mem_map]
  constructor
  · rintro ⟨⟨i, hi, rfl⟩, h⟩
    have := List.mem_range.1 hi
    exact ⟨by omega, by omega, h⟩
  · rintro ⟨h1, h2, h3⟩
    exact ⟨⟨(p + 1).toNat, List.mem_range.2 (by omega), by omega⟩, h3⟩
theorem mem_partsOf {least most short : Int} {x : St} {floor heard : Int} {n : Nat} {p : (Int × Int) × St} :
    p ∈ partsOf least most short x floor heard n ↔ p.1.1 ∈ upTo floor (n + 1) ∧ p.1.2 ∈ upTo heard (n + 1) ∧ stepF least most short x p.1.1 p.1.2 = (p.2, true) := by
  unfold partsOf rowOf voiceOf
  rw [List.mem_flatMap]
  constructor
  · rintro ⟨h, hh, hp⟩
    obtain ⟨v, hv, hp⟩ := List.mem_flatMap.1 hp
    split at hp
    · rename_i hs
      obtain rfl := List.mem_singleton.1 hp
      exact ⟨hh, hv, by rw [← hs]⟩
    · cases hp
  · rintro ⟨hh, hv, hs⟩
    refine ⟨p.1.1, hh, List.mem_flatMap.2 ⟨p.1.2, hv, ?_⟩⟩
    rw [hs]; simp
theorem small_parts {least most short : Int} {x : St} {floor heard : Int} {n i : Nat} (hn : n ≤ 12) (hx : Small x i) {p : (Int × Int) × St} (hp : p ∈ partsOf least most short x floor heard n) : Small p.2 (i + 1) := by
  obtain ⟨h1, _, h3⟩ := mem_partsOf.1 hp
  obtain ⟨a, b, _⟩ := mem_upTo.1 h1
  have := hx.step least most short p.1.1 p.1.2 a (by omega)
  rw [h3] at this
  exact this
set_option maxRecDepth 100000 in
set_option maxHeartbeats 2000000 in
theorem leads.calls (g : Nat) (n : Nat) (hn : n ≤ 12) (least most short reach : Int) (A : Option Addr) (c : Nat) (l : List S52) (sb so lenS cS : Nat) (i : Nat) (x : St) (b : Nat) (M : St → Option Unit) (w : World)
    (hg : w.heap[g]? = some (.cells #[.int .i64 n, .int .i64 least, .int .i64 most, .int .i64 short, .slice A l.length c, .slice (some ⟨sb, so, none⟩) lenS cS, .int .i64 reach] 107 (0, 0)))
    (hr : Kd.C k52 w A l.length l) (hi : i < l.length) (hl : l.length ≤ 40) (hiS : i + 1 < lenS) (hS : lenS ≤ 100)
    (hs : w.cell? ⟨sb, so + (i + 1), none⟩ = some (.map (some b))) (hM : MapIs EB w b M) (hx : Small x 60) :
    Calls Try.prog 82 #[.pointer (some ⟨g, 0, none⟩), .int .i64 i, .agg #[.int .i64 x.holder, .int .i64 x.turn, .int .i64 x.short, .bool x.own]] w fun e w' =>
      ∃ r, e = .returned (.bool r) ∧ (r = true ↔ ∃ p ∈ partsOf least most short x l[i].f0 l[i].f1 n, M p.2 ≠ none) ∧ Below w.heap.size w w' := by
  have hmx : Try.prog.follows .mixedOrders = true := by kernel_rfl
  have hu := Try.underlying33
  have hu1 := Try.underlying109
  have hu2 := Try.underlying52
  have hu3 := Try.underlying107
  refine (callsIn_wide (n := 0)).1 ?_
  refine callsIn_of_wp_marks Try.func82 rfl trivial ?_ rfl
  simp only [Try.ntmps82, List.size_toArray, List.length_cons, List.length_nil, Nat.reduceAdd, Nat.reduceSub, Array.replicate_succ, Array.replicate_zero, List.push_toArray, List.append_toArray, List.nil_append, List.cons_append]
  obtain ⟨ad, rfl, m0, m1⟩ := at_T52 hr i (by omega) (by omega)
  have hrd : rd_T52 l (i : Int) = l[i] := by simp [rd_T52, List.getD, hi]
  rw [hrd, Int.toNat_natCast] at m0 m1
  obtain ⟨⟨mf, mh⟩, hm⟩ : ∃ m, l[i] = m := ⟨_, rfl⟩
  rw [hm] at m0 m1 ⊢
  simp only [] at m0 m1 ⊢
  clear hrd hm
  have kg : g < w.heap.size := (Array.getElem?_eq_some_iff.1 hg).1
  have cg : ∀ j v, (#[.int .i64 (n : Int), .int .i64 least, .int .i64 most, .int .i64 short, .slice (some ad) l.length c, .slice (some ⟨sb, so, none⟩) lenS cS, .int .i64 reach] : Array Value)[j]? = some v → w.cell? ⟨g, j, none⟩ = some v := fun j v hv => by simp [World.cell?, hg, hv]
  have g0 := cg 0 _ rfl
  have g1 := cg 1 _ rfl
  have g2 := cg 2 _ rfl
  have g3 := cg 3 _ rfl
  have g4 := cg 4 _ rfl
  have g5 := cg 5 _ rfl
  simp only [List.getElem_toArray, List.getElem_cons_zero, List.getElem_cons_succ] at g0 g1 g2 g3 g4 g5
  have km := World.block_lt_of_cell? w _ m0
  have ks := World.block_lt_of_cell? w _ hs
  have kg1 : g < w.heap.size + 1 := by omega
  have kg2 : g < w.heap.size + 1 + 1 := by omega
  have kg3 : g < w.heap.size + 1 + 1 + 1 := by omega
  have km1 : (ad.add (i * 2)).block < w.heap.size + 1 := by omega
  have km2 : (ad.add (i * 2)).block < w.heap.size + 1 + 1 := by omega
  have km3 : (ad.add (i * 2)).block < w.heap.size + 1 + 1 + 1 := by omega
  have hi2 : (i : Int) < l.length := by omega
  have HG := Lib.hid hg
  have HR := Lib.hid hr
  have HM := Lib.hid hM
  clear hg hr hM cg
  gi_wp2
  refine wpIn_region_still_tail .wide 13 hmx (by kernel_rfl) (by kernel_rfl) ?_
  simp only [List.take_succ_cons, List.take_zero, List.drop_succ_cons, List.drop_zero]
  repeat still_step
  refine wpStill_nil ?_
  gi_wp2
  obtain ⟨W, hW⟩ : ∃ W, ((((w.alloc (.cells #[.pointer (some ⟨g, 0, none⟩)] 101)).alloc (.cells #[.int .i64 i] 3)).alloc (.cells #[.int .i64 x.holder, .int .i64 x.turn, .int .i64 x.short, .bool x.own] 109)).alloc (.cells #[.bool false] 4)).drew = W := ⟨_, rfl⟩
  have hWb : Below w.heap.size w W := by
    rw [← hW]
    exact ((((((Below.refl _ w).alloc (Nat.le_refl _) _).alloc (by simp) _).alloc (by simp; omega) _).alloc (by simp; omega) _)).drew
  have hWs : W.heap.size = w.heap.size + 4 := by rw [← hW]; simp
  have c0 : W.heap[w.heap.size]? = some (.cells #[.pointer (some ⟨g, 0, none⟩)] 101 (0, 0)) := by
    rw [← hW]; exact heap_old (heap_old (heap_old (heap_new rfl)))
  have c1 : W.heap[w.heap.size + 1]? = some (.cells #[.int .i64 i] 3 (0, 0)) := by
    rw [← hW]; exact heap_old (heap_old (heap_new (by simp)))
  have c3 : W.heap[w.heap.size + 3]? = some (.cells #[.bool false] 4 (0, 0)) := by
    rw [← hW]; exact heap_new (by simp)
  rw [hW]
  have HC0 := Lib.hid c0
  have HC1 := Lib.hid c1
  have HC3 := Lib.hid c3
  clear hW c0 c1 c3
  refine ⟨trivial, rfl, (callsIn_wide.2 (parts.calls n least most short mf mh _ x W)).mono ?_⟩
  rintro e W1 ⟨rfl, hW1⟩
  have hb0 : W1.heap[W.heap.size]? = some (.cells #[.int .i64 n, .int .i64 least, .int .i64 most, .int .i64 short, .slice (some ad) l.length c] 33 (0, 0)) := by
    rw [hW1]; exact heap_old (heap_old (heap_old (heap_new rfl)))
  have hb1 : W1.heap[W.heap.size + 1]? = some (.cells #[.int .i64 x.holder, .int .i64 x.turn, .int .i64 x.short, .bool x.own] 109 (0, 0)) := by
    rw [hW1]; exact heap_old (heap_old (heap_new (by simp)))
  have hb2 : W1.heap[W.heap.size + 2]? = some (.cells #[.int .u16 mf, .int .u16 mh] 52 (0, 0)) := by
    rw [hW1]; exact heap_old (heap_new (by simp))
  have hb3 : W1.heap[W.heap.size + 3]? = some (.cells #[.func (.func 67) #[.agg #[.int .i64 n, .int .i64 least, .int .i64 most, .int .i64 short, .slice (some ad) l.length c]] #[]] 129 (0, 0)) := by
    rw [hW1]; exact heap_new (by simp)
  have hWb1 : Below w.heap.size w W1 := by
    rw [hW1]
    exact (((hWb.alloc (by omega) _).alloc (by simp; omega) _).alloc (by simp; omega) _).alloc (by simp; omega) _
  have hWs1 : W1.heap.size = w.heap.size + 8 := by rw [hW1]; simp [hWs]
  have d0 : W1.heap[w.heap.size]? = some (.cells #[.pointer (some ⟨g, 0, none⟩)] 101 (0, 0)) := by rw [hW1]; exact heap_old (heap_old (heap_old (heap_old HC0.out)))
  have d1 : W1.heap[w.heap.size + 1]? = some (.cells #[.int .i64 i] 3 (0, 0)) := by rw [hW1]; exact heap_old (heap_old (heap_old (heap_old HC1.out)))
  have d3 : W1.heap[w.heap.size + 3]? = some (.cells #[.bool false] 4 (0, 0)) := by rw [hW1]; exact heap_old (heap_old (heap_old (heap_old HC3.out)))
  clear hW1
  have HWs := Lib.hid hWs
  clear hWs
  gi_wp2
  have hWs := HWs.out
  have ht1 := hx.t1
  have ht2 := hx.t2
  have hs1 := hx.s1
  have hs2 := hx.s2
  refine wpIn_iter (gf := 73) (lb := #[.pointer (some ⟨W.heap.size, 0, none⟩), .pointer (some ⟨W.heap.size + 2, 0, none⟩), .pointer (some ⟨W.heap.size + 3, 0, none⟩), .pointer (some ⟨W.heap.size + 1, 0, none⟩)]) rfl (enters_of Try.func73 (by kernel_rfl) rfl)
    (parts1.iter n hn least most short mf mh _ x ht1 (by omega) hs1 (by omega) W.heap.size W1 hb0 hb1 hb2 hb3) (Nat.le_refl _) (fun _ _ => rfl) (fun k hk => by have := hk.2; omega) (fun _ => rfl)
    (fun pre W' => (Below w.heap.size w W' ∧ W'.heap[w.heap.size]? = some (.cells #[.pointer (some ⟨g, 0, none⟩)] 101 (0, 0)) ∧ W'.heap[w.heap.size + 1]? = some (.cells #[.int .i64 i] 3 (0, 0)) ∧ W'.heap[w.heap.size + 3]? = some (.cells #[.bool false] 4 (0, 0)) ∧ W1.heap.size ≤ W'.heap.size) ∧ ∀ p ∈ pre, M p.2 = none)
    (fun c pre W' => (c = .ret ∧ ∃ p ∈ pre, M p.2 ≠ none) ∧ Below w.heap.size w W' ∧ W'.heap[w.heap.size + 3]? = some (.cells #[.bool true] 4 (0, 0)))
    ((OwnFrom.and (ownFrom_below (by omega) (Nat.le_refl _)) (OwnFrom.and (ownFrom_block (fun _ => _) (by omega)) (OwnFrom.and (ownFrom_block (fun _ => _) (by omega)) (OwnFrom.and (ownFrom_block (fun _ => _) (by omega)) ownFrom_size)))).and (ownFrom_pure _ _))
    (fun c => OwnFrom.and (ownFrom_pure _ _) (OwnFrom.and (ownFrom_below (by omega) (Nat.le_refl _)) (ownFrom_block (fun _ => _) (by omega))))
    ⟨⟨hWb1, d0, d1, d3, Nat.le_refl _⟩, fun p hp => by cases hp⟩
    (fun pre p a' W' => ∃ B, W1.heap.size ≤ B ∧ W'.heap[B]? = some (.cells #[.int .i64 p.2.holder, .int .i64 p.2.turn, .int .i64 p.2.short, .bool p.2.own] 109 (0, 0)) ∧ a' = { tmps := #[.pointer (some ⟨g, 0, none⟩), .int .i64 i, .agg #[.int .i64 x.holder, .int .i64 x.turn, .int .i64 x.short, .bool x.own], .pointer (some ⟨w.heap.size, 0, none⟩), .pointer (some ⟨w.heap.size + 1, 0, none⟩), .pointer (some ⟨w.heap.size + 1 + 1, 0, none⟩), .pointer (some ⟨w.heap.size + 1 + 1 + 1, 0, none⟩), undef, .pointer (some ⟨B, 0, none⟩), .pointer (some ⟨g, 0, none⟩), .pointer (some ⟨g, 0, none⟩), .pointer (some ⟨g, 0, none⟩), .agg #[.int .i64 n, .int .i64 least, .int .i64 most, .int .i64 short, .slice (some ad) l.length c], .agg #[.int .i64 x.holder, .int .i64 x.turn, .int .i64 x.short, .bool x.own], .pointer (some ⟨g, 0, none⟩), .pointer (some ⟨g, 0, none⟩), .pointer (some ⟨g, 0, none⟩), .pointer (some ⟨g, 4, none⟩), .slice (some ad) l.length c, .int .i64 i, .pointer (some (ad.add (i * 2))), .agg #[.int .u16 mf, .int .u16 mh], .func (.func 73) #[] #[.pointer (some ⟨W.heap.size, 0, none⟩), .pointer (some ⟨W.heap.size + 2, 0, none⟩), .pointer (some ⟨W.heap.size + 3, 0, none⟩), .pointer (some ⟨W.heap.size + 1, 0, none⟩)], .agg #[.int .i64 p.1.1, .int .i64 p.1.2], .agg #[.int .i64 p.2.holder, .int .i64 p.2.turn, .int .i64 p.2.short, .bool p.2.own], undef, undef, undef, undef, undef, undef, undef, undef, undef, undef], defers := [] })
    (fun pre p a' _ A A' row hs hg hr => by obtain ⟨B, e1, e2, e3⟩ := hs; exact ⟨B, e1, ownFrom_cells (fun (_ : Unit) => #[.int .i64 p.2.holder, .int .i64 p.2.turn, .int .i64 p.2.short, .bool p.2.own]) 109 () A A' row e2 hg hr, e3⟩)
    ?assign ?body ?done ?stop
  case assign =>
    rintro l1 pre p post W2 K hx' ⟨⟨hI1, hI2, hI3, hI4, hI6⟩, hI5⟩ hK
    clear hWs
    simp only [encPart, encSt]
    gi_wp2
    have hs := hI1.size
    exact hK _ _ (KeptC.alloc _ _ _ _) ⟨⟨hI1.alloc (by omega) _, heap_old hI2, heap_old hI3, heap_old hI4, by simp; omega⟩, hI5⟩ ⟨_, hI6, heap_new rfl, rfl⟩
  case body =>
    rintro l1 pre p post a' W2 hx' hl1 ⟨r1, hr1⟩ ⟨⟨hI1, hI2, hI3, hI4, hI6⟩, hI5⟩ ⟨B, hB, hbB, rfl⟩
    have hsz := hI1.size
    have hsp : Small p.2 61 := small_parts hn hx (by rw [hx']; simp)
    have hlk : (Instr.lookup 104 (.map (some b)) (.agg #[.int .i64 p.2.holder, .int .i64 p.2.turn, .int .i64 p.2.short, .bool p.2.own]) false).run Try.prog W2.drew = .ok (.bool (M p.2).isSome) W2.drew := by
      have := ((HM.out.same (w' := W2.drew) (hI1.block b (HM.out.lt))).look p.2 (hsp.box (by omega)))
      cases hMp : M p.2 <;> (rw [hMp] at this; exact this)
    have e0 := cell_of hI2 (i := 0) rfl
    have e1 := cell_of hI3 (i := 0) rfl
    have e5 := (hI1.cell (p := ⟨g, 5, none⟩) kg).trans g5
    obtain ⟨j, hj⟩ : ∃ j, i + 1 = j := ⟨_, rfl⟩
    have es := (hI1.cell (p := ⟨sb, so + (i + 1), none⟩) ks).trans hs
    rw [hj] at es
    have hwr : IntKind.i64.wrap ((i : Int) + 1) = (j : Int) := by simp [IntKind.wrap, IntKind.bits, IntKind.signed]; omega
    have hjl : (j : Int) < lenS := by omega
    have eB0 := cell_of hbB (i := 0) rfl
    have eB1 := cell_of hbB (i := 1) rfl
    have eB2 := cell_of hbB (i := 2) rfl
    have eB3 := cell_of hbB (i := 3) rfl
    clear g0 g1 g2 g3 g4 g5 m0 m1 hb0 hb1 hb2 hb3 d0 d1 d3
    gi_wp2
    refine wpIn_region_still (.round l1) hmx (by kernel_rfl) (by kernel_rfl) ?_
    repeat still_step
    refine wpStill_nil ?_
    have HI2 := Lib.hid hI2
    have HI3 := Lib.hid hI3
    have HI4 := Lib.hid hI4
    have hkd : KeptC (partsC W.heap.size) W1.heap.size W2 W2.drew := KeptC.drew _ _ _
    cases hMp : M p.2 with
    | none =>
      simp only [hMp, Option.isSome_none]
      clear hI2 hI3 hI4 hlk hr1
      gi_wp2
      refine ⟨hkd, ⟨hI1.drew, HI2.out, HI3.out, HI4.out, hI6⟩, fun q hq => ?_⟩
      rcases List.mem_append.1 hq with hq | hq
      · exact hI5 q hq
      · rw [List.mem_singleton.1 hq]; exact hMp
    | some u =>
      simp only [hMp, Option.isSome_some]
      have q3 : w.heap.size + 1 + 1 + 1 < W2.heap.size := by omega
      have e3 : W2.cell? ⟨w.heap.size + 1 + 1 + 1, 0, none⟩ = _ := cell_of hI4 (i := 0) rfl
      have e3f : W2.frozen? ⟨w.heap.size + 1 + 1 + 1, 0, none⟩ = false := not_frozen hI4
      clear hI2 hI3 hI4 hlk hr1
      have hd3 : ¬ partsC W.heap.size (w.heap.size + 3) := fun h => by have := h.1; have := HWs.out; omega
      gi_wp2
      exact ⟨(KeptC.setCell (B := W1.heap.size) W2 ⟨w.heap.size + 1 + 1 + 1, 0, none⟩ (.bool true) hd3 (by show w.heap.size + 3 < W1.heap.size; omega)).trans (KeptC.drew _ _ _), ⟨rfl, p, by simp, by rw [hMp]; simp⟩, (hI1.setCell (p := ⟨w.heap.size + 1 + 1 + 1, 0, none⟩) (by show w.heap.size ≤ w.heap.size + 3; omega) _).drew, heap_set HI4.out 0 _⟩
  case done =>
    rintro D W2 hD ⟨⟨hI1, hI2, hI3, hI4, hI6⟩, hI5⟩ hK
    have q3 : w.heap.size + 1 + 1 + 1 < W2.heap.size := by omega
    have e3 : W2.cell? ⟨w.heap.size + 1 + 1 + 1, 0, none⟩ = _ := cell_of hI4 (i := 0) rfl
    have e3f : W2.frozen? ⟨w.heap.size + 1 + 1 + 1, 0, none⟩ = false := not_frozen hI4
    have HI4 := Lib.hid hI4
    have hne : D ≠ w.heap.size + 3 := fun e => by omega
    clear hI2 hI3 hI4
    gi_wp2
    have hK2 : (W2.setCell ⟨w.heap.size + 1 + 1 + 1, 0, none⟩ (.bool false)).heap[D]? = some (.deferred (some [])) := (Below.heap_setCell _ _ _ _ hne).trans hK
    have hr2 : (W2.setCell ⟨w.heap.size + 1 + 1 + 1, 0, none⟩ (.bool false)).heap[w.heap.size + 3]? = some (.cells #[.bool false] 4 (0, 0)) := heap_set HI4.out 0 _
    refine ⟨by simp, .inl ⟨_, _, rfl, run_takeDeferred hK2, ?_⟩⟩
    have hr3 := cell_of (putObj_old (o := .deferred none) hne.symm hr2) (i := 0) rfl
    refine ⟨_, by simp [results, Try.results82, go_sem, hr3]; rfl, _, rfl, ?_, ?_⟩
    · refine ⟨fun h => by (first | cases h | trivial), fun ⟨q, hq, hq2⟩ => absurd (hI5 q hq) hq2⟩
    · exact below_putObj (hI1.setCell (p := ⟨w.heap.size + 1 + 1 + 1, 0, none⟩) (by show w.heap.size ≤ w.heap.size + 3; omega) _) (by omega) _
  case stop =>
    rintro D c pre p post W2 hD hx' ⟨⟨rfl, hM2⟩, hI1, hI4⟩ hK
    have hne : D ≠ w.heap.size + 3 := fun e => by omega
    gi_wp2
    refine ⟨by simp, .inl ⟨_, _, rfl, run_takeDeferred hK, ?_⟩⟩
    have hr3 := cell_of (putObj_old (o := .deferred none) hne.symm hI4) (i := 0) rfl
    refine ⟨_, by simp [results, Try.results82, go_sem, hr3]; rfl, _, rfl, ?_, ?_⟩
    · refine ⟨fun _ => ?_, fun _ => rfl⟩
      obtain ⟨q, hq, hq2⟩ := hM2
      refine ⟨q, ?_, hq2⟩
      rw [hx']
      rcases List.mem_append.1 hq with hq | hq
      · exact List.mem_append_left _ hq
      · rw [List.mem_singleton.1 hq]; simp
    · exact below_putObj hI1 (by omega) _
end Go.Proofs.Ytdnjmhhjjbdieaa.Q
end
section
namespace Go.Proofs.Ytdnjmhhjjbdieaa.Q
open Go.RowKit Go.Shelf
set_option linter.unusedVariables false
structure Fr (X : Nat → Prop) (W W' : World) : Prop where
  os : W'.os = W.os
  tape : W'.tape = W.tape
  output : W'.output = W.output
  size : W.heap.size ≤ W'.heap.size
  same : ∀ k, k < W.heap.size → ¬ X k → W'.heap[k]? = W.heap[k]?
theorem Fr.refl (X : Nat → Prop) (W : World) : Fr X W W := ⟨rfl, rfl, rfl, Nat.le_refl _, fun _ _ _ => rfl⟩
theorem Fr.trans {X : Nat → Prop} {A B C : World} (h : Fr X A B) (k : Fr X B C) : Fr X A C :=
  ⟨k.os.trans h.os, k.tape.trans h.tape, k.output.trans h.output, Nat.le_trans h.size k.size, fun i hi hx => (k.same i (Nat.lt_of_lt_of_le hi h.size) hx).trans (h.same i hi hx)⟩
theorem Fr.mono {X Y : Nat → Prop} {A B : World} (h : Fr X A B) (hxy : ∀ k, k < A.heap.size → X k → Y k) : Fr Y A B :=
  ⟨h.os, h.tape, h.output, h.size, fun i hi hy => h.same i hi (fun hx => hy (hxy i hi hx))⟩
theorem Fr.of_below {X : Nat → Prop} {A B : World} {n : Nat} (h : Below n A B) (hx : ∀ k, k < A.heap.size → n ≤ k → X k) : Fr X A B :=
  ⟨h.os, h.tape, h.output, h.size, fun i hi hn => h.block i (Nat.lt_of_not_le (fun hc => hn (hx i hi hc)))⟩
theorem Fr.alloc {X : Nat → Prop} (W : World) (o : Obj) : Fr X W (W.alloc o) := Fr.of_below ((Below.refl _ W).alloc (Nat.le_refl _) o) (fun k hk hn => absurd hk (Nat.not_lt.2 hn))
theorem Fr.drew {X : Nat → Prop} (W : World) : Fr X W W.drew := ⟨rfl, rfl, rfl, Nat.le_refl _, fun _ _ _ => rfl⟩
theorem Fr.setCell {X : Nat → Prop} (W : World) (a : Addr) (v : Value) (hx : X a.block) : Fr X W (W.setCell a v) :=
  ⟨rfl, rfl, rfl, by simp [World.setCell], fun k _ hk => Below.heap_setCell W a v k (fun e => hk (e ▸ hx))⟩
theorem Fr.grown {X : Nat → Prop} {W W' : World} {row : Option Nat} (h : W.grownBy W' row) (hx : ∀ r, row = some r → X r) : Fr X W W' :=
  ⟨h.os, h.tape, h.output, h.size, fun k hk hn => h.block k hk (fun e => hn (hx k e.symm))⟩
theorem Fr.putObj {X : Nat → Prop} (W : World) (D : Nat) (o : Obj) (hx : X D) : Fr X W (W.putObj D o) :=
  ⟨rfl, rfl, rfl, by simp, fun k _ hk => World.putObj_heap_other (fun e => hk (e ▸ hx))⟩
theorem Fr.below {X : Nat → Prop} {A B : World} (h : Fr X A B) {n : Nat} (hn : n ≤ A.heap.size) (hx : ∀ k, k < n → ¬ X k) : Below n A B :=
  ⟨h.os, h.tape, h.output, h.size, fun k hk => h.same k (by omega) (hx k hk)⟩
theorem Fr.cell {X : Nat → Prop} {A B : World} (h : Fr X A B) {p : Addr} {v : Value} (hc : A.cell? p = some v) (hx : ¬ X p.block) : B.cell? p = some v := by
  have hb : p.block < A.heap.size := World.block_lt_of_cell? A _ hc
  have := h.same p.block hb hx
  simp only [World.cell?] at hc ⊢
  rw [this]; exact hc
theorem ownFrom_fr {β : Type} {B : Nat} {X : Nat → Prop} {W0 : World} (hB : W0.heap.size ≤ B) : OwnFrom B (fun (_ : β) W => Fr X W0 W) :=
  fun s W W' row hs hg hr => ⟨hg.os.trans hs.os, hg.tape.trans hs.tape, hg.output.trans hs.output, Nat.le_trans hs.size hg.size,
    fun k hk hx => (hg.block k (by have := hs.size; omega) (fun e => by have := (hr k e.symm).1; omega)).trans (hs.same k hk hx)⟩
def marksOf (ns : List Nat) : List Deferred := ns.map fun D => { target := .collected D, args := #[] }
def Coll (lo hi : Nat) (ds : List Deferred) (W : World) : Prop :=
  ∃ ns : List Nat, ds = marksOf ns ∧ ns.Nodup ∧ ∀ D ∈ ns, lo ≤ D ∧ D < hi ∧ W.heap[D]? = some (.deferred (some []))
theorem Coll.nil (lo hi : Nat) (W : World) : Coll lo hi [] W := ⟨[], rfl, List.nodup_nil, fun D h => by cases h⟩
theorem Coll.push {lo hi D hi' : Nat} {ds : List Deferred} {W : World} (h : Coll lo hi ds W) (hlo : lo ≤ D) (hD : hi ≤ D) (hh : D < hi') (hK : W.heap[D]? = some (.deferred (some []))) :
    Coll lo hi' ({ target := .collected D, args := #[] } :: ds) W := by
  obtain ⟨ns, rfl, hn, ha⟩ := h
  refine ⟨D :: ns, rfl, List.nodup_cons.2 ⟨fun hm => by have := (ha D hm).2.1; omega, hn⟩, fun d hd => ?_⟩
  rcases List.mem_cons.1 hd with rfl | hd
  · exact ⟨hlo, hh, hK⟩
  · have := ha d hd; exact ⟨this.1, by omega, this.2.2⟩
theorem Coll.up {lo hi hi' : Nat} {ds : List Deferred} {W : World} (h : Coll lo hi ds W) (hh : hi ≤ hi') : Coll lo hi' ds W := by
  obtain ⟨ns, rfl, hn, ha⟩ := h
  exact ⟨ns, rfl, hn, fun d hd => by have := ha d hd; exact ⟨this.1, by omega, this.2.2⟩⟩
def SameMarks (W W' : World) : Prop := ∀ D : Nat, W.heap[D]? = some (.deferred (some [])) → W'.heap[D]? = some (.deferred (some []))
theorem SameMarks.refl (W : World) : SameMarks W W := fun _ h => h
theorem SameMarks.trans {A B C : World} (h : SameMarks A B) (k : SameMarks B C) : SameMarks A C := fun D q => k D (h D q)
theorem Coll.same {lo hi : Nat} {ds : List Deferred} {W W' : World} (h : Coll lo hi ds W) (hs : SameMarks W W') : Coll lo hi ds W' := by
  obtain ⟨ns, rfl, hn, ha⟩ := h
  exact ⟨ns, rfl, hn, fun d hd => by have := ha d hd; exact ⟨this.1, this.2.1, hs d this.2.2⟩⟩
theorem SameMarks.alloc (W : World) (o : Obj) : SameMarks W (W.alloc o) := fun D h => heap_old h
theorem SameMarks.drew (W : World) : SameMarks W W.drew := fun D h => h
theorem SameMarks.setCell (W : World) (a : Addr) (v : Value) : SameMarks W (W.setCell a v) := fun D h => by
  simp only [World.setCell, Array.getElem?_modify]
  split
  · rw [h]; rfl
  · exact h
theorem SameMarks.below {n : Nat} {W W' : World} (h : Below n W W') (hn : W.heap.size ≤ n) : SameMarks W W' := fun D q => (h.block D (by have := (Array.getElem?_eq_some_iff.1 q).1; omega)).trans q
theorem SameMarks.grown {W W' : World} {row : Option Nat} (h : W.grownBy W' row) (hr : ∀ r, row = some r → W.heap[r]? ≠ some (.deferred (some []))) : SameMarks W W' := fun D q =>
  (h.block D (Array.getElem?_eq_some_iff.1 q).1 (fun e => hr D e.symm q)).trans q
theorem SameMarks.fr {X : Nat → Prop} {W W' : World} (h : Fr X W W') (hx : ∀ k, X k → W.heap[k]? ≠ some (.deferred (some []))) : SameMarks W W' := fun D q =>
  (h.same D (Array.getElem?_eq_some_iff.1 q).1 (fun e => hx D e q)).trans q
theorem MapIs.noMark {β : Type} {E : Elem β} {w : World} {b : Nat} {M : St → Option β} (h : MapIs E w b M) : w.heap[b]? ≠ some (.deferred (some [])) := fun e => by
  obtain ⟨es, c, h1⟩ := h.isMap
  rw [h1] at e; cases e
theorem RangeIs.noMark {β : Type} {E : Elem β} {w : World} {b r cnt : Nat} {M : St → Option β} {L : St → Prop} (h : RangeIs E w b r M L cnt) : w.heap[r]? ≠ some (.deferred (some [])) := fun e => by
  obtain ⟨D, left, ⟨es, clock, since, seen, c0, h1, h2, h3, h4, h5, h6⟩, ht, hl⟩ := h
  rw [h5] at e; cases e
theorem ownFrom_coll {β : Type} {B lo hi : Nat} {ds : List Deferred} (hB : hi ≤ B) : OwnFrom B (fun (_ : β) W => Coll lo hi ds W) :=
  fun s W W' row hs hg hr => by
    obtain ⟨ns, rfl, hn, ha⟩ := hs
    exact ⟨ns, rfl, hn, fun d hd => by
      have := ha d hd
      exact ⟨this.1, this.2.1, (hg.block d (Array.getElem?_eq_some_iff.1 this.2.2).1 (fun e => by have := (hr d e.symm).1; omega)).trans this.2.2⟩⟩
theorem leave_marks {F : Fence} {n : Nat} {P : Program} {fn : Func} {tmps : Array Value} {R : Ending → World → Prop} {lo hi : Nat} : ∀ (ds : List Deferred) (W : World), Coll lo hi ds W →
    (∀ W', Fr (fun k => lo ≤ k ∧ k < hi ∧ W.heap[k]? = some (.deferred (some []))) W W' → LeavesInM F n P fn tmps R [] .returning W') → LeavesInM F n P fn tmps R ds .returning W := by
  intro ds
  induction ds with
  | nil => intro W _ hR; exact hR W (Fr.refl _ _)
  | cons d ds ih =>
    intro W hc hR
    obtain ⟨ns, hd, hn, ha⟩ := hc
    cases ns with
    | nil => cases hd
    | cons D ns =>
      simp only [marksOf, List.map_cons, List.cons.injEq] at hd
      obtain ⟨rfl, rfl⟩ := hd
      have hD := ha D (by simp)
      have hnd := List.nodup_cons.1 hn
      refine ⟨by simp, .inl ⟨_, _, rfl, run_takeDeferred hD.2.2, ?_⟩⟩
      refine ih _ ⟨ns, rfl, hnd.2, fun d hd => ?_⟩ (fun W' hF => ?_)
      · have := ha d (by simp [hd])
        exact ⟨this.1, this.2.1, putObj_old (fun e => hnd.1 (e ▸ hd)) this.2.2⟩
      · refine hR W' ⟨hF.os, hF.tape, hF.output, by have := hF.size; simpa using this, fun k hk hx => ?_⟩
        have hkD : k ≠ D := fun e => hx (by subst e; exact hD)
        have e1 : (W.putObj D (.deferred none)).heap[k]? = W.heap[k]? := World.putObj_heap_other hkD
        exact (hF.same k (by simpa using hk) (fun ⟨h1, h2, h3⟩ => hx ⟨h1, h2, by rw [← e1]; exact h3⟩)).trans e1
def lay : List (Option Value) → List Value → List Value
  | none :: ms, v :: vs => v :: lay ms vs
  | some u :: ms, _ :: vs => u :: lay ms vs
  | [], vs => vs
  | _ :: _, [] => []
theorem wpIn_loop_lay {F : Fence} {n : Nat} {P : Program} {c : Code} {Q : Exit → Act → World → Prop} {T : List Value} {ds : List Deferred} {w : World} (I : List Value → Act → World → Prop) (μ : Act → World → Nat)
    (h₀ : I T { tmps := T.toArray, defers := ds } w) (round : ∀ a w, I T a w → c.wpIn F n P (Exit.then (fun a' w' => I T a' w' ∧ μ a' w' < μ a w) Q) a w) : (Code.loop c).wpIn F n P Q { tmps := T.toArray, defers := ds } w :=
  wpIn_loop (I T) μ h₀ round
def inBlock (n : Nat) : Code → Option Code
  | .block k c => match Nat.beq k n with
    | true => some c
    | false => inBlock n c
  | .seq a b => match inBlock n a with
    | some c => some c
    | none => inBlock n b
  | .cond _ a b => match inBlock n a with
    | some c => some c
    | none => inBlock n b
  | .loop c => inBlock n c
  | .scope c => inBlock n c
  | .rangeFunc _ _ a b => match inBlock n a with
    | some c => some c
    | none => inBlock n b
  | _ => none
def blockOf (n : Nat) (f : Func) : Code := (f.body.bind (inBlock n)).getD .skip
end Go.Proofs.Ytdnjmhhjjbdieaa.Q
end
