/- Texts of a proof, joined: see the last one. -/
import Derived.Test.YtdnjmhhjjbdieaaWWords
import Derived.Deep.Slices
import Derived.Deep.Fields
import Derived.ChangeSame
import Derived.OpenShut
import Derived.Test.YtdnjmhhjjbdieaaProg
import Derived.Below
import Derived.Deep.Draws
import Derived.Deep.AppendLies
import Derived.Maps.AppendAt
import Derived.OwnWalk
import Derived.Laws.BytesArg
import Derived.Laws.MakeOwn
import Derived.Laws.OwnMore
import Derived.Deep.OwnRows
import Derived.Tactics
import Derived.Lib.ConvBytes
import Derived.Laws.Slices
import Derived.WalkKit
import Derived.KernelRfl
import Derived.RowKit3
import Derived.Deep.LoopGhost
import Derived.Deep.QuietTactic
import Derived.BigQuiet
import Derived.WideLaws
import Derived.Deep.DeepCutAuto
import Derived.Deep.CutBlock
import Derived.Deep.RegionHeld3
import Derived.Laws.Rows
import Derived.Lib.AppendStr
import Derived.ArgAppend
import Derived.Laws.IdiomCopy
import Derived.OrdersHeld
import Derived.Laws.BitsLemmas
import Derived.RowKit
import Derived.Test.YtdnjmhhjjbdieaaWLast
import Derived.Test.YtdnjmhhjjbdieaaWTab
import Derived.RangeFuncNested
import Derived.RangeFuncLeaves
import Derived.RangeFuncBound
import Derived.Lib.Hide
import Derived.Shelf.Abstract
import Derived.StillTail
import Derived.StillTactics
import Derived.OrdersIn
import Derived.TacticsIn
import Derived.LoopTactic
import Derived.OwnWalkIn
import Derived.TacticsInMore
import Derived.LoopNIn
import Derived.LoopIn
import Derived.StillTailTactics
import Derived.Outline
import Derived.BigRegion
import Derived.ChangeAlike
import Derived.Laws.EntriesVeiled
import Derived.Maps.RangeWalk
import Derived.DeepKeys4
import Derived.Carry
import Derived.ProofKit
import Derived.IntWalk
section
/- What an argument reads as: kinds of Go's types, opened whole. -/
namespace Go.Proofs.Ytdnjmhhjjbdieaa.Q
open Go.RowKit Go.ChangeShapes Go.WideShapes Go.Deep Go.Proofs.YtdnjmhhjjbdieaaW.PrintWords
set_option linter.unusedVariables false

/-- Whatever is read at a type is a value of the kind. -/
structure Reads {α : Type} (P : Program) (t : TypeId) (d : Kd α) (Ok : α → Prop) : Prop where
  out : ∀ {H : Type} (enc : TypeId × Value → H) (w : World) (spare : Nat → Bool) (held : Bool) (n : Nat) (cs : List Value) (x : DataW H × List MemPlace), DataW.trod enc P w 0 spare held n t cs = some x → ∃ y, d.K w y cs ∧ Ok y

variable {P : Program} {α β : Type}

theorem Reads.int {t : TypeId} {k : IntKind} (ht : P.underlying t = some (.int k)) : Reads P t (Kd.int k) (fun n => (Lit.int k n).wf = true) := by
  refine ⟨fun {H} enc w spare held n cs x h => ?_⟩
  obtain ⟨m, h1, _, h3⟩ := DataW.trod_int ht h
  exact ⟨m, h1, h3⟩

theorem Reads.slice {t e : TypeId} {d : Kd α} {Ok : α → Prop} (ht : P.underlying t = some (.slice e)) (hC : P.cellsOf e = d.sz) (h : Reads P e d Ok) : Reads P t (Kd.slice e d) (fun l => l.length ≤ maxLen ∧ ∀ y ∈ l, Ok y) := by
  refine ⟨fun {H} enc w spare held n cs x hx => ?_⟩
  rcases open_slice ht hx with ⟨rfl, _⟩ | ⟨a, len, cap, m, n', D, Pl, rfl, hb, hl, hm, hmm, _, hi⟩
  · exact ⟨[], ⟨none, 0, rfl, Nat.le_refl _, rfl, by simp, fun h => by simp at h⟩, by unfold maxLen; simp, fun y hy => by cases hy⟩
  · have hlm : len ≤ m := by rw [hmm]; split <;> omega
    have key : ∀ i, i < len → ∃ (y : α), Ok y ∧ ∃ c, c.length = d.sz ∧ d.K w y c ∧ ∀ j u, c[j]? = some u → w.cell? (a.add (i * d.sz + j)) = some u := fun i him => by
      obtain ⟨c, hc, htr⟩ := hi i (by omega)
      obtain ⟨y, hy, ho⟩ := h.out enc w spare held n' c _ htr
      obtain ⟨_, hcl, hcell⟩ := World.cells?_some hc
      rw [hC] at hcl hcell
      refine ⟨y, ho, c, hcl, hy, fun j u hu => ?_⟩
      have hj : j < c.length := (List.getElem?_eq_some_iff.1 hu).1
      have := hcell j (by omega)
      rw [Deep.add_add] at this
      exact this.trans hu
    have build : ∀ k, k ≤ len → ∃ ys : List α, ys.length = k ∧ (∀ y ∈ ys, Ok y) ∧ ∀ j p, ys[j]? = some p → ∃ c, c.length = d.sz ∧ d.K w p c ∧ ∀ i u, c[i]? = some u → w.cell? (a.add (j * d.sz + i)) = some u := by
      intro k
      induction k with
      | zero => intro _; exact ⟨[], rfl, fun y hy => (by cases hy), fun j p hp => by simp at hp⟩
      | succ k ih =>
        intro hk
        obtain ⟨ys, h1, h2, h3⟩ := ih (by omega)
        obtain ⟨y, ho, hc⟩ := key k (by omega)
        refine ⟨ys ++ [y], by simp [h1], fun z hz => ?_, fun j p hp => ?_⟩
        · rcases List.mem_append.1 hz with hz | hz
          · exact h2 z hz
          · rw [List.mem_singleton.1 hz]; exact ho
        · rcases Nat.lt_or_ge j ys.length with hj | hj
          · rw [List.getElem?_append_left hj] at hp; exact h3 j p hp
          · rw [List.getElem?_append_right hj] at hp
            have hj0 : j - ys.length = 0 := by
              rcases Nat.eq_zero_or_pos (j - ys.length) with h0 | h0
              · exact h0
              · rw [List.getElem?_eq_none (by simp; omega)] at hp; cases hp
            rw [hj0] at hp
            simp at hp
            subst hp
            have : j = k := by omega
            subst this
            exact hc
    obtain ⟨ys, h1, h2, h3⟩ := build len (Nat.le_refl _)
    subst h1
    unfold maxLen at hm
    exact ⟨ys, ⟨some a, cap, rfl, hl, rfl, by omega, fun _ => ⟨a, rfl, h3⟩⟩, by unfold maxLen; omega, h2⟩

theorem Reads.iso {t : TypeId} {d : Kd α} {Ok : α → Prop} (h : Reads P t d Ok) (f : β → α) (g : α → β) (hfg : ∀ x, f (g x) = x) : Reads P t (Kd.iso d f) (fun y => Ok (f y)) := by
  refine ⟨fun {H} enc w spare held n cs x hx => ?_⟩
  obtain ⟨y, hy, ho⟩ := h.out enc w spare held n cs x hx
  refine ⟨g y, ?_, ?_⟩
  · show d.K w (f (g y)) cs
    rw [hfg]; exact hy
  · show Ok (f (g y))
    rw [hfg]; exact ho

theorem Reads.imp {t : TypeId} {d : Kd α} {Ok Ok' : α → Prop} (h : Reads P t d Ok) (hi : ∀ y, Ok y → Ok' y) : Reads P t d Ok' := ⟨fun enc w spare held n cs x hx => by
  obtain ⟨y, hy, ho⟩ := h.out enc w spare held n cs x hx
  exact ⟨y, hy, hi y ho⟩⟩

/-- A struct of two fields. -/
theorem Reads.struct2 {t : TypeId} {f0 f1 : Field} {d0 : Kd α} {d1 : Kd β} {O0 : α → Prop} {O1 : β → Prop} (hs : P.underlying t = some (.struct #[f0, f1])) (o0 : f0.offset = 0) (o1 : f1.offset = d0.sz)
    (c0 : P.cellsOf f0.type = d0.sz) (c1 : P.cellsOf f1.type = d1.sz) (hc : P.cellsOf t = d0.sz + d1.sz) (h0 : Reads P f0.type d0 O0) (h1 : Reads P f1.type d1 O1) : Reads P t (Kd.pair d0 d1) (fun y => O0 y.1 ∧ O1 y.2) := by
  refine ⟨fun {H} enc w spare held n cs x hx => ?_⟩
  obtain ⟨xs, m, _, _, hlen, hxl, hf⟩ := DataW.trod_struct hs hx
  have e0 := hf 0 f0 rfl
  have e1 := hf 1 f1 rfl
  have hxl : xs.length = 2 := hxl
  rw [o0, c0, List.drop_zero, List.getElem?_eq_getElem (by omega)] at e0
  rw [o1, c1, List.getElem?_eq_getElem (by omega)] at e1
  obtain ⟨y0, k0, q0⟩ := h0.out enc w spare held m _ _ e0
  obtain ⟨y1, k1, q1⟩ := h1.out enc w spare held m _ _ e1
  rw [hc] at hlen
  have : cs = cs.take d0.sz ++ (cs.drop d0.sz).take d1.sz := by
    rw [List.take_of_length_le (l := cs.drop d0.sz) (by rw [List.length_drop]; omega), List.take_append_drop]
  exact ⟨(y0, y1), ⟨_, _, this, k0, k1⟩, q0, q1⟩

/-- One of some fields. -/
theorem Reads.field {t : TypeId} {fs : Array Field} {f : Field} {d : Kd α} {Ok : α → Prop} {i : Nat} (hs : P.underlying t = some (.struct fs)) (hi : fs[i]? = some f) (c : P.cellsOf f.type = d.sz) (h : Reads P f.type d Ok)
    {H : Type} {enc : TypeId × Value → H} {w : World} {spare : Nat → Bool} {held : Bool} {n : Nat} {cs : List Value} {x : DataW H × List MemPlace} (hx : DataW.trod enc P w 0 spare held n t cs = some x) : ∃ y, d.K w y ((cs.drop f.offset).take d.sz) ∧ Ok y := by
  obtain ⟨xs, m, _, _, hlen, hxl, hf⟩ := DataW.trod_struct hs hx
  have e := hf i f hi
  have hl : i < xs.length := by rw [hxl]; exact (Array.getElem?_eq_some_iff.1 hi).1
  rw [c, List.getElem?_eq_getElem hl] at e
  exact h.out enc w spare held m _ _ e
end Go.Proofs.Ytdnjmhhjjbdieaa.Q
end

section
-- printed by wip/tools/qprint.py, a program of this session's, out of the translation. Not trusted: Lean checks it.
namespace Go.Proofs.Ytdnjmhhjjbdieaa.Q
open Go.RowKit Go.Proofs.YtdnjmhhjjbdieaaW.PrintWords Go.Proofs.YtdnjmhhjjbdieaaW.PrintLast
set_option linter.unusedVariables false
set_option linter.unusedSimpArgs false



def errW : Option Int → Value
  | none => .nilIface
  | some c => .iface 0 (.int .i64 c)
theorem errW_none : errW none = .nilIface := rfl
theorem errW_some (c : Int) : errW (some c) = .iface 0 (.int .i64 c) := rfl

theorem info52 : (Try.prog.info? 52).map (fun i => (i.zero, i.size, i.bytes)) = some (some (.agg #[(.int .u16 0), (.int .u16 0)]), 2, 4) := by kernel_rfl
theorem info54 : (Try.prog.info? 54).map (fun i => (i.zero, i.size, i.bytes)) = some (some (.agg #[(.int .u16 0), (.int .u16 0)]), 2, 4) := by kernel_rfl
theorem info59 : (Try.prog.info? 59).map (fun i => (i.zero, i.size, i.bytes)) = some (some (.agg #[(.int .u16 0), (.int .u16 0)]), 2, 4) := by kernel_rfl
theorem info65 : (Try.prog.info? 65).map (fun i => (i.zero, i.size, i.bytes)) = some (some (.agg #[(.int .i64 0), (.int .i64 0)]), 2, 16) := by kernel_rfl
theorem info79 : (Try.prog.info? 79).map (fun i => (i.zero, i.size, i.bytes)) = some (some (.agg #[(.int .i64 0), (.int .i64 0)]), 2, 16) := by kernel_rfl
theorem info84 : (Try.prog.info? 84).map (fun i => (i.zero, i.size, i.bytes)) = some (some (.slice none 0 0), 1, 24) := by kernel_rfl
theorem info89 : (Try.prog.info? 89).map (fun i => (i.zero, i.size, i.bytes)) = some (some (.agg #[(.int .i64 0), (.int .i64 0)]), 2, 16) := by kernel_rfl
theorem info100 : (Try.prog.info? 100).map (fun i => (i.zero, i.size, i.bytes)) = some (some (.agg #[(.int .u16 0), (.int .u16 0)]), 2, 4) := by kernel_rfl
theorem info123 : (Try.prog.info? 123).map (fun i => (i.zero, i.size, i.bytes)) = some (some (.agg #[(.int .i64 0), (.int .i64 0)]), 2, 16) := by kernel_rfl
-- the values' own types
/-! #### struct type 59 -/
structure S59 where
  f0 : Int
  f1 : Int
def z59 : S59 := ⟨(0 : Int), (0 : Int)⟩
def k59 : Kd S59 := Kd.iso (Kd.pair (Kd.int .u16) (Kd.int .u16)) (fun x : S59 => (x.f0, x.f1))
theorem k59_open {w : World} {x : S59} {cs : List Value} (h : k59.K w x cs) : cs = [.int .u16 x.f0, .int .u16 x.f1] := by
  obtain ⟨_, _, rfl, rfl, rfl⟩ := h
  exact rfl
theorem k59_openM {w : World} {base : Nat} {ok : Nat → Prop} {x : S59} {cs : List Value} (h : k59.M w base ok x cs) : cs = [.int .u16 x.f0, .int .u16 x.f1] := by
  obtain ⟨_, _, rfl, rfl, rfl⟩ := h
  exact rfl
theorem k59_mk (w : World) (x : S59)  : k59.K w x [.int .u16 x.f0, .int .u16 x.f1] := ⟨[.int .u16 x.f0], [.int .u16 x.f1], rfl, rfl, rfl⟩
theorem k59_mkM (w : World) (base : Nat) (ok : Nat → Prop) (x : S59)  : k59.M w base ok x [.int .u16 x.f0, .int .u16 x.f1] := ⟨[.int .u16 x.f0], [.int .u16 x.f1], rfl, rfl, rfl⟩
def rd_T59 (xs : List S59) (i : Int) : S59 := xs.getD i.toNat z59
theorem at_T59 {w : World} {A : Option Addr} {n : Nat} {xs : List S59} (h : Kd.C k59 w A n xs) (i : Int) (h0 : 0 ≤ i) (h1 : i < n) : ∃ ad , A = some ad ∧ w.cell? (ad.add (i.toNat * 2)) = some (.int .u16 (rd_T59 xs i).f0) ∧ w.cell? ⟨(ad.add (i.toNat * 2)).block, (ad.add (i.toNat * 2)).off + 1, none⟩ = some (.int .u16 (rd_T59 xs i).f1) := by
  obtain ⟨ad, c, e, _, hK, hc0⟩ := Kd.C_get h z59 i h0 h1
  have hc : ∀ j u, c[j]? = some u → w.cell? (ad.add (i.toNat * 2 + j)) = some u := hc0
  obtain rfl := k59_open hK
  exact ⟨ad, e, hc 0 _ rfl, by rw [← add_field _ _ 1 (by omega)]; exact hc 1 _ rfl⟩

/-! #### struct type 52 -/
structure S52 where
  f0 : Int
  f1 : Int
def z52 : S52 := ⟨(0 : Int), (0 : Int)⟩
def k52 : Kd S52 := Kd.iso (Kd.pair (Kd.int .u16) (Kd.int .u16)) (fun x : S52 => (x.f0, x.f1))
theorem k52_open {w : World} {x : S52} {cs : List Value} (h : k52.K w x cs) : cs = [.int .u16 x.f0, .int .u16 x.f1] := by
  obtain ⟨_, _, rfl, rfl, rfl⟩ := h
  exact rfl
theorem k52_openM {w : World} {base : Nat} {ok : Nat → Prop} {x : S52} {cs : List Value} (h : k52.M w base ok x cs) : cs = [.int .u16 x.f0, .int .u16 x.f1] := by
  obtain ⟨_, _, rfl, rfl, rfl⟩ := h
  exact rfl
theorem k52_mk (w : World) (x : S52)  : k52.K w x [.int .u16 x.f0, .int .u16 x.f1] := ⟨[.int .u16 x.f0], [.int .u16 x.f1], rfl, rfl, rfl⟩
theorem k52_mkM (w : World) (base : Nat) (ok : Nat → Prop) (x : S52)  : k52.M w base ok x [.int .u16 x.f0, .int .u16 x.f1] := ⟨[.int .u16 x.f0], [.int .u16 x.f1], rfl, rfl, rfl⟩
def rd_T52 (xs : List S52) (i : Int) : S52 := xs.getD i.toNat z52
theorem at_T52 {w : World} {A : Option Addr} {n : Nat} {xs : List S52} (h : Kd.C k52 w A n xs) (i : Int) (h0 : 0 ≤ i) (h1 : i < n) : ∃ ad , A = some ad ∧ w.cell? (ad.add (i.toNat * 2)) = some (.int .u16 (rd_T52 xs i).f0) ∧ w.cell? ⟨(ad.add (i.toNat * 2)).block, (ad.add (i.toNat * 2)).off + 1, none⟩ = some (.int .u16 (rd_T52 xs i).f1) := by
  obtain ⟨ad, c, e, _, hK, hc0⟩ := Kd.C_get h z52 i h0 h1
  have hc : ∀ j u, c[j]? = some u → w.cell? (ad.add (i.toNat * 2 + j)) = some u := hc0
  obtain rfl := k52_open hK
  exact ⟨ad, e, hc 0 _ rfl, by rw [← add_field _ _ 1 (by omega)]; exact hc 1 _ rfl⟩

def rd_L4 (xs : List (List S52)) (i : Int) : (List S52) := xs.getD i.toNat ([] : List S52)
theorem at_L4 {w : World} {A : Option Addr} {n : Nat} {xs : List (List S52)} (h : Kd.C (Kd.slice 52 k52) w A n xs) (i : Int) (h0 : 0 ≤ i) (h1 : i < n) : ∃ ad A0 c0, A = some ad ∧ w.cell? (ad.add i.toNat) = some (.slice A0 (rd_L4 xs i).length c0) ∧ (rd_L4 xs i).length ≤ c0 ∧ k52.C w A0 (rd_L4 xs i).length (rd_L4 xs i) := by
  obtain ⟨ad, c, e, _, hK, hc0⟩ := Kd.C_get h ([] : List S52) i h0 h1
  have hc : ∀ j u, c[j]? = some u → w.cell? (ad.add (i.toNat * 1 + j)) = some u := hc0
  obtain ⟨A0, c0, rfl, l0, g0⟩ := hK
  exact ⟨ad, A0, c0, e, by have hq := hc 0 _ rfl; rwa [Nat.mul_one, Nat.add_zero] at hq, l0, g0⟩

/-! #### struct type 33 -/
structure S33 where
  f0 : Int
  f1 : Int
  f2 : Int
  f3 : Int
  f4 : (List S52)
def z33 : S33 := ⟨(0 : Int), (0 : Int), (0 : Int), (0 : Int), ([] : List S52)⟩
def k33 : Kd S33 := Kd.iso (Kd.pair (Kd.int .i64) (Kd.pair (Kd.int .i64) (Kd.pair (Kd.int .i64) (Kd.pair (Kd.int .i64) (Kd.slice 52 k52))))) (fun x : S33 => (x.f0, x.f1, x.f2, x.f3, x.f4))
theorem k33_open {w : World} {x : S33} {cs : List Value} (h : k33.K w x cs) : ∃ A4 c4, cs = [.int .i64 x.f0, .int .i64 x.f1, .int .i64 x.f2, .int .i64 x.f3, .slice A4 x.f4.length c4] ∧ x.f4.length ≤ c4 ∧ k52.C w A4 x.f4.length x.f4 := by
  obtain ⟨_, _, rfl, rfl, ⟨_, _, rfl, rfl, ⟨_, _, rfl, rfl, ⟨_, _, rfl, rfl, ⟨A4, c4, rfl, l4, g4⟩⟩⟩⟩⟩ := h
  exact ⟨A4, c4, rfl, l4, g4⟩
theorem k33_openM {w : World} {base : Nat} {ok : Nat → Prop} {x : S33} {cs : List Value} (h : k33.M w base ok x cs) : ∃ v4, cs = [.int .i64 x.f0, .int .i64 x.f1, .int .i64 x.f2, .int .i64 x.f3, v4] ∧ k52.R 52 w base ok v4 x.f4 := by
  obtain ⟨_, _, rfl, rfl, ⟨_, _, rfl, rfl, ⟨_, _, rfl, rfl, ⟨_, _, rfl, rfl, ⟨v4, rfl, g4⟩⟩⟩⟩⟩ := h
  exact ⟨v4, rfl, g4⟩
theorem k33_mk (w : World) (x : S33) {A4 : Option Addr} {c4 : Nat} (l4 : x.f4.length ≤ c4) (g4 : k52.C w A4 x.f4.length x.f4) : k33.K w x [.int .i64 x.f0, .int .i64 x.f1, .int .i64 x.f2, .int .i64 x.f3, .slice A4 x.f4.length c4] := ⟨[.int .i64 x.f0], [.int .i64 x.f1, .int .i64 x.f2, .int .i64 x.f3, .slice A4 x.f4.length c4], rfl, rfl, ⟨[.int .i64 x.f1], [.int .i64 x.f2, .int .i64 x.f3, .slice A4 x.f4.length c4], rfl, rfl, ⟨[.int .i64 x.f2], [.int .i64 x.f3, .slice A4 x.f4.length c4], rfl, rfl, ⟨[.int .i64 x.f3], [.slice A4 x.f4.length c4], rfl, rfl, ⟨A4, c4, rfl, l4, g4⟩⟩⟩⟩⟩
theorem k33_mkM (w : World) (base : Nat) (ok : Nat → Prop) (x : S33) {v4 : Value} (g4 : k52.R 52 w base ok v4 x.f4) : k33.M w base ok x [.int .i64 x.f0, .int .i64 x.f1, .int .i64 x.f2, .int .i64 x.f3, v4] := ⟨[.int .i64 x.f0], [.int .i64 x.f1, .int .i64 x.f2, .int .i64 x.f3, v4], rfl, rfl, ⟨[.int .i64 x.f1], [.int .i64 x.f2, .int .i64 x.f3, v4], rfl, rfl, ⟨[.int .i64 x.f2], [.int .i64 x.f3, v4], rfl, rfl, ⟨[.int .i64 x.f3], [v4], rfl, rfl, ⟨v4, rfl, g4⟩⟩⟩⟩⟩
def rd_T33 (xs : List S33) (i : Int) : S33 := xs.getD i.toNat z33
theorem at_T33 {w : World} {A : Option Addr} {n : Nat} {xs : List S33} (h : Kd.C k33 w A n xs) (i : Int) (h0 : 0 ≤ i) (h1 : i < n) : ∃ ad A4 c4, A = some ad ∧ w.cell? (ad.add (i.toNat * 5)) = some (.int .i64 (rd_T33 xs i).f0) ∧ w.cell? ⟨(ad.add (i.toNat * 5)).block, (ad.add (i.toNat * 5)).off + 1, none⟩ = some (.int .i64 (rd_T33 xs i).f1) ∧ w.cell? ⟨(ad.add (i.toNat * 5)).block, (ad.add (i.toNat * 5)).off + 2, none⟩ = some (.int .i64 (rd_T33 xs i).f2) ∧ w.cell? ⟨(ad.add (i.toNat * 5)).block, (ad.add (i.toNat * 5)).off + 3, none⟩ = some (.int .i64 (rd_T33 xs i).f3) ∧ w.cell? ⟨(ad.add (i.toNat * 5)).block, (ad.add (i.toNat * 5)).off + 4, none⟩ = some (.slice A4 (rd_T33 xs i).f4.length c4) ∧ (rd_T33 xs i).f4.length ≤ c4 ∧ k52.C w A4 (rd_T33 xs i).f4.length (rd_T33 xs i).f4 := by
  obtain ⟨ad, c, e, _, hK, hc0⟩ := Kd.C_get h z33 i h0 h1
  have hc : ∀ j u, c[j]? = some u → w.cell? (ad.add (i.toNat * 5 + j)) = some u := hc0
  obtain ⟨A4, c4, rfl, l4, g4⟩ := k33_open hK
  exact ⟨ad, A4, c4, e, hc 0 _ rfl, by rw [← add_field _ _ 1 (by omega)]; exact hc 1 _ rfl, by rw [← add_field _ _ 2 (by omega)]; exact hc 2 _ rfl, by rw [← add_field _ _ 3 (by omega)]; exact hc 3 _ rfl, by rw [← add_field _ _ 4 (by omega)]; exact hc 4 _ rfl, l4, g4⟩

/-! #### struct type 54 -/
structure S54 where
  f0 : Int
  f1 : Int
def z54 : S54 := ⟨(0 : Int), (0 : Int)⟩
def k54 : Kd S54 := Kd.iso (Kd.pair (Kd.int .u16) (Kd.int .u16)) (fun x : S54 => (x.f0, x.f1))
theorem k54_open {w : World} {x : S54} {cs : List Value} (h : k54.K w x cs) : cs = [.int .u16 x.f0, .int .u16 x.f1] := by
  obtain ⟨_, _, rfl, rfl, rfl⟩ := h
  exact rfl
theorem k54_openM {w : World} {base : Nat} {ok : Nat → Prop} {x : S54} {cs : List Value} (h : k54.M w base ok x cs) : cs = [.int .u16 x.f0, .int .u16 x.f1] := by
  obtain ⟨_, _, rfl, rfl, rfl⟩ := h
  exact rfl
theorem k54_mk (w : World) (x : S54)  : k54.K w x [.int .u16 x.f0, .int .u16 x.f1] := ⟨[.int .u16 x.f0], [.int .u16 x.f1], rfl, rfl, rfl⟩
theorem k54_mkM (w : World) (base : Nat) (ok : Nat → Prop) (x : S54)  : k54.M w base ok x [.int .u16 x.f0, .int .u16 x.f1] := ⟨[.int .u16 x.f0], [.int .u16 x.f1], rfl, rfl, rfl⟩
def rd_T54 (xs : List S54) (i : Int) : S54 := xs.getD i.toNat z54
theorem at_T54 {w : World} {A : Option Addr} {n : Nat} {xs : List S54} (h : Kd.C k54 w A n xs) (i : Int) (h0 : 0 ≤ i) (h1 : i < n) : ∃ ad , A = some ad ∧ w.cell? (ad.add (i.toNat * 2)) = some (.int .u16 (rd_T54 xs i).f0) ∧ w.cell? ⟨(ad.add (i.toNat * 2)).block, (ad.add (i.toNat * 2)).off + 1, none⟩ = some (.int .u16 (rd_T54 xs i).f1) := by
  obtain ⟨ad, c, e, _, hK, hc0⟩ := Kd.C_get h z54 i h0 h1
  have hc : ∀ j u, c[j]? = some u → w.cell? (ad.add (i.toNat * 2 + j)) = some u := hc0
  obtain rfl := k54_open hK
  exact ⟨ad, e, hc 0 _ rfl, by rw [← add_field _ _ 1 (by omega)]; exact hc 1 _ rfl⟩

def rd_L7 (xs : List (List S54)) (i : Int) : (List S54) := xs.getD i.toNat ([] : List S54)
theorem at_L7 {w : World} {A : Option Addr} {n : Nat} {xs : List (List S54)} (h : Kd.C (Kd.slice 54 k54) w A n xs) (i : Int) (h0 : 0 ≤ i) (h1 : i < n) : ∃ ad A0 c0, A = some ad ∧ w.cell? (ad.add i.toNat) = some (.slice A0 (rd_L7 xs i).length c0) ∧ (rd_L7 xs i).length ≤ c0 ∧ k54.C w A0 (rd_L7 xs i).length (rd_L7 xs i) := by
  obtain ⟨ad, c, e, _, hK, hc0⟩ := Kd.C_get h ([] : List S54) i h0 h1
  have hc : ∀ j u, c[j]? = some u → w.cell? (ad.add (i.toNat * 1 + j)) = some u := hc0
  obtain ⟨A0, c0, rfl, l0, g0⟩ := hK
  exact ⟨ad, A0, c0, e, by have hq := hc 0 _ rfl; rwa [Nat.mul_one, Nat.add_zero] at hq, l0, g0⟩

/-! #### struct type 100 -/
structure S100 where
  f0 : Int
  f1 : Int
def z100 : S100 := ⟨(0 : Int), (0 : Int)⟩
def k100 : Kd S100 := Kd.iso (Kd.pair (Kd.int .u16) (Kd.int .u16)) (fun x : S100 => (x.f0, x.f1))
theorem k100_open {w : World} {x : S100} {cs : List Value} (h : k100.K w x cs) : cs = [.int .u16 x.f0, .int .u16 x.f1] := by
  obtain ⟨_, _, rfl, rfl, rfl⟩ := h
  exact rfl
theorem k100_openM {w : World} {base : Nat} {ok : Nat → Prop} {x : S100} {cs : List Value} (h : k100.M w base ok x cs) : cs = [.int .u16 x.f0, .int .u16 x.f1] := by
  obtain ⟨_, _, rfl, rfl, rfl⟩ := h
  exact rfl
theorem k100_mk (w : World) (x : S100)  : k100.K w x [.int .u16 x.f0, .int .u16 x.f1] := ⟨[.int .u16 x.f0], [.int .u16 x.f1], rfl, rfl, rfl⟩
theorem k100_mkM (w : World) (base : Nat) (ok : Nat → Prop) (x : S100)  : k100.M w base ok x [.int .u16 x.f0, .int .u16 x.f1] := ⟨[.int .u16 x.f0], [.int .u16 x.f1], rfl, rfl, rfl⟩
def rd_T100 (xs : List S100) (i : Int) : S100 := xs.getD i.toNat z100
theorem at_T100 {w : World} {A : Option Addr} {n : Nat} {xs : List S100} (h : Kd.C k100 w A n xs) (i : Int) (h0 : 0 ≤ i) (h1 : i < n) : ∃ ad , A = some ad ∧ w.cell? (ad.add (i.toNat * 2)) = some (.int .u16 (rd_T100 xs i).f0) ∧ w.cell? ⟨(ad.add (i.toNat * 2)).block, (ad.add (i.toNat * 2)).off + 1, none⟩ = some (.int .u16 (rd_T100 xs i).f1) := by
  obtain ⟨ad, c, e, _, hK, hc0⟩ := Kd.C_get h z100 i h0 h1
  have hc : ∀ j u, c[j]? = some u → w.cell? (ad.add (i.toNat * 2 + j)) = some u := hc0
  obtain rfl := k100_open hK
  exact ⟨ad, e, hc 0 _ rfl, by rw [← add_field _ _ 1 (by omega)]; exact hc 1 _ rfl⟩

/-! #### struct type 42 -/
structure S42 where
  f0 : Int
  f1 : Int
def z42 : S42 := ⟨(0 : Int), (0 : Int)⟩
def k42 : Kd S42 := Kd.iso (Kd.pair (Kd.int .i64) (Kd.int .i64)) (fun x : S42 => (x.f0, x.f1))
theorem k42_open {w : World} {x : S42} {cs : List Value} (h : k42.K w x cs) : cs = [.int .i64 x.f0, .int .i64 x.f1] := by
  obtain ⟨_, _, rfl, rfl, rfl⟩ := h
  exact rfl
theorem k42_openM {w : World} {base : Nat} {ok : Nat → Prop} {x : S42} {cs : List Value} (h : k42.M w base ok x cs) : cs = [.int .i64 x.f0, .int .i64 x.f1] := by
  obtain ⟨_, _, rfl, rfl, rfl⟩ := h
  exact rfl
theorem k42_mk (w : World) (x : S42)  : k42.K w x [.int .i64 x.f0, .int .i64 x.f1] := ⟨[.int .i64 x.f0], [.int .i64 x.f1], rfl, rfl, rfl⟩
theorem k42_mkM (w : World) (base : Nat) (ok : Nat → Prop) (x : S42)  : k42.M w base ok x [.int .i64 x.f0, .int .i64 x.f1] := ⟨[.int .i64 x.f0], [.int .i64 x.f1], rfl, rfl, rfl⟩
def rd_T42 (xs : List S42) (i : Int) : S42 := xs.getD i.toNat z42
theorem at_T42 {w : World} {A : Option Addr} {n : Nat} {xs : List S42} (h : Kd.C k42 w A n xs) (i : Int) (h0 : 0 ≤ i) (h1 : i < n) : ∃ ad , A = some ad ∧ w.cell? (ad.add (i.toNat * 2)) = some (.int .i64 (rd_T42 xs i).f0) ∧ w.cell? ⟨(ad.add (i.toNat * 2)).block, (ad.add (i.toNat * 2)).off + 1, none⟩ = some (.int .i64 (rd_T42 xs i).f1) := by
  obtain ⟨ad, c, e, _, hK, hc0⟩ := Kd.C_get h z42 i h0 h1
  have hc : ∀ j u, c[j]? = some u → w.cell? (ad.add (i.toNat * 2 + j)) = some u := hc0
  obtain rfl := k42_open hK
  exact ⟨ad, e, hc 0 _ rfl, by rw [← add_field _ _ 1 (by omega)]; exact hc 1 _ rfl⟩

/-! #### struct type 89 -/
structure S89 where
  f0 : Int
  f1 : Int
def z89 : S89 := ⟨(0 : Int), (0 : Int)⟩
def k89 : Kd S89 := Kd.iso (Kd.pair (Kd.int .i64) (Kd.int .i64)) (fun x : S89 => (x.f0, x.f1))
theorem k89_open {w : World} {x : S89} {cs : List Value} (h : k89.K w x cs) : cs = [.int .i64 x.f0, .int .i64 x.f1] := by
  obtain ⟨_, _, rfl, rfl, rfl⟩ := h
  exact rfl
theorem k89_openM {w : World} {base : Nat} {ok : Nat → Prop} {x : S89} {cs : List Value} (h : k89.M w base ok x cs) : cs = [.int .i64 x.f0, .int .i64 x.f1] := by
  obtain ⟨_, _, rfl, rfl, rfl⟩ := h
  exact rfl
theorem k89_mk (w : World) (x : S89)  : k89.K w x [.int .i64 x.f0, .int .i64 x.f1] := ⟨[.int .i64 x.f0], [.int .i64 x.f1], rfl, rfl, rfl⟩
theorem k89_mkM (w : World) (base : Nat) (ok : Nat → Prop) (x : S89)  : k89.M w base ok x [.int .i64 x.f0, .int .i64 x.f1] := ⟨[.int .i64 x.f0], [.int .i64 x.f1], rfl, rfl, rfl⟩
def rd_T89 (xs : List S89) (i : Int) : S89 := xs.getD i.toNat z89
theorem at_T89 {w : World} {A : Option Addr} {n : Nat} {xs : List S89} (h : Kd.C k89 w A n xs) (i : Int) (h0 : 0 ≤ i) (h1 : i < n) : ∃ ad , A = some ad ∧ w.cell? (ad.add (i.toNat * 2)) = some (.int .i64 (rd_T89 xs i).f0) ∧ w.cell? ⟨(ad.add (i.toNat * 2)).block, (ad.add (i.toNat * 2)).off + 1, none⟩ = some (.int .i64 (rd_T89 xs i).f1) := by
  obtain ⟨ad, c, e, _, hK, hc0⟩ := Kd.C_get h z89 i h0 h1
  have hc : ∀ j u, c[j]? = some u → w.cell? (ad.add (i.toNat * 2 + j)) = some u := hc0
  obtain rfl := k89_open hK
  exact ⟨ad, e, hc 0 _ rfl, by rw [← add_field _ _ 1 (by omega)]; exact hc 1 _ rfl⟩

def rd_L11 (xs : List (List S89)) (i : Int) : (List S89) := xs.getD i.toNat ([] : List S89)
theorem at_L11 {w : World} {A : Option Addr} {n : Nat} {xs : List (List S89)} (h : Kd.C (Kd.slice 89 k89) w A n xs) (i : Int) (h0 : 0 ≤ i) (h1 : i < n) : ∃ ad A0 c0, A = some ad ∧ w.cell? (ad.add i.toNat) = some (.slice A0 (rd_L11 xs i).length c0) ∧ (rd_L11 xs i).length ≤ c0 ∧ k89.C w A0 (rd_L11 xs i).length (rd_L11 xs i) := by
  obtain ⟨ad, c, e, _, hK, hc0⟩ := Kd.C_get h ([] : List S89) i h0 h1
  have hc : ∀ j u, c[j]? = some u → w.cell? (ad.add (i.toNat * 1 + j)) = some u := hc0
  obtain ⟨A0, c0, rfl, l0, g0⟩ := hK
  exact ⟨ad, A0, c0, e, by have hq := hc 0 _ rfl; rwa [Nat.mul_one, Nat.add_zero] at hq, l0, g0⟩

/-! #### struct type 65 -/
structure S65 where
  f0 : Int
  f1 : Int
def z65 : S65 := ⟨(0 : Int), (0 : Int)⟩
def k65 : Kd S65 := Kd.iso (Kd.pair (Kd.int .i64) (Kd.int .i64)) (fun x : S65 => (x.f0, x.f1))
theorem k65_open {w : World} {x : S65} {cs : List Value} (h : k65.K w x cs) : cs = [.int .i64 x.f0, .int .i64 x.f1] := by
  obtain ⟨_, _, rfl, rfl, rfl⟩ := h
  exact rfl
theorem k65_openM {w : World} {base : Nat} {ok : Nat → Prop} {x : S65} {cs : List Value} (h : k65.M w base ok x cs) : cs = [.int .i64 x.f0, .int .i64 x.f1] := by
  obtain ⟨_, _, rfl, rfl, rfl⟩ := h
  exact rfl
theorem k65_mk (w : World) (x : S65)  : k65.K w x [.int .i64 x.f0, .int .i64 x.f1] := ⟨[.int .i64 x.f0], [.int .i64 x.f1], rfl, rfl, rfl⟩
theorem k65_mkM (w : World) (base : Nat) (ok : Nat → Prop) (x : S65)  : k65.M w base ok x [.int .i64 x.f0, .int .i64 x.f1] := ⟨[.int .i64 x.f0], [.int .i64 x.f1], rfl, rfl, rfl⟩
def rd_T65 (xs : List S65) (i : Int) : S65 := xs.getD i.toNat z65
theorem at_T65 {w : World} {A : Option Addr} {n : Nat} {xs : List S65} (h : Kd.C k65 w A n xs) (i : Int) (h0 : 0 ≤ i) (h1 : i < n) : ∃ ad , A = some ad ∧ w.cell? (ad.add (i.toNat * 2)) = some (.int .i64 (rd_T65 xs i).f0) ∧ w.cell? ⟨(ad.add (i.toNat * 2)).block, (ad.add (i.toNat * 2)).off + 1, none⟩ = some (.int .i64 (rd_T65 xs i).f1) := by
  obtain ⟨ad, c, e, _, hK, hc0⟩ := Kd.C_get h z65 i h0 h1
  have hc : ∀ j u, c[j]? = some u → w.cell? (ad.add (i.toNat * 2 + j)) = some u := hc0
  obtain rfl := k65_open hK
  exact ⟨ad, e, hc 0 _ rfl, by rw [← add_field _ _ 1 (by omega)]; exact hc 1 _ rfl⟩

def rd_L13 (xs : List (List S65)) (i : Int) : (List S65) := xs.getD i.toNat ([] : List S65)
theorem at_L13 {w : World} {A : Option Addr} {n : Nat} {xs : List (List S65)} (h : Kd.C (Kd.slice 65 k65) w A n xs) (i : Int) (h0 : 0 ≤ i) (h1 : i < n) : ∃ ad A0 c0, A = some ad ∧ w.cell? (ad.add i.toNat) = some (.slice A0 (rd_L13 xs i).length c0) ∧ (rd_L13 xs i).length ≤ c0 ∧ k65.C w A0 (rd_L13 xs i).length (rd_L13 xs i) := by
  obtain ⟨ad, c, e, _, hK, hc0⟩ := Kd.C_get h ([] : List S65) i h0 h1
  have hc : ∀ j u, c[j]? = some u → w.cell? (ad.add (i.toNat * 1 + j)) = some u := hc0
  obtain ⟨A0, c0, rfl, l0, g0⟩ := hK
  exact ⟨ad, A0, c0, e, by have hq := hc 0 _ rfl; rwa [Nat.mul_one, Nat.add_zero] at hq, l0, g0⟩

/-! #### struct type 79 -/
structure S79 where
  f0 : Int
  f1 : Int
def z79 : S79 := ⟨(0 : Int), (0 : Int)⟩
def k79 : Kd S79 := Kd.iso (Kd.pair (Kd.int .i64) (Kd.int .i64)) (fun x : S79 => (x.f0, x.f1))
theorem k79_open {w : World} {x : S79} {cs : List Value} (h : k79.K w x cs) : cs = [.int .i64 x.f0, .int .i64 x.f1] := by
  obtain ⟨_, _, rfl, rfl, rfl⟩ := h
  exact rfl
theorem k79_openM {w : World} {base : Nat} {ok : Nat → Prop} {x : S79} {cs : List Value} (h : k79.M w base ok x cs) : cs = [.int .i64 x.f0, .int .i64 x.f1] := by
  obtain ⟨_, _, rfl, rfl, rfl⟩ := h
  exact rfl
theorem k79_mk (w : World) (x : S79)  : k79.K w x [.int .i64 x.f0, .int .i64 x.f1] := ⟨[.int .i64 x.f0], [.int .i64 x.f1], rfl, rfl, rfl⟩
theorem k79_mkM (w : World) (base : Nat) (ok : Nat → Prop) (x : S79)  : k79.M w base ok x [.int .i64 x.f0, .int .i64 x.f1] := ⟨[.int .i64 x.f0], [.int .i64 x.f1], rfl, rfl, rfl⟩
def rd_T79 (xs : List S79) (i : Int) : S79 := xs.getD i.toNat z79
theorem at_T79 {w : World} {A : Option Addr} {n : Nat} {xs : List S79} (h : Kd.C k79 w A n xs) (i : Int) (h0 : 0 ≤ i) (h1 : i < n) : ∃ ad , A = some ad ∧ w.cell? (ad.add (i.toNat * 2)) = some (.int .i64 (rd_T79 xs i).f0) ∧ w.cell? ⟨(ad.add (i.toNat * 2)).block, (ad.add (i.toNat * 2)).off + 1, none⟩ = some (.int .i64 (rd_T79 xs i).f1) := by
  obtain ⟨ad, c, e, _, hK, hc0⟩ := Kd.C_get h z79 i h0 h1
  have hc : ∀ j u, c[j]? = some u → w.cell? (ad.add (i.toNat * 2 + j)) = some u := hc0
  obtain rfl := k79_open hK
  exact ⟨ad, e, hc 0 _ rfl, by rw [← add_field _ _ 1 (by omega)]; exact hc 1 _ rfl⟩

def rd_L15 (xs : List (List S79)) (i : Int) : (List S79) := xs.getD i.toNat ([] : List S79)
theorem at_L15 {w : World} {A : Option Addr} {n : Nat} {xs : List (List S79)} (h : Kd.C (Kd.slice 79 k79) w A n xs) (i : Int) (h0 : 0 ≤ i) (h1 : i < n) : ∃ ad A0 c0, A = some ad ∧ w.cell? (ad.add i.toNat) = some (.slice A0 (rd_L15 xs i).length c0) ∧ (rd_L15 xs i).length ≤ c0 ∧ k79.C w A0 (rd_L15 xs i).length (rd_L15 xs i) := by
  obtain ⟨ad, c, e, _, hK, hc0⟩ := Kd.C_get h ([] : List S79) i h0 h1
  have hc : ∀ j u, c[j]? = some u → w.cell? (ad.add (i.toNat * 1 + j)) = some u := hc0
  obtain ⟨A0, c0, rfl, l0, g0⟩ := hK
  exact ⟨ad, A0, c0, e, by have hq := hc 0 _ rfl; rwa [Nat.mul_one, Nat.add_zero] at hq, l0, g0⟩

/-! #### struct type 76 -/
structure S76 where
  f0 : Int
  f1 : (List S79)
  f2 : Int
  f3 : Int
def z76 : S76 := ⟨(0 : Int), ([] : List S79), (0 : Int), (0 : Int)⟩
def k76 : Kd S76 := Kd.iso (Kd.pair (Kd.int .i64) (Kd.pair (Kd.slice 79 k79) (Kd.pair (Kd.int .i64) (Kd.int .i64)))) (fun x : S76 => (x.f0, x.f1, x.f2, x.f3))
theorem k76_open {w : World} {x : S76} {cs : List Value} (h : k76.K w x cs) : ∃ A1 c1, cs = [.int .i64 x.f0, .slice A1 x.f1.length c1, .int .i64 x.f2, .int .i64 x.f3] ∧ x.f1.length ≤ c1 ∧ k79.C w A1 x.f1.length x.f1 := by
  obtain ⟨_, _, rfl, rfl, ⟨_, _, rfl, ⟨A1, c1, rfl, l1, g1⟩, ⟨_, _, rfl, rfl, rfl⟩⟩⟩ := h
  exact ⟨A1, c1, rfl, l1, g1⟩
theorem k76_openM {w : World} {base : Nat} {ok : Nat → Prop} {x : S76} {cs : List Value} (h : k76.M w base ok x cs) : ∃ v1, cs = [.int .i64 x.f0, v1, .int .i64 x.f2, .int .i64 x.f3] ∧ k79.R 79 w base ok v1 x.f1 := by
  obtain ⟨_, _, rfl, rfl, ⟨_, _, rfl, ⟨v1, rfl, g1⟩, ⟨_, _, rfl, rfl, rfl⟩⟩⟩ := h
  exact ⟨v1, rfl, g1⟩
theorem k76_mk (w : World) (x : S76) {A1 : Option Addr} {c1 : Nat} (l1 : x.f1.length ≤ c1) (g1 : k79.C w A1 x.f1.length x.f1) : k76.K w x [.int .i64 x.f0, .slice A1 x.f1.length c1, .int .i64 x.f2, .int .i64 x.f3] := ⟨[.int .i64 x.f0], [.slice A1 x.f1.length c1, .int .i64 x.f2, .int .i64 x.f3], rfl, rfl, ⟨[.slice A1 x.f1.length c1], [.int .i64 x.f2, .int .i64 x.f3], rfl, ⟨A1, c1, rfl, l1, g1⟩, ⟨[.int .i64 x.f2], [.int .i64 x.f3], rfl, rfl, rfl⟩⟩⟩
theorem k76_mkM (w : World) (base : Nat) (ok : Nat → Prop) (x : S76) {v1 : Value} (g1 : k79.R 79 w base ok v1 x.f1) : k76.M w base ok x [.int .i64 x.f0, v1, .int .i64 x.f2, .int .i64 x.f3] := ⟨[.int .i64 x.f0], [v1, .int .i64 x.f2, .int .i64 x.f3], rfl, rfl, ⟨[v1], [.int .i64 x.f2, .int .i64 x.f3], rfl, ⟨v1, rfl, g1⟩, ⟨[.int .i64 x.f2], [.int .i64 x.f3], rfl, rfl, rfl⟩⟩⟩
def rd_T76 (xs : List S76) (i : Int) : S76 := xs.getD i.toNat z76
theorem at_T76 {w : World} {A : Option Addr} {n : Nat} {xs : List S76} (h : Kd.C k76 w A n xs) (i : Int) (h0 : 0 ≤ i) (h1 : i < n) : ∃ ad A1 c1, A = some ad ∧ w.cell? (ad.add (i.toNat * 4)) = some (.int .i64 (rd_T76 xs i).f0) ∧ w.cell? ⟨(ad.add (i.toNat * 4)).block, (ad.add (i.toNat * 4)).off + 1, none⟩ = some (.slice A1 (rd_T76 xs i).f1.length c1) ∧ w.cell? ⟨(ad.add (i.toNat * 4)).block, (ad.add (i.toNat * 4)).off + 2, none⟩ = some (.int .i64 (rd_T76 xs i).f2) ∧ w.cell? ⟨(ad.add (i.toNat * 4)).block, (ad.add (i.toNat * 4)).off + 3, none⟩ = some (.int .i64 (rd_T76 xs i).f3) ∧ (rd_T76 xs i).f1.length ≤ c1 ∧ k79.C w A1 (rd_T76 xs i).f1.length (rd_T76 xs i).f1 := by
  obtain ⟨ad, c, e, _, hK, hc0⟩ := Kd.C_get h z76 i h0 h1
  have hc : ∀ j u, c[j]? = some u → w.cell? (ad.add (i.toNat * 4 + j)) = some u := hc0
  obtain ⟨A1, c1, rfl, l1, g1⟩ := k76_open hK
  exact ⟨ad, A1, c1, e, hc 0 _ rfl, by rw [← add_field _ _ 1 (by omega)]; exact hc 1 _ rfl, by rw [← add_field _ _ 2 (by omega)]; exact hc 2 _ rfl, by rw [← add_field _ _ 3 (by omega)]; exact hc 3 _ rfl, l1, g1⟩

/-! #### struct type 123 -/
structure S123 where
  f0 : Int
  f1 : Int
def z123 : S123 := ⟨(0 : Int), (0 : Int)⟩
def k123 : Kd S123 := Kd.iso (Kd.pair (Kd.int .i64) (Kd.int .i64)) (fun x : S123 => (x.f0, x.f1))
theorem k123_open {w : World} {x : S123} {cs : List Value} (h : k123.K w x cs) : cs = [.int .i64 x.f0, .int .i64 x.f1] := by
  obtain ⟨_, _, rfl, rfl, rfl⟩ := h
  exact rfl
theorem k123_openM {w : World} {base : Nat} {ok : Nat → Prop} {x : S123} {cs : List Value} (h : k123.M w base ok x cs) : cs = [.int .i64 x.f0, .int .i64 x.f1] := by
  obtain ⟨_, _, rfl, rfl, rfl⟩ := h
  exact rfl
theorem k123_mk (w : World) (x : S123)  : k123.K w x [.int .i64 x.f0, .int .i64 x.f1] := ⟨[.int .i64 x.f0], [.int .i64 x.f1], rfl, rfl, rfl⟩
theorem k123_mkM (w : World) (base : Nat) (ok : Nat → Prop) (x : S123)  : k123.M w base ok x [.int .i64 x.f0, .int .i64 x.f1] := ⟨[.int .i64 x.f0], [.int .i64 x.f1], rfl, rfl, rfl⟩
def rd_T123 (xs : List S123) (i : Int) : S123 := xs.getD i.toNat z123
theorem at_T123 {w : World} {A : Option Addr} {n : Nat} {xs : List S123} (h : Kd.C k123 w A n xs) (i : Int) (h0 : 0 ≤ i) (h1 : i < n) : ∃ ad , A = some ad ∧ w.cell? (ad.add (i.toNat * 2)) = some (.int .i64 (rd_T123 xs i).f0) ∧ w.cell? ⟨(ad.add (i.toNat * 2)).block, (ad.add (i.toNat * 2)).off + 1, none⟩ = some (.int .i64 (rd_T123 xs i).f1) := by
  obtain ⟨ad, c, e, _, hK, hc0⟩ := Kd.C_get h z123 i h0 h1
  have hc : ∀ j u, c[j]? = some u → w.cell? (ad.add (i.toNat * 2 + j)) = some u := hc0
  obtain rfl := k123_open hK
  exact ⟨ad, e, hc 0 _ rfl, by rw [← add_field _ _ 1 (by omega)]; exact hc 1 _ rfl⟩

end Go.Proofs.Ytdnjmhhjjbdieaa.Q
end

section
/- The statements' arguments, opened: scenes, tellings. -/
namespace Go.Proofs.Ytdnjmhhjjbdieaa.Q
open Go.RowKit Go.ChangeShapes Go.WideShapes Go.Deep Go.Proofs.YtdnjmhhjjbdieaaW.PrintWords
set_option linter.unusedVariables false

theorem reads_u16 : Reads Try.prog 49 (Kd.int .u16) (fun n => (Lit.int .u16 n).wf = true) := Reads.int Try.underlying49
theorem reads_int : Reads Try.prog 3 (Kd.int .i64) (fun n => (Lit.int .i64 n).wf = true) := Reads.int Try.underlying3

theorem reads_moment : Reads Try.prog 59 k59 (fun y => (Lit.int .u16 y.f0).wf = true ∧ (Lit.int .u16 y.f1).wf = true) :=
  (Reads.struct2 Try.underlying59 rfl rfl (by kernel_rfl) (by kernel_rfl) (by kernel_rfl) reads_u16 reads_u16).iso (fun x : S59 => (x.f0, x.f1)) (fun y => ⟨y.1, y.2⟩) (fun _ => rfl)
theorem reads_part : Reads Try.prog 89 k89 (fun y => (Lit.int .i64 y.f0).wf = true ∧ (Lit.int .i64 y.f1).wf = true) :=
  (Reads.struct2 Try.underlying89 rfl rfl (by kernel_rfl) (by kernel_rfl) (by kernel_rfl) reads_int reads_int).iso (fun x : S89 => (x.f0, x.f1)) (fun y => ⟨y.1, y.2⟩) (fun _ => rfl)
theorem reads_moments : Reads Try.prog 22 (Kd.slice 59 k59) (fun l => l.length ≤ maxLen ∧ ∀ y ∈ l, (Lit.int .u16 y.f0).wf = true ∧ (Lit.int .u16 y.f1).wf = true) :=
  Reads.slice Try.underlying22 (by kernel_rfl) reads_moment
theorem reads_parts : Reads Try.prog 84 (Kd.slice 89 k89) (fun l => l.length ≤ maxLen ∧ ∀ y ∈ l, (Lit.int .i64 y.f0).wf = true ∧ (Lit.int .i64 y.f1).wf = true) :=
  Reads.slice Try.underlying84 (by kernel_rfl) reads_part

section
variable {H : Type} {enc : TypeId × Value → H} {w : World} {spare : Nat → Bool} {held : Bool} {r : Reach} {b0 : Nat} {v : Value} {d : DataW H} {p : List MemPlace}

set_option maxRecDepth 100000 in
theorem open_scene (hv : Value.okWide Try.prog w r b0 24 v) (h : DataW.Trod enc Try.prog w 0 spare held 24 v d p) :
    ∃ (a0 a1 a2 a3 : Int) (A : Option Addr) (l : List S59) (c : Nat), v = .agg #[.int .i64 a0, .int .i64 a1, .int .i64 a2, .int .i64 a3, .slice A l.length c] ∧ l.length ≤ c ∧ Kd.C k59 w A l.length l ∧
      (Lit.int .i64 a0).wf = true ∧ (Lit.int .i64 a1).wf = true ∧ (Lit.int .i64 a2).wf = true ∧ (Lit.int .i64 a3).wf = true ∧ l.length ≤ maxLen ∧ ∀ y ∈ l, (Lit.int .u16 y.f0).wf = true ∧ (Lit.int .u16 y.f1).wf = true := by
  obtain ⟨cs, rfl, hsz⟩ := okWide_struct Try.underlying24 hv
  obtain ⟨fuel, hf⟩ := h
  obtain ⟨l⟩ := cs
  have hC : Try.prog.cellsOf 24 = 5 := by kernel_rfl
  match l, hsz.trans hC with
  | [c0, c1, c2, c3, c4], _ =>
    obtain ⟨a0, e0, w0⟩ := Reads.field Try.underlying24 (i := 0) rfl (by kernel_rfl) reads_int hf
    obtain ⟨a1, e1, w1⟩ := Reads.field Try.underlying24 (i := 1) rfl (by kernel_rfl) reads_int hf
    obtain ⟨a2, e2, w2⟩ := Reads.field Try.underlying24 (i := 2) rfl (by kernel_rfl) reads_int hf
    obtain ⟨a3, e3, w3⟩ := Reads.field Try.underlying24 (i := 3) rfl (by kernel_rfl) reads_int hf
    obtain ⟨xs, ⟨A, c, e4, hc, hr⟩, hl, hm⟩ := Reads.field Try.underlying24 (i := 4) rfl (by kernel_rfl) reads_moments hf
    have g0 : [c0] = [Value.int .i64 a0] := e0
    have g1 : [c1] = [Value.int .i64 a1] := e1
    have g2 : [c2] = [Value.int .i64 a2] := e2
    have g3 : [c3] = [Value.int .i64 a3] := e3
    have g4 : [c4] = [Value.slice A xs.length c] := e4
    simp only [List.cons.injEq, and_true] at g0 g1 g2 g3 g4
    clear e0 e1 e2 e3 e4
    subst g0 g1 g2 g3 g4
    exact ⟨a0, a1, a2, a3, A, xs, c, rfl, hc, hr, w0, w1, w2, w3, hl, hm⟩

set_option maxRecDepth 100000 in
theorem open_parts (hv : Value.okWide Try.prog w r b0 84 v) (h : DataW.Trod enc Try.prog w 0 spare held 84 v d p) :
    ∃ (A : Option Addr) (l : List S89) (c : Nat), v = .slice A l.length c ∧ l.length ≤ c ∧ Kd.C k89 w A l.length l ∧ l.length ≤ maxLen ∧ ∀ y ∈ l, (Lit.int .i64 y.f0).wf = true ∧ (Lit.int .i64 y.f1).wf = true := by
  obtain ⟨A, n, c, rfl⟩ := okWide_slice Try.underlying84 hv
  obtain ⟨fuel, hf⟩ := h
  obtain ⟨xs, ⟨A', c', e, hc, hr⟩, hl, hm⟩ := reads_parts.out enc w spare held fuel _ _ hf
  have e : [Value.slice A n c] = [Value.slice A' xs.length c'] := e
  simp only [List.cons.injEq, and_true] at e
  rw [e]
  exact ⟨A', xs, c', rfl, hc, hr, hl, hm⟩
end
end Go.Proofs.Ytdnjmhhjjbdieaa.Q
end

section
-- printed by wip/tools/qprint.py, a program of this session's, out of the translation. Not trusted: Lean checks it.
namespace Go.Proofs.Ytdnjmhhjjbdieaa.Q
open Go.RowKit Go.Proofs.YtdnjmhhjjbdieaaW.PrintWords Go.Proofs.YtdnjmhhjjbdieaaW.PrintLast
set_option linter.unusedVariables false
set_option linter.unusedSimpArgs false

/-! ### palantyperef02_In: function 25 -/
def palantyperef02_In.f (a0 : Int) (a1 : Int) (a2 : Int) : Option (Bool) := if a0 ≥ a1 then (some (decide (a0 ≤ a2))) else (some false)
set_option maxHeartbeats 8000000 in
set_option maxRecDepth 100000 in
theorem palantyperef02_In.calls (a0 : Int) (a1 : Int) (a2 : Int) (r : Bool) (w : World) (h : palantyperef02_In.f a0 a1 a2 = some r) :
    Calls Try.prog 25 #[.int .i64 a0, .int .i64 a1, .int .i64 a2] w fun e w' => e = .returned (.bool r) ∧ Drawn0 w w' := by
  have H : (if a0 ≥ a1 then (some (decide (a0 ≤ a2))) else (some false)) = some r := h
  clear h
  by_cases c4 : a0 ≥ a1
  · rw [if_pos c4] at H
    have c4b0 : decide (a1 ≤ a0) = true := decide_eq_true c4
    clear c4
    obtain rfl := Option.some.inj H
    go_enter Try.func25, Try.ntmps25
    go_wp2
    go_ret
    exact ⟨by first | rfl | (simp; done) | (simp [*]; done), by repeat (first | exact Drawn0.refl _ | apply Drawn0.step)⟩
  · rw [if_neg c4] at H
    have c4b0 : decide (a1 ≤ a0) = false := decide_eq_false c4
    clear c4
    obtain rfl := Option.some.inj H
    go_enter Try.func25, Try.ntmps25
    go_wp2
    go_ret
    exact ⟨by first | rfl | (simp; done) | (simp [*]; done), by repeat (first | exact Drawn0.refl _ | apply Drawn0.step)⟩

end Go.Proofs.Ytdnjmhhjjbdieaa.Q
end

section
/- Small words that printed walks name. -/
namespace Go.Proofs.Ytdnjmhhjjbdieaa.Q
open Go.RowKit Go.Proofs.YtdnjmhhjjbdieaaW.PrintWords
set_option linter.unusedVariables false

section
variable {P : Program} {ops : Array Oper} {Q : Exit → Act → World → Prop} {o : Oper} {rest : List Oper} {a : Act} {W : World}
/-- Fails at any other operation. -/
theorem gate_callee {f : FuncId} {gs : Array Operand} {ts : Array TypeId} (ho : o.op = .call { callee := .value (.func f), args := gs, argTypes := ts }) (h : wpList P ops Q (o :: rest) a W) : wpList P ops Q (o :: rest) a W := h
theorem gate_builtin {b : Builtin} {xs : Array Operand} {ts : Array TypeId} (ho : o.op = .call { callee := .builtin b, args := xs, argTypes := ts }) (h : wpList P ops Q (o :: rest) a W) : wpList P ops Q (o :: rest) a W := h
end
theorem calls_of_args {P : Program} {f : FuncId} {args args' : Array Value} {w : World} {R : Ending → World → Prop} (h : args = args') (hc : Calls P f args' w R) : Calls P f args w R := by rw [h]; exact hc
def mx (a b : Int) : Int := if a < b then b else a
def mn (a b : Int) : Int := if b < a then b else a
def shl (k : IntKind) (x y : Int) : Int := k.wrap (x * 2 ^ min y.toNat k.bits)
theorem shl_small {k : IntKind} {x y j : Int} (h : shl k x y = j) (hy : y ≤ k.bits) : k.wrap (x * 2 ^ y.toNat) = j := by
  unfold shl at h
  rw [Nat.min_eq_left (by omega)] at h
  exact h
theorem drewN_self (w : World) (n : Nat) : w.drewN n = w.drewN n := rfl
end Go.Proofs.Ytdnjmhhjjbdieaa.Q
end

section
-- printed by wip/tools/qprint.py, a program of this session's, out of the translation. Not trusted: Lean checks it.
namespace Go.Proofs.Ytdnjmhhjjbdieaa.Q
open Go.RowKit Go.Proofs.YtdnjmhhjjbdieaaW.PrintWords Go.Proofs.YtdnjmhhjjbdieaaW.PrintLast
set_option linter.unusedVariables false
set_option linter.unusedSimpArgs false

/-! ### palantyperef02_Bit: function 44 -/
def palantyperef02_Bit.f (a0 : Int) : Option (Int) := if a0 < 0 then (some 32768) else (if 0 ≤ (IntKind.u64.wrap (a0)) then (some (shl .u16 1 (IntKind.u64.wrap (a0)))) else (none))
set_option maxHeartbeats 8000000 in
set_option maxRecDepth 100000 in
theorem palantyperef02_Bit.calls (a0 : Int) (r : Int) (w : World) (h : palantyperef02_Bit.f a0 = some r) :
    Calls Try.prog 44 #[.int .i64 a0] w fun e w' => e = .returned (.int .u16 r) ∧ Drawn0 w w' := by
  have H : (if a0 < 0 then (some 32768) else (if 0 ≤ (IntKind.u64.wrap (a0)) then (some (shl .u16 1 (IntKind.u64.wrap (a0)))) else (none))) = some r := h
  clear h
  by_cases c2 : a0 < 0
  · rw [if_pos c2] at H
    have c2b0 : decide (a0 < 0) = true := decide_eq_true c2
    clear c2
    obtain rfl := Option.some.inj H
    go_enter Try.func44, Try.ntmps44
    go_wp2
    go_ret
    exact ⟨by first | rfl | (simp; done) | (simp [*]; done), by repeat (first | exact Drawn0.refl _ | apply Drawn0.step)⟩
  · rw [if_neg c2] at H
    have c2b0 : decide (a0 < 0) = false := decide_eq_false c2
    clear c2
    obtain ⟨ji3, hji3⟩ : ∃ j_ : Int, (IntKind.u64.wrap (a0)) = j_ := ⟨_, rfl⟩
    replace H : (if 0 ≤ (ji3) then (some (shl .u16 1 (ji3))) else (none)) = some r := by first | (rw [hji3] at H; exact H) | (simp only [hji3] at H ⊢; exact H)
    by_cases c4 : 0 ≤ (ji3)
    · rw [if_pos c4] at H
      have c4b0 := eq_true c4
      have c4b1 : decide (0 ≤ (ji3)) = true := decide_eq_true c4
      clear c4
      obtain ⟨ji5, hji5⟩ : ∃ j_ : Int, (shl .u16 1 (ji3)) = j_ := ⟨_, rfl⟩
      replace H : (some ji5) = some r := by first | (rw [hji5] at H; exact H) | (simp only [hji5] at H ⊢; exact H)
      have hji5_ : (IntKind.u16.wrap (1 * 2 ^ min (ji3).toNat 16)) = ji5 := hji5
      have hji5z : (ji3) ≤ 16 → (IntKind.u16.wrap (1 * 2 ^ (ji3).toNat)) = ji5 := shl_small hji5
      have hji5u : (IntKind.u16.wrap (2 ^ min (ji3).toNat 16)) = ji5 := by have h_ := hji5_; rw [Int.one_mul] at h_; exact h_
      have hji5v : (ji3) ≤ 16 → (IntKind.u16.wrap (2 ^ (ji3).toNat)) = ji5 := fun hle_ => by have h_ := hji5z hle_; rw [Int.one_mul] at h_; exact h_
      obtain rfl := Option.some.inj H
      go_enter Try.func44, Try.ntmps44
      go_wp2
      go_ret
      exact ⟨by first | rfl | (simp; done) | (simp only [← hji3, ← hji5] <;> (first | rfl | simp)) | (simp [*]; done), by repeat (first | exact Drawn0.refl _ | apply Drawn0.step)⟩
    · rw [if_neg c4] at H
      exact absurd H (by simp)

end Go.Proofs.Ytdnjmhhjjbdieaa.Q
end

section
-- printed by wip/tools/qprint.py, a program of this session's, out of the translation. Not trusted: Lean checks it.
namespace Go.Proofs.Ytdnjmhhjjbdieaa.Q
open Go.RowKit Go.Proofs.YtdnjmhhjjbdieaaW.PrintWords Go.Proofs.YtdnjmhhjjbdieaaW.PrintLast
set_option linter.unusedVariables false
set_option linter.unusedSimpArgs false

/-! ### palantyperef02_Has: function 32 -/
def palantyperef02_Has.f (a0 : Int) (a1 : Int) : Option (Bool) := (palantyperef02_Bit.f a1).bind fun t101 => (some ((Go.bits .and .u16 a0 t101) != 0))
set_option maxHeartbeats 8000000 in
set_option maxRecDepth 100000 in
theorem palantyperef02_Has.calls (a0 : Int) (a1 : Int) (r : Bool) (w : World) (h : palantyperef02_Has.f a0 a1 = some r) :
    Calls Try.prog 32 #[.int .u16 a0, .int .i64 a1] w fun e w' => e = .returned (.bool r) ∧ Drawn0 w w' := by
  have H : ((palantyperef02_Bit.f a1).bind fun t101 => (some ((Go.bits .and .u16 a0 t101) != 0))) = some r := h
  clear h
  replace H := Option.bind_eq_some_iff.mp H
  obtain ⟨t101, A30, H⟩ := H
  replace H : (some ((Go.bits .and .u16 a0 t101) != 0)) = some r := H
  have A3 := Aside0.mk A30
  clear A30
  obtain rfl := Option.some.inj H
  go_enter Try.func32, Try.ntmps32
  go_wp2_with (first | ((with_reducible refine gate_callee (f := 44) rfl ?_); refine goesL_ (some 7) rfl rfl Try.func44 (by kernel_rfl) rfl #[.int .i64 a1] rfl (by (try simp only [List.map_toArray, List.map_cons, List.map_nil]); first | done | rfl | (simp only [List.length_drop, List.length_take]; rfl)) ?_; (with_reducible refine (palantyperef02_Bit.calls a1 t101 _ A3.out).mono ?_); rintro e w' ⟨rfl, ⟨nd, rfl⟩⟩; refine ⟨_, rfl, ?_⟩))
  go_ret
  exact ⟨by first | rfl | (simp; done) | (simp [*]; done), by repeat (first | exact Drawn0.refl _ | apply Drawn0.step)⟩

end Go.Proofs.Ytdnjmhhjjbdieaa.Q
end

section
-- printed by wip/tools/qprint.py, a program of this session's, out of the translation. Not trusted: Lean checks it.
namespace Go.Proofs.Ytdnjmhhjjbdieaa.Q
open Go.RowKit Go.Proofs.YtdnjmhhjjbdieaaW.PrintWords Go.Proofs.YtdnjmhhjjbdieaaW.PrintLast
set_option linter.unusedVariables false
set_option linter.unusedSimpArgs false

/-! ### palantyperef02_set: function 53 -/
def palantyperef02_set.l0 : Nat → Int → Int → Option (Bool)
  | 0, _, _ => none
  | k + 1, x0, x5 => if x5 < 15 then ((palantyperef02_Has.f x0 x5).bind fun t102 => (if t102 = true then (some false) else (palantyperef02_set.l0 k x0 (wrap64 (x5 + 1))))) else (some true)
def palantyperef02_set.f (k : Nat) (a0 : Int) (a1 : Int) : Option (Bool) := palantyperef02_set.l0 k a0 a1
theorem palantyperef02_set.mono_l : ∀ k, (∀ y0 y1, LeO (palantyperef02_set.l0 k y0 y1) (palantyperef02_set.l0 (k + 1) y0 y1))
  | 0 => fun _ _ r h => by simp [palantyperef02_set.l0] at h
  | k + 1 => by
    have ih0 := palantyperef02_set.mono_l k
    · intro y0 y1
      unfold palantyperef02_set.l0
      repeat' first
      | (with_reducible exact ih0 _ _)
      | (with_reducible exact LeO.refl _)
      | (with_reducible exact LeO.none _)
      | (with_reducible refine LeO.ite ?_ ?_)
      | (with_reducible refine LeO.bind ?_ (fun _ => ?_))
      | exact ih0 _ _
      | exact LeO.none _
      | refine LeO.ite ?_ ?_
      | refine LeO.bind ?_ (fun _ => ?_)
theorem palantyperef02_set.mono : ∀ a0 a1 k, LeO (palantyperef02_set.f k a0 a1) (palantyperef02_set.f (k + 1) a0 a1) := by
  intro a0 a1 k
  have ih0 := palantyperef02_set.mono_l k
  unfold palantyperef02_set.f
  repeat' first
      | (with_reducible exact ih0 _ _)
      | (with_reducible exact LeO.refl _)
      | (with_reducible exact LeO.none _)
      | (with_reducible refine LeO.ite ?_ ?_)
      | (with_reducible refine LeO.bind ?_ (fun _ => ?_))
      | exact ih0 _ _
      | exact LeO.none _
      | refine LeO.ite ?_ ?_
      | refine LeO.bind ?_ (fun _ => ?_)
set_option maxHeartbeats 8000000 in
set_option maxRecDepth 100000 in
theorem palantyperef02_set.calls (k : Nat) (a0 : Int) (a1 : Int) (r : Bool) (w : World) (h : palantyperef02_set.f k a0 a1 = some r) :
    Calls Try.prog 53 #[.int .u16 a0, .int .i64 a1] w fun e w' => e = .returned (.bool r) ∧ Drawn0 w w' := by
  have H : (palantyperef02_set.l0 k a0 a1) = some r := h
  clear h
  have H' := Aside0.mk H
  clear H
  go_enter Try.func53, Try.ntmps53
  go_wp2
  go_loopg [5] k (fun kq v5 w' => ∃ (x5_1 : Int), v5 = .int .i64 x5_1 ∧ Aside0 (palantyperef02_set.l0 kq a0 x5_1 = some r) ∧ Aside0 (kq ≤ k) ∧ Drawn0 w w')
  case atStart => exact ⟨(a1), (by first | rfl | (simp; done) | (simp [*]; done)), H', ⟨Nat.le_refl _⟩, by repeat (first | exact Drawn0.refl _ | apply Drawn0.step)⟩
  case round =>
    clear H'
    try clear p2
    obtain ⟨x5_1, rfl, HA, HK1, ⟨m1, rfl⟩⟩ := hrel
    cases gk with
    | zero => exact absurd HA.out (by simp [palantyperef02_set.l0])
    | succ k1 =>
      have H := HA.out
      clear HA
      simp only [palantyperef02_set.l0] at H
      by_cases c3 : x5_1 < 15
      · rw [if_pos c3] at H
        have c3b0 : decide (x5_1 < 15) = true := decide_eq_true c3
        clear c3
        replace H := Option.bind_eq_some_iff.mp H
        obtain ⟨t102, A40, H⟩ := H
        replace H : (if t102 = true then (some false) else (palantyperef02_set.l0 k1 a0 (wrap64 (x5_1 + 1)))) = some r := H
        have A4 := Aside0.mk A40
        clear A40
        by_cases c5 : t102 = true
        · subst c5
          have H1 : (some false) = some r := by rw [if_pos rfl] at H; exact H
          clear H
          have H := H1
          clear H1
          obtain rfl := Option.some.inj H
          go_wp2_with (first | ((with_reducible refine gate_callee (f := 32) rfl ?_); refine goesL_ (some 13) rfl rfl Try.func32 (by kernel_rfl) rfl #[.int .u16 a0, .int .i64 x5_1] rfl (by (try simp only [List.map_toArray, List.map_cons, List.map_nil]); first | done | rfl | (simp only [List.length_drop, List.length_take]; rfl)) ?_; (with_reducible refine (palantyperef02_Has.calls a0 x5_1 true _ A4.out).mono ?_); rintro e w' ⟨rfl, ⟨nd, rfl⟩⟩; refine ⟨_, rfl, ?_⟩))
          go_ret
          exact ⟨by first | rfl | (simp; done) | (simp [*]; done), by repeat (first | exact Drawn0.refl _ | apply Drawn0.step)⟩
        · replace c5 := Bool.eq_false_iff.mpr c5
          subst c5
          have H1 : (palantyperef02_set.l0 k1 a0 (wrap64 (x5_1 + 1))) = some r := by rw [if_neg (show ¬ (false = true) by decide)] at H; exact H
          clear H
          have H := H1
          clear H1
          have H' := Aside0.mk H
          clear H
          go_wp2_with (first | ((with_reducible refine gate_callee (f := 32) rfl ?_); refine goesL_ (some 13) rfl rfl Try.func32 (by kernel_rfl) rfl #[.int .u16 a0, .int .i64 x5_1] rfl (by (try simp only [List.map_toArray, List.map_cons, List.map_nil]); first | done | rfl | (simp only [List.length_drop, List.length_take]; rfl)) ?_; (with_reducible refine (palantyperef02_Has.calls a0 x5_1 false _ A4.out).mono ?_); rintro e w' ⟨rfl, ⟨nd, rfl⟩⟩; refine ⟨_, rfl, ?_⟩))
          go_roundg k1
          case measure => have := HK1.out; omega
          case rel => exact ⟨(wrap64 (x5_1 + 1)), (by first | rfl | (simp; done) | (simp [*]; done)), H', ⟨by have := HK1.out; omega⟩, by repeat (first | exact Drawn0.refl _ | apply Drawn0.step)⟩
      · rw [if_neg c3] at H
        have c3b0 : decide (x5_1 < 15) = false := decide_eq_false c3
        clear c3
        obtain rfl := Option.some.inj H
        go_wp2
        go_ret
        exact ⟨by first | rfl | (simp; done) | (simp [*]; done), by repeat (first | exact Drawn0.refl _ | apply Drawn0.step)⟩

end Go.Proofs.Ytdnjmhhjjbdieaa.Q
end

section
-- printed by wip/tools/qprint.py, a program of this session's, out of the translation. Not trusted: Lean checks it.
namespace Go.Proofs.Ytdnjmhhjjbdieaa.Q
open Go.RowKit Go.Proofs.YtdnjmhhjjbdieaaW.PrintWords Go.Proofs.YtdnjmhhjjbdieaaW.PrintLast
set_option linter.unusedVariables false
set_option linter.unusedSimpArgs false

/-! ### palantyperef02_Fault: function 20 -/
mutual
def palantyperef02_Fault.j0 : Nat → Bool → Int → Int → Int → Int → List (S59) → Option (Int)
  | 0, _, _, _, _, _, _ => none
  | k + 1, x31, x104000, x104001, x104002, x104003, x104004 => if x31 = true then (some 1) else (palantyperef02_Fault.l0 k 0 x104000 x104001 x104002 x104003 x104004)
def palantyperef02_Fault.l0 : Nat → Int → Int → Int → Int → Int → List (S59) → Option (Int)
  | 0, _, _, _, _, _, _ => none
  | k + 1, x3, x104000, x104001, x104002, x104003, x104004 => if x3 < (x104004.length : Int) then (if 0 ≤ x3 then ((palantyperef02_set.f k ((rd_T59 x104004 x3).f0) x104000).bind fun t109 => (if t109 = true then ((palantyperef02_set.f k ((rd_T59 x104004 x3).f1) x104000).bind fun t111 => (if t111 = true then (palantyperef02_Fault.l0 k (wrap64 (x3 + 1)) x104000 x104001 x104002 x104003 x104004) else (some 1))) else (some 1))) else (none)) else (some 0)
end
def palantyperef02_Fault.f (k : Nat) (a0_0 : Int) (a0_1 : Int) (a0_2 : Int) (a0_3 : Int) (l0_4 : List (S59)) : Option (Int) := if (l0_4.length : Int) > 40 then (some 3) else ((palantyperef02_In.f a0_0 1 12).bind fun t104 => (if t104 = true then ((palantyperef02_In.f a0_2 1 20).bind fun t105 => (if t105 = true then ((palantyperef02_In.f a0_1 1 a0_2).bind fun t106 => (if t106 = true then ((palantyperef02_In.f a0_3 0 20).bind fun t107 => (palantyperef02_Fault.j0 k (!t107) a0_0 a0_1 a0_2 a0_3 l0_4)) else (palantyperef02_Fault.j0 k true a0_0 a0_1 a0_2 a0_3 l0_4))) else (palantyperef02_Fault.j0 k true a0_0 a0_1 a0_2 a0_3 l0_4))) else (palantyperef02_Fault.j0 k true a0_0 a0_1 a0_2 a0_3 l0_4)))
theorem palantyperef02_Fault.mono_l : ∀ k, (∀ y0 y1 y2 y3 y4 y5, LeO (palantyperef02_Fault.j0 k y0 y1 y2 y3 y4 y5) (palantyperef02_Fault.j0 (k + 1) y0 y1 y2 y3 y4 y5)) ∧ (∀ y0 y1 y2 y3 y4 y5, LeO (palantyperef02_Fault.l0 k y0 y1 y2 y3 y4 y5) (palantyperef02_Fault.l0 (k + 1) y0 y1 y2 y3 y4 y5))
  | 0 => ⟨fun _ _ _ _ _ _ r h => by simp [palantyperef02_Fault.j0] at h, fun _ _ _ _ _ _ r h => by simp [palantyperef02_Fault.l0] at h⟩
  | k + 1 => by
    obtain ⟨ih0, ih1⟩ := palantyperef02_Fault.mono_l k
    refine ⟨?_, ?_⟩
    · intro y0 y1 y2 y3 y4 y5
      unfold palantyperef02_Fault.j0
      repeat' first
      | (with_reducible exact ih0 _ _ _ _ _ _)
      | (with_reducible exact ih1 _ _ _ _ _ _)
      | (with_reducible exact palantyperef02_set.mono _ _ _)
      | (with_reducible exact LeO.refl _)
      | (with_reducible exact LeO.none _)
      | (with_reducible refine LeO.ite ?_ ?_)
      | (with_reducible refine LeO.bind ?_ (fun _ => ?_))
      | exact ih0 _ _ _ _ _ _
      | exact ih1 _ _ _ _ _ _
      | exact palantyperef02_set.mono _ _ _
      | exact LeO.none _
      | refine LeO.ite ?_ ?_
      | refine LeO.bind ?_ (fun _ => ?_)
    · intro y0 y1 y2 y3 y4 y5
      unfold palantyperef02_Fault.l0
      repeat' first
      | (with_reducible exact ih0 _ _ _ _ _ _)
      | (with_reducible exact ih1 _ _ _ _ _ _)
      | (with_reducible exact palantyperef02_set.mono _ _ _)
      | (with_reducible exact LeO.refl _)
      | (with_reducible exact LeO.none _)
      | (with_reducible refine LeO.ite ?_ ?_)
      | (with_reducible refine LeO.bind ?_ (fun _ => ?_))
      | exact ih0 _ _ _ _ _ _
      | exact ih1 _ _ _ _ _ _
      | exact palantyperef02_set.mono _ _ _
      | exact LeO.none _
      | refine LeO.ite ?_ ?_
      | refine LeO.bind ?_ (fun _ => ?_)
theorem palantyperef02_Fault.mono : ∀ a0 a1 a2 a3 a4 k, LeO (palantyperef02_Fault.f k a0 a1 a2 a3 a4) (palantyperef02_Fault.f (k + 1) a0 a1 a2 a3 a4) := by
  intro a0 a1 a2 a3 a4 k
  obtain ⟨ih0, ih1⟩ := palantyperef02_Fault.mono_l k
  unfold palantyperef02_Fault.f
  repeat' first
      | (with_reducible exact ih0 _ _ _ _ _ _)
      | (with_reducible exact ih1 _ _ _ _ _ _)
      | (with_reducible exact palantyperef02_set.mono _ _ _)
      | (with_reducible exact LeO.refl _)
      | (with_reducible exact LeO.none _)
      | (with_reducible refine LeO.ite ?_ ?_)
      | (with_reducible refine LeO.bind ?_ (fun _ => ?_))
      | exact ih0 _ _ _ _ _ _
      | exact ih1 _ _ _ _ _ _
      | exact palantyperef02_set.mono _ _ _
      | exact LeO.none _
      | refine LeO.ite ?_ ?_
      | refine LeO.bind ?_ (fun _ => ?_)
set_option maxHeartbeats 8000000 in
set_option maxRecDepth 100000 in
theorem palantyperef02_Fault.calls (k : Nat) (a0_0 : Int) (a0_1 : Int) (a0_2 : Int) (a0_3 : Int) (A0_4 : Option Addr) (c0_4 : Nat) (l0_4 : List (S59)) (r : Int) (w : World) (hr0_4 : Kd.C k59 w A0_4 l0_4.length l0_4) (hc0_4 : l0_4.length ≤ c0_4) (h : palantyperef02_Fault.f k a0_0 a0_1 a0_2 a0_3 l0_4 = some r) :
    Calls Try.prog 20 #[.agg #[.int .i64 a0_0, .int .i64 a0_1, .int .i64 a0_2, .int .i64 a0_3, .slice A0_4 l0_4.length c0_4]] w fun e w' => e = .returned (.int .i64 r) ∧ Below w.heap.size w w' := by
  have hu24 := Try.underlying24
  have HR0_4 := Aside0.mk hr0_4
  have HC0_4 := Aside0.mk hc0_4
  clear hr0_4 hc0_4
  have HB := Aside0.mk (Below.refl w.heap.size w)
  have H : (if (l0_4.length : Int) > 40 then (some 3) else ((palantyperef02_In.f a0_0 1 12).bind fun t104 => (if t104 = true then ((palantyperef02_In.f a0_2 1 20).bind fun t105 => (if t105 = true then ((palantyperef02_In.f a0_1 1 a0_2).bind fun t106 => (if t106 = true then ((palantyperef02_In.f a0_3 0 20).bind fun t107 => (palantyperef02_Fault.j0 k (!t107) a0_0 a0_1 a0_2 a0_3 l0_4)) else (palantyperef02_Fault.j0 k true a0_0 a0_1 a0_2 a0_3 l0_4))) else (palantyperef02_Fault.j0 k true a0_0 a0_1 a0_2 a0_3 l0_4))) else (palantyperef02_Fault.j0 k true a0_0 a0_1 a0_2 a0_3 l0_4)))) = some r := h
  clear h
  by_cases c2 : (l0_4.length : Int) > 40
  · rw [if_pos c2] at H
    have c2b0 : decide (40 < (l0_4.length : Int)) = true := decide_eq_true c2
    have c2b1 : decide (40 < l0_4.length) = true := decide_eq_true (by omega)
    clear c2
    obtain rfl := Option.some.inj H
    go_enter Try.func20, Try.ntmps20
    go_wp2_with (first | ((with_reducible refine gate_dst (N := 1) rfl ?_); refine box_event ?hg (N := 1) ?hd (cs := #[.int .i64 a0_0, .int .i64 a0_1, .int .i64 a0_2, .int .i64 a0_3, .slice A0_4 l0_4.length c0_4]) (t := 24) ?hr ?_; (case hd => rfl); (case hg => rfl); (case hr => first | (go_simp; done) | (go_simp; rfl)); intro gb103 hg w3 hbox hb; have n0_ := Aside0.mk (below_step (by repeat (first | (with_reducible first | exact HB.out | apply below_alloc | apply pw_below_drewN | apply below_drew1) | exact HB.out)) hb); have n1_ := Aside0.mk (hbox); have n2_ := Aside0.mk ((by rw [hg]; exact (below_size (by repeat (first | (with_reducible first | exact HB.out | apply below_alloc | apply pw_below_drewN | apply below_drew1) | exact HB.out))) : w.heap.size ≤ gb103)); have n3_ := Aside0.mk ((by rw [hg]; exact (below_size (by repeat (first | (with_reducible first | exact HB.out | apply below_alloc | apply pw_below_drewN | apply below_drew1) | exact HB.out))) : w.heap.size ≤ gb103)); clear HB; have HB := n0_; have BK103 := n1_; have GW103 := n2_; have GE103 := n3_; clear n0_ n1_ n2_ n3_; clear hb hbox hg; have hcz4_0 : w3.cell? ⟨gb103, 0, none⟩ = some (.int .i64 a0_0) := (blk_cell BK103.out 0).trans rfl; have hcz4_1 : w3.cell? ⟨gb103, 1, none⟩ = some (.int .i64 a0_1) := (blk_cell BK103.out 1).trans rfl; have hcz4_2 : w3.cell? ⟨gb103, 2, none⟩ = some (.int .i64 a0_2) := (blk_cell BK103.out 2).trans rfl; have hcz4_3 : w3.cell? ⟨gb103, 3, none⟩ = some (.int .i64 a0_3) := (blk_cell BK103.out 3).trans rfl; have hcz4_4 : w3.cell? ⟨gb103, 4, none⟩ = some (.slice A0_4 l0_4.length c0_4) := (blk_cell BK103.out 4).trans rfl; have hfz4_0 := blk_frozen BK103.out 0; have hfz4_1 := blk_frozen BK103.out 1; have hfz4_2 := blk_frozen BK103.out 2; have hfz4_3 := blk_frozen BK103.out 3; have hfz4_4 := blk_frozen BK103.out 4))
    repeat (go_quiet (first | ((with_reducible refine gate_dst (N := 1) rfl ?_); refine box_event ?hg (N := 1) ?hd (cs := #[.int .i64 a0_0, .int .i64 a0_1, .int .i64 a0_2, .int .i64 a0_3, .slice A0_4 l0_4.length c0_4]) (t := 24) ?hr ?_; (case hd => rfl); (case hg => rfl); (case hr => first | (go_simp; done) | (go_simp; rfl)); intro gb103 hg w3 hbox hb; have n0_ := Aside0.mk (below_step (by repeat (first | (with_reducible first | exact HB.out | apply below_alloc | apply pw_below_drewN | apply below_drew1) | exact HB.out)) hb); have n1_ := Aside0.mk (hbox); have n2_ := Aside0.mk ((by rw [hg]; exact (below_size (by repeat (first | (with_reducible first | exact HB.out | apply below_alloc | apply pw_below_drewN | apply below_drew1) | exact HB.out))) : w.heap.size ≤ gb103)); have n3_ := Aside0.mk ((by rw [hg]; exact (below_size (by repeat (first | (with_reducible first | exact HB.out | apply below_alloc | apply pw_below_drewN | apply below_drew1) | exact HB.out))) : w.heap.size ≤ gb103)); clear HB; have HB := n0_; have BK103 := n1_; have GW103 := n2_; have GE103 := n3_; clear n0_ n1_ n2_ n3_; clear hb hbox hg; have hcz4_0 : w3.cell? ⟨gb103, 0, none⟩ = some (.int .i64 a0_0) := (blk_cell BK103.out 0).trans rfl; have hcz4_1 : w3.cell? ⟨gb103, 1, none⟩ = some (.int .i64 a0_1) := (blk_cell BK103.out 1).trans rfl; have hcz4_2 : w3.cell? ⟨gb103, 2, none⟩ = some (.int .i64 a0_2) := (blk_cell BK103.out 2).trans rfl; have hcz4_3 : w3.cell? ⟨gb103, 3, none⟩ = some (.int .i64 a0_3) := (blk_cell BK103.out 3).trans rfl; have hcz4_4 : w3.cell? ⟨gb103, 4, none⟩ = some (.slice A0_4 l0_4.length c0_4) := (blk_cell BK103.out 4).trans rfl; have hfz4_0 := blk_frozen BK103.out 0; have hfz4_1 := blk_frozen BK103.out 1; have hfz4_2 := blk_frozen BK103.out 2; have hfz4_3 := blk_frozen BK103.out 3; have hfz4_4 := blk_frozen BK103.out 4)); try go_wp2_with (first | ((with_reducible refine gate_dst (N := 1) rfl ?_); refine box_event ?hg (N := 1) ?hd (cs := #[.int .i64 a0_0, .int .i64 a0_1, .int .i64 a0_2, .int .i64 a0_3, .slice A0_4 l0_4.length c0_4]) (t := 24) ?hr ?_; (case hd => rfl); (case hg => rfl); (case hr => first | (go_simp; done) | (go_simp; rfl)); intro gb103 hg w3 hbox hb; have n0_ := Aside0.mk (below_step (by repeat (first | (with_reducible first | exact HB.out | apply below_alloc | apply pw_below_drewN | apply below_drew1) | exact HB.out)) hb); have n1_ := Aside0.mk (hbox); have n2_ := Aside0.mk ((by rw [hg]; exact (below_size (by repeat (first | (with_reducible first | exact HB.out | apply below_alloc | apply pw_below_drewN | apply below_drew1) | exact HB.out))) : w.heap.size ≤ gb103)); have n3_ := Aside0.mk ((by rw [hg]; exact (below_size (by repeat (first | (with_reducible first | exact HB.out | apply below_alloc | apply pw_below_drewN | apply below_drew1) | exact HB.out))) : w.heap.size ≤ gb103)); clear HB; have HB := n0_; have BK103 := n1_; have GW103 := n2_; have GE103 := n3_; clear n0_ n1_ n2_ n3_; clear hb hbox hg; have hcz4_0 : w3.cell? ⟨gb103, 0, none⟩ = some (.int .i64 a0_0) := (blk_cell BK103.out 0).trans rfl; have hcz4_1 : w3.cell? ⟨gb103, 1, none⟩ = some (.int .i64 a0_1) := (blk_cell BK103.out 1).trans rfl; have hcz4_2 : w3.cell? ⟨gb103, 2, none⟩ = some (.int .i64 a0_2) := (blk_cell BK103.out 2).trans rfl; have hcz4_3 : w3.cell? ⟨gb103, 3, none⟩ = some (.int .i64 a0_3) := (blk_cell BK103.out 3).trans rfl; have hcz4_4 : w3.cell? ⟨gb103, 4, none⟩ = some (.slice A0_4 l0_4.length c0_4) := (blk_cell BK103.out 4).trans rfl; have hfz4_0 := blk_frozen BK103.out 0; have hfz4_1 := blk_frozen BK103.out 1; have hfz4_2 := blk_frozen BK103.out 2; have hfz4_3 := blk_frozen BK103.out 3; have hfz4_4 := blk_frozen BK103.out 4)))
    go_ret
    exact ⟨by first | rfl | (simp [errW_none, errW_some] <;> rfl) | (simp [*, errW_none, errW_some] <;> rfl), by repeat (first | (with_reducible first | exact HB.out | apply below_alloc | apply pw_below_drewN | apply below_drew1 | refine below_set ?_ GE103.out) | exact HB.out)⟩
  · rw [if_neg c2] at H
    have c2b0 : decide (40 < (l0_4.length : Int)) = false := decide_eq_false c2
    have c2b1 : decide (40 < l0_4.length) = false := decide_eq_false (by omega)
    clear c2
    have HC5 := Aside0.mk H
    clear H
    go_enter Try.func20, Try.ntmps20
    go_upto_region 3 with (first | ((with_reducible refine gate_dst (N := 1) rfl ?_); refine box_event ?hg (N := 1) ?hd (cs := #[.int .i64 a0_0, .int .i64 a0_1, .int .i64 a0_2, .int .i64 a0_3, .slice A0_4 l0_4.length c0_4]) (t := 24) ?hr ?_; (case hd => rfl); (case hg => rfl); (case hr => first | (go_simp; done) | (go_simp; rfl)); intro gb103 hg w6 hbox hb; have n0_ := Aside0.mk (below_step (by repeat (first | (with_reducible first | exact HB.out | apply below_alloc | apply pw_below_drewN | apply below_drew1) | exact HB.out)) hb); have n1_ := Aside0.mk (hbox); have n2_ := Aside0.mk ((by rw [hg]; exact (below_size (by repeat (first | (with_reducible first | exact HB.out | apply below_alloc | apply pw_below_drewN | apply below_drew1) | exact HB.out))) : w.heap.size ≤ gb103)); have n3_ := Aside0.mk ((by rw [hg]; exact (below_size (by repeat (first | (with_reducible first | exact HB.out | apply below_alloc | apply pw_below_drewN | apply below_drew1) | exact HB.out))) : w.heap.size ≤ gb103)); clear HB; have HB := n0_; have BK103 := n1_; have GW103 := n2_; have GE103 := n3_; clear n0_ n1_ n2_ n3_; clear hb hbox hg; have hcz7_0 : w6.cell? ⟨gb103, 0, none⟩ = some (.int .i64 a0_0) := (blk_cell BK103.out 0).trans rfl; have hcz7_1 : w6.cell? ⟨gb103, 1, none⟩ = some (.int .i64 a0_1) := (blk_cell BK103.out 1).trans rfl; have hcz7_2 : w6.cell? ⟨gb103, 2, none⟩ = some (.int .i64 a0_2) := (blk_cell BK103.out 2).trans rfl; have hcz7_3 : w6.cell? ⟨gb103, 3, none⟩ = some (.int .i64 a0_3) := (blk_cell BK103.out 3).trans rfl; have hcz7_4 : w6.cell? ⟨gb103, 4, none⟩ = some (.slice A0_4 l0_4.length c0_4) := (blk_cell BK103.out 4).trans rfl; have hfz7_0 := blk_frozen BK103.out 0; have hfz7_1 := blk_frozen BK103.out 1; have hfz7_2 := blk_frozen BK103.out 2; have hfz7_3 := blk_frozen BK103.out 3; have hfz7_4 := blk_frozen BK103.out 4))
    repeat (go_quiet (first | ((with_reducible refine gate_dst (N := 1) rfl ?_); refine box_event ?hg (N := 1) ?hd (cs := #[.int .i64 a0_0, .int .i64 a0_1, .int .i64 a0_2, .int .i64 a0_3, .slice A0_4 l0_4.length c0_4]) (t := 24) ?hr ?_; (case hd => rfl); (case hg => rfl); (case hr => first | (go_simp; done) | (go_simp; rfl)); intro gb103 hg w6 hbox hb; have n0_ := Aside0.mk (below_step (by repeat (first | (with_reducible first | exact HB.out | apply below_alloc | apply pw_below_drewN | apply below_drew1) | exact HB.out)) hb); have n1_ := Aside0.mk (hbox); have n2_ := Aside0.mk ((by rw [hg]; exact (below_size (by repeat (first | (with_reducible first | exact HB.out | apply below_alloc | apply pw_below_drewN | apply below_drew1) | exact HB.out))) : w.heap.size ≤ gb103)); have n3_ := Aside0.mk ((by rw [hg]; exact (below_size (by repeat (first | (with_reducible first | exact HB.out | apply below_alloc | apply pw_below_drewN | apply below_drew1) | exact HB.out))) : w.heap.size ≤ gb103)); clear HB; have HB := n0_; have BK103 := n1_; have GW103 := n2_; have GE103 := n3_; clear n0_ n1_ n2_ n3_; clear hb hbox hg; have hcz7_0 : w6.cell? ⟨gb103, 0, none⟩ = some (.int .i64 a0_0) := (blk_cell BK103.out 0).trans rfl; have hcz7_1 : w6.cell? ⟨gb103, 1, none⟩ = some (.int .i64 a0_1) := (blk_cell BK103.out 1).trans rfl; have hcz7_2 : w6.cell? ⟨gb103, 2, none⟩ = some (.int .i64 a0_2) := (blk_cell BK103.out 2).trans rfl; have hcz7_3 : w6.cell? ⟨gb103, 3, none⟩ = some (.int .i64 a0_3) := (blk_cell BK103.out 3).trans rfl; have hcz7_4 : w6.cell? ⟨gb103, 4, none⟩ = some (.slice A0_4 l0_4.length c0_4) := (blk_cell BK103.out 4).trans rfl; have hfz7_0 := blk_frozen BK103.out 0; have hfz7_1 := blk_frozen BK103.out 1; have hfz7_2 := blk_frozen BK103.out 2; have hfz7_3 := blk_frozen BK103.out 3; have hfz7_4 := blk_frozen BK103.out 4)); go_upto_region 3 with (first | ((with_reducible refine gate_dst (N := 1) rfl ?_); refine box_event ?hg (N := 1) ?hd (cs := #[.int .i64 a0_0, .int .i64 a0_1, .int .i64 a0_2, .int .i64 a0_3, .slice A0_4 l0_4.length c0_4]) (t := 24) ?hr ?_; (case hd => rfl); (case hg => rfl); (case hr => first | (go_simp; done) | (go_simp; rfl)); intro gb103 hg w6 hbox hb; have n0_ := Aside0.mk (below_step (by repeat (first | (with_reducible first | exact HB.out | apply below_alloc | apply pw_below_drewN | apply below_drew1) | exact HB.out)) hb); have n1_ := Aside0.mk (hbox); have n2_ := Aside0.mk ((by rw [hg]; exact (below_size (by repeat (first | (with_reducible first | exact HB.out | apply below_alloc | apply pw_below_drewN | apply below_drew1) | exact HB.out))) : w.heap.size ≤ gb103)); have n3_ := Aside0.mk ((by rw [hg]; exact (below_size (by repeat (first | (with_reducible first | exact HB.out | apply below_alloc | apply pw_below_drewN | apply below_drew1) | exact HB.out))) : w.heap.size ≤ gb103)); clear HB; have HB := n0_; have BK103 := n1_; have GW103 := n2_; have GE103 := n3_; clear n0_ n1_ n2_ n3_; clear hb hbox hg; have hcz7_0 : w6.cell? ⟨gb103, 0, none⟩ = some (.int .i64 a0_0) := (blk_cell BK103.out 0).trans rfl; have hcz7_1 : w6.cell? ⟨gb103, 1, none⟩ = some (.int .i64 a0_1) := (blk_cell BK103.out 1).trans rfl; have hcz7_2 : w6.cell? ⟨gb103, 2, none⟩ = some (.int .i64 a0_2) := (blk_cell BK103.out 2).trans rfl; have hcz7_3 : w6.cell? ⟨gb103, 3, none⟩ = some (.int .i64 a0_3) := (blk_cell BK103.out 3).trans rfl; have hcz7_4 : w6.cell? ⟨gb103, 4, none⟩ = some (.slice A0_4 l0_4.length c0_4) := (blk_cell BK103.out 4).trans rfl; have hfz7_0 := blk_frozen BK103.out 0; have hfz7_1 := blk_frozen BK103.out 1; have hfz7_2 := blk_frozen BK103.out 2; have hfz7_3 := blk_frozen BK103.out 3; have hfz7_4 := blk_frozen BK103.out 4)))
    (try simp only [Act.put, List.setIfInBounds_toArray, List.set_cons_zero, List.set_cons_succ])
    go_cut [31] (fun v31 wc => ∃ (kq : Nat) (x31_4 : Bool), v31 = .bool x31_4 ∧ Aside0 (palantyperef02_Fault.j0 kq x31_4 a0_0 a0_1 a0_2 a0_3 l0_4 = some r) ∧ Aside0 (kq ≤ k) ∧ Aside0 (wc.heap[gb103]? = some (.cells #[.int .i64 a0_0, .int .i64 a0_1, .int .i64 a0_2, .int .i64 a0_3, (.slice A0_4 l0_4.length c0_4)] 24 (0, 0))) ∧ Aside0 (Below w.heap.size w wc))
    case first =>
      have H := HC5.out
      clear HC5
      replace H := Option.bind_eq_some_iff.mp H
      obtain ⟨t104, A80, H⟩ := H
      replace H : (if t104 = true then ((palantyperef02_In.f a0_2 1 20).bind fun t105 => (if t105 = true then ((palantyperef02_In.f a0_1 1 a0_2).bind fun t106 => (if t106 = true then ((palantyperef02_In.f a0_3 0 20).bind fun t107 => (palantyperef02_Fault.j0 k (!t107) a0_0 a0_1 a0_2 a0_3 l0_4)) else (palantyperef02_Fault.j0 k true a0_0 a0_1 a0_2 a0_3 l0_4))) else (palantyperef02_Fault.j0 k true a0_0 a0_1 a0_2 a0_3 l0_4))) else (palantyperef02_Fault.j0 k true a0_0 a0_1 a0_2 a0_3 l0_4)) = some r := H
      have A8 := Aside0.mk A80
      clear A80
      by_cases c9 : t104 = true
      · subst c9
        have H1 : ((palantyperef02_In.f a0_2 1 20).bind fun t105 => (if t105 = true then ((palantyperef02_In.f a0_1 1 a0_2).bind fun t106 => (if t106 = true then ((palantyperef02_In.f a0_3 0 20).bind fun t107 => (palantyperef02_Fault.j0 k (!t107) a0_0 a0_1 a0_2 a0_3 l0_4)) else (palantyperef02_Fault.j0 k true a0_0 a0_1 a0_2 a0_3 l0_4))) else (palantyperef02_Fault.j0 k true a0_0 a0_1 a0_2 a0_3 l0_4))) = some r := by rw [if_pos rfl] at H; exact H
        clear H
        have H := H1
        clear H1
        replace H := Option.bind_eq_some_iff.mp H
        obtain ⟨t105, A100, H⟩ := H
        replace H : (if t105 = true then ((palantyperef02_In.f a0_1 1 a0_2).bind fun t106 => (if t106 = true then ((palantyperef02_In.f a0_3 0 20).bind fun t107 => (palantyperef02_Fault.j0 k (!t107) a0_0 a0_1 a0_2 a0_3 l0_4)) else (palantyperef02_Fault.j0 k true a0_0 a0_1 a0_2 a0_3 l0_4))) else (palantyperef02_Fault.j0 k true a0_0 a0_1 a0_2 a0_3 l0_4)) = some r := H
        have A10 := Aside0.mk A100
        clear A100
        by_cases c11 : t105 = true
        · subst c11
          have H1 : ((palantyperef02_In.f a0_1 1 a0_2).bind fun t106 => (if t106 = true then ((palantyperef02_In.f a0_3 0 20).bind fun t107 => (palantyperef02_Fault.j0 k (!t107) a0_0 a0_1 a0_2 a0_3 l0_4)) else (palantyperef02_Fault.j0 k true a0_0 a0_1 a0_2 a0_3 l0_4))) = some r := by rw [if_pos rfl] at H; exact H
          clear H
          have H := H1
          clear H1
          replace H := Option.bind_eq_some_iff.mp H
          obtain ⟨t106, A120, H⟩ := H
          replace H : (if t106 = true then ((palantyperef02_In.f a0_3 0 20).bind fun t107 => (palantyperef02_Fault.j0 k (!t107) a0_0 a0_1 a0_2 a0_3 l0_4)) else (palantyperef02_Fault.j0 k true a0_0 a0_1 a0_2 a0_3 l0_4)) = some r := H
          have A12 := Aside0.mk A120
          clear A120
          by_cases c13 : t106 = true
          · subst c13
            have H1 : ((palantyperef02_In.f a0_3 0 20).bind fun t107 => (palantyperef02_Fault.j0 k (!t107) a0_0 a0_1 a0_2 a0_3 l0_4)) = some r := by rw [if_pos rfl] at H; exact H
            clear H
            have H := H1
            clear H1
            replace H := Option.bind_eq_some_iff.mp H
            obtain ⟨t107, A140, H⟩ := H
            replace H : (palantyperef02_Fault.j0 k (!t107) a0_0 a0_1 a0_2 a0_3 l0_4) = some r := H
            have A14 := Aside0.mk A140
            clear A140
            have H' := Aside0.mk H
            clear H
            have hcz15_0 : w6.cell? ⟨gb103, 0, none⟩ = some (.int .i64 a0_0) := (blk_cell BK103.out 0).trans rfl
            have hcz15_1 : w6.cell? ⟨gb103, 1, none⟩ = some (.int .i64 a0_1) := (blk_cell BK103.out 1).trans rfl
            have hcz15_2 : w6.cell? ⟨gb103, 2, none⟩ = some (.int .i64 a0_2) := (blk_cell BK103.out 2).trans rfl
            have hcz15_3 : w6.cell? ⟨gb103, 3, none⟩ = some (.int .i64 a0_3) := (blk_cell BK103.out 3).trans rfl
            have hcz15_4 : w6.cell? ⟨gb103, 4, none⟩ = some (.slice A0_4 l0_4.length c0_4) := (blk_cell BK103.out 4).trans rfl
            have hfz15_0 := blk_frozen BK103.out 0
            have hfz15_1 := blk_frozen BK103.out 1
            have hfz15_2 := blk_frozen BK103.out 2
            have hfz15_3 := blk_frozen BK103.out 3
            have hfz15_4 := blk_frozen BK103.out 4
            go_wp2_with (first | (go_at_call 25; (with_reducible refine (palantyperef02_In.calls a0_0 1 12 true _ A8.out).mono ?_); rintro e w' ⟨rfl, ⟨nd, rfl⟩⟩; (try first | exact ⟨rfl, _, World.drewN_drewN _ _ _⟩ | exact ⟨rfl, _, Eq.trans (World.drewN_drewN _ _ _) (congrArg (World.drewN _) (Nat.add_assoc _ _ _))⟩)) | (go_at_call 25; (with_reducible refine (palantyperef02_In.calls a0_2 1 20 true _ A10.out).mono ?_); rintro e w' ⟨rfl, ⟨nd, rfl⟩⟩; (try first | exact ⟨rfl, _, World.drewN_drewN _ _ _⟩ | exact ⟨rfl, _, Eq.trans (World.drewN_drewN _ _ _) (congrArg (World.drewN _) (Nat.add_assoc _ _ _))⟩)) | (go_at_call 25; (with_reducible refine (palantyperef02_In.calls a0_1 1 a0_2 true _ A12.out).mono ?_); rintro e w' ⟨rfl, ⟨nd, rfl⟩⟩; (try first | exact ⟨rfl, _, World.drewN_drewN _ _ _⟩ | exact ⟨rfl, _, Eq.trans (World.drewN_drewN _ _ _) (congrArg (World.drewN _) (Nat.add_assoc _ _ _))⟩)) | (go_at_call 25; (with_reducible refine (palantyperef02_In.calls a0_3 0 20 t107 _ A14.out).mono ?_); rintro e w' ⟨rfl, ⟨nd, rfl⟩⟩; (try first | exact ⟨rfl, _, World.drewN_drewN _ _ _⟩ | exact ⟨rfl, _, Eq.trans (World.drewN_drewN _ _ _) (congrArg (World.drewN _) (Nat.add_assoc _ _ _))⟩)))
            repeat (go_quiet (first | (go_at_call 25; (with_reducible refine (palantyperef02_In.calls a0_0 1 12 true _ A8.out).mono ?_); rintro e w' ⟨rfl, ⟨nd, rfl⟩⟩; (try first | exact ⟨rfl, _, World.drewN_drewN _ _ _⟩ | exact ⟨rfl, _, Eq.trans (World.drewN_drewN _ _ _) (congrArg (World.drewN _) (Nat.add_assoc _ _ _))⟩)) | (go_at_call 25; (with_reducible refine (palantyperef02_In.calls a0_2 1 20 true _ A10.out).mono ?_); rintro e w' ⟨rfl, ⟨nd, rfl⟩⟩; (try first | exact ⟨rfl, _, World.drewN_drewN _ _ _⟩ | exact ⟨rfl, _, Eq.trans (World.drewN_drewN _ _ _) (congrArg (World.drewN _) (Nat.add_assoc _ _ _))⟩)) | (go_at_call 25; (with_reducible refine (palantyperef02_In.calls a0_1 1 a0_2 true _ A12.out).mono ?_); rintro e w' ⟨rfl, ⟨nd, rfl⟩⟩; (try first | exact ⟨rfl, _, World.drewN_drewN _ _ _⟩ | exact ⟨rfl, _, Eq.trans (World.drewN_drewN _ _ _) (congrArg (World.drewN _) (Nat.add_assoc _ _ _))⟩)) | (go_at_call 25; (with_reducible refine (palantyperef02_In.calls a0_3 0 20 t107 _ A14.out).mono ?_); rintro e w' ⟨rfl, ⟨nd, rfl⟩⟩; (try first | exact ⟨rfl, _, World.drewN_drewN _ _ _⟩ | exact ⟨rfl, _, Eq.trans (World.drewN_drewN _ _ _) (congrArg (World.drewN _) (Nat.add_assoc _ _ _))⟩))); try go_wp2_with (first | (go_at_call 25; (with_reducible refine (palantyperef02_In.calls a0_0 1 12 true _ A8.out).mono ?_); rintro e w' ⟨rfl, ⟨nd, rfl⟩⟩; (try first | exact ⟨rfl, _, World.drewN_drewN _ _ _⟩ | exact ⟨rfl, _, Eq.trans (World.drewN_drewN _ _ _) (congrArg (World.drewN _) (Nat.add_assoc _ _ _))⟩)) | (go_at_call 25; (with_reducible refine (palantyperef02_In.calls a0_2 1 20 true _ A10.out).mono ?_); rintro e w' ⟨rfl, ⟨nd, rfl⟩⟩; (try first | exact ⟨rfl, _, World.drewN_drewN _ _ _⟩ | exact ⟨rfl, _, Eq.trans (World.drewN_drewN _ _ _) (congrArg (World.drewN _) (Nat.add_assoc _ _ _))⟩)) | (go_at_call 25; (with_reducible refine (palantyperef02_In.calls a0_1 1 a0_2 true _ A12.out).mono ?_); rintro e w' ⟨rfl, ⟨nd, rfl⟩⟩; (try first | exact ⟨rfl, _, World.drewN_drewN _ _ _⟩ | exact ⟨rfl, _, Eq.trans (World.drewN_drewN _ _ _) (congrArg (World.drewN _) (Nat.add_assoc _ _ _))⟩)) | (go_at_call 25; (with_reducible refine (palantyperef02_In.calls a0_3 0 20 t107 _ A14.out).mono ?_); rintro e w' ⟨rfl, ⟨nd, rfl⟩⟩; (try first | exact ⟨rfl, _, World.drewN_drewN _ _ _⟩ | exact ⟨rfl, _, Eq.trans (World.drewN_drewN _ _ _) (congrArg (World.drewN _) (Nat.add_assoc _ _ _))⟩))))
            go_meet
            case rel => exact ⟨_, (!t107), (by first | rfl | (simp; done) | (simp [*]; done)), H', ⟨by first | omega | exact Nat.le_refl _⟩, ⟨by (with_reducible repeat (first | refine blk_drewN ?_ _ | refine blk_drew ?_ | refine blk_alloc ?_ _)); exact BK103.out⟩, ⟨by repeat (first | (with_reducible first | exact HB.out | apply below_alloc | apply pw_below_drewN | apply below_drew1 | refine below_set ?_ GE103.out) | exact HB.out)⟩⟩
          · replace c13 := Bool.eq_false_iff.mpr c13
            subst c13
            have H1 : (palantyperef02_Fault.j0 k true a0_0 a0_1 a0_2 a0_3 l0_4) = some r := by rw [if_neg (show ¬ (false = true) by decide)] at H; exact H
            clear H
            have H := H1
            clear H1
            have H' := Aside0.mk H
            clear H
            have hcz16_0 : w6.cell? ⟨gb103, 0, none⟩ = some (.int .i64 a0_0) := (blk_cell BK103.out 0).trans rfl
            have hcz16_1 : w6.cell? ⟨gb103, 1, none⟩ = some (.int .i64 a0_1) := (blk_cell BK103.out 1).trans rfl
            have hcz16_2 : w6.cell? ⟨gb103, 2, none⟩ = some (.int .i64 a0_2) := (blk_cell BK103.out 2).trans rfl
            have hcz16_3 : w6.cell? ⟨gb103, 3, none⟩ = some (.int .i64 a0_3) := (blk_cell BK103.out 3).trans rfl
            have hcz16_4 : w6.cell? ⟨gb103, 4, none⟩ = some (.slice A0_4 l0_4.length c0_4) := (blk_cell BK103.out 4).trans rfl
            have hfz16_0 := blk_frozen BK103.out 0
            have hfz16_1 := blk_frozen BK103.out 1
            have hfz16_2 := blk_frozen BK103.out 2
            have hfz16_3 := blk_frozen BK103.out 3
            have hfz16_4 := blk_frozen BK103.out 4
            go_wp2_with (first | (go_at_call 25; (with_reducible refine (palantyperef02_In.calls a0_0 1 12 true _ A8.out).mono ?_); rintro e w' ⟨rfl, ⟨nd, rfl⟩⟩; (try first | exact ⟨rfl, _, World.drewN_drewN _ _ _⟩ | exact ⟨rfl, _, Eq.trans (World.drewN_drewN _ _ _) (congrArg (World.drewN _) (Nat.add_assoc _ _ _))⟩)) | (go_at_call 25; (with_reducible refine (palantyperef02_In.calls a0_2 1 20 true _ A10.out).mono ?_); rintro e w' ⟨rfl, ⟨nd, rfl⟩⟩; (try first | exact ⟨rfl, _, World.drewN_drewN _ _ _⟩ | exact ⟨rfl, _, Eq.trans (World.drewN_drewN _ _ _) (congrArg (World.drewN _) (Nat.add_assoc _ _ _))⟩)) | (go_at_call 25; (with_reducible refine (palantyperef02_In.calls a0_1 1 a0_2 false _ A12.out).mono ?_); rintro e w' ⟨rfl, ⟨nd, rfl⟩⟩; (try first | exact ⟨rfl, _, World.drewN_drewN _ _ _⟩ | exact ⟨rfl, _, Eq.trans (World.drewN_drewN _ _ _) (congrArg (World.drewN _) (Nat.add_assoc _ _ _))⟩)))
            repeat (go_quiet (first | (go_at_call 25; (with_reducible refine (palantyperef02_In.calls a0_0 1 12 true _ A8.out).mono ?_); rintro e w' ⟨rfl, ⟨nd, rfl⟩⟩; (try first | exact ⟨rfl, _, World.drewN_drewN _ _ _⟩ | exact ⟨rfl, _, Eq.trans (World.drewN_drewN _ _ _) (congrArg (World.drewN _) (Nat.add_assoc _ _ _))⟩)) | (go_at_call 25; (with_reducible refine (palantyperef02_In.calls a0_2 1 20 true _ A10.out).mono ?_); rintro e w' ⟨rfl, ⟨nd, rfl⟩⟩; (try first | exact ⟨rfl, _, World.drewN_drewN _ _ _⟩ | exact ⟨rfl, _, Eq.trans (World.drewN_drewN _ _ _) (congrArg (World.drewN _) (Nat.add_assoc _ _ _))⟩)) | (go_at_call 25; (with_reducible refine (palantyperef02_In.calls a0_1 1 a0_2 false _ A12.out).mono ?_); rintro e w' ⟨rfl, ⟨nd, rfl⟩⟩; (try first | exact ⟨rfl, _, World.drewN_drewN _ _ _⟩ | exact ⟨rfl, _, Eq.trans (World.drewN_drewN _ _ _) (congrArg (World.drewN _) (Nat.add_assoc _ _ _))⟩))); try go_wp2_with (first | (go_at_call 25; (with_reducible refine (palantyperef02_In.calls a0_0 1 12 true _ A8.out).mono ?_); rintro e w' ⟨rfl, ⟨nd, rfl⟩⟩; (try first | exact ⟨rfl, _, World.drewN_drewN _ _ _⟩ | exact ⟨rfl, _, Eq.trans (World.drewN_drewN _ _ _) (congrArg (World.drewN _) (Nat.add_assoc _ _ _))⟩)) | (go_at_call 25; (with_reducible refine (palantyperef02_In.calls a0_2 1 20 true _ A10.out).mono ?_); rintro e w' ⟨rfl, ⟨nd, rfl⟩⟩; (try first | exact ⟨rfl, _, World.drewN_drewN _ _ _⟩ | exact ⟨rfl, _, Eq.trans (World.drewN_drewN _ _ _) (congrArg (World.drewN _) (Nat.add_assoc _ _ _))⟩)) | (go_at_call 25; (with_reducible refine (palantyperef02_In.calls a0_1 1 a0_2 false _ A12.out).mono ?_); rintro e w' ⟨rfl, ⟨nd, rfl⟩⟩; (try first | exact ⟨rfl, _, World.drewN_drewN _ _ _⟩ | exact ⟨rfl, _, Eq.trans (World.drewN_drewN _ _ _) (congrArg (World.drewN _) (Nat.add_assoc _ _ _))⟩))))
            go_meet
            case rel => exact ⟨_, (true), (by first | rfl | (simp; done) | (simp [*]; done)), H', ⟨by first | omega | exact Nat.le_refl _⟩, ⟨by (with_reducible repeat (first | refine blk_drewN ?_ _ | refine blk_drew ?_ | refine blk_alloc ?_ _)); exact BK103.out⟩, ⟨by repeat (first | (with_reducible first | exact HB.out | apply below_alloc | apply pw_below_drewN | apply below_drew1 | refine below_set ?_ GE103.out) | exact HB.out)⟩⟩
        · replace c11 := Bool.eq_false_iff.mpr c11
          subst c11
          have H1 : (palantyperef02_Fault.j0 k true a0_0 a0_1 a0_2 a0_3 l0_4) = some r := by rw [if_neg (show ¬ (false = true) by decide)] at H; exact H
          clear H
          have H := H1
          clear H1
          have H' := Aside0.mk H
          clear H
          have hcz17_0 : w6.cell? ⟨gb103, 0, none⟩ = some (.int .i64 a0_0) := (blk_cell BK103.out 0).trans rfl
          have hcz17_1 : w6.cell? ⟨gb103, 1, none⟩ = some (.int .i64 a0_1) := (blk_cell BK103.out 1).trans rfl
          have hcz17_2 : w6.cell? ⟨gb103, 2, none⟩ = some (.int .i64 a0_2) := (blk_cell BK103.out 2).trans rfl
          have hcz17_3 : w6.cell? ⟨gb103, 3, none⟩ = some (.int .i64 a0_3) := (blk_cell BK103.out 3).trans rfl
          have hcz17_4 : w6.cell? ⟨gb103, 4, none⟩ = some (.slice A0_4 l0_4.length c0_4) := (blk_cell BK103.out 4).trans rfl
          have hfz17_0 := blk_frozen BK103.out 0
          have hfz17_1 := blk_frozen BK103.out 1
          have hfz17_2 := blk_frozen BK103.out 2
          have hfz17_3 := blk_frozen BK103.out 3
          have hfz17_4 := blk_frozen BK103.out 4
          go_wp2_with (first | (go_at_call 25; (with_reducible refine (palantyperef02_In.calls a0_0 1 12 true _ A8.out).mono ?_); rintro e w' ⟨rfl, ⟨nd, rfl⟩⟩; (try first | exact ⟨rfl, _, World.drewN_drewN _ _ _⟩ | exact ⟨rfl, _, Eq.trans (World.drewN_drewN _ _ _) (congrArg (World.drewN _) (Nat.add_assoc _ _ _))⟩)) | (go_at_call 25; (with_reducible refine (palantyperef02_In.calls a0_2 1 20 false _ A10.out).mono ?_); rintro e w' ⟨rfl, ⟨nd, rfl⟩⟩; (try first | exact ⟨rfl, _, World.drewN_drewN _ _ _⟩ | exact ⟨rfl, _, Eq.trans (World.drewN_drewN _ _ _) (congrArg (World.drewN _) (Nat.add_assoc _ _ _))⟩)))
          repeat (go_quiet (first | (go_at_call 25; (with_reducible refine (palantyperef02_In.calls a0_0 1 12 true _ A8.out).mono ?_); rintro e w' ⟨rfl, ⟨nd, rfl⟩⟩; (try first | exact ⟨rfl, _, World.drewN_drewN _ _ _⟩ | exact ⟨rfl, _, Eq.trans (World.drewN_drewN _ _ _) (congrArg (World.drewN _) (Nat.add_assoc _ _ _))⟩)) | (go_at_call 25; (with_reducible refine (palantyperef02_In.calls a0_2 1 20 false _ A10.out).mono ?_); rintro e w' ⟨rfl, ⟨nd, rfl⟩⟩; (try first | exact ⟨rfl, _, World.drewN_drewN _ _ _⟩ | exact ⟨rfl, _, Eq.trans (World.drewN_drewN _ _ _) (congrArg (World.drewN _) (Nat.add_assoc _ _ _))⟩))); try go_wp2_with (first | (go_at_call 25; (with_reducible refine (palantyperef02_In.calls a0_0 1 12 true _ A8.out).mono ?_); rintro e w' ⟨rfl, ⟨nd, rfl⟩⟩; (try first | exact ⟨rfl, _, World.drewN_drewN _ _ _⟩ | exact ⟨rfl, _, Eq.trans (World.drewN_drewN _ _ _) (congrArg (World.drewN _) (Nat.add_assoc _ _ _))⟩)) | (go_at_call 25; (with_reducible refine (palantyperef02_In.calls a0_2 1 20 false _ A10.out).mono ?_); rintro e w' ⟨rfl, ⟨nd, rfl⟩⟩; (try first | exact ⟨rfl, _, World.drewN_drewN _ _ _⟩ | exact ⟨rfl, _, Eq.trans (World.drewN_drewN _ _ _) (congrArg (World.drewN _) (Nat.add_assoc _ _ _))⟩))))
          go_meet
          case rel => exact ⟨_, (true), (by first | rfl | (simp; done) | (simp [*]; done)), H', ⟨by first | omega | exact Nat.le_refl _⟩, ⟨by (with_reducible repeat (first | refine blk_drewN ?_ _ | refine blk_drew ?_ | refine blk_alloc ?_ _)); exact BK103.out⟩, ⟨by repeat (first | (with_reducible first | exact HB.out | apply below_alloc | apply pw_below_drewN | apply below_drew1 | refine below_set ?_ GE103.out) | exact HB.out)⟩⟩
      · replace c9 := Bool.eq_false_iff.mpr c9
        subst c9
        have H1 : (palantyperef02_Fault.j0 k true a0_0 a0_1 a0_2 a0_3 l0_4) = some r := by rw [if_neg (show ¬ (false = true) by decide)] at H; exact H
        clear H
        have H := H1
        clear H1
        have H' := Aside0.mk H
        clear H
        have hcz18_0 : w6.cell? ⟨gb103, 0, none⟩ = some (.int .i64 a0_0) := (blk_cell BK103.out 0).trans rfl
        have hcz18_1 : w6.cell? ⟨gb103, 1, none⟩ = some (.int .i64 a0_1) := (blk_cell BK103.out 1).trans rfl
        have hcz18_2 : w6.cell? ⟨gb103, 2, none⟩ = some (.int .i64 a0_2) := (blk_cell BK103.out 2).trans rfl
        have hcz18_3 : w6.cell? ⟨gb103, 3, none⟩ = some (.int .i64 a0_3) := (blk_cell BK103.out 3).trans rfl
        have hcz18_4 : w6.cell? ⟨gb103, 4, none⟩ = some (.slice A0_4 l0_4.length c0_4) := (blk_cell BK103.out 4).trans rfl
        have hfz18_0 := blk_frozen BK103.out 0
        have hfz18_1 := blk_frozen BK103.out 1
        have hfz18_2 := blk_frozen BK103.out 2
        have hfz18_3 := blk_frozen BK103.out 3
        have hfz18_4 := blk_frozen BK103.out 4
        go_wp2_with (first | (go_at_call 25; (with_reducible refine (palantyperef02_In.calls a0_0 1 12 false _ A8.out).mono ?_); rintro e w' ⟨rfl, ⟨nd, rfl⟩⟩; (try first | exact ⟨rfl, _, World.drewN_drewN _ _ _⟩ | exact ⟨rfl, _, Eq.trans (World.drewN_drewN _ _ _) (congrArg (World.drewN _) (Nat.add_assoc _ _ _))⟩)))
        repeat (go_quiet (first | (go_at_call 25; (with_reducible refine (palantyperef02_In.calls a0_0 1 12 false _ A8.out).mono ?_); rintro e w' ⟨rfl, ⟨nd, rfl⟩⟩; (try first | exact ⟨rfl, _, World.drewN_drewN _ _ _⟩ | exact ⟨rfl, _, Eq.trans (World.drewN_drewN _ _ _) (congrArg (World.drewN _) (Nat.add_assoc _ _ _))⟩))); try go_wp2_with (first | (go_at_call 25; (with_reducible refine (palantyperef02_In.calls a0_0 1 12 false _ A8.out).mono ?_); rintro e w' ⟨rfl, ⟨nd, rfl⟩⟩; (try first | exact ⟨rfl, _, World.drewN_drewN _ _ _⟩ | exact ⟨rfl, _, Eq.trans (World.drewN_drewN _ _ _) (congrArg (World.drewN _) (Nat.add_assoc _ _ _))⟩))))
        go_meet
        case rel => exact ⟨_, (true), (by first | rfl | (simp; done) | (simp [*]; done)), H', ⟨by first | omega | exact Nat.le_refl _⟩, ⟨by (with_reducible repeat (first | refine blk_drewN ?_ _ | refine blk_drew ?_ | refine blk_alloc ?_ _)); exact BK103.out⟩, ⟨by repeat (first | (with_reducible first | exact HB.out | apply below_alloc | apply pw_below_drewN | apply below_drew1 | refine below_set ?_ GE103.out) | exact HB.out)⟩⟩
    case rest =>
      clear HC5
      try clear c1
      try clear c2
      try clear c2b0
      try clear c2b1
      try clear p2
      try clear c9
      try clear c11
      try clear c13
      try clear hcz15_0
      try clear hcz15_1
      try clear hcz15_2
      try clear hcz15_3
      try clear hcz15_4
      try clear hcz16_0
      try clear hcz16_1
      try clear hcz16_2
      try clear hcz16_3
      try clear hcz16_4
      try clear hcz17_0
      try clear hcz17_1
      try clear hcz17_2
      try clear hcz17_3
      try clear hcz17_4
      try clear hcz18_0
      try clear hcz18_1
      try clear hcz18_2
      try clear hcz18_3
      try clear hcz18_4
      try clear hcz4_0
      try clear hcz4_1
      try clear hcz4_2
      try clear hcz4_3
      try clear hcz4_4
      try clear hcz7_0
      try clear hcz7_1
      try clear hcz7_2
      try clear hcz7_3
      try clear hcz7_4
      try clear hfz15_0
      try clear hfz15_1
      try clear hfz15_2
      try clear hfz15_3
      try clear hfz15_4
      try clear hfz16_0
      try clear hfz16_1
      try clear hfz16_2
      try clear hfz16_3
      try clear hfz16_4
      try clear hfz17_0
      try clear hfz17_1
      try clear hfz17_2
      try clear hfz17_3
      try clear hfz17_4
      try clear hfz18_0
      try clear hfz18_1
      try clear hfz18_2
      try clear hfz18_3
      try clear hfz18_4
      try clear hfz4_0
      try clear hfz4_1
      try clear hfz4_2
      try clear hfz4_3
      try clear hfz4_4
      try clear hfz7_0
      try clear hfz7_1
      try clear hfz7_2
      try clear hfz7_3
      try clear hfz7_4
      obtain ⟨kq, x31_4, rfl, HA, HJ4, BK103, HB⟩ := hcut
      cases kq with
      | zero => exact absurd HA.out (by simp [palantyperef02_Fault.j0])
      | succ kj4 =>
        have H := HA.out
        clear HA
        simp only [palantyperef02_Fault.j0] at H
        by_cases c19 : x31_4 = true
        · subst c19
          have H1 : (some 1) = some r := by rw [if_pos rfl] at H; exact H
          clear H
          have H := H1
          clear H1
          obtain rfl := Option.some.inj H
          go_wp2
          repeat (go_quiet (fail); try go_wp2)
          go_ret
          exact ⟨by first | rfl | (simp [errW_none, errW_some] <;> rfl) | (simp [*, errW_none, errW_some] <;> rfl), by repeat (first | (with_reducible first | exact HB.out | apply below_alloc | apply pw_below_drewN | apply below_drew1 | refine below_set ?_ GE103.out) | exact HB.out)⟩
        · replace c19 := Bool.eq_false_iff.mpr c19
          subst c19
          have H1 : (palantyperef02_Fault.l0 kj4 0 a0_0 a0_1 a0_2 a0_3 l0_4) = some r := by rw [if_neg (show ¬ (false = true) by decide)] at H; exact H
          clear H
          have H := H1
          clear H1
          have H' := Aside0.mk H
          clear H
          go_wp2
          repeat (go_quiet (fail); try go_wp2)
          go_loopg [3] kj4 (fun kq v3 w' => ∃ (x3_2 : Int), v3 = .int .i64 x3_2 ∧ Aside0 (palantyperef02_Fault.l0 kq x3_2 a0_0 a0_1 a0_2 a0_3 l0_4 = some r) ∧ Aside0 (kq ≤ kj4) ∧ Aside0 (w'.heap[gb103]? = some (.cells #[.int .i64 a0_0, .int .i64 a0_1, .int .i64 a0_2, .int .i64 a0_3, (.slice A0_4 l0_4.length c0_4)] 24 (0, 0))) ∧ Aside0 (Below w.heap.size w w'))
          case atStart => exact ⟨(0), (by first | rfl | (simp; done) | (simp [*]; done)), H', ⟨Nat.le_refl _⟩, ⟨by (with_reducible repeat (first | refine blk_drewN ?_ _ | refine blk_drew ?_ | refine blk_alloc ?_ _)); exact BK103.out⟩, ⟨by repeat (first | (with_reducible first | exact HB.out | apply below_alloc | apply pw_below_drewN | apply below_drew1 | refine below_set ?_ GE103.out) | exact HB.out)⟩⟩
          case round =>
            clear H'
            try clear c1
            try clear c2
            try clear c2b0
            try clear c2b1
            try clear p2
            try clear c9
            try clear c11
            try clear c13
            try clear c19
            try clear hcz15_0
            try clear hcz15_1
            try clear hcz15_2
            try clear hcz15_3
            try clear hcz15_4
            try clear hcz16_0
            try clear hcz16_1
            try clear hcz16_2
            try clear hcz16_3
            try clear hcz16_4
            try clear hcz17_0
            try clear hcz17_1
            try clear hcz17_2
            try clear hcz17_3
            try clear hcz17_4
            try clear hcz18_0
            try clear hcz18_1
            try clear hcz18_2
            try clear hcz18_3
            try clear hcz18_4
            try clear hcz4_0
            try clear hcz4_1
            try clear hcz4_2
            try clear hcz4_3
            try clear hcz4_4
            try clear hcz7_0
            try clear hcz7_1
            try clear hcz7_2
            try clear hcz7_3
            try clear hcz7_4
            try clear hfz15_0
            try clear hfz15_1
            try clear hfz15_2
            try clear hfz15_3
            try clear hfz15_4
            try clear hfz16_0
            try clear hfz16_1
            try clear hfz16_2
            try clear hfz16_3
            try clear hfz16_4
            try clear hfz17_0
            try clear hfz17_1
            try clear hfz17_2
            try clear hfz17_3
            try clear hfz17_4
            try clear hfz18_0
            try clear hfz18_1
            try clear hfz18_2
            try clear hfz18_3
            try clear hfz18_4
            try clear hfz4_0
            try clear hfz4_1
            try clear hfz4_2
            try clear hfz4_3
            try clear hfz4_4
            try clear hfz7_0
            try clear hfz7_1
            try clear hfz7_2
            try clear hfz7_3
            try clear hfz7_4
            try clear p2
            obtain ⟨x3_2, rfl, HA, HK2, BK103, HB⟩ := hrel
            cases gk with
            | zero => exact absurd HA.out (by simp [palantyperef02_Fault.l0])
            | succ k2 =>
              have H := HA.out
              clear HA
              simp only [palantyperef02_Fault.l0] at H
              by_cases c20 : x3_2 < (l0_4.length : Int)
              · rw [if_pos c20] at H
                have c20b0 : decide (x3_2 < (l0_4.length : Int)) = true := decide_eq_true c20
                clear c20
                by_cases c21 : 0 ≤ x3_2
                · rw [if_pos c21] at H
                  have c21b0 : decide (0 ≤ x3_2) = true := decide_eq_true c21
                  clear c21
                  replace H := Option.bind_eq_some_iff.mp H
                  obtain ⟨t109, A220, H⟩ := H
                  replace H : (if t109 = true then ((palantyperef02_set.f k2 ((rd_T59 l0_4 x3_2).f1) a0_0).bind fun t111 => (if t111 = true then (palantyperef02_Fault.l0 k2 (wrap64 (x3_2 + 1)) a0_0 a0_1 a0_2 a0_3 l0_4) else (some 1))) else (some 1)) = some r := H
                  have A22 := Aside0.mk A220
                  clear A220
                  by_cases c23 : t109 = true
                  · subst c23
                    have H1 : ((palantyperef02_set.f k2 ((rd_T59 l0_4 x3_2).f1) a0_0).bind fun t111 => (if t111 = true then (palantyperef02_Fault.l0 k2 (wrap64 (x3_2 + 1)) a0_0 a0_1 a0_2 a0_3 l0_4) else (some 1))) = some r := by rw [if_pos rfl] at H; exact H
                    clear H
                    have H := H1
                    clear H1
                    replace H := Option.bind_eq_some_iff.mp H
                    obtain ⟨t111, A240, H⟩ := H
                    replace H : (if t111 = true then (palantyperef02_Fault.l0 k2 (wrap64 (x3_2 + 1)) a0_0 a0_1 a0_2 a0_3 l0_4) else (some 1)) = some r := H
                    have A24 := Aside0.mk A240
                    clear A240
                    by_cases c25 : t111 = true
                    · subst c25
                      have H1 : (palantyperef02_Fault.l0 k2 (wrap64 (x3_2 + 1)) a0_0 a0_1 a0_2 a0_3 l0_4) = some r := by rw [if_pos rfl] at H; exact H
                      clear H
                      have H := H1
                      clear H1
                      have H' := Aside0.mk H
                      clear H
                      have hcz26_0 : wr.cell? ⟨gb103, 0, none⟩ = some (.int .i64 a0_0) := (blk_cell BK103.out 0).trans rfl
                      have hcz26_1 : wr.cell? ⟨gb103, 1, none⟩ = some (.int .i64 a0_1) := (blk_cell BK103.out 1).trans rfl
                      have hcz26_2 : wr.cell? ⟨gb103, 2, none⟩ = some (.int .i64 a0_2) := (blk_cell BK103.out 2).trans rfl
                      have hcz26_3 : wr.cell? ⟨gb103, 3, none⟩ = some (.int .i64 a0_3) := (blk_cell BK103.out 3).trans rfl
                      have hcz26_4 : wr.cell? ⟨gb103, 4, none⟩ = some (.slice A0_4 l0_4.length c0_4) := (blk_cell BK103.out 4).trans rfl
                      have hfz26_0 := blk_frozen BK103.out 0
                      have hfz26_1 := blk_frozen BK103.out 1
                      have hfz26_2 := blk_frozen BK103.out 2
                      have hfz26_3 := blk_frozen BK103.out 3
                      have hfz26_4 := blk_frozen BK103.out 4
                      have p108 : 0 ≤ (x3_2 : Int) := of_decide_eq_true (by first | (with_reducible assumption) | assumption)
                      have q108 : x3_2 < (l0_4.length : Int) := of_decide_eq_true (by first | (with_reducible assumption) | assumption)
                      obtain ⟨ad108, e108, hx108_0, hx108_1⟩ := at_T59 HR0_4.out x3_2 p108 q108
                      cases e108
                      replace hx108_0 := (HB.out.cell (World.block_lt_of_cell? w _ hx108_0)).trans hx108_0
                      replace hx108_1 := (HB.out.cell (World.block_lt_of_cell? w _ hx108_1)).trans hx108_1
                      replace p108 := eq_true p108
                      replace q108 := eq_true q108
                      go_wp2_with (first | (go_at_call 53; (with_reducible refine (palantyperef02_set.calls k2 ((rd_T59 l0_4 x3_2).f0) a0_0 true _ A22.out).mono ?_); rintro e w' ⟨rfl, ⟨nd, rfl⟩⟩; (try first | exact ⟨rfl, _, World.drewN_drewN _ _ _⟩ | exact ⟨rfl, _, Eq.trans (World.drewN_drewN _ _ _) (congrArg (World.drewN _) (Nat.add_assoc _ _ _))⟩); have p110 : 0 ≤ (x3_2 : Int) := of_decide_eq_true (by first | (with_reducible assumption) | assumption); have q110 : x3_2 < (l0_4.length : Int) := of_decide_eq_true (by first | (with_reducible assumption) | assumption); obtain ⟨ad110, e110, hx110_0, hx110_1⟩ := at_T59 HR0_4.out x3_2 p110 q110; obtain rfl : ad108 = ad110 := (by injection e110); replace hx110_0 := (HB.out.cell (World.block_lt_of_cell? w _ hx110_0)).trans hx110_0; replace hx110_1 := (HB.out.cell (World.block_lt_of_cell? w _ hx110_1)).trans hx110_1; replace p110 := eq_true p110; replace q110 := eq_true q110) | (go_at_call 53; (with_reducible refine (palantyperef02_set.calls k2 ((rd_T59 l0_4 x3_2).f1) a0_0 true _ A24.out).mono ?_); rintro e w' ⟨rfl, ⟨nd, rfl⟩⟩; (try first | exact ⟨rfl, _, World.drewN_drewN _ _ _⟩ | exact ⟨rfl, _, Eq.trans (World.drewN_drewN _ _ _) (congrArg (World.drewN _) (Nat.add_assoc _ _ _))⟩)))
                      repeat (go_quiet (first | (go_at_call 53; (with_reducible refine (palantyperef02_set.calls k2 ((rd_T59 l0_4 x3_2).f0) a0_0 true _ A22.out).mono ?_); rintro e w' ⟨rfl, ⟨nd, rfl⟩⟩; (try first | exact ⟨rfl, _, World.drewN_drewN _ _ _⟩ | exact ⟨rfl, _, Eq.trans (World.drewN_drewN _ _ _) (congrArg (World.drewN _) (Nat.add_assoc _ _ _))⟩); have p110 : 0 ≤ (x3_2 : Int) := of_decide_eq_true (by first | (with_reducible assumption) | assumption); have q110 : x3_2 < (l0_4.length : Int) := of_decide_eq_true (by first | (with_reducible assumption) | assumption); obtain ⟨ad110, e110, hx110_0, hx110_1⟩ := at_T59 HR0_4.out x3_2 p110 q110; obtain rfl : ad108 = ad110 := (by injection e110); replace hx110_0 := (HB.out.cell (World.block_lt_of_cell? w _ hx110_0)).trans hx110_0; replace hx110_1 := (HB.out.cell (World.block_lt_of_cell? w _ hx110_1)).trans hx110_1; replace p110 := eq_true p110; replace q110 := eq_true q110) | (go_at_call 53; (with_reducible refine (palantyperef02_set.calls k2 ((rd_T59 l0_4 x3_2).f1) a0_0 true _ A24.out).mono ?_); rintro e w' ⟨rfl, ⟨nd, rfl⟩⟩; (try first | exact ⟨rfl, _, World.drewN_drewN _ _ _⟩ | exact ⟨rfl, _, Eq.trans (World.drewN_drewN _ _ _) (congrArg (World.drewN _) (Nat.add_assoc _ _ _))⟩))); try go_wp2_with (first | (go_at_call 53; (with_reducible refine (palantyperef02_set.calls k2 ((rd_T59 l0_4 x3_2).f0) a0_0 true _ A22.out).mono ?_); rintro e w' ⟨rfl, ⟨nd, rfl⟩⟩; (try first | exact ⟨rfl, _, World.drewN_drewN _ _ _⟩ | exact ⟨rfl, _, Eq.trans (World.drewN_drewN _ _ _) (congrArg (World.drewN _) (Nat.add_assoc _ _ _))⟩); have p110 : 0 ≤ (x3_2 : Int) := of_decide_eq_true (by first | (with_reducible assumption) | assumption); have q110 : x3_2 < (l0_4.length : Int) := of_decide_eq_true (by first | (with_reducible assumption) | assumption); obtain ⟨ad110, e110, hx110_0, hx110_1⟩ := at_T59 HR0_4.out x3_2 p110 q110; obtain rfl : ad108 = ad110 := (by injection e110); replace hx110_0 := (HB.out.cell (World.block_lt_of_cell? w _ hx110_0)).trans hx110_0; replace hx110_1 := (HB.out.cell (World.block_lt_of_cell? w _ hx110_1)).trans hx110_1; replace p110 := eq_true p110; replace q110 := eq_true q110) | (go_at_call 53; (with_reducible refine (palantyperef02_set.calls k2 ((rd_T59 l0_4 x3_2).f1) a0_0 true _ A24.out).mono ?_); rintro e w' ⟨rfl, ⟨nd, rfl⟩⟩; (try first | exact ⟨rfl, _, World.drewN_drewN _ _ _⟩ | exact ⟨rfl, _, Eq.trans (World.drewN_drewN _ _ _) (congrArg (World.drewN _) (Nat.add_assoc _ _ _))⟩))))
                      go_roundg k2
                      case measure => have := HJ4.out; have := HK2.out; omega
                      case rel => exact ⟨(wrap64 (x3_2 + 1)), (by first | rfl | (simp; done) | (simp [*]; done)), H', ⟨by have := HJ4.out; have := HK2.out; omega⟩, ⟨by (with_reducible repeat (first | refine blk_drewN ?_ _ | refine blk_drew ?_ | refine blk_alloc ?_ _)); exact BK103.out⟩, ⟨by repeat (first | (with_reducible first | exact HB.out | apply below_alloc | apply pw_below_drewN | apply below_drew1 | refine below_set ?_ GE103.out) | exact HB.out)⟩⟩
                    · replace c25 := Bool.eq_false_iff.mpr c25
                      subst c25
                      have H1 : (some 1) = some r := by rw [if_neg (show ¬ (false = true) by decide)] at H; exact H
                      clear H
                      have H := H1
                      clear H1
                      obtain rfl := Option.some.inj H
                      have hcz27_0 : wr.cell? ⟨gb103, 0, none⟩ = some (.int .i64 a0_0) := (blk_cell BK103.out 0).trans rfl
                      have hcz27_1 : wr.cell? ⟨gb103, 1, none⟩ = some (.int .i64 a0_1) := (blk_cell BK103.out 1).trans rfl
                      have hcz27_2 : wr.cell? ⟨gb103, 2, none⟩ = some (.int .i64 a0_2) := (blk_cell BK103.out 2).trans rfl
                      have hcz27_3 : wr.cell? ⟨gb103, 3, none⟩ = some (.int .i64 a0_3) := (blk_cell BK103.out 3).trans rfl
                      have hcz27_4 : wr.cell? ⟨gb103, 4, none⟩ = some (.slice A0_4 l0_4.length c0_4) := (blk_cell BK103.out 4).trans rfl
                      have hfz27_0 := blk_frozen BK103.out 0
                      have hfz27_1 := blk_frozen BK103.out 1
                      have hfz27_2 := blk_frozen BK103.out 2
                      have hfz27_3 := blk_frozen BK103.out 3
                      have hfz27_4 := blk_frozen BK103.out 4
                      have p108 : 0 ≤ (x3_2 : Int) := of_decide_eq_true (by first | (with_reducible assumption) | assumption)
                      have q108 : x3_2 < (l0_4.length : Int) := of_decide_eq_true (by first | (with_reducible assumption) | assumption)
                      obtain ⟨ad108, e108, hx108_0, hx108_1⟩ := at_T59 HR0_4.out x3_2 p108 q108
                      cases e108
                      replace hx108_0 := (HB.out.cell (World.block_lt_of_cell? w _ hx108_0)).trans hx108_0
                      replace hx108_1 := (HB.out.cell (World.block_lt_of_cell? w _ hx108_1)).trans hx108_1
                      replace p108 := eq_true p108
                      replace q108 := eq_true q108
                      go_wp2_with (first | (go_at_call 53; (with_reducible refine (palantyperef02_set.calls k2 ((rd_T59 l0_4 x3_2).f0) a0_0 true _ A22.out).mono ?_); rintro e w' ⟨rfl, ⟨nd, rfl⟩⟩; (try first | exact ⟨rfl, _, World.drewN_drewN _ _ _⟩ | exact ⟨rfl, _, Eq.trans (World.drewN_drewN _ _ _) (congrArg (World.drewN _) (Nat.add_assoc _ _ _))⟩); have p110 : 0 ≤ (x3_2 : Int) := of_decide_eq_true (by first | (with_reducible assumption) | assumption); have q110 : x3_2 < (l0_4.length : Int) := of_decide_eq_true (by first | (with_reducible assumption) | assumption); obtain ⟨ad110, e110, hx110_0, hx110_1⟩ := at_T59 HR0_4.out x3_2 p110 q110; obtain rfl : ad108 = ad110 := (by injection e110); replace hx110_0 := (HB.out.cell (World.block_lt_of_cell? w _ hx110_0)).trans hx110_0; replace hx110_1 := (HB.out.cell (World.block_lt_of_cell? w _ hx110_1)).trans hx110_1; replace p110 := eq_true p110; replace q110 := eq_true q110) | (go_at_call 53; (with_reducible refine (palantyperef02_set.calls k2 ((rd_T59 l0_4 x3_2).f1) a0_0 false _ A24.out).mono ?_); rintro e w' ⟨rfl, ⟨nd, rfl⟩⟩; (try first | exact ⟨rfl, _, World.drewN_drewN _ _ _⟩ | exact ⟨rfl, _, Eq.trans (World.drewN_drewN _ _ _) (congrArg (World.drewN _) (Nat.add_assoc _ _ _))⟩)))
                      repeat (go_quiet (first | (go_at_call 53; (with_reducible refine (palantyperef02_set.calls k2 ((rd_T59 l0_4 x3_2).f0) a0_0 true _ A22.out).mono ?_); rintro e w' ⟨rfl, ⟨nd, rfl⟩⟩; (try first | exact ⟨rfl, _, World.drewN_drewN _ _ _⟩ | exact ⟨rfl, _, Eq.trans (World.drewN_drewN _ _ _) (congrArg (World.drewN _) (Nat.add_assoc _ _ _))⟩); have p110 : 0 ≤ (x3_2 : Int) := of_decide_eq_true (by first | (with_reducible assumption) | assumption); have q110 : x3_2 < (l0_4.length : Int) := of_decide_eq_true (by first | (with_reducible assumption) | assumption); obtain ⟨ad110, e110, hx110_0, hx110_1⟩ := at_T59 HR0_4.out x3_2 p110 q110; obtain rfl : ad108 = ad110 := (by injection e110); replace hx110_0 := (HB.out.cell (World.block_lt_of_cell? w _ hx110_0)).trans hx110_0; replace hx110_1 := (HB.out.cell (World.block_lt_of_cell? w _ hx110_1)).trans hx110_1; replace p110 := eq_true p110; replace q110 := eq_true q110) | (go_at_call 53; (with_reducible refine (palantyperef02_set.calls k2 ((rd_T59 l0_4 x3_2).f1) a0_0 false _ A24.out).mono ?_); rintro e w' ⟨rfl, ⟨nd, rfl⟩⟩; (try first | exact ⟨rfl, _, World.drewN_drewN _ _ _⟩ | exact ⟨rfl, _, Eq.trans (World.drewN_drewN _ _ _) (congrArg (World.drewN _) (Nat.add_assoc _ _ _))⟩))); try go_wp2_with (first | (go_at_call 53; (with_reducible refine (palantyperef02_set.calls k2 ((rd_T59 l0_4 x3_2).f0) a0_0 true _ A22.out).mono ?_); rintro e w' ⟨rfl, ⟨nd, rfl⟩⟩; (try first | exact ⟨rfl, _, World.drewN_drewN _ _ _⟩ | exact ⟨rfl, _, Eq.trans (World.drewN_drewN _ _ _) (congrArg (World.drewN _) (Nat.add_assoc _ _ _))⟩); have p110 : 0 ≤ (x3_2 : Int) := of_decide_eq_true (by first | (with_reducible assumption) | assumption); have q110 : x3_2 < (l0_4.length : Int) := of_decide_eq_true (by first | (with_reducible assumption) | assumption); obtain ⟨ad110, e110, hx110_0, hx110_1⟩ := at_T59 HR0_4.out x3_2 p110 q110; obtain rfl : ad108 = ad110 := (by injection e110); replace hx110_0 := (HB.out.cell (World.block_lt_of_cell? w _ hx110_0)).trans hx110_0; replace hx110_1 := (HB.out.cell (World.block_lt_of_cell? w _ hx110_1)).trans hx110_1; replace p110 := eq_true p110; replace q110 := eq_true q110) | (go_at_call 53; (with_reducible refine (palantyperef02_set.calls k2 ((rd_T59 l0_4 x3_2).f1) a0_0 false _ A24.out).mono ?_); rintro e w' ⟨rfl, ⟨nd, rfl⟩⟩; (try first | exact ⟨rfl, _, World.drewN_drewN _ _ _⟩ | exact ⟨rfl, _, Eq.trans (World.drewN_drewN _ _ _) (congrArg (World.drewN _) (Nat.add_assoc _ _ _))⟩))))
                      go_ret
                      exact ⟨by first | rfl | (simp [errW_none, errW_some] <;> rfl) | (simp [*, errW_none, errW_some] <;> rfl), by repeat (first | (with_reducible first | exact HB.out | apply below_alloc | apply pw_below_drewN | apply below_drew1 | refine below_set ?_ GE103.out) | exact HB.out)⟩
                  · replace c23 := Bool.eq_false_iff.mpr c23
                    subst c23
                    have H1 : (some 1) = some r := by rw [if_neg (show ¬ (false = true) by decide)] at H; exact H
                    clear H
                    have H := H1
                    clear H1
                    obtain rfl := Option.some.inj H
                    have hcz28_0 : wr.cell? ⟨gb103, 0, none⟩ = some (.int .i64 a0_0) := (blk_cell BK103.out 0).trans rfl
                    have hcz28_1 : wr.cell? ⟨gb103, 1, none⟩ = some (.int .i64 a0_1) := (blk_cell BK103.out 1).trans rfl
                    have hcz28_2 : wr.cell? ⟨gb103, 2, none⟩ = some (.int .i64 a0_2) := (blk_cell BK103.out 2).trans rfl
                    have hcz28_3 : wr.cell? ⟨gb103, 3, none⟩ = some (.int .i64 a0_3) := (blk_cell BK103.out 3).trans rfl
                    have hcz28_4 : wr.cell? ⟨gb103, 4, none⟩ = some (.slice A0_4 l0_4.length c0_4) := (blk_cell BK103.out 4).trans rfl
                    have hfz28_0 := blk_frozen BK103.out 0
                    have hfz28_1 := blk_frozen BK103.out 1
                    have hfz28_2 := blk_frozen BK103.out 2
                    have hfz28_3 := blk_frozen BK103.out 3
                    have hfz28_4 := blk_frozen BK103.out 4
                    have p108 : 0 ≤ (x3_2 : Int) := of_decide_eq_true (by first | (with_reducible assumption) | assumption)
                    have q108 : x3_2 < (l0_4.length : Int) := of_decide_eq_true (by first | (with_reducible assumption) | assumption)
                    obtain ⟨ad108, e108, hx108_0, hx108_1⟩ := at_T59 HR0_4.out x3_2 p108 q108
                    cases e108
                    replace hx108_0 := (HB.out.cell (World.block_lt_of_cell? w _ hx108_0)).trans hx108_0
                    replace hx108_1 := (HB.out.cell (World.block_lt_of_cell? w _ hx108_1)).trans hx108_1
                    replace p108 := eq_true p108
                    replace q108 := eq_true q108
                    go_wp2_with (first | (go_at_call 53; (with_reducible refine (palantyperef02_set.calls k2 ((rd_T59 l0_4 x3_2).f0) a0_0 false _ A22.out).mono ?_); rintro e w' ⟨rfl, ⟨nd, rfl⟩⟩; (try first | exact ⟨rfl, _, World.drewN_drewN _ _ _⟩ | exact ⟨rfl, _, Eq.trans (World.drewN_drewN _ _ _) (congrArg (World.drewN _) (Nat.add_assoc _ _ _))⟩)))
                    repeat (go_quiet (first | (go_at_call 53; (with_reducible refine (palantyperef02_set.calls k2 ((rd_T59 l0_4 x3_2).f0) a0_0 false _ A22.out).mono ?_); rintro e w' ⟨rfl, ⟨nd, rfl⟩⟩; (try first | exact ⟨rfl, _, World.drewN_drewN _ _ _⟩ | exact ⟨rfl, _, Eq.trans (World.drewN_drewN _ _ _) (congrArg (World.drewN _) (Nat.add_assoc _ _ _))⟩))); try go_wp2_with (first | (go_at_call 53; (with_reducible refine (palantyperef02_set.calls k2 ((rd_T59 l0_4 x3_2).f0) a0_0 false _ A22.out).mono ?_); rintro e w' ⟨rfl, ⟨nd, rfl⟩⟩; (try first | exact ⟨rfl, _, World.drewN_drewN _ _ _⟩ | exact ⟨rfl, _, Eq.trans (World.drewN_drewN _ _ _) (congrArg (World.drewN _) (Nat.add_assoc _ _ _))⟩))))
                    go_ret
                    exact ⟨by first | rfl | (simp [errW_none, errW_some] <;> rfl) | (simp [*, errW_none, errW_some] <;> rfl), by repeat (first | (with_reducible first | exact HB.out | apply below_alloc | apply pw_below_drewN | apply below_drew1 | refine below_set ?_ GE103.out) | exact HB.out)⟩
                · rw [if_neg c21] at H
                  exact absurd H (by simp)
              · rw [if_neg c20] at H
                have c20b0 : decide (x3_2 < (l0_4.length : Int)) = false := decide_eq_false c20
                clear c20
                obtain rfl := Option.some.inj H
                have hcz29_0 : wr.cell? ⟨gb103, 0, none⟩ = some (.int .i64 a0_0) := (blk_cell BK103.out 0).trans rfl
                have hcz29_1 : wr.cell? ⟨gb103, 1, none⟩ = some (.int .i64 a0_1) := (blk_cell BK103.out 1).trans rfl
                have hcz29_2 : wr.cell? ⟨gb103, 2, none⟩ = some (.int .i64 a0_2) := (blk_cell BK103.out 2).trans rfl
                have hcz29_3 : wr.cell? ⟨gb103, 3, none⟩ = some (.int .i64 a0_3) := (blk_cell BK103.out 3).trans rfl
                have hcz29_4 : wr.cell? ⟨gb103, 4, none⟩ = some (.slice A0_4 l0_4.length c0_4) := (blk_cell BK103.out 4).trans rfl
                have hfz29_0 := blk_frozen BK103.out 0
                have hfz29_1 := blk_frozen BK103.out 1
                have hfz29_2 := blk_frozen BK103.out 2
                have hfz29_3 := blk_frozen BK103.out 3
                have hfz29_4 := blk_frozen BK103.out 4
                go_wp2
                repeat (go_quiet (fail); try go_wp2)
                go_ret
                exact ⟨by first | rfl | (simp [errW_none, errW_some] <;> rfl) | (simp [*, errW_none, errW_some] <;> rfl), by repeat (first | (with_reducible first | exact HB.out | apply below_alloc | apply pw_below_drewN | apply below_drew1 | refine below_set ?_ GE103.out) | exact HB.out)⟩

end Go.Proofs.Ytdnjmhhjjbdieaa.Q
end

section
-- printed by wip/tools/qprint.py, a program of this session's, out of the translation. Not trusted: Lean checks it.
namespace Go.Proofs.Ytdnjmhhjjbdieaa.Q
open Go.RowKit Go.Proofs.YtdnjmhhjjbdieaaW.PrintWords Go.Proofs.YtdnjmhhjjbdieaaW.PrintLast
set_option linter.unusedVariables false
set_option linter.unusedSimpArgs false

/-! ### palantypelaw02_Scene: function 19 -/
def palantypelaw02_Scene.l0 : Nat → Int → Int → Int → Int → Int → List (S59) → Int → Int → Int → Int → List (S52) → Option (Int × Int × Int × Int × (List (S52)))
  | 0, _, _, _, _, _, _, _, _, _, _, _ => none
  | k + 1, x4, x126000, x126001, x126002, x126003, x126004, x128000, x128001, x128002, x128003, x128004 => if x4 < (x126004.length : Int) then (if 0 ≤ x4 then (if x128004.length < 35184372088832 then (palantypelaw02_Scene.l0 k (wrap64 (x4 + 1)) x126000 x126001 x126002 x126003 x126004 x128000 x128001 x128002 x128003 (x128004 ++ [(⟨(rd_T59 x126004 x4).f0, (rd_T59 x126004 x4).f1⟩ : S52)])) else (none)) else (none)) else (some (x128000, x128001, x128002, x128003, x128004))
def palantypelaw02_Scene.f (k : Nat) (a0_0 : Int) (a0_1 : Int) (a0_2 : Int) (a0_3 : Int) (l0_4 : List (S59)) : Option (Int × Int × Int × Int × (List (S52))) := palantypelaw02_Scene.l0 k 0 a0_0 a0_1 a0_2 a0_3 l0_4 a0_0 a0_1 a0_2 a0_3 ([] : List (S52))
theorem palantypelaw02_Scene.mono_l : ∀ k, (∀ y0 y1 y2 y3 y4 y5 y6 y7 y8 y9 y10, LeO (palantypelaw02_Scene.l0 k y0 y1 y2 y3 y4 y5 y6 y7 y8 y9 y10) (palantypelaw02_Scene.l0 (k + 1) y0 y1 y2 y3 y4 y5 y6 y7 y8 y9 y10))
  | 0 => fun _ _ _ _ _ _ _ _ _ _ _ r h => by simp [palantypelaw02_Scene.l0] at h
  | k + 1 => by
    have ih0 := palantypelaw02_Scene.mono_l k
    · intro y0 y1 y2 y3 y4 y5 y6 y7 y8 y9 y10
      unfold palantypelaw02_Scene.l0
      repeat' first
      | (with_reducible exact ih0 _ _ _ _ _ _ _ _ _ _ _)
      | (with_reducible exact LeO.refl _)
      | (with_reducible exact LeO.none _)
      | (with_reducible refine LeO.ite ?_ ?_)
      | (with_reducible refine LeO.bind ?_ (fun _ => ?_))
      | exact ih0 _ _ _ _ _ _ _ _ _ _ _
      | exact LeO.none _
      | refine LeO.ite ?_ ?_
      | refine LeO.bind ?_ (fun _ => ?_)
theorem palantypelaw02_Scene.mono : ∀ a0 a1 a2 a3 a4 k, LeO (palantypelaw02_Scene.f k a0 a1 a2 a3 a4) (palantypelaw02_Scene.f (k + 1) a0 a1 a2 a3 a4) := by
  intro a0 a1 a2 a3 a4 k
  have ih0 := palantypelaw02_Scene.mono_l k
  unfold palantypelaw02_Scene.f
  repeat' first
      | (with_reducible exact ih0 _ _ _ _ _ _ _ _ _ _ _)
      | (with_reducible exact LeO.refl _)
      | (with_reducible exact LeO.none _)
      | (with_reducible refine LeO.ite ?_ ?_)
      | (with_reducible refine LeO.bind ?_ (fun _ => ?_))
      | exact ih0 _ _ _ _ _ _ _ _ _ _ _
      | exact LeO.none _
      | refine LeO.ite ?_ ?_
      | refine LeO.bind ?_ (fun _ => ?_)
def palantypelaw02_Scene.T5 : Bool × List (List Nat × List Nat) := (true, [([], []), ([0], [0]), ([], []), ([2], [2]), ([], []), ([3, 4], [3, 4]), ([5], [5]), ([6], [6]), ([], []), ([8], [8]), ([], []), ([9, 10], [9, 10]), ([11], [11]), ([12], [12]), ([7, 13], [7, 13]), ([14], [14]), ([1, 15], [1, 15]), ([0, 1, 2, 3, 4, 5, 6, 7, 8, 9, 10, 11, 12, 13, 14, 15, 16], []), ([17, 16, 16, 0, 1, 2, 3, 4, 5, 6, 7, 8, 9, 10, 11, 12, 13, 14, 15, 16], [16, 17])])
def palantypelaw02_Scene.B5 : List Nat := [0, 1, 0, 4, 0, 28, 60, 124, 0, 256, 0, 1792, 3840, 7936, 16380, 32764, 65535, 131071, 262143]
theorem palantypelaw02_Scene.tab5 : rtab .any (opsOf Try.f19 5) = palantypelaw02_Scene.T5 := by kernel_rfl
theorem palantypelaw02_Scene.bits5 : waitsOk palantypelaw02_Scene.T5.2 palantypelaw02_Scene.B5 = true := by kernel_rfl
set_option maxHeartbeats 8000000 in
set_option maxRecDepth 100000 in
theorem palantypelaw02_Scene.calls (k : Nat) (a0_0 : Int) (a0_1 : Int) (a0_2 : Int) (a0_3 : Int) (A0_4 : Option Addr) (c0_4 : Nat) (l0_4 : List (S59)) (r1 : Int) (r2 : Int) (r3 : Int) (r4 : Int) (r5 : List (S52)) (w : World) (hr0_4 : Kd.C k59 w A0_4 l0_4.length l0_4) (hc0_4 : l0_4.length ≤ c0_4) (h : palantypelaw02_Scene.f k a0_0 a0_1 a0_2 a0_3 l0_4 = some (r1, r2, r3, r4, r5)) :
    Calls Try.prog 19 #[.agg #[.int .i64 a0_0, .int .i64 a0_1, .int .i64 a0_2, .int .i64 a0_3, .slice A0_4 l0_4.length c0_4]] w fun e w' => ∃ v4_ : Value, e = .returned (.agg #[.int .i64 r1, .int .i64 r2, .int .i64 r3, .int .i64 r4, v4_]) ∧ Kd.R k52 52 w' w.heap.size (fun _ => True) v4_ r5 ∧ Below w.heap.size w w' := by
  have hu24 := Try.underlying24
  have hu33 := Try.underlying33
  have hu52 := Try.underlying52
  have HR0_4 := Aside0.mk hr0_4
  have HC0_4 := Aside0.mk hc0_4
  clear hr0_4 hc0_4
  have HB := Aside0.mk (Below.refl w.heap.size w)
  have H : (palantypelaw02_Scene.l0 k 0 a0_0 a0_1 a0_2 a0_3 l0_4 a0_0 a0_1 a0_2 a0_3 ([] : List (S52))) = some (r1, r2, r3, r4, r5) := h
  clear h
  have H' := Aside0.mk H
  clear H
  go_enter Try.func19, Try.ntmps19
  go_wp2_with (first | ((with_reducible refine gate_dst (N := 1) rfl ?_); refine box_event ?hg (N := 1) ?hd (cs := #[.int .i64 a0_0, .int .i64 a0_1, .int .i64 a0_2, .int .i64 a0_3, .slice A0_4 l0_4.length c0_4]) (t := 24) ?hr ?_; (case hd => rfl); (case hg => rfl); (case hr => first | (go_simp; done) | (go_simp; rfl)); intro gb125 hg w2 hbox hb; have n0_ := Aside0.mk (below_step (by repeat (first | (with_reducible first | exact HB.out | apply below_alloc | apply pw_below_drewN | apply below_drew1) | exact HB.out)) hb); have n1_ := Aside0.mk (hbox); have n2_ := Aside0.mk ((by rw [hg]; exact (below_size (by repeat (first | (with_reducible first | exact HB.out | apply below_alloc | apply pw_below_drewN | apply below_drew1) | exact HB.out))) : w.heap.size ≤ gb125)); have n3_ := Aside0.mk ((by rw [hg]; exact (below_size (by repeat (first | (with_reducible first | exact HB.out | apply below_alloc | apply pw_below_drewN | apply below_drew1) | exact HB.out))) : w.heap.size ≤ gb125)); clear HB; have HB := n0_; have BK125 := n1_; have GW125 := n2_; have GE125 := n3_; clear n0_ n1_ n2_ n3_; clear hb hbox hg) | ((with_reducible refine gate_dst (N := 2) rfl ?_); refine box_event ?hg (N := 2) ?hd (cs := #[.int .i64 0, .int .i64 0, .int .i64 0, .int .i64 0, .slice none 0 0]) (t := 33) ?hr ?_; (case hd => rfl); (case hg => rfl); (case hr => first | (go_simp; done) | (go_simp; rfl)); intro gb126 hg w3 hbox hb; have n0_ := Aside0.mk (blk_below (g := gb125) (o := .cells #[.int .i64 a0_0, .int .i64 a0_1, .int .i64 a0_2, .int .i64 a0_3, .slice A0_4 l0_4.length c0_4] 24 (0, 0)) (by (with_reducible repeat (first | refine blk_drewN ?_ _ | refine blk_drew ?_ | refine blk_alloc ?_ _)); exact BK125.out) hb); have n1_ := Aside0.mk (below_step (by repeat (first | (with_reducible first | exact HB.out | apply below_alloc | apply pw_below_drewN | apply below_drew1 | refine below_set ?_ GE125.out) | exact HB.out)) hb); have n2_ := Aside0.mk (hbox); have n3_ := Aside0.mk ((by rw [hg]; exact (below_size (by repeat (first | (with_reducible first | exact HB.out | apply below_alloc | apply pw_below_drewN | apply below_drew1 | refine below_set ?_ GE125.out) | exact HB.out))) : w.heap.size ≤ gb126)); have n4_ := Aside0.mk ((by rw [hg]; exact (below_size (by repeat (first | (with_reducible first | exact HB.out | apply below_alloc | apply pw_below_drewN | apply below_drew1 | refine below_set ?_ GE125.out) | exact HB.out))) : w.heap.size ≤ gb126)); have n5_ := Aside0.mk ((by rw [hg]; exact Nat.ne_of_lt (blk_lt (g := gb125) (o := .cells #[.int .i64 a0_0, .int .i64 a0_1, .int .i64 a0_2, .int .i64 a0_3, .slice A0_4 l0_4.length c0_4] 24 (0, 0)) (by (with_reducible repeat (first | refine blk_drewN ?_ _ | refine blk_drew ?_ | refine blk_alloc ?_ _)); exact BK125.out)) : gb125 ≠ gb126)); have n6_ := Aside0.mk ((by rw [hg]; exact Nat.ne_of_gt (blk_lt (g := gb125) (o := .cells #[.int .i64 a0_0, .int .i64 a0_1, .int .i64 a0_2, .int .i64 a0_3, .slice A0_4 l0_4.length c0_4] 24 (0, 0)) (by (with_reducible repeat (first | refine blk_drewN ?_ _ | refine blk_drew ?_ | refine blk_alloc ?_ _)); exact BK125.out)) : gb126 ≠ gb125)); clear BK125; clear HB; have BK125 := n0_; have HB := n1_; have BK126 := n2_; have GW126 := n3_; have GE126 := n4_; have NB125_126 := n5_; have NB126_125 := n6_; clear n0_ n1_ n2_ n3_ n4_ n5_ n6_; clear hb hbox hg; have hnb4 := NB125_126.out; have hnc4 := NB126_125.out; have hcz5_0 : w3.cell? ⟨gb125, 0, none⟩ = some (.int .i64 a0_0) := (blk_cell BK125.out 0).trans rfl; have hcz5_1 : w3.cell? ⟨gb125, 1, none⟩ = some (.int .i64 a0_1) := (blk_cell BK125.out 1).trans rfl; have hcz5_2 : w3.cell? ⟨gb125, 2, none⟩ = some (.int .i64 a0_2) := (blk_cell BK125.out 2).trans rfl; have hcz5_3 : w3.cell? ⟨gb125, 3, none⟩ = some (.int .i64 a0_3) := (blk_cell BK125.out 3).trans rfl; have hcz5_4 : w3.cell? ⟨gb125, 4, none⟩ = some (.slice A0_4 l0_4.length c0_4) := (blk_cell BK125.out 4).trans rfl; have hfz5_0 := blk_frozen BK125.out 0; have hfz5_1 := blk_frozen BK125.out 1; have hfz5_2 := blk_frozen BK125.out 2; have hfz5_3 := blk_frozen BK125.out 3; have hfz5_4 := blk_frozen BK125.out 4) | ((with_reducible refine gate_dst (N := 3) rfl ?_); refine box_event ?hg (N := 3) ?hd (cs := #[.int .i64 0, .int .i64 0, .int .i64 0, .int .i64 0, .slice none 0 0]) (t := 33) ?hr ?_; (case hd => rfl); (case hg => rfl); (case hr => first | (go_simp; done) | (go_simp; rfl)); intro gb127 hg w6 hbox hb; have n0_ := Aside0.mk (blk_below (g := gb125) (o := .cells #[.int .i64 a0_0, .int .i64 a0_1, .int .i64 a0_2, .int .i64 a0_3, .slice A0_4 l0_4.length c0_4] 24 (0, 0)) (by (with_reducible repeat (first | refine blk_drewN ?_ _ | refine blk_drew ?_ | refine blk_alloc ?_ _)); exact BK125.out) hb); have n1_ := Aside0.mk (blk_below (g := gb126) (o := .cells #[.int .i64 0, .int .i64 0, .int .i64 0, .int .i64 0, .slice none 0 0] 33 (0, 0)) (by (with_reducible repeat (first | refine blk_drewN ?_ _ | refine blk_drew ?_ | refine blk_alloc ?_ _)); exact BK126.out) hb); have n2_ := Aside0.mk (below_step (by repeat (first | (with_reducible first | exact HB.out | apply below_alloc | apply pw_below_drewN | apply below_drew1 | refine below_set ?_ GE125.out | refine below_set ?_ GE126.out) | exact HB.out)) hb); have n3_ := Aside0.mk (hbox); have n4_ := Aside0.mk ((by rw [hg]; exact (below_size (by repeat (first | (with_reducible first | exact HB.out | apply below_alloc | apply pw_below_drewN | apply below_drew1 | refine below_set ?_ GE125.out | refine below_set ?_ GE126.out) | exact HB.out))) : w.heap.size ≤ gb127)); have n5_ := Aside0.mk ((by rw [hg]; exact (below_size (by repeat (first | (with_reducible first | exact HB.out | apply below_alloc | apply pw_below_drewN | apply below_drew1 | refine below_set ?_ GE125.out | refine below_set ?_ GE126.out) | exact HB.out))) : w.heap.size ≤ gb127)); have n6_ := Aside0.mk ((by rw [hg]; exact Nat.ne_of_lt (blk_lt (g := gb125) (o := .cells #[.int .i64 a0_0, .int .i64 a0_1, .int .i64 a0_2, .int .i64 a0_3, .slice A0_4 l0_4.length c0_4] 24 (0, 0)) (by (with_reducible repeat (first | refine blk_drewN ?_ _ | refine blk_drew ?_ | refine blk_alloc ?_ _)); exact BK125.out)) : gb125 ≠ gb127)); have n7_ := Aside0.mk ((by rw [hg]; exact Nat.ne_of_gt (blk_lt (g := gb125) (o := .cells #[.int .i64 a0_0, .int .i64 a0_1, .int .i64 a0_2, .int .i64 a0_3, .slice A0_4 l0_4.length c0_4] 24 (0, 0)) (by (with_reducible repeat (first | refine blk_drewN ?_ _ | refine blk_drew ?_ | refine blk_alloc ?_ _)); exact BK125.out)) : gb127 ≠ gb125)); have n8_ := Aside0.mk ((by rw [hg]; exact Nat.ne_of_lt (blk_lt (g := gb126) (o := .cells #[.int .i64 0, .int .i64 0, .int .i64 0, .int .i64 0, .slice none 0 0] 33 (0, 0)) (by (with_reducible repeat (first | refine blk_drewN ?_ _ | refine blk_drew ?_ | refine blk_alloc ?_ _)); exact BK126.out)) : gb126 ≠ gb127)); have n9_ := Aside0.mk ((by rw [hg]; exact Nat.ne_of_gt (blk_lt (g := gb126) (o := .cells #[.int .i64 0, .int .i64 0, .int .i64 0, .int .i64 0, .slice none 0 0] 33 (0, 0)) (by (with_reducible repeat (first | refine blk_drewN ?_ _ | refine blk_drew ?_ | refine blk_alloc ?_ _)); exact BK126.out)) : gb127 ≠ gb126)); clear BK125; clear BK126; clear HB; have BK125 := n0_; have BK126 := n1_; have HB := n2_; have BK127 := n3_; have GW127 := n4_; have GE127 := n5_; have NB125_127 := n6_; have NB127_125 := n7_; have NB126_127 := n8_; have NB127_126 := n9_; clear n0_ n1_ n2_ n3_ n4_ n5_ n6_ n7_ n8_ n9_; clear hb hbox hg; have hnb7 := NB127_125.out; have hnc7 := NB125_127.out; have hnb8 := NB127_126.out; have hnc8 := NB126_127.out; have hcz9_0 : w6.cell? ⟨gb127, 0, none⟩ = some (.int .i64 0) := (blk_cell BK127.out 0).trans rfl; have hcz9_1 : w6.cell? ⟨gb127, 1, none⟩ = some (.int .i64 0) := (blk_cell BK127.out 1).trans rfl; have hcz9_2 : w6.cell? ⟨gb127, 2, none⟩ = some (.int .i64 0) := (blk_cell BK127.out 2).trans rfl; have hcz9_3 : w6.cell? ⟨gb127, 3, none⟩ = some (.int .i64 0) := (blk_cell BK127.out 3).trans rfl; have hcz9_4 : w6.cell? ⟨gb127, 4, none⟩ = some (.slice none 0 0) := (blk_cell BK127.out 4).trans rfl; have hfz9_0 := blk_frozen BK127.out 0; have hfz9_1 := blk_frozen BK127.out 1; have hfz9_2 := blk_frozen BK127.out 2; have hfz9_3 := blk_frozen BK127.out 3; have hfz9_4 := blk_frozen BK127.out 4))
  go_loopg [4] k (fun kq v4 w' => ∃ (x4_1 : Int) (x128004_1 : List (S52)) (u128004 : Value), v4 = .int .i64 x4_1 ∧ Aside0 (palantypelaw02_Scene.l0 kq x4_1 a0_0 a0_1 a0_2 a0_3 l0_4 a0_0 a0_1 a0_2 a0_3 x128004_1 = some (r1, r2, r3, r4, r5)) ∧ Aside0 (kq ≤ k) ∧ Aside0 (Kd.R k52 52 w' w.heap.size (fun _ => True) u128004 x128004_1) ∧ Aside0 (w'.heap[gb125]? = some (.cells #[.int .i64 a0_0, .int .i64 a0_1, .int .i64 a0_2, .int .i64 a0_3, (.slice A0_4 l0_4.length c0_4)] 24 (0, 0))) ∧ Aside0 (w'.heap[gb126]? = some (.cells #[.int .i64 0, .int .i64 0, .int .i64 0, .int .i64 0, (.slice none 0 0)] 33 (0, 0))) ∧ Aside0 (w'.heap[gb127]? = some (.cells #[.int .i64 a0_0, .int .i64 a0_1, .int .i64 a0_2, .int .i64 a0_3, u128004] 33 (0, 0))) ∧ Aside0 (Below w.heap.size w w'))
  case atStart => exact ⟨(0), (([] : List (S52))), (.slice none 0 0), (by first | rfl | (simp; done) | (simp [*]; done)), H', ⟨Nat.le_refl _⟩, ⟨by first | exact Kd.R_nil _ _ _ _ _ | exact Kd.N_nil _ _ _ _ _ | exact Kd.V_nil _ _ _ _ _ | exact Kd.Q_nil _ _ _ _ _ | exact Kd.S_nil _ _ _ _ _⟩, ⟨by (with_reducible repeat (first | refine blk_drewN ?_ _ | refine blk_drew ?_ | refine blk_alloc ?_ _)); refine blk_far ?_ NB125_127.out _; (with_reducible repeat (first | refine blk_drewN ?_ _ | refine blk_drew ?_ | refine blk_alloc ?_ _)); refine blk_far ?_ NB125_127.out _; (with_reducible repeat (first | refine blk_drewN ?_ _ | refine blk_drew ?_ | refine blk_alloc ?_ _)); refine blk_far ?_ NB125_127.out _; (with_reducible repeat (first | refine blk_drewN ?_ _ | refine blk_drew ?_ | refine blk_alloc ?_ _)); refine blk_far ?_ NB125_127.out _; (with_reducible repeat (first | refine blk_drewN ?_ _ | refine blk_drew ?_ | refine blk_alloc ?_ _)); refine blk_far ?_ NB125_127.out _; (with_reducible repeat (first | refine blk_drewN ?_ _ | refine blk_drew ?_ | refine blk_alloc ?_ _)); exact BK125.out⟩, ⟨by (with_reducible repeat (first | refine blk_drewN ?_ _ | refine blk_drew ?_ | refine blk_alloc ?_ _)); refine blk_far ?_ NB126_127.out _; (with_reducible repeat (first | refine blk_drewN ?_ _ | refine blk_drew ?_ | refine blk_alloc ?_ _)); refine blk_far ?_ NB126_127.out _; (with_reducible repeat (first | refine blk_drewN ?_ _ | refine blk_drew ?_ | refine blk_alloc ?_ _)); refine blk_far ?_ NB126_127.out _; (with_reducible repeat (first | refine blk_drewN ?_ _ | refine blk_drew ?_ | refine blk_alloc ?_ _)); refine blk_far ?_ NB126_127.out _; (with_reducible repeat (first | refine blk_drewN ?_ _ | refine blk_drew ?_ | refine blk_alloc ?_ _)); refine blk_far ?_ NB126_127.out _; (with_reducible repeat (first | refine blk_drewN ?_ _ | refine blk_drew ?_ | refine blk_alloc ?_ _)); exact BK126.out⟩, ⟨by (with_reducible repeat (first | refine blk_drewN ?_ _ | refine blk_drew ?_ | refine blk_alloc ?_ _)); refine blk_put (cs := #[.int .i64 a0_0, .int .i64 a0_1, .int .i64 a0_2, .int .i64 a0_3, .slice none 0 0]) ?_ 4 _ rfl; (with_reducible repeat (first | refine blk_drewN ?_ _ | refine blk_drew ?_ | refine blk_alloc ?_ _)); refine blk_put (cs := #[.int .i64 a0_0, .int .i64 a0_1, .int .i64 a0_2, .int .i64 0, .slice none 0 0]) ?_ 3 _ rfl; (with_reducible repeat (first | refine blk_drewN ?_ _ | refine blk_drew ?_ | refine blk_alloc ?_ _)); refine blk_put (cs := #[.int .i64 a0_0, .int .i64 a0_1, .int .i64 0, .int .i64 0, .slice none 0 0]) ?_ 2 _ rfl; (with_reducible repeat (first | refine blk_drewN ?_ _ | refine blk_drew ?_ | refine blk_alloc ?_ _)); refine blk_put (cs := #[.int .i64 a0_0, .int .i64 0, .int .i64 0, .int .i64 0, .slice none 0 0]) ?_ 1 _ rfl; (with_reducible repeat (first | refine blk_drewN ?_ _ | refine blk_drew ?_ | refine blk_alloc ?_ _)); refine blk_put (cs := #[.int .i64 0, .int .i64 0, .int .i64 0, .int .i64 0, .slice none 0 0]) ?_ 0 _ rfl; (with_reducible repeat (first | refine blk_drewN ?_ _ | refine blk_drew ?_ | refine blk_alloc ?_ _)); exact BK127.out⟩, ⟨by repeat (first | (with_reducible first | exact HB.out | apply below_alloc | apply pw_below_drewN | apply below_drew1 | refine below_set ?_ GE125.out | refine below_set ?_ GE126.out | refine below_set ?_ GE127.out) | exact HB.out)⟩⟩
  case round =>
    clear H'
    try clear c1
    try clear p2
    try clear c4
    try clear c7
    try clear c8
    try clear hcz5_0
    try clear hcz5_1
    try clear hcz5_2
    try clear hcz5_3
    try clear hcz5_4
    try clear hcz9_0
    try clear hcz9_1
    try clear hcz9_2
    try clear hcz9_3
    try clear hcz9_4
    try clear hfz5_0
    try clear hfz5_1
    try clear hfz5_2
    try clear hfz5_3
    try clear hfz5_4
    try clear hfz9_0
    try clear hfz9_1
    try clear hfz9_2
    try clear hfz9_3
    try clear hfz9_4
    obtain ⟨x4_1, x128004_1, u128004, rfl, HA, HK1, HO_128004, BK125, BK126, BK127, HB⟩ := hrel
    cases gk with
    | zero => exact absurd HA.out (by simp [palantypelaw02_Scene.l0])
    | succ k1 =>
      have H := HA.out
      clear HA
      simp only [palantypelaw02_Scene.l0] at H
      by_cases c10 : x4_1 < (l0_4.length : Int)
      · rw [if_pos c10] at H
        have c10b0 : decide (x4_1 < (l0_4.length : Int)) = true := decide_eq_true c10
        clear c10
        by_cases c11 : 0 ≤ x4_1
        · rw [if_pos c11] at H
          have c11b0 : decide (0 ≤ x4_1) = true := decide_eq_true c11
          clear c11
          by_cases c12 : x128004_1.length < 35184372088832
          · rw [if_pos c12] at H
            have LMc12 := Aside0.mk c12
            clear c12
            obtain ⟨y130, hy130⟩ : ∃ y_ : List (S52), y_ = (x128004_1 ++ [(⟨(rd_T59 l0_4 x4_1).f0, (rd_T59 l0_4 x4_1).f1⟩ : S52)]) := ⟨_, rfl⟩
            replace H : (palantypelaw02_Scene.l0 k1 (wrap64 (x4_1 + 1)) a0_0 a0_1 a0_2 a0_3 l0_4 a0_0 a0_1 a0_2 a0_3 y130) = some (r1, r2, r3, r4, r5) := by first | (rw [hy130]; with_reducible exact H) | (have H2_ := (Option.bind_some _ _).symm.trans H; rw [hy130]; with_reducible exact H2_) | (have H2_ := (Option.bind_some _ _).symm.trans H; with_reducible exact H2_) | with_reducible exact H | (rw [hy130]; exact H) | exact H
            have Ny130 := Aside0.mk hy130
            clear hy130
            have H' := Aside0.mk H
            clear H
            have hnb13 := NB125_126.out
            have hnc13 := NB126_125.out
            have hnb14 := NB125_127.out
            have hnc14 := NB127_125.out
            have hcz15_0 : wr.cell? ⟨gb125, 0, none⟩ = some (.int .i64 a0_0) := (blk_cell BK125.out 0).trans rfl
            have hcz15_1 : wr.cell? ⟨gb125, 1, none⟩ = some (.int .i64 a0_1) := (blk_cell BK125.out 1).trans rfl
            have hcz15_2 : wr.cell? ⟨gb125, 2, none⟩ = some (.int .i64 a0_2) := (blk_cell BK125.out 2).trans rfl
            have hcz15_3 : wr.cell? ⟨gb125, 3, none⟩ = some (.int .i64 a0_3) := (blk_cell BK125.out 3).trans rfl
            have hcz15_4 : wr.cell? ⟨gb125, 4, none⟩ = some (.slice A0_4 l0_4.length c0_4) := (blk_cell BK125.out 4).trans rfl
            have hfz15_0 := blk_frozen BK125.out 0
            have hfz15_1 := blk_frozen BK125.out 1
            have hfz15_2 := blk_frozen BK125.out 2
            have hfz15_3 := blk_frozen BK125.out 3
            have hfz15_4 := blk_frozen BK125.out 4
            try go_wp2
            have n0_ := Aside0.mk (Kd.R_drew HO_128004.out)
            have n1_ := Aside0.mk (blk_drew BK125.out)
            have n2_ := Aside0.mk (blk_drew BK126.out)
            have n3_ := Aside0.mk (blk_drew BK127.out)
            have n4_ := Aside0.mk (below_drew1 HB.out)
            clear HO_128004
            clear BK125
            clear BK126
            clear BK127
            clear HB
            have HO_128004 := n0_
            have BK125 := n1_
            have BK126 := n2_
            have BK127 := n3_
            have HB := n4_
            clear n0_ n1_ n2_ n3_ n4_
            have p128 : 0 ≤ (x4_1 : Int) := of_decide_eq_true (by first | (with_reducible assumption) | assumption)
            have q128 : x4_1 < (l0_4.length : Int) := of_decide_eq_true (by first | (with_reducible assumption) | assumption)
            obtain ⟨ad128, e128, hx128_0, hx128_1⟩ := at_T59 HR0_4.out x4_1 p128 q128
            have hw128_1 := hx128_1
            have hw128_0 := hx128_0
            cases e128
            replace hx128_0 := (HB.out.cell (World.block_lt_of_cell? w _ hx128_0)).trans hx128_0
            replace hx128_1 := (HB.out.cell (World.block_lt_of_cell? w _ hx128_1)).trans hx128_1
            replace p128 := eq_true p128
            replace q128 := eq_true q128
            have p129 : 0 ≤ (x4_1 : Int) := of_decide_eq_true (by first | (with_reducible assumption) | assumption)
            have q129 : x4_1 < (l0_4.length : Int) := of_decide_eq_true (by first | (with_reducible assumption) | assumption)
            obtain ⟨ad129, e129, hx129_0, hx129_1⟩ := at_T59 HR0_4.out x4_1 p129 q129
            have hw129_1 := hx129_1
            have hw129_0 := hx129_0
            obtain rfl : ad128 = ad129 := (by injection e129)
            replace hx129_0 := (HB.out.cell (World.block_lt_of_cell? w _ hx129_0)).trans hx129_0
            replace hx129_1 := (HB.out.cell (World.block_lt_of_cell? w _ hx129_1)).trans hx129_1
            replace p129 := eq_true p129
            replace q129 := eq_true q129
            refine start_ (n := 19) (S := fun w' => w'.cell? ⟨gb127, 0, none⟩ = some (.int .i64 a0_0) ∧ w'.cell? ⟨gb127, 1, none⟩ = some (.int .i64 a0_1) ∧ w'.cell? ⟨gb127, 2, none⟩ = some (.int .i64 a0_2) ∧ w'.cell? ⟨gb127, 3, none⟩ = some (.int .i64 a0_3) ∧ w'.cell? ⟨gb127, 4, none⟩ = some (u128004) ∧ w'.cell? ⟨gb125, 0, none⟩ = some (.int .i64 a0_0) ∧ w'.cell? ⟨gb125, 1, none⟩ = some (.int .i64 a0_1) ∧ w'.cell? ⟨gb125, 2, none⟩ = some (.int .i64 a0_2) ∧ w'.cell? ⟨gb125, 3, none⟩ = some (.int .i64 a0_3) ∧ w'.cell? ⟨gb125, 4, none⟩ = some (.slice (some ad128) l0_4.length c0_4) ∧ w'.cell? (ad128.add ((x4_1).toNat * 2)) = some (.int .u16 ((rd_T59 l0_4 x4_1).f0)) ∧ w'.cell? ⟨(ad128.add ((x4_1).toNat * 2)).block, (ad128.add ((x4_1).toNat * 2)).off + 1, none⟩ = some (.int .u16 ((rd_T59 l0_4 x4_1).f1)) ∧ w'.cell? (ad128.add ((x4_1).toNat * 2)) = some (.int .u16 ((rd_T59 l0_4 x4_1).f0)) ∧ w'.cell? ⟨(ad128.add ((x4_1).toNat * 2)).block, (ad128.add ((x4_1).toNat * 2)).off + 1, none⟩ = some (.int .u16 ((rd_T59 l0_4 x4_1).f1))) (ds := [18]) #[false, false, false, false, false, false, false, false, false, false, false, false, false, false, false, false, false, false, false] (by kernel_rfl) rfl rfl ⟨(blk_cell BK127.out 0).trans rfl, (blk_cell BK127.out 1).trans rfl, (blk_cell BK127.out 2).trans rfl, (blk_cell BK127.out 3).trans rfl, (blk_cell BK127.out 4).trans rfl, (blk_cell BK125.out 0).trans rfl, (blk_cell BK125.out 1).trans rfl, (blk_cell BK125.out 2).trans rfl, (blk_cell BK125.out 3).trans rfl, (blk_cell BK125.out 4).trans rfl, ((HB.out.cell (World.block_lt_of_cell? w _ hw128_0)).trans hw128_0), ((HB.out.cell (World.block_lt_of_cell? w _ hw128_1)).trans hw128_1), ((HB.out.cell (World.block_lt_of_cell? w _ hw129_0)).trans hw129_0), ((HB.out.cell (World.block_lt_of_cell? w _ hw129_1)).trans hw129_1)⟩ (fun hHeld => ?_); refine with_tabW palantypelaw02_Scene.tab5 palantypelaw02_Scene.bits5 (fun HT_ HW_ => ?_)
            generalize wr.drew = w16 at HO_128004 BK125 BK126 BK127 HB hx128_0 hx128_1 hx129_0 hx129_1 hHeld ⊢
            refine pure_ (i := 0) (N := some 21) (v := ?_) (a' := ?_) #[true, false, false, false, false, false, false, false, false, false, false, false, false, false, false, false, false, false, false] rfl rfl (any_of HT_.out (by kernel_rfl)) (fun _ _ _ h => h) (Or.inl ⟨by rfl, ?_⟩) ?_ ?_
            rotate_left
            · intro w'
              go_simp
              with_reducible rfl
            rotate_left
            · simp only [Act.put, List.setIfInBounds_toArray, List.set_cons_zero, List.set_cons_succ, i64_w, i32_w]
              rfl
            refine pure_ (i := 2) (N := some 23) (v := ?_) (a' := ?_) #[true, false, true, false, false, false, false, false, false, false, false, false, false, false, false, false, false, false, false] rfl rfl (any_of HT_.out (by kernel_rfl)) (fun _ _ _ h => h) (Or.inl ⟨by rfl, ?_⟩) ?_ ?_
            rotate_left
            · intro w'
              go_simp
              with_reducible rfl
            rotate_left
            · simp only [Act.put, List.setIfInBounds_toArray, List.set_cons_zero, List.set_cons_succ, i64_w, i32_w]
              rfl
            refine pure_ (i := 4) (N := some 25) (v := ?_) (a' := ?_) #[true, false, true, false, true, false, false, false, false, false, false, false, false, false, false, false, false, false, false] rfl rfl (any_of HT_.out (by kernel_rfl)) (fun _ _ _ h => h) (Or.inl ⟨by rfl, ?_⟩) ?_ ?_
            rotate_left
            · intro w'
              go_simp
              with_reducible rfl
            rotate_left
            · simp only [Act.put, List.setIfInBounds_toArray, List.set_cons_zero, List.set_cons_succ, i64_w, i32_w]
              rfl
            refine pure_ (i := 8) (N := some 29) (v := ?_) (a' := ?_) #[true, false, true, false, true, false, false, false, true, false, false, false, false, false, false, false, false, false, false] rfl rfl (any_of HT_.out (by kernel_rfl)) (fun _ _ _ h => h) (Or.inl ⟨by rfl, ?_⟩) ?_ ?_
            rotate_left
            · intro w'
              go_simp
              with_reducible rfl
            rotate_left
            · simp only [Act.put, List.setIfInBounds_toArray, List.set_cons_zero, List.set_cons_succ, i64_w, i32_w]
              rfl
            refine pure_ (i := 10) (N := some 31) (v := ?_) (a' := ?_) #[true, false, true, false, true, false, false, false, true, false, true, false, false, false, false, false, false, false, false] rfl rfl (any_of HT_.out (by kernel_rfl)) (fun _ _ _ h => h) (Or.inl ⟨by rfl, ?_⟩) ?_ ?_
            rotate_left
            · intro w'
              go_simp
              with_reducible rfl
            rotate_left
            · simp only [Act.put, List.setIfInBounds_toArray, List.set_cons_zero, List.set_cons_succ, i64_w, i32_w]
              rfl
            refine take_ (i := 1) (N := some 22) (v := ?_) (a' := ?_) #[true, true, true, false, true, false, false, false, true, false, true, false, false, false, false, false, false, false, false] rfl rfl (take_ofW HT_.out HW_.out (by kernel_rfl)) (fun _ _ _ h => h) (Or.inl ⟨by rfl, ?_⟩) hHeld ?_ ?_
            rotate_left
            · rintro w' ⟨s0, s1, s2, s3, s4, s5, s6, s7, s8, s9, s10, s11, s12, s13⟩
              go_simp
              with_reducible rfl
            rotate_left
            · simp only [Act.put, List.setIfInBounds_toArray, List.set_cons_zero, List.set_cons_succ, i64_w, i32_w]
              rfl
            refine take_ (i := 3) (N := some 24) (v := ?_) (a' := ?_) #[true, true, true, true, true, false, false, false, true, false, true, false, false, false, false, false, false, false, false] rfl rfl (take_ofW HT_.out HW_.out (by kernel_rfl)) (fun _ _ _ h => h) (Or.inl ⟨by rfl, ?_⟩) hHeld ?_ ?_
            rotate_left
            · rintro w' ⟨s0, s1, s2, s3, s4, s5, s6, s7, s8, s9, s10, s11, s12, s13⟩
              go_simp
              with_reducible rfl
            rotate_left
            · simp only [Act.put, List.setIfInBounds_toArray, List.set_cons_zero, List.set_cons_succ, i64_w, i32_w]
              rfl
            refine pure_ (i := 5) (N := some 26) (v := ?_) (a' := ?_) #[true, true, true, true, true, true, false, false, true, false, true, false, false, false, false, false, false, false, false] rfl rfl (any_of HT_.out (by kernel_rfl)) (fun _ _ _ h => h) (Or.inl ⟨by rfl, ?_⟩) ?_ ?_
            rotate_left
            · intro w'
              go_simp
              with_reducible rfl
            rotate_left
            · simp only [Act.put, List.setIfInBounds_toArray, List.set_cons_zero, List.set_cons_succ, i64_w, i32_w]
              rfl
            refine pure_ (i := 6) (N := some 27) (v := ?_) (a' := ?_) #[true, true, true, true, true, true, true, false, true, false, true, false, false, false, false, false, false, false, false] rfl rfl (any_of HT_.out (by kernel_rfl)) (fun _ _ _ h => h) (Or.inl ⟨by rfl, ?_⟩) ?_ ?_
            rotate_left
            · intro w'
              go_simp
              with_reducible rfl
            rotate_left
            · simp only [Act.put, List.setIfInBounds_toArray, List.set_cons_zero, List.set_cons_succ, i64_w, i32_w]
              rfl
            refine take_ (i := 7) (N := some 28) (v := ?_) (a' := ?_) #[true, true, true, true, true, true, true, true, true, false, true, false, false, false, false, false, false, false, false] rfl rfl (take_ofW HT_.out HW_.out (by kernel_rfl)) (fun _ _ _ h => h) (Or.inl ⟨by rfl, ?_⟩) hHeld ?_ ?_
            rotate_left
            · rintro w' ⟨s0, s1, s2, s3, s4, s5, s6, s7, s8, s9, s10, s11, s12, s13⟩
              go_simp
              with_reducible rfl
            rotate_left
            · simp only [Act.put, List.setIfInBounds_toArray, List.set_cons_zero, List.set_cons_succ, i64_w, i32_w]
              rfl
            refine take_ (i := 9) (N := some 30) (v := ?_) (a' := ?_) #[true, true, true, true, true, true, true, true, true, true, true, false, false, false, false, false, false, false, false] rfl rfl (take_ofW HT_.out HW_.out (by kernel_rfl)) (fun _ _ _ h => h) (Or.inl ⟨by rfl, ?_⟩) hHeld ?_ ?_
            rotate_left
            · rintro w' ⟨s0, s1, s2, s3, s4, s5, s6, s7, s8, s9, s10, s11, s12, s13⟩
              go_simp
              with_reducible rfl
            rotate_left
            · simp only [Act.put, List.setIfInBounds_toArray, List.set_cons_zero, List.set_cons_succ, i64_w, i32_w]
              rfl
            refine pure_ (i := 11) (N := some 32) (v := ?_) (a' := ?_) #[true, true, true, true, true, true, true, true, true, true, true, true, false, false, false, false, false, false, false] rfl rfl (any_of HT_.out (by kernel_rfl)) (fun _ _ _ h => h) (Or.inl ⟨by rfl, ?_⟩) ?_ ?_
            rotate_left
            · intro w'
              go_simp
              with_reducible rfl
            rotate_left
            · simp only [Act.put, List.setIfInBounds_toArray, List.set_cons_zero, List.set_cons_succ, i64_w, i32_w]
              rfl
            refine pure_ (i := 12) (N := some 33) (v := ?_) (a' := ?_) #[true, true, true, true, true, true, true, true, true, true, true, true, true, false, false, false, false, false, false] rfl rfl (any_of HT_.out (by kernel_rfl)) (fun _ _ _ h => h) (Or.inl ⟨by rfl, ?_⟩) ?_ ?_
            rotate_left
            · intro w'
              go_simp
              with_reducible rfl
            rotate_left
            · simp only [Act.put, List.setIfInBounds_toArray, List.set_cons_zero, List.set_cons_succ, i64_w, i32_w]
              rfl
            refine take_ (i := 13) (N := some 34) (v := ?_) (a' := ?_) #[true, true, true, true, true, true, true, true, true, true, true, true, true, true, false, false, false, false, false] rfl rfl (take_ofW HT_.out HW_.out (by kernel_rfl)) (fun _ _ _ h => h) (Or.inl ⟨by rfl, ?_⟩) hHeld ?_ ?_
            rotate_left
            · rintro w' ⟨s0, s1, s2, s3, s4, s5, s6, s7, s8, s9, s10, s11, s12, s13⟩
              go_simp
              with_reducible rfl
            rotate_left
            · simp only [Act.put, List.setIfInBounds_toArray, List.set_cons_zero, List.set_cons_succ, i64_w, i32_w]
              rfl
            refine pure_ (i := 14) (N := some 35) (v := ?_) (a' := ?_) #[true, true, true, true, true, true, true, true, true, true, true, true, true, true, true, false, false, false, false] rfl rfl (any_of HT_.out (by kernel_rfl)) (fun _ _ _ h => h) (Or.inl ⟨by rfl, ?_⟩) ?_ ?_
            rotate_left
            · intro w'
              go_simp
              with_reducible rfl
            rotate_left
            · simp only [Act.put, List.setIfInBounds_toArray, List.set_cons_zero, List.set_cons_succ, i64_w, i32_w]
              rfl
            refine one_ (i := 15) (N := some 36) #[true, true, true, true, true, true, true, true, true, true, true, true, true, true, true, true, false, false, false] rfl rfl (one_of HT_.out (by kernel_rfl)) (by decide) (fun K hK => ?_)
            refine value_ (w1 := ?_) (v := ?_) (by rfl) rfl ?_ ?_
            rotate_left 2
            · go_simp
              constructor
              · rfl
              · rfl
            refine hK.out _ _ ⟨(blk_cell (blk_alloc BK127.out _) 0).trans rfl, (blk_cell (blk_alloc BK127.out _) 1).trans rfl, (blk_cell (blk_alloc BK127.out _) 2).trans rfl, (blk_cell (blk_alloc BK127.out _) 3).trans rfl, (blk_cell (blk_alloc BK127.out _) 4).trans rfl, (blk_cell (blk_alloc BK125.out _) 0).trans rfl, (blk_cell (blk_alloc BK125.out _) 1).trans rfl, (blk_cell (blk_alloc BK125.out _) 2).trans rfl, (blk_cell (blk_alloc BK125.out _) 3).trans rfl, (blk_cell (blk_alloc BK125.out _) 4).trans rfl, (World.cell?_alloc_lt _ _ _ (World.block_lt_of_cell? _ _ (((HB.out.cell (World.block_lt_of_cell? w _ hw128_0)).trans hw128_0)))).trans (((HB.out.cell (World.block_lt_of_cell? w _ hw128_0)).trans hw128_0)), (World.cell?_alloc_lt _ _ _ (World.block_lt_of_cell? _ _ (((HB.out.cell (World.block_lt_of_cell? w _ hw128_1)).trans hw128_1)))).trans (((HB.out.cell (World.block_lt_of_cell? w _ hw128_1)).trans hw128_1)), (World.cell?_alloc_lt _ _ _ (World.block_lt_of_cell? _ _ (((HB.out.cell (World.block_lt_of_cell? w _ hw129_0)).trans hw129_0)))).trans (((HB.out.cell (World.block_lt_of_cell? w _ hw129_0)).trans hw129_0)), (World.cell?_alloc_lt _ _ _ (World.block_lt_of_cell? _ _ (((HB.out.cell (World.block_lt_of_cell? w _ hw129_1)).trans hw129_1)))).trans (((HB.out.cell (World.block_lt_of_cell? w _ hw129_1)).trans hw129_1))⟩ (fun hHeld => ?_)
            clear hK K
            refine norm_ (a' := ?_) ?_ ?_
            rotate_left
            · show Act.put _ (some 36) _ = _
              simp only [Act.put, List.setIfInBounds_toArray, List.set_cons_zero, List.set_cons_succ, i64_w, i32_w]
              rfl
            refine one_ (i := 16) (N := some 37) #[true, true, true, true, true, true, true, true, true, true, true, true, true, true, true, true, true, false, false] rfl rfl (one_of HT_.out (by kernel_rfl)) (by decide) (fun K hK => ?_)
            refine Kd.R_append_step k52 (w0 := w) w.heap.size (by rfl) (.tmp 22) (.tmp 36) 31 52 (.agg #[(.int .u16 0), (.int .u16 0)]) 4 rfl Try.underlying31 info52 rfl (by decide) (by omega) u128004 x128004_1 (⟨(rd_T59 l0_4 x4_1).f0, (rd_T59 l0_4 x4_1).f1⟩ : S52) [.int .u16 ((rd_T59 l0_4 x4_1).f0), .int .u16 ((rd_T59 l0_4 x4_1).f1)] (fun _ => True) (fun _ => False) rfl rfl ?aP (fun _ hk => hk.elim) ?aF ?aO ?aB ?aS ?aL ?_
            (case aP => exact k52_mkM _ _ _ (⟨(rd_T59 l0_4 x4_1).f0, (rd_T59 l0_4 x4_1).f1⟩ : S52))
            (case aB => exact (by repeat (first | (with_reducible first | exact HB.out | apply below_alloc | apply pw_below_drewN | apply below_drew1 | refine below_set ?_ GE125.out | refine below_set ?_ GE126.out | refine below_set ?_ GE127.out) | exact HB.out)))
            (case aF => exact (fun _ _ => trivial))
            (case aO => exact (by (with_reducible repeat (first | apply Kd.R_alloc | apply Kd.R_drewN | apply Kd.R_drew)); exact HO_128004.out))
            (case aS => exact (below_size (by repeat (first | (with_reducible first | exact HB.out | apply below_alloc | apply pw_below_drewN | apply below_drew1 | refine below_set ?_ GE125.out | refine below_set ?_ GE126.out | refine below_set ?_ GE127.out) | exact HB.out))))
            (case aL => have := LMc12.out; omega)
            intro v131 w17 ho hb hg hat
            rw [← Ny130.out] at ho
            have n0_ := Aside0.mk (blk_grown (g := gb125) (o := .cells #[.int .i64 a0_0, .int .i64 a0_1, .int .i64 a0_2, .int .i64 a0_3, .slice (some ad128) l0_4.length c0_4] 24 (0, 0)) (by (with_reducible repeat (first | refine blk_drewN ?_ _ | refine blk_drew ?_ | refine blk_alloc ?_ _)); exact BK125.out) hg (Kd.R_ne HO_128004.out BK125.out (by decide)))
            have n1_ := Aside0.mk (blk_grown (g := gb126) (o := .cells #[.int .i64 0, .int .i64 0, .int .i64 0, .int .i64 0, .slice none 0 0] 33 (0, 0)) (by (with_reducible repeat (first | refine blk_drewN ?_ _ | refine blk_drew ?_ | refine blk_alloc ?_ _)); exact BK126.out) hg (Kd.R_ne HO_128004.out BK126.out (by decide)))
            have n2_ := Aside0.mk (blk_grown (g := gb127) (o := .cells #[.int .i64 a0_0, .int .i64 a0_1, .int .i64 a0_2, .int .i64 a0_3, u128004] 33 (0, 0)) (by (with_reducible repeat (first | refine blk_drewN ?_ _ | refine blk_drew ?_ | refine blk_alloc ?_ _)); exact BK127.out) hg (Kd.R_ne HO_128004.out BK127.out (by decide)))
            have n3_ := Aside0.mk (hb)
            have n4_ := Aside0.mk (ho)
            clear BK125
            clear BK126
            clear BK127
            clear HB
            clear HO_128004
            have BK125 := n0_
            have BK126 := n1_
            have BK127 := n2_
            have HB := n3_
            have HO132 := n4_
            clear n0_ n1_ n2_ n3_ n4_
            clear ho hb hg hat
            obtain ⟨Ao18, co18, eo18⟩ := Kd.R_slice HO132.out
            (first | subst eo18 | (injection eo18 with f1_ f2_ f3_; have f4_ := f1_.symm; have f5_ := f3_.symm; clear f1_ f2_ f3_; subst f4_; subst f5_))
            refine hK.out _ _ ⟨(blk_cell BK127.out 0).trans rfl, (blk_cell BK127.out 1).trans rfl, (blk_cell BK127.out 2).trans rfl, (blk_cell BK127.out 3).trans rfl, (blk_cell BK127.out 4).trans rfl, (blk_cell BK125.out 0).trans rfl, (blk_cell BK125.out 1).trans rfl, (blk_cell BK125.out 2).trans rfl, (blk_cell BK125.out 3).trans rfl, (blk_cell BK125.out 4).trans rfl, ((HB.out.cell (World.block_lt_of_cell? w _ hw128_0)).trans hw128_0), ((HB.out.cell (World.block_lt_of_cell? w _ hw128_1)).trans hw128_1), ((HB.out.cell (World.block_lt_of_cell? w _ hw129_0)).trans hw129_0), ((HB.out.cell (World.block_lt_of_cell? w _ hw129_1)).trans hw129_1)⟩ (fun hHeld => ?_)
            clear hK K
            refine norm_ (a' := ?_) ?_ ?_
            rotate_left
            · show Act.put _ (some 37) _ = _
              simp only [Act.put, List.setIfInBounds_toArray, List.set_cons_zero, List.set_cons_succ, i64_w, i32_w]
              rfl
            refine pure_ (i := 17) (N := some 38) (v := ?_) (a' := ?_) #[true, true, true, true, true, true, true, true, true, true, true, true, true, true, true, true, true, true, false] rfl rfl (any_of HT_.out (by kernel_rfl)) (fun _ _ _ h => h) (Or.inl ⟨by rfl, ?_⟩) ?_ ?_
            rotate_left
            · intro w'
              go_simp
              with_reducible rfl
            rotate_left
            · simp only [Act.put, List.setIfInBounds_toArray, List.set_cons_zero, List.set_cons_succ, i64_w, i32_w]
              rfl
            refine last_ (i := 18) (N := none) #[true, true, true, true, true, true, true, true, true, true, true, true, true, true, true, true, true, true, true] rfl rfl (one_of HT_.out (by kernel_rfl)) (by decide) (fun K hK => ?_)
            have hs19 : w17.cell? ⟨gb127, 4, none⟩ = some (u128004) := (blk_cell BK127.out 4).trans rfl
            have hfs19 := blk_frozen BK127.out 4
            have hns19_0 := NB125_127.out
            have hns19_1 := NB126_127.out
            have hms19_0 := NB127_125.out
            have hms19_1 := NB127_126.out
            refine skip_ (w1 := ?_) (by rfl) rfl ?_ ?_
            rotate_left
            · go_simp
              rfl
            refine hK.out _ _ ?_
            clear hK K
            refine done_ (done_of HT_.out (by kernel_rfl)) ?_
            try go_wp2
            go_roundg k1
            case measure => have := HK1.out; omega
            case rel => exact ⟨(wrap64 (x4_1 + 1)), (y130), (.slice Ao18 y130.length co18), (by first | rfl | (simp; done) | (simp [*]; done)), H', ⟨by have := HK1.out; omega⟩, ⟨by (with_reducible repeat (first | apply Kd.R_alloc | apply Kd.R_drewN | apply Kd.R_drew)); exact Kd.R_mono (Kd.R_far (p := ⟨gb127, 4, none⟩) (Kd.R_types HO132.out BK127.out (by decide)) (fun _ hk => hk.2) (.slice Ao18 y130.length co18)) (fun _ hk => trivial)⟩, ⟨by (with_reducible repeat (first | refine blk_drewN ?_ _ | refine blk_drew ?_ | refine blk_alloc ?_ _)); refine blk_far ?_ NB125_127.out _; (with_reducible repeat (first | refine blk_drewN ?_ _ | refine blk_drew ?_ | refine blk_alloc ?_ _)); exact BK125.out⟩, ⟨by (with_reducible repeat (first | refine blk_drewN ?_ _ | refine blk_drew ?_ | refine blk_alloc ?_ _)); refine blk_far ?_ NB126_127.out _; (with_reducible repeat (first | refine blk_drewN ?_ _ | refine blk_drew ?_ | refine blk_alloc ?_ _)); exact BK126.out⟩, ⟨by (with_reducible repeat (first | refine blk_drewN ?_ _ | refine blk_drew ?_ | refine blk_alloc ?_ _)); refine blk_put (cs := #[.int .i64 a0_0, .int .i64 a0_1, .int .i64 a0_2, .int .i64 a0_3, u128004]) ?_ 4 _ rfl; (with_reducible repeat (first | refine blk_drewN ?_ _ | refine blk_drew ?_ | refine blk_alloc ?_ _)); exact BK127.out⟩, ⟨by repeat (first | (with_reducible first | exact HB.out | apply below_alloc | apply pw_below_drewN | apply below_drew1 | refine below_set ?_ GE125.out | refine below_set ?_ GE126.out | refine below_set ?_ GE127.out) | exact HB.out)⟩⟩
          · rw [if_neg c12] at H
            exact absurd H (by simp)
        · rw [if_neg c11] at H
          exact absurd H (by simp)
      · rw [if_neg c10] at H
        have c10b0 : decide (x4_1 < (l0_4.length : Int)) = false := decide_eq_false c10
        clear c10
        simp only [Option.some.injEq, Prod.mk.injEq] at H
        obtain ⟨rfl, rfl, rfl, rfl, rfl⟩ := H
        have hnb20 := NB125_126.out
        have hnc20 := NB126_125.out
        have hnb21 := NB125_127.out
        have hnc21 := NB127_125.out
        have hcz22_0 : wr.cell? ⟨gb125, 0, none⟩ = some (.int .i64 a0_0) := (blk_cell BK125.out 0).trans rfl
        have hcz22_1 : wr.cell? ⟨gb125, 1, none⟩ = some (.int .i64 a0_1) := (blk_cell BK125.out 1).trans rfl
        have hcz22_2 : wr.cell? ⟨gb125, 2, none⟩ = some (.int .i64 a0_2) := (blk_cell BK125.out 2).trans rfl
        have hcz22_3 : wr.cell? ⟨gb125, 3, none⟩ = some (.int .i64 a0_3) := (blk_cell BK125.out 3).trans rfl
        have hcz22_4 : wr.cell? ⟨gb125, 4, none⟩ = some (.slice A0_4 l0_4.length c0_4) := (blk_cell BK125.out 4).trans rfl
        have hfz22_0 := blk_frozen BK125.out 0
        have hfz22_1 := blk_frozen BK125.out 1
        have hfz22_2 := blk_frozen BK125.out 2
        have hfz22_3 := blk_frozen BK125.out 3
        have hfz22_4 := blk_frozen BK125.out 4
        have hnb23 := NB127_126.out
        have hnc23 := NB126_127.out
        have hcz24_0 : wr.cell? ⟨gb127, 0, none⟩ = some (.int .i64 a0_0) := (blk_cell BK127.out 0).trans rfl
        have hcz24_1 : wr.cell? ⟨gb127, 1, none⟩ = some (.int .i64 a0_1) := (blk_cell BK127.out 1).trans rfl
        have hcz24_2 : wr.cell? ⟨gb127, 2, none⟩ = some (.int .i64 a0_2) := (blk_cell BK127.out 2).trans rfl
        have hcz24_3 : wr.cell? ⟨gb127, 3, none⟩ = some (.int .i64 a0_3) := (blk_cell BK127.out 3).trans rfl
        have hcz24_4 : wr.cell? ⟨gb127, 4, none⟩ = some (u128004) := (blk_cell BK127.out 4).trans rfl
        have hfz24_0 := blk_frozen BK127.out 0
        have hfz24_1 := blk_frozen BK127.out 1
        have hfz24_2 := blk_frozen BK127.out 2
        have hfz24_3 := blk_frozen BK127.out 3
        have hfz24_4 := blk_frozen BK127.out 4
        have hcz25_0 : wr.cell? ⟨gb126, 0, none⟩ = some (.int .i64 0) := (blk_cell BK126.out 0).trans rfl
        have hcz25_1 : wr.cell? ⟨gb126, 1, none⟩ = some (.int .i64 0) := (blk_cell BK126.out 1).trans rfl
        have hcz25_2 : wr.cell? ⟨gb126, 2, none⟩ = some (.int .i64 0) := (blk_cell BK126.out 2).trans rfl
        have hcz25_3 : wr.cell? ⟨gb126, 3, none⟩ = some (.int .i64 0) := (blk_cell BK126.out 3).trans rfl
        have hcz25_4 : wr.cell? ⟨gb126, 4, none⟩ = some (.slice none 0 0) := (blk_cell BK126.out 4).trans rfl
        have hfz25_0 := blk_frozen BK126.out 0
        have hfz25_1 := blk_frozen BK126.out 1
        have hfz25_2 := blk_frozen BK126.out 2
        have hfz25_3 := blk_frozen BK126.out 3
        have hfz25_4 := blk_frozen BK126.out 4
        obtain ⟨Ao26, co26, eo26⟩ := Kd.R_slice HO_128004.out
        subst eo26
        go_wp2
        refine bodyPost_ret (results_cell_row rfl _ _ gb126 33 #[.int .i64 a0_0, .int .i64 a0_1, .int .i64 a0_2, .int .i64 a0_3, .slice Ao26 x128004_1.length co26] (0, 0) _ rfl (by (with_reducible repeat (first | refine blk_drewN ?_ _ | refine blk_drew ?_ | refine blk_alloc ?_ _)); refine blk_put (cs := #[.int .i64 a0_0, .int .i64 a0_1, .int .i64 a0_2, .int .i64 a0_3, .slice none 0 0]) ?_ 4 _ rfl; (with_reducible repeat (first | refine blk_drewN ?_ _ | refine blk_drew ?_ | refine blk_alloc ?_ _)); refine blk_put (cs := #[.int .i64 a0_0, .int .i64 a0_1, .int .i64 a0_2, .int .i64 0, .slice none 0 0]) ?_ 3 _ rfl; (with_reducible repeat (first | refine blk_drewN ?_ _ | refine blk_drew ?_ | refine blk_alloc ?_ _)); refine blk_put (cs := #[.int .i64 a0_0, .int .i64 a0_1, .int .i64 0, .int .i64 0, .slice none 0 0]) ?_ 2 _ rfl; (with_reducible repeat (first | refine blk_drewN ?_ _ | refine blk_drew ?_ | refine blk_alloc ?_ _)); refine blk_put (cs := #[.int .i64 a0_0, .int .i64 0, .int .i64 0, .int .i64 0, .slice none 0 0]) ?_ 1 _ rfl; (with_reducible repeat (first | refine blk_drewN ?_ _ | refine blk_drew ?_ | refine blk_alloc ?_ _)); refine blk_put (cs := #[.int .i64 0, .int .i64 0, .int .i64 0, .int .i64 0, .slice none 0 0]) ?_ 0 _ rfl; (with_reducible repeat (first | refine blk_drewN ?_ _ | refine blk_drew ?_ | refine blk_alloc ?_ _)); exact BK126.out) Try.underlying33 rfl (by kernel_rfl)) rfl ?_
        exact ⟨_, by first | rfl | (simp [errW_none, errW_some] <;> rfl) | (simp [*, errW_none, errW_some] <;> rfl), by (with_reducible repeat (first | apply Kd.R_alloc | apply Kd.R_drewN | apply Kd.R_drew)); exact Kd.R_mono (Kd.R_far (p := ⟨gb126, 4, none⟩) (Kd.R_far (p := ⟨gb126, 3, none⟩) (Kd.R_far (p := ⟨gb126, 2, none⟩) (Kd.R_far (p := ⟨gb126, 1, none⟩) (Kd.R_far (p := ⟨gb126, 0, none⟩) (Kd.R_types HO_128004.out BK126.out (by decide)) (fun _ hk => hk.2) (.int .i64 a0_0)) (fun _ hk => hk.2) (.int .i64 a0_1)) (fun _ hk => hk.2) (.int .i64 a0_2)) (fun _ hk => hk.2) (.int .i64 a0_3)) (fun _ hk => hk.2) (.slice Ao26 x128004_1.length co26)) (fun _ hk => trivial), by repeat (first | (with_reducible first | exact HB.out | apply below_alloc | apply pw_below_drewN | apply below_drew1 | refine below_set ?_ GE125.out | refine below_set ?_ GE126.out | refine below_set ?_ GE127.out) | exact HB.out)⟩

end Go.Proofs.Ytdnjmhhjjbdieaa.Q
end

section
/- A range over a function whose elements are known: the law of the loop, at the top and within a round of another loop. -/
namespace Go.Proofs.Ytdnjmhhjjbdieaa.Q
open Go.RowKit
set_option linter.unusedVariables false

/-- What a round keeps for the iterator: its captured blocks, and whatever lies from B on. -/
structure KeptC (C : Nat → Prop) (B : Nat) (W W' : World) : Prop where
  size : W.heap.size ≤ W'.heap.size
  same : ∀ k, (C k ∨ B ≤ k) → k < W.heap.size → W'.heap[k]? = W.heap[k]?

theorem KeptC.refl (C : Nat → Prop) (B : Nat) (W : World) : KeptC C B W W := ⟨Nat.le_refl _, fun _ _ _ => rfl⟩
theorem KeptC.trans {C : Nat → Prop} {B : Nat} {X Y Z : World} (h : KeptC C B X Y) (k : KeptC C B Y Z) : KeptC C B X Z :=
  ⟨Nat.le_trans h.size k.size, fun i hi hl => (k.same i hi (Nat.lt_of_lt_of_le hl h.size)).trans (h.same i hi hl)⟩
theorem KeptC.mono {C C' : Nat → Prop} {B B' : Nat} {X Y : World} (h : KeptC C B X Y) (hC : ∀ k, C' k → C k ∨ B ≤ k) (hB : B ≤ B') : KeptC C' B' X Y :=
  ⟨h.size, fun i hi hl => h.same i (hi.elim (fun q => hC i q) (fun q => .inr (Nat.le_trans hB q))) hl⟩
theorem KeptC.alloc (C : Nat → Prop) (B : Nat) (W : World) (o : Obj) : KeptC C B W (W.alloc o) := ⟨by simp, fun k _ hk => Below.heap_alloc W o k hk⟩
theorem KeptC.setCell {C : Nat → Prop} {B : Nat} (W : World) (a : Addr) (v : Value) (hC : ¬ C a.block) (hB : a.block < B) : KeptC C B W (W.setCell a v) :=
  ⟨(KeepsWalks.setCell W a v).size, fun k hk _ => Below.heap_setCell W a v k (fun e => by subst e; exact hk.elim hC (fun h => by omega))⟩
theorem KeptC.grown {C : Nat → Prop} {B : Nat} {W W' : World} {row : Option Nat} (hg : W.grownBy W' row) (hr : ∀ k, row = some k → ¬ C k ∧ k < B) : KeptC C B W W' :=
  ⟨hg.size, fun k hk hl => hg.block k hl (fun e => by obtain ⟨h1, h2⟩ := hr k e.symm; exact hk.elim h1 (fun h => by omega))⟩
theorem KeptC.drew (C : Nat → Prop) (B : Nat) (W : World) : KeptC C B W W.drew := ⟨Nat.le_refl _, fun _ _ _ => rfl⟩
theorem KeptC.drewN (C : Nat → Prop) (B : Nat) (W : World) (n : Nat) : KeptC C B W (W.drewN n) := ⟨Nat.le_refl _, fun _ _ _ => rfl⟩
theorem KeptC.below {C : Nat → Prop} {B n : Nat} {W W' : World} (h : Below n W W') (hn : W.heap.size ≤ n) : KeptC C B W W' := ⟨h.size, fun k _ hk => h.block k (by omega)⟩

theorem OwnFrom.up {β : Type} {B B' : Nat} {I : β → World → Prop} (h : OwnFrom B I) (hB : B ≤ B') : OwnFrom B' I :=
  fun s W W' row hs hg hr => h s W W' row hs hg (fun r e => ⟨Nat.le_trans hB (hr r e).1, (hr r e).2⟩)

theorem grownBy_drew (W : World) (row : Option Nat) : W.grownBy W.drew row := ⟨rfl, rfl, rfl, Nat.le_refl _, fun _ _ _ => rfl⟩
theorem OwnFrom.drew {β : Type} {B : Nat} {I : β → World → Prop} (h : OwnFrom B I) {s : β} {W : World} (hs : I s W) : I s W.drew := h s W _ none hs (grownBy_drew W none) (fun r e => by cases e)

/-- The contract of an iterator whose elements are xs; C: the blocks that it has captured. -/
def IterK {α : Type} (P : Program) (g : Nat) (lb : Array Value) (encs : α → Array Value) (xs : List α) (C : Nat → Prop) (w : World) : Prop :=
  ∀ (l : Nat) (J Jx : List α → World → Prop) (W : World),
    w.heap.size ≤ W.heap.size → (∀ k, C k → W.heap[k]? = w.heap[k]?) → OwnFrom W.heap.size J → OwnFrom W.heap.size Jx →
    (∀ (pre : List α) (x : α) (post : List α) (W1 : World), xs = pre ++ x :: post → J pre W1 → YieldAt Fence.wide 0 P l (encs x) W1 fun e W' =>
      KeptC C W.heap.size W1 W' ∧ ((e = .returned (.bool true) ∧ J (pre ++ [x]) W') ∨ (e = .returned (.bool false) ∧ Jx (pre ++ [x]) W'))) →
    J [] W →
    CallsIn Fence.wide 0 P g (#[.func (.yield l) #[] #[]] ++ lb) W fun e W' => (∃ v, e = .returned v) ∧ (J xs W' ∨ ∃ pre x post, xs = pre ++ x :: post ∧ Jx (pre ++ [x]) W')

theorem IterK.later {α : Type} {P : Program} {g : Nat} {lb : Array Value} {encs : α → Array Value} {xs : List α} {C : Nat → Prop} {w w' : World}
    (h : IterK P g lb encs xs C w) (hs : w.heap.size ≤ w'.heap.size) (hC : ∀ k, C k → w'.heap[k]? = w.heap[k]?) : IterK P g lb encs xs C w' :=
  fun l J Jx W hW hWC => h l J Jx W (Nat.le_trans hs hW) (fun k hk => (hWC k hk).trans (hC k hk))

/-- How a round's body may be left. -/
def iterPost {α : Type} (C : Nat → Prop) (B : Nat) (I : List α → World → Prop) (Ix : Code → List α → World → Prop) (xs : List α) (W : World) : Exit → Act → World → Prop
  | .normal, _, W' => KeptC C B W W' ∧ I xs W'
  | .ret, _, W' => KeptC C B W W' ∧ Ix .ret xs W'
  | .exit id, _, W' => KeptC C B W W' ∧ Ix (.exit id) xs W'
  | .goto t, _, W' => KeptC C B W W' ∧ Ix (.goto t) xs W'
  | .panic _, _, _ => False
  | .outgrown, _, _ => False

variable {P : Program}

theorem keptC_putObj {C : Nat → Prop} {B : Nat} (W : World) (L : Nat) (o : Obj) (hC : ¬ C L) (hB' : L < B) : KeptC C B W (W.putObj L o) :=
  ⟨by simp, fun k hk _ => World.putObj_heap_other (fun e => by subst e; exact hk.elim hC (fun h => by omega))⟩

/-- The rounds and the iterator's call, the loop's record laid at L. -/
theorem iter_core {α : Type} {gf : Nat} {lb : Array Value} {encs : α → Array Value} {xs : List α} {C : Nat → Prop} {w0 W1 : World} {B L : Nat} {fn : Nat} {ps : Array Tmp} {assign body : Code} {tmps : Array Value} {df : Nat}
    (hseq : IterK P gf lb encs xs C w0) (hs0 : w0.heap.size ≤ W1.heap.size) (hC1 : ∀ k, C k → W1.heap[k]? = w0.heap[k]?) (hCB : ∀ k, C k → k < B) (hBL : B ≤ L) (hfn : Fence.wide.fn fn)
    (hps : ∀ x, (encs x).size = ps.size)
    (hL1 : W1.heap[L]? = some (.loop { state := .ready, pending := none, fn, tmps, params := ps, assign, body, defers := df }))
    (I : List α → World → Prop) (Ix : Code → List α → World → Prop) (hI : OwnFrom W1.heap.size I) (hIx : ∀ c, OwnFrom W1.heap.size (Ix c))
    (hIL : ∀ s W (o o' : Obj), I s W → W.heap[L]? = some o → o.isCells = false → I s (W.putObj L o')) (hIxL : ∀ c s W (o o' : Obj), Ix c s W → W.heap[L]? = some o → o.isCells = false → Ix c s (W.putObj L o'))
    (h0 : I [] W1) (Ax : List α → α → Act → World → Prop) (hAxL : ∀ pre x a' W (o o' : Obj), Ax pre x a' W → W.heap[L]? = some o → o.isCells = false → Ax pre x a' (W.putObj L o'))
    (hassign : ∀ (l : Nat) (pre : List α) (x : α) (post : List α) (W : World) (K : Act → World → Prop), xs = pre ++ x :: post → I pre W → (∀ a' W', KeptC C B W W' → I pre W' → Ax pre x a' W' → K a' W') →
      assign.wpIn (Fence.wide.inRound l) 0 P (Exit.then K (fun _ _ _ => False)) { tmps := (ps.zip (encs x)).foldl (fun t (p, v) => t.setIfInBounds p v) tmps, defers := [] } W)
    (hbody : ∀ (l : Nat) (pre : List α) (x : α) (post : List α) (a' : Act) (W : World), xs = pre ++ x :: post → B ≤ l → (∃ r, W.heap[l]? = some (.loop r)) → I pre W → Ax pre x a' W →
      body.wpIn (Fence.wide.inRound l) 0 P (iterPost C B I Ix (pre ++ [x]) W) a' W)
    (Post : Option Code → World → Prop) (hdone : ∀ W, I xs W → Post none W) (hstop : ∀ c pre x post W, xs = pre ++ x :: post → Ix c (pre ++ [x]) W → Post (some c) W) :
    CallsIn Fence.wide 0 P gf (#[.func (.yield L) #[] #[]] ++ lb) W1 (fun e W3 => ∃ v, e = .returned v ∧ ∃ jump W4, (Instr.endLoop L).run P W3 = .ok jump W4 ∧ Post jump W4) := by
  obtain ⟨rec, hrec⟩ : ∃ rec : LoopState → Option Code → Loop, rec = fun st pe => { state := st, pending := pe, fn, tmps := tmps, params := ps, assign, body, defers := df } := ⟨_, rfl⟩
  have hL1' : W1.heap[L]? = some (.loop (rec .ready none)) := by rw [hrec]; exact hL1
  have hLs : L < W1.heap.size := (Array.getElem?_eq_some_iff.1 hL1).1
  have hgrow : ∀ {A A' : World} {row : Option Nat} {o : Obj}, A.grownBy A' row → (∀ r, row = some r → W1.heap.size ≤ r ∧ ∃ o : Obj, A.heap[r]? = some o ∧ o.isCells = false) → A.heap[L]? = some o → A'.heap[L]? = some o :=
    fun hg hr hl => (hg.block L (Array.getElem?_eq_some_iff.1 hl).1 (fun e => by have := (hr L e.symm).1; omega)).trans hl
  refine (hseq L (fun pre W => I pre W ∧ W.heap[L]? = some (.loop (rec .ready none))) (fun pre W => ∃ c, Ix c pre W ∧ W.heap[L]? = some (.loop (rec .done (some c)))) W1 hs0 hC1
    (fun s A A' row hs hg hr => ⟨hI s A A' row hs.1 hg hr, hgrow hg hr hs.2⟩)
    (fun s A A' row hs hg hr => by obtain ⟨c, hc, hl⟩ := hs; exact ⟨c, hIx c s A A' row hc hg hr, hgrow hg hr hl⟩)
    ?_ ⟨h0, hL1'⟩).mono ?_
  · rintro pre x post W hx ⟨hi, hl⟩
    have hlt : L < W.heap.size := (Array.getElem?_eq_some_iff.1 hl).1
    have hy := run_yield (P := P) (args := encs x) hl (by rw [hrec]; exact hps x)
    rw [hrec] at hy
    refine ⟨fn, _, assign, body, hy, roundIn_of_wpIn hfn (hassign _ pre x post W _ hx hi ?_)⟩
    clear hy
    intro a' Wa hka hia hax
    have hla : Wa.heap[L]? = some (.loop (rec .ready none)) := (hka.same L (.inr hBL) hlt).trans hl
    have hlta : L < Wa.heap.size := (Array.getElem?_eq_some_iff.1 hla).1
    refine ⟨_, run_beginRound hla (by rw [hrec]), ?_⟩
    have hl2 : (Wa.putObj L (.loop { rec .ready none with state := .busy })).heap[L]? = some (.loop { rec .ready none with state := .busy }) := World.putObj_heap_same hlta
    have hk2 : KeptC C (L + 1) Wa (Wa.putObj L (.loop { rec .ready none with state := .busy })) := keptC_putObj Wa L _ (fun hc => by have := hCB _ hc; omega) (by omega)
    have hnC : ¬ C L := fun hc => by have := hCB _ hc; omega
    refine wpIn_mono (hbody L pre x post a' _ hx hBL ⟨_, hl2⟩ (hIL _ _ _ _ hia hla rfl) (hAxL _ _ _ _ _ _ hax hla rfl)) ?_
    have fin : ∀ (jump : Option Code) (W3 : World), KeptC C B (Wa.putObj L (.loop { rec .ready none with state := .busy })) W3 →
        (Instr.endRound L jump).run P W3 = .ok (.bool jump.isNone) (W3.putObj L (.loop (rec (if jump.isNone then .ready else .done) jump))) ∧
        W3.heap[L]? = some (.loop { rec .ready none with state := .busy }) ∧
        (W3.putObj L (.loop (rec (if jump.isNone then .ready else .done) jump))).heap[L]? = some (.loop (rec (if jump.isNone then .ready else .done) jump)) ∧
        KeptC C W1.heap.size W (W3.putObj L (.loop (rec (if jump.isNone then .ready else .done) jump))) := fun jump W3 hk3 => by
      have hl3 : W3.heap[L]? = some (.loop { rec .ready none with state := .busy }) := (hk3.same L (.inr hBL) (by simpa using hlta)).trans hl2
      have hr := run_endRound (P := P) jump hl3
      rw [hrec] at hr ⊢
      refine ⟨hr, by rw [hrec] at hl3; exact hl3, World.putObj_heap_same (Array.getElem?_eq_some_iff.1 hl3).1, ?_⟩
      have hk4 : KeptC C (L + 1) W3 (W3.putObj L (.loop { state := if jump.isNone then .ready else .done, pending := jump, fn, tmps := tmps, params := ps, assign, body, defers := df })) := keptC_putObj W3 L _ hnC (by omega)
      exact (((hka.mono (fun k q => .inl q) (by omega)).trans hk2).trans ((hk3.mono (fun k q => .inl q) (by omega)).trans hk4)).mono (fun k q => .inl q) (by omega)
    rintro e a3 W3 hp
    cases e with
    | normal =>
      obtain ⟨hk3, hi3⟩ := hp
      obtain ⟨hr, hl3, hl4, hk4⟩ := fin none W3 hk3
      exact ⟨_, _, hr, hk4, .inl ⟨rfl, hIL _ _ _ _ hi3 hl3 rfl, hl4⟩⟩
    | ret =>
      obtain ⟨hk3, hi3⟩ := hp
      obtain ⟨hr, hl3, hl4, hk4⟩ := fin (some .ret) W3 hk3
      exact ⟨_, _, hr, hk4, .inr ⟨rfl, .ret, hIxL _ _ _ _ _ hi3 hl3 rfl, hl4⟩⟩
    | exit id =>
      obtain ⟨hk3, hi3⟩ := hp
      obtain ⟨hr, hl3, hl4, hk4⟩ := fin (some (.exit id)) W3 hk3
      exact ⟨_, _, hr, hk4, .inr ⟨rfl, .exit id, hIxL _ _ _ _ _ hi3 hl3 rfl, hl4⟩⟩
    | goto t =>
      obtain ⟨hk3, hi3⟩ := hp
      obtain ⟨hr, hl3, hl4, hk4⟩ := fin (some (.goto t)) W3 hk3
      exact ⟨_, _, hr, hk4, .inr ⟨rfl, .goto t, hIxL _ _ _ _ _ hi3 hl3 rfl, hl4⟩⟩
    | panic ch => exact hp.elim
    | outgrown => exact hp.elim
  · rintro e W2 ⟨⟨v, rfl⟩, (⟨hi, hl⟩ | ⟨pre, x, post, hx, c, hi, hl⟩)⟩
    · exact ⟨v, rfl, none, _, by have := run_endLoop (P := P) hl (by rw [hrec]; simp); rw [hrec] at this; exact this, hdone _ (hIL _ _ _ _ hi hl rfl)⟩
    · exact ⟨v, rfl, some c, _, by have := run_endLoop (P := P) hl (by rw [hrec]; simp); rw [hrec] at this; exact this, hstop c pre x post _ hx (hIxL _ _ _ _ _ hi hl rfl)⟩

/-- 'for .. := range f': at the top of a function. -/
theorem wpIn_iter {α : Type} {g : Operand} {ps : Array Tmp} {assign body : Code} {Q : Exit → Act → World → Prop} {a : Act} {w : World}
    {gf : Nat} {lb : Array Value} (hg : a.eval g = .func (.func gf) #[] lb) (eg : ∀ args w, (callFunc gf args).run P w = .ok (.enter gf args) w)
    {encs : α → Array Value} {xs : List α} {C : Nat → Prop} {w0 : World} (hseq : IterK P gf lb encs xs C w0) (hs0 : w0.heap.size ≤ w.heap.size) (hC1 : ∀ k, C k → w.heap[k]? = w0.heap[k]?) (hCB : ∀ k, C k → k < w.heap.size) (hps : ∀ x, (encs x).size = ps.size)
    (I : List α → World → Prop) (Ix : Code → List α → World → Prop) (hI : OwnFrom w.heap.size I) (hIx : ∀ c, OwnFrom w.heap.size (Ix c)) (h0 : I [] w)
    (Ax : List α → α → Act → World → Prop) (hAx : ∀ pre x a', OwnFrom w.heap.size (fun (_ : Unit) W => Ax pre x a' W))
    (hassign : ∀ (l : Nat) (pre : List α) (x : α) (post : List α) (W : World) (K : Act → World → Prop), xs = pre ++ x :: post → I pre W → (∀ a' W', KeptC C w.heap.size W W' → I pre W' → Ax pre x a' W' → K a' W') →
      assign.wpIn (Fence.wide.inRound l) 0 P (Exit.then K (fun _ _ _ => False)) { tmps := (ps.zip (encs x)).foldl (fun t (p, v) => t.setIfInBounds p v) a.tmps, defers := [] } W)
    (hbody : ∀ (l : Nat) (pre : List α) (x : α) (post : List α) (a' : Act) (W : World), xs = pre ++ x :: post → w.heap.size ≤ l → (∃ r, W.heap[l]? = some (.loop r)) → I pre W → Ax pre x a' W →
      body.wpIn (Fence.wide.inRound l) 0 P (iterPost C w.heap.size I Ix (pre ++ [x]) W) a' W)
    (hdone : ∀ (D : Nat) (W : World), w.heap.size ≤ D → I xs W → W.heap[D]? = some (.deferred (some [])) → Q .normal { a with defers := { target := .collected D, args := #[] } :: a.defers } W)
    (hstop : ∀ (D : Nat) (c : Code) (pre : List α) (x : α) (post : List α) (W : World), w.heap.size ≤ D → xs = pre ++ x :: post → Ix c (pre ++ [x]) W → W.heap[D]? = some (.deferred (some [])) → c.wpIn Fence.wide 0 P Q { a with defers := { target := .collected D, args := #[] } :: a.defers } W) :
    (Code.rangeFunc g ps assign body).wpIn Fence.wide 0 P Q a w := by
  refine wpIn_rangeFunc ?_
  intro fn hfn
  obtain ⟨W1, hW1⟩ : ∃ W1, (w.alloc (.deferred (some []))).alloc (.loop { state := .ready, pending := none, fn, tmps := a.tmps, params := ps, assign, body, defers := w.heap.size }) = W1 := ⟨_, rfl⟩
  have hL1 : W1.heap[w.heap.size + 1]? = some (.loop { state := .ready, pending := none, fn, tmps := a.tmps, params := ps, assign, body, defers := w.heap.size }) := by
    rw [← hW1]; have := World.alloc_heap_new (w.alloc (.deferred (some []))) (.loop { state := .ready, pending := none, fn, tmps := a.tmps, params := ps, assign, body, defers := w.heap.size }); rwa [World.size_alloc] at this
  have hK1 : W1.heap[w.heap.size]? = some (.deferred (some [])) := by
    rw [← hW1]; exact (Below.heap_alloc _ _ _ (by simp)).trans (World.alloc_heap_new w _)
  have hI1 : I [] W1 := by rw [← hW1]; exact hI.alloc _ (hI.alloc _ h0)
  have hz : W1.heap.size = w.heap.size + 2 := by rw [← hW1]; simp
  have hold : ∀ k, k < w.heap.size → W1.heap[k]? = w.heap[k]? := fun k hk => by
    rw [← hW1]; exact (Below.heap_alloc _ _ k (by simp; omega)).trans (Below.heap_alloc _ _ k hk)
  have hne : ∀ {A A' : World} {row : Option Nat} {o : Obj}, A.grownBy A' row → (∀ r, row = some r → W1.heap.size ≤ r ∧ ∃ o : Obj, A.heap[r]? = some o ∧ o.isCells = false) → A.heap[w.heap.size]? = some o → A'.heap[w.heap.size]? = some o :=
    fun hg hr hl => (hg.block _ (Array.getElem?_eq_some_iff.1 hl).1 (fun e => by have := (hr _ e.symm).1; omega)).trans hl
  refine ⟨w.heap.size + 1, [{ target := .collected w.heap.size, args := #[] }], W1, { target := .fn (.func gf) lb, args := #[.func (.yield (w.heap.size + 1)) #[] #[]] }, W1, gf,
    #[.func (.yield (w.heap.size + 1)) #[] #[]] ++ lb, W1, ?_, ?_, ?_, ?_, ?_, ?_⟩
  · rw [← hW1]; exact run_enterLoop_outer _ _ _ _ _
  · simp only [resolve, hg]
    simp [go_sem]
  · intro f' _; trivial
  · simp [invoke, go_sem, eg]
  · intro h; simp [Fence.wide] at h
  · refine (iter_core (B := w.heap.size) (L := w.heap.size + 1) hseq (by omega) (fun k hk => (hold k (hCB k hk)).trans (hC1 k hk)) hCB (by omega) hfn hps hL1
      (fun pre W => I pre W ∧ W.heap[w.heap.size]? = some (.deferred (some []))) (fun c pre W => Ix c pre W ∧ W.heap[w.heap.size]? = some (.deferred (some [])))
      (fun s A A' row hs hg hr => ⟨OwnFrom.up hI (by omega) s A A' row hs.1 hg hr, hne hg hr hs.2⟩)
      (fun c s A A' row hs hg hr => ⟨OwnFrom.up (hIx c) (by omega) s A A' row hs.1 hg hr, hne hg hr hs.2⟩)
      (fun s W o o' hs hl ho => ⟨hI.putObj _ hs.1 (by omega) hl ho, (World.putObj_heap_other (by omega)).trans hs.2⟩)
      (fun c s W o o' hs hl ho => ⟨(hIx c).putObj _ hs.1 (by omega) hl ho, (World.putObj_heap_other (by omega)).trans hs.2⟩)
      ⟨hI1, hK1⟩ (fun pre x a' W => Ax pre x a' W) (fun pre x a' W o o' hs hl ho => (hAx pre x a').putObj (s := ()) _ hs (by omega) hl ho)
      (fun l pre x post W K hx hi hK => hassign l pre x post W K hx hi.1 (fun a' W' hk hi' hax => hK a' W' hk ⟨hi', (hk.same _ (.inr (Nat.le_refl _)) (Array.getElem?_eq_some_iff.1 hi.2).1).trans hi.2⟩ hax))
      (fun l pre x post a' W hx hl hr hi hax => wpIn_mono (hbody l pre x post a' W hx hl hr hi.1 hax) ?_)
      (fun jump W4 => match jump with | none => Q .normal { a with defers := [{ target := .collected w.heap.size, args := #[] }] ++ a.defers } W4 | some c => c.wpIn Fence.wide 0 P Q { a with defers := [{ target := .collected w.heap.size, args := #[] }] ++ a.defers } W4)
      (fun W hi => hdone _ W (Nat.le_refl _) hi.1 hi.2) (fun c pre x post W hx hi => hstop _ c pre x post W (Nat.le_refl _) hx hi.1 hi.2)).mono ?_
    · rintro e a3 W3 hp
      have hd : ∀ W3, KeptC C w.heap.size W W3 → W3.heap[w.heap.size]? = some (.deferred (some [])) := fun W3 hk => (hk.same _ (.inr (Nat.le_refl _)) (Array.getElem?_eq_some_iff.1 hi.2).1).trans hi.2
      cases e with
      | normal => exact ⟨hp.1, hp.2, hd _ hp.1⟩
      | ret => exact ⟨hp.1, hp.2, hd _ hp.1⟩
      | exit id => exact ⟨hp.1, hp.2, hd _ hp.1⟩
      | goto t => exact ⟨hp.1, hp.2, hd _ hp.1⟩
      | panic ch => exact hp.elim
      | outgrown => exact hp.elim
    · rintro e W3 ⟨v, rfl, jump, W4, hend, hpost⟩
      exact ⟨jump, W4, hend, by cases jump <;> exact hpost⟩

/-- 'for .. := range f': within a round of the loop whose record is l₀. -/
theorem wpIn_iterN {α : Type} {g : Operand} {ps : Array Tmp} {assign body : Code} {Q : Exit → Act → World → Prop} {a : Act} {w : World} {l₀ : Nat} {r₀ : Loop} (hl₀ : w.heap[l₀]? = some (.loop r₀))
    {gf : Nat} {lb : Array Value} (hg : a.eval g = .func (.func gf) #[] lb) (eg : ∀ args w, (callFunc gf args).run P w = .ok (.enter gf args) w)
    {encs : α → Array Value} {xs : List α} {C : Nat → Prop} {w0 : World} (hseq : IterK P gf lb encs xs C w0) (hs0 : w0.heap.size ≤ w.heap.size) (hC1 : ∀ k, C k → w.heap[k]? = w0.heap[k]?) (hCB : ∀ k, C k → k < w.heap.size) (hps : ∀ x, (encs x).size = ps.size)
    (I : List α → World → Prop) (Ix : Code → List α → World → Prop) (hI : OwnFrom w.heap.size I) (hIx : ∀ c, OwnFrom w.heap.size (Ix c)) (h0 : I [] w)
    (Ax : List α → α → Act → World → Prop) (hAx : ∀ pre x a', OwnFrom w.heap.size (fun (_ : Unit) W => Ax pre x a' W))
    (hassign : ∀ (l : Nat) (pre : List α) (x : α) (post : List α) (W : World) (K : Act → World → Prop), xs = pre ++ x :: post → I pre W → (∀ a' W', KeptC C w.heap.size W W' → I pre W' → Ax pre x a' W' → K a' W') →
      assign.wpIn (Fence.wide.inRound l) 0 P (Exit.then K (fun _ _ _ => False)) { tmps := (ps.zip (encs x)).foldl (fun t (p, v) => t.setIfInBounds p v) a.tmps, defers := [] } W)
    (hbody : ∀ (l : Nat) (pre : List α) (x : α) (post : List α) (a' : Act) (W : World), xs = pre ++ x :: post → w.heap.size ≤ l → (∃ r, W.heap[l]? = some (.loop r)) → I pre W → Ax pre x a' W →
      body.wpIn (Fence.wide.inRound l) 0 P (iterPost C w.heap.size I Ix (pre ++ [x]) W) a' W)
    (hdone : ∀ (W : World), I xs W → Q .normal a W)
    (hstop : ∀ (c : Code) (pre : List α) (x : α) (post : List α) (W : World), xs = pre ++ x :: post → Ix c (pre ++ [x]) W → c.wpIn (Fence.wide.inRound l₀) 0 P Q a W) :
    (Code.rangeFunc g ps assign body).wpIn (Fence.wide.inRound l₀) 0 P Q a w := by
  refine wpIn_rangeFunc ?_
  intro fn hfn
  obtain ⟨W1, hW1⟩ : ∃ W1, w.alloc (.loop { state := .ready, pending := none, fn, tmps := a.tmps, params := ps, assign, body, defers := r₀.defers }) = W1 := ⟨_, rfl⟩
  have hL1 : W1.heap[w.heap.size]? = some (.loop { state := .ready, pending := none, fn, tmps := a.tmps, params := ps, assign, body, defers := r₀.defers }) := by
    rw [← hW1]; exact World.alloc_heap_new w _
  have hI1 : I [] W1 := by rw [← hW1]; exact hI.alloc _ h0
  have hz : W1.heap.size = w.heap.size + 1 := by rw [← hW1]; simp
  have hold : ∀ k, k < w.heap.size → W1.heap[k]? = w.heap[k]? := fun k hk => by
    rw [← hW1]; exact Below.heap_alloc _ _ k hk
  refine ⟨w.heap.size, [], W1, { target := .fn (.func gf) lb, args := #[.func (.yield w.heap.size) #[] #[]] }, W1, gf,
    #[.func (.yield w.heap.size) #[] #[]] ++ lb, W1, ?_, ?_, ?_, ?_, ?_, ?_⟩
  · rw [← hW1]; exact run_enterLoop_inner hl₀ _ _ _ _ _
  · simp only [resolve, hg]
    simp [go_sem]
  · intro f' _; trivial
  · simp [invoke, go_sem, eg]
  · intro h; simp [Fence.wide] at h
  · refine CallsIn.mono (CallsIn.inRound l₀ (iter_core (B := w.heap.size) (L := w.heap.size) hseq (by omega) (fun k hk => (hold k (hCB k hk)).trans (hC1 k hk)) hCB (by omega) hfn hps hL1
      I Ix (OwnFrom.up hI (by omega)) (fun c => OwnFrom.up (hIx c) (by omega))
      (fun s W o o' hs hl ho => hI.putObj _ hs (by omega) hl ho) (fun c s W o o' hs hl ho => (hIx c).putObj _ hs (by omega) hl ho)
      hI1 Ax (fun pre x a' W o o' hs hl ho => (hAx pre x a').putObj (s := ()) _ hs (by omega) hl ho) hassign hbody
      (fun jump W4 => match jump with | none => Q .normal { a with defers := [] ++ a.defers } W4 | some c => c.wpIn (Fence.wide.inRound l₀) 0 P Q { a with defers := [] ++ a.defers } W4)
      (fun W hi => hdone W hi) (fun c pre x post W hx hi => hstop c pre x post W hx hi))) ?_
    rintro e W3 ⟨v, rfl, jump, W4, hend, hpost⟩
    exact ⟨jump, W4, hend, by cases jump <;> exact hpost⟩
end Go.Proofs.Ytdnjmhhjjbdieaa.Q
end

section
/- A region that draws its order, within the wide fence and in a loop's round: what only reads is walked in the text's order. -/
namespace Go.Proofs.Ytdnjmhhjjbdieaa.Q
open Go.RowKit
set_option linter.unusedVariables false

/-- The wide fence, at the top of a function or in a round. -/
structure WideLike (F : Fence) : Prop where
  fn : ∀ f, F.fn f
  depth : F.depth = none
  calls : ∀ {m : Nat} {P : Program} {f : FuncId} {args : Array Value} {w : World} {R : Ending → World → Prop}, Calls P f args w R → CallsIn F m P f args w R

theorem WideLike.wide : WideLike Fence.wide := ⟨fun _ => trivial, rfl, fun h => callsIn_wide.2 h⟩
theorem WideLike.round (l : Nat) : WideLike (Fence.wide.inRound l) := ⟨fun _ => trivial, rfl, fun h => callsIn_wide.2 h⟩

/-- No operation is a 'defer'. -/
def noDefer (ops : Array Oper) : Bool := ops.all fun o => match o.op with | .defer _ => false | _ => true

theorem noDefer_spec {ops : Array Oper} (h : noDefer ops = true) {i : Nat} {o : Oper} (hi : ops[i]? = some o) : ∀ c, o.op ≠ .defer c := by
  intro c hc
  have hm : o ∈ ops := by
    obtain ⟨hlt, rfl⟩ := Array.getElem?_eq_some_iff.1 hi
    exact Array.getElem_mem hlt
  have := Array.all_eq_true_iff_forall_mem.1 h o hm
  rw [hc] at this
  cases this

section
variable {F : Fence} {m : Nat} {P : Program} {ops : Array Oper} {md : Region.Mode} {w : World}

theorem wpIn_of_still (hF : WideLike F) {o : Oper} (hnd : ∀ c, o.op ≠ .defer c) {a : Act} {K : Act → Prop} {K' : Act → World → Prop} {Q' : Exit → Act → World → Prop} (h : ∀ a, K a → K' a w) (hh : o.still P a w K) : o.wpIn F m P a w K' Q' := by
  unfold Oper.still at hh
  unfold Oper.wpIn
  refine ⟨fun f _ => hF.fn f, ?_⟩
  rw [Oper.semAt_eq _ _ _ hnd]
  generalize (execOp a.eval o).run P w = r at *
  cases r with
  | ok n w' =>
    cases n <;> simp only [Oper.stillUpon] at hh <;> simp only [Oper.uponIn]
    case enter f args =>
      obtain ⟨rfl, v, hc, hn⟩ := hh
      refine ⟨fun hd => (by rw [hF.depth] at hd; simp at hd), (hF.calls hc).mono fun e w'' ⟨he, hw⟩ => ?_⟩
      subst he; subst hw; exact h _ hn
    all_goals (obtain ⟨rfl, h2⟩ := hh; exact h _ h2)
  | halt x w' => simp only [Oper.stillUpon] at hh

theorem wpOpIn_of_stOp (hF : WideLike F) (hnd : noDefer ops = true) {i : Nat} {a : Act} {K : Act → Prop} {K' : Act → World → Prop} {Q' : Exit → Act → World → Prop} (h : ∀ a, K a → K' a w) (hh : stOp P ops w i K a) : wpOpIn F m P ops Q' i K' a w := by
  unfold stOp at hh
  unfold wpOpIn
  split
  · rename_i ho; simp only [ho] at hh; exact h _ hh
  · rename_i o ho
    simp only [ho] at hh
    split
    · rename_i hw; simp only [hw, if_true] at hh; exact wpIn_of_still hF (noDefer_spec hnd ho) h hh
    · rename_i hw; simp only [hw] at hh; exact ⟨fun f _ => hF.fn f, h _ hh⟩

theorem wpAnyIn_of_still (hF : WideLike F) (hnd : noDefer ops = true) {Q : Act → Prop} {Q' : Exit → Act → World → Prop} (hQ : ∀ a, Q a → Q' .normal a w) : ∀ (fuel : Nat) (listed : Array Bool) (a : Act),
    wpAnyS P md ops w Q fuel listed a → wpAnyIn F m P md ops Q' fuel listed a w
  | 0, _, _, h => ⟨h.1, hQ _ h.2⟩
  | fuel + 1, _, _, h => ⟨fun h0 => hQ _ (h.1 h0), fun i hi => wpOpIn_of_stOp hF hnd (fun a' => wpAnyIn_of_still hF hnd hQ fuel _ a') (h.2 i hi)⟩

theorem wpAnyIn_of_head (hF : WideLike F) (hnd : noDefer ops = true) {n g : Nat} {L : Array Bool → Act → Prop} {Q' : Exit → Act → World → Prop} (hL : ∀ listed a, L listed a → wpAnyIn F m P md ops Q' g listed a w) :
    ∀ (f : Nat) (listed : Array Bool) (a : Act), wpAnyL P md ops w n L f listed a → wpAnyIn F m P md ops Q' (f + g) listed a w
  | 0, listed, a, h => by rw [Nat.zero_add]; exact hL _ _ h
  | f + 1, listed, a, h => by
    rw [show f + 1 + g = (f + g) + 1 by omega]
    exact ⟨fun h0 => absurd h0 h.1, fun i hi => wpOpIn_of_stOp hF hnd (fun a' h' => wpAnyIn_of_head hF hnd hL f _ a' h') (h.2 i hi).2⟩

theorem wpAnyIn_of_seq {Q' : Exit → Act → World → Prop} : ∀ (l : List Oper) (k : Nat) (listed : Array Bool) (a : Act) (w : World), (∀ j, l[j]? = ops[k + j]?) →
    Region.seqB md ops l.length k listed = true → wpListIn F m P ops Q' l a w → wpAnyIn F m P md ops Q' l.length listed a w
  | [], _, _, _, _, _, hB, h => ⟨by simpa [Region.seqB] using hB, h⟩
  | o :: l, k, listed, a, w, hl, hB, h => by
    have h0 : ops[k]? = some o := by simpa using (hl 0).symm
    simp only [List.length_cons, Region.seqB, Bool.and_eq_true, decide_eq_true_eq] at hB
    refine ⟨fun h1 => (by rw [hB.1] at h1; cases h1), fun i hi => ?_⟩
    rw [hB.1] at hi
    have hik : i = k := by simpa using hi
    subst hik
    have hw : wpOpIn F m P ops Q' i (wpListIn F m P ops Q' l) a w := by unfold wpOpIn; simp only [h0]; exact h
    exact wpOpIn_mono (fun a' w' h' => wpAnyIn_of_seq l (i + 1) _ a' w' (fun j => by have := hl (j + 1); simpa [Nat.add_assoc, Nat.add_comm 1 j] using this) hB.2 h') hw

/-- A region that draws and only reads (and makes quiet calls): in the text's order. -/
theorem wpIn_region_still (hF : WideLike F) {id : Nat} {Q : Exit → Act → World → Prop} {a : Act} {l : List Oper} (hm : P.follows .mixedOrders = true) (hnd : noDefer l.toArray = true) (hB : Region.lexB .any l.toArray = true)
    (h : wpStill P l.toArray w.drew (fun a' => Q .normal a' w.drew) l a) : (Code.region id l.toArray true).wpIn F m P Q a w := by
  simp only [Region.lexB, Bool.and_eq_true] at hB
  refine wpIn_region_any hm (wpAnyIn_of_still hF hnd (Q := fun a' => Q .normal a' { w with drawn := w.drawn + 1 }) (fun _ h => h) _ _ _ ?_)
  have := wpAnyS_lex (md := .any) hB.1 l 0 (Array.replicate l.toArray.size false) a (by simp) (by simpa using hB.2) h
  simpa using this

/-- A region that draws whose first n operations only read, and all of which come ahead of a chain of others: in the text's order. -/
theorem wpIn_region_still_tail (hF : WideLike F) {id : Nat} {Q : Exit → Act → World → Prop} {a : Act} {l : List Oper} (n : Nat) (hm : P.follows .mixedOrders = true) (hnd : noDefer l.toArray = true) (hB : Region.lexTailB .any l.toArray n = true)
    (h : wpStill P l.toArray w.drew (fun a' => wpListIn F m P l.toArray Q (l.drop n) a' w.drew) (l.take n) a) : (Code.region id l.toArray true).wpIn F m P Q a w := by
  simp only [Region.lexTailB, Bool.and_eq_true, decide_eq_true_eq] at hB
  obtain ⟨⟨⟨⟨hsel, hn⟩, hs⟩, hc⟩, hlex⟩ := hB
  have hn' : n < l.length := by simpa using hn
  have htl : (l.take n).length = n := by simp; omega
  have hdl : (l.drop n).length = l.toArray.size - n := by simp
  have inv0 : HeadInv .any l.toArray n (Array.replicate l.toArray.size false) :=
    ⟨by simp, fun j oj _ hl => (by rw [getD_replicate_false] at hl; cases hl), fun t _ ht => getD_in (by simpa using ht) (getD_replicate_false _ _)⟩
  have H := wpAnyL_lex (md := .any) (g := l.toArray.size - n) hsel hs hc hn (l.take n) 0 _ a (fun j hj => by
    have hj' : j < n := by rw [htl] at hj; exact hj
    simp [hj']) (by simpa using htl) inv0 (by rw [htl]; exact hlex) h
  refine wpIn_region_any hm ?_
  have := wpAnyIn_of_head (F := F) (m := m) hF hnd (Q' := Q) (g := l.toArray.size - n) (fun listed a' hL => by
    have := wpAnyIn_of_seq (F := F) (m := m) (md := .any) (Q' := Q) (l.drop n) n listed a' { w with drawn := w.drawn + 1 } (fun j => by simp [List.getElem?_drop]) (by rw [hdl]; exact hL.1) hL.2
    rwa [hdl] at this) _ _ _ H
  rw [htl, show n + (l.toArray.size - n) = l.toArray.size by omega] at this
  exact this
end
end Go.Proofs.Ytdnjmhhjjbdieaa.Q
end

section
/- The iterator over the persons of a set. -/
namespace Go.Proofs.Ytdnjmhhjjbdieaa.Q
open Go.RowKit Go.Shelf Go.Proofs.YtdnjmhhjjbdieaaW.PrintWords Go.Proofs.YtdnjmhhjjbdieaaW.PrintLast
set_option linter.unusedVariables false
set_option linter.unusedSimpArgs false
attribute [local go_sem] Oper.semAt_some

/-- The set of one person, or of nobody. -/
def bitOf (p : Int) : Int := if p = -1 then 32768 else IntKind.u16.wrap (2 ^ p.toNat)

set_option maxRecDepth 100000 in
set_option maxHeartbeats 400000 in
theorem bit.calls (p : Int) (w : World) (hp : -1 ≤ p) (hp2 : p ≤ 16) :
    Calls Try.prog 52 #[.int .i64 p] w fun e w' => e = .returned (.int .u16 (bitOf p)) ∧ w = w' := by
  by_cases h : p = -1
  · subst h
    go_enter Try.func52, Try.ntmps52
    go_wp2
    go_ret
    exact ⟨rfl, rfl⟩
  · have h0 : 0 ≤ p := by omega
    have hb : (p == -1) = false := by simpa using h
    have hx : bitOf p = IntKind.u16.wrap (2 ^ p.toNat) := by simp [bitOf, h]
    rw [hx]
    clear hx h
    go_enter Try.func52, Try.ntmps52
    go_wp2
    go_ret
    exact ⟨by simp [bitOf], rfl⟩

/-- Is a person, or nobody, in a set? -/
def inSet (set p : Int) : Bool := Go.bits .and .u16 set (bitOf p) != 0

/-- The first k of nobody, 0, 1, .. that are in a set. -/
def upTo (set : Int) (k : Nat) : List Int := ((List.range k).map fun i : Nat => (i : Int) - 1).filter (inSet set)
theorem upTo_succ (set : Int) (k : Nat) : upTo set (k + 1) = upTo set k ++ (if inSet set ((k : Int) - 1) then [(k : Int) - 1] else []) := by
  simp only [upTo, List.range_succ, List.map_append, List.filter_append, List.map_cons, List.map_nil]
  congr 1
  cases h : inSet set ((k : Int) - 1) <;> simp [h]

theorem upTo_more (set : Int) (k d : Nat) : ∃ post, upTo set (k + d) = upTo set k ++ post := by
  induction d with
  | zero => exact ⟨[], by simp⟩
  | succ d ih =>
    obtain ⟨post, h⟩ := ih
    exact ⟨post ++ _, by rw [← Nat.add_assoc, upTo_succ, h, List.append_assoc]⟩
theorem upTo_split (set : Int) (n k : Nat) (h : k < n) : ∃ post, inSet set ((k : Int) - 1) = true → upTo set n = upTo set k ++ ((k : Int) - 1) :: post := by
  obtain ⟨post, hp⟩ := upTo_more set (k + 1) (n - (k + 1))
  rw [show k + 1 + (n - (k + 1)) = n by omega, upTo_succ] at hp
  exact ⟨post, fun hin => by rw [hp, hin]; simp⟩

set_option maxRecDepth 100000 in
set_option maxHeartbeats 400000 in
theorem in.calls (a0 a1 a2 a3 set : Int) (v : Value) (w : World) :
    Calls Try.prog 74 #[.agg #[.int .i64 a0, .int .i64 a1, .int .i64 a2, .int .i64 a3, v], .int .u16 set] w fun e w' =>
      e = .returned (.func (.func 83) #[] #[.pointer (some ⟨w.heap.size, 0, none⟩), .pointer (some ⟨w.heap.size + 1, 0, none⟩)]) ∧ w' = (w.alloc (.cells #[.int .i64 a0, .int .i64 a1, .int .i64 a2, .int .i64 a3, v] 33)).alloc (.cells #[.int .u16 set] 49) := by
  have hu := Try.underlying33
  go_enter Try.func74, Try.ntmps74
  go_wp2
  go_ret
  exact ⟨rfl, rfl⟩

/-- The blocks that the iterator has captured. -/
def inC (Bs Bt : Nat) (k : Nat) : Prop := k = Bs ∨ k = Bt

set_option maxRecDepth 100000 in
set_option maxHeartbeats 1000000 in
theorem in1.iter (n : Nat) (hn : n ≤ 12) (a1 a2 a3 set : Int) (v : Value) (Bs Bt : Nat) (w : World)
    (hs : w.heap[Bs]? = some (.cells #[.int .i64 n, .int .i64 a1, .int .i64 a2, .int .i64 a3, v] 33 (0, 0))) (ht : w.heap[Bt]? = some (.cells #[.int .u16 set] 49 (0, 0))) :
    IterK Try.prog 83 #[.pointer (some ⟨Bs, 0, none⟩), .pointer (some ⟨Bt, 0, none⟩)] (fun p : Int => #[.int .i64 p]) (upTo set (n + 1)) (inC Bs Bt) w := by
  intro l J Jx W hWs hWC hJ hJx hY h0
  have hu := Try.underlying33
  refine callsIn_of_wp Try.func83 rfl trivial ?_ rfl
  simp only [Try.ntmps83, List.size_toArray, List.length_cons, List.length_nil, Nat.reduceAdd, Nat.reduceSub, Array.replicate_succ, Array.replicate_zero, List.push_toArray, List.append_toArray, List.nil_append, List.cons_append]
  gi_wp2
  gi_loopw [4] (fun p wr => ∃ k : Nat, k ≤ n + 1 ∧ p = .int .i64 ((k : Int) - 1) ∧ J (upTo set k) wr ∧ wr.heap[Bs]? = some (.cells #[.int .i64 n, .int .i64 a1, .int .i64 a2, .int .i64 a3, v] 33 (0, 0)) ∧ wr.heap[Bt]? = some (.cells #[.int .u16 set] 49 (0, 0)) ∧ W.heap.size ≤ wr.heap.size)
    (fun p wr => n + 1 - (intOf p + 1).toNat)
  case atStart =>
    exact ⟨0, by omega, rfl, h0, (hWC _ (.inl rfl)).trans hs, (hWC _ (.inr rfl)).trans ht, Nat.le_refl _⟩
  case round =>
    obtain ⟨k, hk, rfl, hj, hbs, hbt, hsz⟩ := hrel
    have cP : wr.cell? ⟨Bs, 0, none⟩ = some (.int .i64 n) := by simp [World.cell?, hbs]
    have cT : wr.cell? ⟨Bt, 0, none⟩ = some (.int .u16 set) := by simp [World.cell?, hbt]
    have hmx : Try.prog.follows .mixedOrders = true := by kernel_rfl
    have HBS := Lib.hid hbs
    have HBT := Lib.hid hbt
    clear hbs hbt hs ht hWC
    by_cases hlt : k ≤ n
    · obtain ⟨post, hx⟩ := upTo_split set (n + 1) k (by omega)
      cases hin : inSet set ((k : Int) - 1)
      · have hb : (Go.bits .and .u16 set (bitOf ((k : Int) - 1)) != 0) = false := hin
        gi_wp2
        refine wpIn_region_still .wide hmx (by kernel_rfl) (by kernel_rfl) ?_
        still_step
        still_step
        still_call (bit.calls _ _ (by omega) (by omega)).mono (fun e w' h => ⟨h.1, h.2.symm⟩)
        repeat still_step
        refine wpStill_nil ?_
        gi_wp2
        go_roundw
        case rel => exact ⟨k + 1, by omega, by go_num, by rw [upTo_succ, hin]; simpa using OwnFrom.drew hJ hj, HBS.out, HBT.out, hsz⟩
        case measure => simp [intOf]; omega
      · have hb : (Go.bits .and .u16 set (bitOf ((k : Int) - 1)) != 0) = true := hin
        obtain ⟨fn, tmps, assign, body, hy, hR⟩ := hY (upTo set k) ((k : Int) - 1) post wr.drew (hx hin) (OwnFrom.drew hJ hj)
        clear hY
        gi_wp2
        refine wpIn_region_still_tail .wide 8 hmx (by kernel_rfl) (by kernel_rfl) ?_
        simp only [List.take_succ_cons, List.take_zero, List.drop_succ_cons, List.drop_zero]
        still_step
        still_step
        still_call (bit.calls _ _ (by omega) (by omega)).mono (fun e w' h => ⟨h.1, h.2.symm⟩)
        repeat still_step
        refine wpStill_nil ?_
        gi_wp2
        refine ⟨rfl, RoundIn.mono hR ?_⟩
        rintro e W3 ⟨hk3, (⟨rfl, hJ3⟩ | ⟨rfl, hJx3⟩)⟩
        · gi_wp2
          go_roundw
          case rel => exact ⟨k + 1, by omega, by go_num, by rw [upTo_succ, hin]; simpa using hJ3, (hk3.same Bs (.inl (.inl rfl)) (Array.getElem?_eq_some_iff.1 HBS.out).1).trans HBS.out, (hk3.same Bt (.inl (.inr rfl)) (Array.getElem?_eq_some_iff.1 HBT.out).1).trans HBT.out, Nat.le_trans hsz hk3.size⟩
          case measure => simp [intOf]; omega
        · gi_wp2
          refine bodyPost_ret (results_none rfl _ _ _) rfl ?_
          exact ⟨⟨_, rfl⟩, .inr ⟨_, _, _, hx hin, hJx3⟩⟩
    · gi_wp2
      go_end0
      obtain rfl : k = n + 1 := by omega
      exact ⟨⟨_, rfl⟩, .inl hj⟩
end Go.Proofs.Ytdnjmhhjjbdieaa.Q
end

section
/- What may follow in a scene: one step. -/
namespace Go.Proofs.Ytdnjmhhjjbdieaa.Q
open Go.RowKit Go.Proofs.YtdnjmhhjjbdieaaW.PrintWords Go.Proofs.YtdnjmhhjjbdieaaW.PrintLast
set_option linter.unusedVariables false
set_option linter.unusedSimpArgs false

/-- Where a telling stands after a moment. -/
structure St where
  holder : Int
  turn : Int
  short : Int
  own : Bool
  deriving DecidableEq

def encSt (x : St) : Value := .agg #[.int .i64 x.holder, .int .i64 x.turn, .int .i64 x.short, .bool x.own]

/-- The state behind a part in a turn of so many moments, and whether it may stand. -/
def stepOut (most short : Int) (x : St) (h v turn : Int) : St × Bool :=
  (⟨h, turn, if v ≠ -1 ∧ v ≠ h then x.short + 1 else 0, v == h⟩, decide (turn ≤ most) && decide ((if v ≠ -1 ∧ v ≠ h then x.short + 1 else 0) ≤ short))

def stepF (least most short : Int) (x : St) (h v : Int) : St × Bool :=
  if h = -1 then (⟨-1, 0, 0, false⟩, (decide (x.holder < 0) || (decide (least ≤ x.turn) && x.own)) && decide (v = -1))
  else if h = x.holder then stepOut most short x h v (x.turn + 1)
  else if v ≠ h then (⟨0, 0, 0, false⟩, false)
  else if 0 ≤ x.holder ∧ (x.turn < least ∨ x.own = false) then (⟨0, 0, 0, false⟩, false)
  else stepOut most short x h v 1

theorem beq_dec (a b : Int) : (a == b) = decide (a = b) := by by_cases h : a = b <;> simp [h]

theorem belowEnd {w W : World} (h : Below w.heap.size w W) : Below w.heap.size w W.drew := h.drew

set_option maxRecDepth 100000 in
set_option maxHeartbeats 1000000 in
theorem step.A1 (a0 least most short : Int) (vv : Value) (xt xs : Int) (v : Int) (xh : Int) (xo : Bool) (w : World) (hx1 : 0 ≤ xt) (hx2 : xt ≤ 1000) (hx3 : 0 ≤ xs) (hx4 : xs ≤ 1000) (h1 : xh < 0) :
    Calls Try.prog 67 #[.agg #[.int .i64 a0, .int .i64 least, .int .i64 most, .int .i64 short, vv], .agg #[.int .i64 xh, .int .i64 xt, .int .i64 xs, .bool xo], .agg #[.int .i64 (-1), .int .i64 v]] w fun e w' =>
      e = .returned (.tuple #[.agg #[.int .i64 (-1), .int .i64 0, .int .i64 0, .bool false], .bool (v == -1)]) ∧ Below w.heap.size w w' := by
  have hu := Try.underlying33
  have hu1 := Try.underlying109
  have hu2 := Try.underlying65
  go_enter Try.func67, Try.ntmps67
  go_wp2
  go_region
  all_goals
    go_wp2
    refine bodyPost_ret (v := .tuple #[.agg #[.int .i64 (-1), .int .i64 0, .int .i64 0, .bool false], .bool (v == -1)]) (by simp [results, Try.results67, go_sem, hu1]) rfl ⟨rfl, ?_⟩
    repeat (first | exact Below.refl _ _ | refine Below.drew ?_ | (refine Below.alloc ?_ (by simp; try omega) _) | (refine Below.setCell ?_ (by simp; try omega) _))

set_option maxRecDepth 100000 in
set_option maxHeartbeats 1000000 in
theorem step.A2 (a0 least most short : Int) (vv : Value) (xt xs : Int) (v : Int) (xh : Int) (w : World) (hx1 : 0 ≤ xt) (hx2 : xt ≤ 1000) (hx3 : 0 ≤ xs) (hx4 : xs ≤ 1000) (h1 : 0 ≤ xh) (h2 : least ≤ xt) :
    Calls Try.prog 67 #[.agg #[.int .i64 a0, .int .i64 least, .int .i64 most, .int .i64 short, vv], .agg #[.int .i64 xh, .int .i64 xt, .int .i64 xs, .bool true], .agg #[.int .i64 (-1), .int .i64 v]] w fun e w' =>
      e = .returned (.tuple #[.agg #[.int .i64 (-1), .int .i64 0, .int .i64 0, .bool false], .bool (v == -1)]) ∧ Below w.heap.size w w' := by
  have hu := Try.underlying33
  have hu1 := Try.underlying109
  have hu2 := Try.underlying65
  go_enter Try.func67, Try.ntmps67
  go_wp2
  go_region
  all_goals
    go_wp2
    refine bodyPost_ret (v := .tuple #[.agg #[.int .i64 (-1), .int .i64 0, .int .i64 0, .bool false], .bool (v == -1)]) (by simp [results, Try.results67, go_sem, hu1]) rfl ⟨rfl, ?_⟩
    repeat (first | exact Below.refl _ _ | refine Below.drew ?_ | (refine Below.alloc ?_ (by simp; try omega) _) | (refine Below.setCell ?_ (by simp; try omega) _))

set_option maxRecDepth 100000 in
set_option maxHeartbeats 1000000 in
theorem step.A3 (a0 least most short : Int) (vv : Value) (xt xs : Int) (v : Int) (xh : Int) (w : World) (hx1 : 0 ≤ xt) (hx2 : xt ≤ 1000) (hx3 : 0 ≤ xs) (hx4 : xs ≤ 1000) (h1 : 0 ≤ xh) (h2 : least ≤ xt) :
    Calls Try.prog 67 #[.agg #[.int .i64 a0, .int .i64 least, .int .i64 most, .int .i64 short, vv], .agg #[.int .i64 xh, .int .i64 xt, .int .i64 xs, .bool false], .agg #[.int .i64 (-1), .int .i64 v]] w fun e w' =>
      e = .returned (.tuple #[.agg #[.int .i64 (-1), .int .i64 0, .int .i64 0, .bool false], .bool false]) ∧ Below w.heap.size w w' := by
  have hu := Try.underlying33
  have hu1 := Try.underlying109
  have hu2 := Try.underlying65
  have hd0 : decide (xh < 0) = false := by simp; omega
  go_enter Try.func67, Try.ntmps67
  go_wp2
  go_region
  all_goals
    go_wp2
    refine bodyPost_ret (v := .tuple #[.agg #[.int .i64 (-1), .int .i64 0, .int .i64 0, .bool false], .bool false]) (by simp [results, Try.results67, go_sem, hu1]) rfl ⟨rfl, ?_⟩
    repeat (first | exact Below.refl _ _ | refine Below.drew ?_ | (refine Below.alloc ?_ (by simp; try omega) _) | (refine Below.setCell ?_ (by simp; try omega) _))

set_option maxRecDepth 100000 in
set_option maxHeartbeats 1000000 in
theorem step.A4 (a0 least most short : Int) (vv : Value) (xt xs : Int) (v : Int) (xh : Int) (xo : Bool) (w : World) (hx1 : 0 ≤ xt) (hx2 : xt ≤ 1000) (hx3 : 0 ≤ xs) (hx4 : xs ≤ 1000) (h1 : 0 ≤ xh) (h2 : xt < least) :
    Calls Try.prog 67 #[.agg #[.int .i64 a0, .int .i64 least, .int .i64 most, .int .i64 short, vv], .agg #[.int .i64 xh, .int .i64 xt, .int .i64 xs, .bool xo], .agg #[.int .i64 (-1), .int .i64 v]] w fun e w' =>
      e = .returned (.tuple #[.agg #[.int .i64 (-1), .int .i64 0, .int .i64 0, .bool false], .bool false]) ∧ Below w.heap.size w w' := by
  have hu := Try.underlying33
  have hu1 := Try.underlying109
  have hu2 := Try.underlying65
  have hd0 : decide (xh < 0) = false := by simp; omega
  go_enter Try.func67, Try.ntmps67
  go_wp2
  go_region
  all_goals
    go_wp2
    refine bodyPost_ret (v := .tuple #[.agg #[.int .i64 (-1), .int .i64 0, .int .i64 0, .bool false], .bool false]) (by simp [results, Try.results67, go_sem, hu1]) rfl ⟨rfl, ?_⟩
    repeat (first | exact Below.refl _ _ | refine Below.drew ?_ | (refine Below.alloc ?_ (by simp; try omega) _) | (refine Below.setCell ?_ (by simp; try omega) _))

set_option maxRecDepth 100000 in
set_option maxHeartbeats 1000000 in
theorem step.B1a1 (a0 least most short : Int) (vv : Value) (xt xs : Int) (h : Int) (xo : Bool) (w : World) (hx1 : 0 ≤ xt) (hx2 : xt ≤ 1000) (hx3 : 0 ≤ xs) (hx4 : xs ≤ 1000) (h0 : (h == -1) = false) (h0' : (h != -1) = true) (h3 : xt + 1 ≤ most) :
    Calls Try.prog 67 #[.agg #[.int .i64 a0, .int .i64 least, .int .i64 most, .int .i64 short, vv], .agg #[.int .i64 h, .int .i64 xt, .int .i64 xs, .bool xo], .agg #[.int .i64 h, .int .i64 h]] w fun e w' =>
      e = .returned (.tuple #[.agg #[.int .i64 h, .int .i64 (xt + 1), .int .i64 0, .bool true], .bool (decide (0 ≤ short))]) ∧ Below w.heap.size w w' := by
  have hu := Try.underlying33
  have hu1 := Try.underlying109
  have hu2 := Try.underlying65
  go_enter Try.func67, Try.ntmps67
  go_wp2
  go_region
  all_goals
    go_wp2
    refine bodyPost_ret (v := .tuple #[.agg #[.int .i64 h, .int .i64 (xt + 1), .int .i64 0, .bool true], .bool (decide (0 ≤ short))]) (by simp [results, Try.results67, go_sem, hu1]) rfl ⟨rfl, ?_⟩
    repeat (first | exact Below.refl _ _ | refine Below.drew ?_ | (refine Below.alloc ?_ (by simp; try omega) _) | (refine Below.setCell ?_ (by simp; try omega) _))

set_option maxRecDepth 100000 in
set_option maxHeartbeats 1000000 in
theorem step.B1a2 (a0 least most short : Int) (vv : Value) (xt xs : Int) (h : Int) (xo : Bool) (w : World) (hx1 : 0 ≤ xt) (hx2 : xt ≤ 1000) (hx3 : 0 ≤ xs) (hx4 : xs ≤ 1000) (h0 : (h == -1) = false) (h0' : (h != -1) = true) (h3 : most < xt + 1) :
    Calls Try.prog 67 #[.agg #[.int .i64 a0, .int .i64 least, .int .i64 most, .int .i64 short, vv], .agg #[.int .i64 h, .int .i64 xt, .int .i64 xs, .bool xo], .agg #[.int .i64 h, .int .i64 h]] w fun e w' =>
      e = .returned (.tuple #[.agg #[.int .i64 h, .int .i64 (xt + 1), .int .i64 0, .bool true], .bool false]) ∧ Below w.heap.size w w' := by
  have hu := Try.underlying33
  have hu1 := Try.underlying109
  have hu2 := Try.underlying65
  have hd0 : decide (xt + 1 ≤ most) = false := by simp; omega
  go_enter Try.func67, Try.ntmps67
  go_wp2
  go_region
  all_goals
    go_wp2
    refine bodyPost_ret (v := .tuple #[.agg #[.int .i64 h, .int .i64 (xt + 1), .int .i64 0, .bool true], .bool false]) (by simp [results, Try.results67, go_sem, hu1]) rfl ⟨rfl, ?_⟩
    repeat (first | exact Below.refl _ _ | refine Below.drew ?_ | (refine Below.alloc ?_ (by simp; try omega) _) | (refine Below.setCell ?_ (by simp; try omega) _))

set_option maxRecDepth 100000 in
set_option maxHeartbeats 1000000 in
theorem step.B1b1 (a0 least most short : Int) (vv : Value) (xt xs : Int) (h : Int) (xo : Bool) (w : World) (hx1 : 0 ≤ xt) (hx2 : xt ≤ 1000) (hx3 : 0 ≤ xs) (hx4 : xs ≤ 1000) (h0 : (h == -1) = false) (h0' : (-1 == h) = false) (h3 : xt + 1 ≤ most) :
    Calls Try.prog 67 #[.agg #[.int .i64 a0, .int .i64 least, .int .i64 most, .int .i64 short, vv], .agg #[.int .i64 h, .int .i64 xt, .int .i64 xs, .bool xo], .agg #[.int .i64 h, .int .i64 (-1)]] w fun e w' =>
      e = .returned (.tuple #[.agg #[.int .i64 h, .int .i64 (xt + 1), .int .i64 0, .bool false], .bool (decide (0 ≤ short))]) ∧ Below w.heap.size w w' := by
  have hu := Try.underlying33
  have hu1 := Try.underlying109
  have hu2 := Try.underlying65
  go_enter Try.func67, Try.ntmps67
  go_wp2
  go_region
  all_goals
    go_wp2
    refine bodyPost_ret (v := .tuple #[.agg #[.int .i64 h, .int .i64 (xt + 1), .int .i64 0, .bool false], .bool (decide (0 ≤ short))]) (by simp [results, Try.results67, go_sem, hu1]) rfl ⟨rfl, ?_⟩
    repeat (first | exact Below.refl _ _ | refine Below.drew ?_ | (refine Below.alloc ?_ (by simp; try omega) _) | (refine Below.setCell ?_ (by simp; try omega) _))

set_option maxRecDepth 100000 in
set_option maxHeartbeats 1000000 in
theorem step.B1b2 (a0 least most short : Int) (vv : Value) (xt xs : Int) (h : Int) (xo : Bool) (w : World) (hx1 : 0 ≤ xt) (hx2 : xt ≤ 1000) (hx3 : 0 ≤ xs) (hx4 : xs ≤ 1000) (h0 : (h == -1) = false) (h0' : (-1 == h) = false) (h3 : most < xt + 1) :
    Calls Try.prog 67 #[.agg #[.int .i64 a0, .int .i64 least, .int .i64 most, .int .i64 short, vv], .agg #[.int .i64 h, .int .i64 xt, .int .i64 xs, .bool xo], .agg #[.int .i64 h, .int .i64 (-1)]] w fun e w' =>
      e = .returned (.tuple #[.agg #[.int .i64 h, .int .i64 (xt + 1), .int .i64 0, .bool false], .bool false]) ∧ Below w.heap.size w w' := by
  have hu := Try.underlying33
  have hu1 := Try.underlying109
  have hu2 := Try.underlying65
  have hd0 : decide (xt + 1 ≤ most) = false := by simp; omega
  go_enter Try.func67, Try.ntmps67
  go_wp2
  go_region
  all_goals
    go_wp2
    refine bodyPost_ret (v := .tuple #[.agg #[.int .i64 h, .int .i64 (xt + 1), .int .i64 0, .bool false], .bool false]) (by simp [results, Try.results67, go_sem, hu1]) rfl ⟨rfl, ?_⟩
    repeat (first | exact Below.refl _ _ | refine Below.drew ?_ | (refine Below.alloc ?_ (by simp; try omega) _) | (refine Below.setCell ?_ (by simp; try omega) _))

set_option maxRecDepth 100000 in
set_option maxHeartbeats 1000000 in
theorem step.B1c1 (a0 least most short : Int) (vv : Value) (xt xs : Int) (h : Int) (v : Int) (xo : Bool) (w : World) (hx1 : 0 ≤ xt) (hx2 : xt ≤ 1000) (hx3 : 0 ≤ xs) (hx4 : xs ≤ 1000) (h0 : (h == -1) = false) (h1 : (v == -1) = false) (h1' : (v != -1) = true) (h2 : (v == h) = false) (h3 : xt + 1 ≤ most) :
    Calls Try.prog 67 #[.agg #[.int .i64 a0, .int .i64 least, .int .i64 most, .int .i64 short, vv], .agg #[.int .i64 h, .int .i64 xt, .int .i64 xs, .bool xo], .agg #[.int .i64 h, .int .i64 v]] w fun e w' =>
      e = .returned (.tuple #[.agg #[.int .i64 h, .int .i64 (xt + 1), .int .i64 (xs + 1), .bool false], .bool (decide ((xs + 1) ≤ short))]) ∧ Below w.heap.size w w' := by
  have hu := Try.underlying33
  have hu1 := Try.underlying109
  have hu2 := Try.underlying65
  go_enter Try.func67, Try.ntmps67
  go_wp2
  go_region
  all_goals
    go_wp2
    refine bodyPost_ret (v := .tuple #[.agg #[.int .i64 h, .int .i64 (xt + 1), .int .i64 (xs + 1), .bool false], .bool (decide ((xs + 1) ≤ short))]) (by simp [results, Try.results67, go_sem, hu1]) rfl ⟨rfl, ?_⟩
    repeat (first | exact Below.refl _ _ | refine Below.drew ?_ | (refine Below.alloc ?_ (by simp; try omega) _) | (refine Below.setCell ?_ (by simp; try omega) _))

set_option maxRecDepth 100000 in
set_option maxHeartbeats 1000000 in
theorem step.B1c2 (a0 least most short : Int) (vv : Value) (xt xs : Int) (h : Int) (v : Int) (xo : Bool) (w : World) (hx1 : 0 ≤ xt) (hx2 : xt ≤ 1000) (hx3 : 0 ≤ xs) (hx4 : xs ≤ 1000) (h0 : (h == -1) = false) (h1 : (v == -1) = false) (h1' : (v != -1) = true) (h2 : (v == h) = false) (h3 : most < xt + 1) :
    Calls Try.prog 67 #[.agg #[.int .i64 a0, .int .i64 least, .int .i64 most, .int .i64 short, vv], .agg #[.int .i64 h, .int .i64 xt, .int .i64 xs, .bool xo], .agg #[.int .i64 h, .int .i64 v]] w fun e w' =>
      e = .returned (.tuple #[.agg #[.int .i64 h, .int .i64 (xt + 1), .int .i64 (xs + 1), .bool false], .bool false]) ∧ Below w.heap.size w w' := by
  have hu := Try.underlying33
  have hu1 := Try.underlying109
  have hu2 := Try.underlying65
  have hd0 : decide (xt + 1 ≤ most) = false := by simp; omega
  go_enter Try.func67, Try.ntmps67
  go_wp2
  go_region
  all_goals
    go_wp2
    refine bodyPost_ret (v := .tuple #[.agg #[.int .i64 h, .int .i64 (xt + 1), .int .i64 (xs + 1), .bool false], .bool false]) (by simp [results, Try.results67, go_sem, hu1]) rfl ⟨rfl, ?_⟩
    repeat (first | exact Below.refl _ _ | refine Below.drew ?_ | (refine Below.alloc ?_ (by simp; try omega) _) | (refine Below.setCell ?_ (by simp; try omega) _))

set_option maxRecDepth 100000 in
set_option maxHeartbeats 1000000 in
theorem step.B2a (a0 least most short : Int) (vv : Value) (xt xs : Int) (h : Int) (v : Int) (xh : Int) (xo : Bool) (w : World) (hx1 : 0 ≤ xt) (hx2 : xt ≤ 1000) (hx3 : 0 ≤ xs) (hx4 : xs ≤ 1000) (h0 : (h == -1) = false) (h1 : (h == xh) = false) (h2 : (v == h) = false) :
    Calls Try.prog 67 #[.agg #[.int .i64 a0, .int .i64 least, .int .i64 most, .int .i64 short, vv], .agg #[.int .i64 xh, .int .i64 xt, .int .i64 xs, .bool xo], .agg #[.int .i64 h, .int .i64 v]] w fun e w' =>
      e = .returned (.tuple #[.agg #[.int .i64 0, .int .i64 0, .int .i64 0, .bool false], .bool false]) ∧ Below w.heap.size w w' := by
  have hu := Try.underlying33
  have hu1 := Try.underlying109
  have hu2 := Try.underlying65
  go_enter Try.func67, Try.ntmps67
  go_wp2
  refine bodyPost_ret (v := .tuple #[.agg #[.int .i64 0, .int .i64 0, .int .i64 0, .bool false], .bool false]) (by simp [results, Try.results67, go_sem, hu1]) rfl ⟨rfl, ?_⟩
  repeat (first | exact Below.refl _ _ | refine Below.drew ?_ | (refine Below.alloc ?_ (by simp; try omega) _) | (refine Below.setCell ?_ (by simp; try omega) _))

set_option maxRecDepth 100000 in
set_option maxHeartbeats 1000000 in
theorem step.B2b1 (a0 least most short : Int) (vv : Value) (xt xs : Int) (h : Int) (xh : Int) (xo : Bool) (w : World) (hx1 : 0 ≤ xt) (hx2 : xt ≤ 1000) (hx3 : 0 ≤ xs) (hx4 : xs ≤ 1000) (h0 : (h == -1) = false) (h00 : (h != -1) = true) (h1 : (h == xh) = false) (h2 : xh < 0) (h3 : 1 ≤ most) :
    Calls Try.prog 67 #[.agg #[.int .i64 a0, .int .i64 least, .int .i64 most, .int .i64 short, vv], .agg #[.int .i64 xh, .int .i64 xt, .int .i64 xs, .bool xo], .agg #[.int .i64 h, .int .i64 h]] w fun e w' =>
      e = .returned (.tuple #[.agg #[.int .i64 h, .int .i64 1, .int .i64 0, .bool true], .bool (decide (0 ≤ short))]) ∧ Below w.heap.size w w' := by
  have hu := Try.underlying33
  have hu1 := Try.underlying109
  have hu2 := Try.underlying65
  go_enter Try.func67, Try.ntmps67
  go_wp2
  go_region
  all_goals
    go_wp2
    refine bodyPost_ret (v := .tuple #[.agg #[.int .i64 h, .int .i64 1, .int .i64 0, .bool true], .bool (decide (0 ≤ short))]) (by simp [results, Try.results67, go_sem, hu1]) rfl ⟨rfl, ?_⟩
    repeat (first | exact Below.refl _ _ | refine Below.drew ?_ | (refine Below.alloc ?_ (by simp; try omega) _) | (refine Below.setCell ?_ (by simp; try omega) _))

set_option maxRecDepth 100000 in
set_option maxHeartbeats 1000000 in
theorem step.B2b2 (a0 least most short : Int) (vv : Value) (xt xs : Int) (h : Int) (xh : Int) (xo : Bool) (w : World) (hx1 : 0 ≤ xt) (hx2 : xt ≤ 1000) (hx3 : 0 ≤ xs) (hx4 : xs ≤ 1000) (h0 : (h == -1) = false) (h00 : (h != -1) = true) (h1 : (h == xh) = false) (h2 : xh < 0) (h3 : most < 1) :
    Calls Try.prog 67 #[.agg #[.int .i64 a0, .int .i64 least, .int .i64 most, .int .i64 short, vv], .agg #[.int .i64 xh, .int .i64 xt, .int .i64 xs, .bool xo], .agg #[.int .i64 h, .int .i64 h]] w fun e w' =>
      e = .returned (.tuple #[.agg #[.int .i64 h, .int .i64 1, .int .i64 0, .bool true], .bool false]) ∧ Below w.heap.size w w' := by
  have hu := Try.underlying33
  have hu1 := Try.underlying109
  have hu2 := Try.underlying65
  have hd0 : decide (1 ≤ most) = false := by simp; omega
  go_enter Try.func67, Try.ntmps67
  go_wp2
  go_region
  all_goals
    go_wp2
    refine bodyPost_ret (v := .tuple #[.agg #[.int .i64 h, .int .i64 1, .int .i64 0, .bool true], .bool false]) (by simp [results, Try.results67, go_sem, hu1]) rfl ⟨rfl, ?_⟩
    repeat (first | exact Below.refl _ _ | refine Below.drew ?_ | (refine Below.alloc ?_ (by simp; try omega) _) | (refine Below.setCell ?_ (by simp; try omega) _))

set_option maxRecDepth 100000 in
set_option maxHeartbeats 1000000 in
theorem step.B2c (a0 least most short : Int) (vv : Value) (xt xs : Int) (h : Int) (xh : Int) (xo : Bool) (w : World) (hx1 : 0 ≤ xt) (hx2 : xt ≤ 1000) (hx3 : 0 ≤ xs) (hx4 : xs ≤ 1000) (h0 : (h == -1) = false) (h00 : (h != -1) = true) (h1 : (h == xh) = false) (h2 : 0 ≤ xh) (h3 : xt < least) :
    Calls Try.prog 67 #[.agg #[.int .i64 a0, .int .i64 least, .int .i64 most, .int .i64 short, vv], .agg #[.int .i64 xh, .int .i64 xt, .int .i64 xs, .bool xo], .agg #[.int .i64 h, .int .i64 h]] w fun e w' =>
      e = .returned (.tuple #[.agg #[.int .i64 0, .int .i64 0, .int .i64 0, .bool false], .bool false]) ∧ Below w.heap.size w w' := by
  have hu := Try.underlying33
  have hu1 := Try.underlying109
  have hu2 := Try.underlying65
  go_enter Try.func67, Try.ntmps67
  go_wp2
  refine bodyPost_ret (v := .tuple #[.agg #[.int .i64 0, .int .i64 0, .int .i64 0, .bool false], .bool false]) (by simp [results, Try.results67, go_sem, hu1]) rfl ⟨rfl, ?_⟩
  repeat (first | exact Below.refl _ _ | refine Below.drew ?_ | (refine Below.alloc ?_ (by simp; try omega) _) | (refine Below.setCell ?_ (by simp; try omega) _))

set_option maxRecDepth 100000 in
set_option maxHeartbeats 1000000 in
theorem step.B2d (a0 least most short : Int) (vv : Value) (xt xs : Int) (h : Int) (xh : Int) (w : World) (hx1 : 0 ≤ xt) (hx2 : xt ≤ 1000) (hx3 : 0 ≤ xs) (hx4 : xs ≤ 1000) (h0 : (h == -1) = false) (h00 : (h != -1) = true) (h1 : (h == xh) = false) (h2 : 0 ≤ xh) (h3 : least ≤ xt) :
    Calls Try.prog 67 #[.agg #[.int .i64 a0, .int .i64 least, .int .i64 most, .int .i64 short, vv], .agg #[.int .i64 xh, .int .i64 xt, .int .i64 xs, .bool false], .agg #[.int .i64 h, .int .i64 h]] w fun e w' =>
      e = .returned (.tuple #[.agg #[.int .i64 0, .int .i64 0, .int .i64 0, .bool false], .bool false]) ∧ Below w.heap.size w w' := by
  have hu := Try.underlying33
  have hu1 := Try.underlying109
  have hu2 := Try.underlying65
  go_enter Try.func67, Try.ntmps67
  go_wp2
  refine bodyPost_ret (v := .tuple #[.agg #[.int .i64 0, .int .i64 0, .int .i64 0, .bool false], .bool false]) (by simp [results, Try.results67, go_sem, hu1]) rfl ⟨rfl, ?_⟩
  repeat (first | exact Below.refl _ _ | refine Below.drew ?_ | (refine Below.alloc ?_ (by simp; try omega) _) | (refine Below.setCell ?_ (by simp; try omega) _))

set_option maxRecDepth 100000 in
set_option maxHeartbeats 1000000 in
theorem step.B2e1 (a0 least most short : Int) (vv : Value) (xt xs : Int) (h : Int) (xh : Int) (w : World) (hx1 : 0 ≤ xt) (hx2 : xt ≤ 1000) (hx3 : 0 ≤ xs) (hx4 : xs ≤ 1000) (h0 : (h == -1) = false) (h00 : (h != -1) = true) (h1 : (h == xh) = false) (h2 : 0 ≤ xh) (h3 : least ≤ xt) (h4 : 1 ≤ most) :
    Calls Try.prog 67 #[.agg #[.int .i64 a0, .int .i64 least, .int .i64 most, .int .i64 short, vv], .agg #[.int .i64 xh, .int .i64 xt, .int .i64 xs, .bool true], .agg #[.int .i64 h, .int .i64 h]] w fun e w' =>
      e = .returned (.tuple #[.agg #[.int .i64 h, .int .i64 1, .int .i64 0, .bool true], .bool (decide (0 ≤ short))]) ∧ Below w.heap.size w w' := by
  have hu := Try.underlying33
  have hu1 := Try.underlying109
  have hu2 := Try.underlying65
  go_enter Try.func67, Try.ntmps67
  go_wp2
  go_region
  all_goals
    go_wp2
    refine bodyPost_ret (v := .tuple #[.agg #[.int .i64 h, .int .i64 1, .int .i64 0, .bool true], .bool (decide (0 ≤ short))]) (by simp [results, Try.results67, go_sem, hu1]) rfl ⟨rfl, ?_⟩
    repeat (first | exact Below.refl _ _ | refine Below.drew ?_ | (refine Below.alloc ?_ (by simp; try omega) _) | (refine Below.setCell ?_ (by simp; try omega) _))

set_option maxRecDepth 100000 in
set_option maxHeartbeats 1000000 in
theorem step.B2e2 (a0 least most short : Int) (vv : Value) (xt xs : Int) (h : Int) (xh : Int) (w : World) (hx1 : 0 ≤ xt) (hx2 : xt ≤ 1000) (hx3 : 0 ≤ xs) (hx4 : xs ≤ 1000) (h0 : (h == -1) = false) (h00 : (h != -1) = true) (h1 : (h == xh) = false) (h2 : 0 ≤ xh) (h3 : least ≤ xt) (h4 : most < 1) :
    Calls Try.prog 67 #[.agg #[.int .i64 a0, .int .i64 least, .int .i64 most, .int .i64 short, vv], .agg #[.int .i64 xh, .int .i64 xt, .int .i64 xs, .bool true], .agg #[.int .i64 h, .int .i64 h]] w fun e w' =>
      e = .returned (.tuple #[.agg #[.int .i64 h, .int .i64 1, .int .i64 0, .bool true], .bool false]) ∧ Below w.heap.size w w' := by
  have hu := Try.underlying33
  have hu1 := Try.underlying109
  have hu2 := Try.underlying65
  have hd0 : decide (1 ≤ most) = false := by simp; omega
  go_enter Try.func67, Try.ntmps67
  go_wp2
  go_region
  all_goals
    go_wp2
    refine bodyPost_ret (v := .tuple #[.agg #[.int .i64 h, .int .i64 1, .int .i64 0, .bool true], .bool false]) (by simp [results, Try.results67, go_sem, hu1]) rfl ⟨rfl, ?_⟩
    repeat (first | exact Below.refl _ _ | refine Below.drew ?_ | (refine Below.alloc ?_ (by simp; try omega) _) | (refine Below.setCell ?_ (by simp; try omega) _))

theorem step.calls (a0 least most short : Int) (vv : Value) (x : St) (h v : Int) (w : World) (hx1 : 0 ≤ x.turn) (hx2 : x.turn ≤ 1000) (hx3 : 0 ≤ x.short) (hx4 : x.short ≤ 1000) :
    Calls Try.prog 67 #[.agg #[.int .i64 a0, .int .i64 least, .int .i64 most, .int .i64 short, vv], .agg #[.int .i64 x.holder, .int .i64 x.turn, .int .i64 x.short, .bool x.own], .agg #[.int .i64 h, .int .i64 v]] w fun e w' =>
      e = .returned (.tuple #[encSt (stepF least most short x h v).1, .bool (stepF least most short x h v).2]) ∧ Below w.heap.size w w' := by
  obtain ⟨xh, xt, xs, xo⟩ := x
  simp only at hx1 hx2 hx3 hx4 ⊢
  have fin : ∀ (y : St) (b : Bool), stepF least most short ⟨xh, xt, xs, xo⟩ h v = (y, b) → ∀ {e : Ending} {w' : World}, (e = .returned (.tuple #[.agg #[.int .i64 y.holder, .int .i64 y.turn, .int .i64 y.short, .bool y.own], .bool b]) ∧ Below w.heap.size w w') →
      e = .returned (.tuple #[encSt (stepF least most short ⟨xh, xt, xs, xo⟩ h v).1, .bool (stepF least most short ⟨xh, xt, xs, xo⟩ h v).2]) ∧ Below w.heap.size w w' := by
    intro y b hs e w' hh
    rw [hs]
    exact hh
  by_cases hh : h = -1
  · subst hh
    by_cases h1 : xh < 0
    · exact (step.A1 a0 least most short vv xt xs v xh xo w hx1 hx2 hx3 hx4 h1).mono fun e w' q => fin ⟨-1, 0, 0, false⟩ (v == -1) (by simp [stepF, h1, beq_dec]) q
    · by_cases h2 : least ≤ xt
      · cases xo
        · exact (step.A3 a0 least most short vv xt xs v xh w hx1 hx2 hx3 hx4 (by omega) h2).mono fun e w' q => fin ⟨-1, 0, 0, false⟩ false (by simp [stepF, h1]) q
        · exact (step.A2 a0 least most short vv xt xs v xh w hx1 hx2 hx3 hx4 (by omega) h2).mono fun e w' q => fin ⟨-1, 0, 0, false⟩ (v == -1) (by simp [stepF, h1, h2, beq_dec]) q
      · exact (step.A4 a0 least most short vv xt xs v xh xo w hx1 hx2 hx3 hx4 (by omega) (by omega)).mono fun e w' q => fin ⟨-1, 0, 0, false⟩ false (by simp [stepF, h1, h2]) q
  · have e0 : (h == -1) = false := by simpa using hh
    have e0' : (h != -1) = true := by simpa using hh
    by_cases hs : h = xh
    · subst hs
      by_cases hv : v = h
      · subst hv
        by_cases h3 : xt + 1 ≤ most
        · exact (step.B1a1 a0 least most short vv xt xs v xo w hx1 hx2 hx3 hx4 e0 e0' h3).mono fun e w' q => fin ⟨v, xt + 1, 0, true⟩ (decide (0 ≤ short)) (by simp [stepF, stepOut, hh, h3]) q
        · exact (step.B1a2 a0 least most short vv xt xs v xo w hx1 hx2 hx3 hx4 e0 e0' (by omega)).mono fun e w' q => fin ⟨v, xt + 1, 0, true⟩ false (by simp [stepF, stepOut, hh, h3]) q
      · by_cases hn : v = -1
        · subst hn
          have e1 : (-1 == h) = false := by simpa using hv
          by_cases h3 : xt + 1 ≤ most
          · exact (step.B1b1 a0 least most short vv xt xs h xo w hx1 hx2 hx3 hx4 e0 e1 h3).mono fun e w' q => fin ⟨h, xt + 1, 0, false⟩ (decide (0 ≤ short)) (by simp [stepF, stepOut, hh, hv, h3]) q
          · exact (step.B1b2 a0 least most short vv xt xs h xo w hx1 hx2 hx3 hx4 e0 e1 (by omega)).mono fun e w' q => fin ⟨h, xt + 1, 0, false⟩ false (by simp [stepF, stepOut, hh, hv, h3]) q
        · have e1 : (v == -1) = false := by simpa using hn
          have e1' : (v != -1) = true := by simpa using hn
          have e2 : (v == h) = false := by simpa using hv
          by_cases h3 : xt + 1 ≤ most
          · exact (step.B1c1 a0 least most short vv xt xs h v xo w hx1 hx2 hx3 hx4 e0 e1 e1' e2 h3).mono fun e w' q => fin ⟨h, xt + 1, xs + 1, false⟩ (decide (xs + 1 ≤ short)) (by simp [stepF, stepOut, hh, hv, hn, h3]) q
          · exact (step.B1c2 a0 least most short vv xt xs h v xo w hx1 hx2 hx3 hx4 e0 e1 e1' e2 (by omega)).mono fun e w' q => fin ⟨h, xt + 1, xs + 1, false⟩ false (by simp [stepF, stepOut, hh, hv, hn, h3]) q
    · have e1 : (h == xh) = false := by simpa using hs
      by_cases hv : v = h
      · subst hv
        by_cases h2 : xh < 0
        · by_cases h3 : 1 ≤ most
          · exact (step.B2b1 a0 least most short vv xt xs v xh xo w hx1 hx2 hx3 hx4 e0 e0' e1 h2 h3).mono fun e w' q => fin ⟨v, 1, 0, true⟩ (decide (0 ≤ short)) (by simp [stepF, stepOut, hh, hs, h3, show ¬ (0 ≤ xh) by omega]) q
          · exact (step.B2b2 a0 least most short vv xt xs v xh xo w hx1 hx2 hx3 hx4 e0 e0' e1 h2 (by omega)).mono fun e w' q => fin ⟨v, 1, 0, true⟩ false (by simp [stepF, stepOut, hh, hs, h3, show ¬ (0 ≤ xh) by omega]) q
        · by_cases h3 : least ≤ xt
          · cases xo
            · exact (step.B2d a0 least most short vv xt xs v xh w hx1 hx2 hx3 hx4 e0 e0' e1 (by omega) h3).mono fun e w' q => fin ⟨0, 0, 0, false⟩ false (by simp [stepF, hh, hs, show 0 ≤ xh by omega]) q
            · by_cases h4 : 1 ≤ most
              · exact (step.B2e1 a0 least most short vv xt xs v xh w hx1 hx2 hx3 hx4 e0 e0' e1 (by omega) h3 h4).mono fun e w' q => fin ⟨v, 1, 0, true⟩ (decide (0 ≤ short)) (by simp [stepF, stepOut, hh, hs, h4, show ¬ (xt < least) by omega]) q
              · exact (step.B2e2 a0 least most short vv xt xs v xh w hx1 hx2 hx3 hx4 e0 e0' e1 (by omega) h3 (by omega)).mono fun e w' q => fin ⟨v, 1, 0, true⟩ false (by simp [stepF, stepOut, hh, hs, h4, show ¬ (xt < least) by omega]) q
          · exact (step.B2c a0 least most short vv xt xs v xh xo w hx1 hx2 hx3 hx4 e0 e0' e1 (by omega) (by omega)).mono fun e w' q => fin ⟨0, 0, 0, false⟩ false (by simp [stepF, hh, hs, show 0 ≤ xh by omega, show xt < least by omega]) q
      · have e2 : (v == h) = false := by simpa using hv
        exact (step.B2a a0 least most short vv xt xs h v xh xo w hx1 hx2 hx3 hx4 e0 e1 e2).mono fun e w' q => fin ⟨0, 0, 0, false⟩ false (by simp [stepF, hh, hs, hv]) q
end Go.Proofs.Ytdnjmhhjjbdieaa.Q
end

section
/- The iterator over the parts that may follow in a moment. -/
namespace Go.Proofs.Ytdnjmhhjjbdieaa.Q
open Go.RowKit Go.Shelf Go.Proofs.YtdnjmhhjjbdieaaW.PrintWords Go.Proofs.YtdnjmhhjjbdieaaW.PrintLast
set_option linter.unusedVariables false
set_option linter.unusedSimpArgs false
attribute [local go_sem] Oper.semAt_some

theorem ownFrom_block {β : Type} {B k : Nat} (o : β → Obj) (hk : k < B) : OwnFrom B (fun (s : β) W => W.heap[k]? = some (o s)) :=
  fun s W W' row hs hg hr => (hg.block k (Array.getElem?_eq_some_iff.1 hs).1 (fun e => by have := (hr k e.symm).1; omega)).trans hs
theorem ownFrom_cells {β : Type} {B k : Nat} (c : β → Array Value) (t : TypeId) : OwnFrom B (fun (s : β) W => W.heap[k]? = some (.cells (c s) t (0, 0))) :=
  fun s W W' row hs hg hr => (hg.block k (Array.getElem?_eq_some_iff.1 hs).1 (fun e => by obtain ⟨_, o, ho, hc⟩ := hr k e.symm; rw [hs] at ho; cases ho; cases hc)).trans hs
theorem ownFrom_keptC {β : Type} {B B' : Nat} {C : Nat → Prop} {W0 : World} (hB : W0.heap.size ≤ B') : OwnFrom B' (fun (_ : β) W => KeptC C B W0 W) :=
  fun s W W' row hs hg hr => ⟨Nat.le_trans hs.size hg.size, fun k hk hl => (hg.block k (Nat.lt_of_lt_of_le hl hs.size) (fun e => by have := (hr k e.symm).1; omega)).trans (hs.same k hk hl)⟩
theorem OwnFrom.below {β : Type} {B : Nat} {I : β → World → Prop} (h : OwnFrom B I) {s : β} {W W' : World} (hs : I s W) (hb : Below W.heap.size W W') : I s W' :=
  h s W W' none hs ⟨hb.os, hb.tape, hb.output, hb.size, fun k hk _ => hb.block k hk⟩ (fun r e => by cases e)
/-- Captured blocks lie as they lay. -/
def CapK (C : Nat → Prop) (W W' : World) : Prop := ∀ k, C k → W'.heap[k]? = W.heap[k]?
theorem CapK.refl (C : Nat → Prop) (W : World) : CapK C W W := fun _ _ => rfl
theorem CapK.alloc {C : Nat → Prop} {W W' : World} (h : CapK C W W') (hC : ∀ k, C k → k < W.heap.size) (hs : W.heap.size ≤ W'.heap.size) (o : Obj) : CapK C W (W'.alloc o) := fun k hk => (Below.heap_alloc W' o k (by have := hC k hk; omega)).trans (h k hk)
theorem CapK.below {C : Nat → Prop} {W W' W2 : World} (h : CapK C W W') (hC : ∀ k, C k → k < W.heap.size) {n : Nat} (hb : Below n W' W2) (hn : W.heap.size ≤ n) : CapK C W W2 := fun k hk => (hb.block k (by have := hC k hk; omega)).trans (h k hk)
theorem CapK.kept {C C' : Nat → Prop} {B : Nat} {W W' W2 : World} (h : CapK C W W') (hC : ∀ k, C k → k < W.heap.size) (hs : W.heap.size ≤ W'.heap.size) (hk : KeptC C' B W' W2) (hCC : ∀ k, C k → C' k ∨ B ≤ k) : CapK C W W2 := fun k q => (hk.same k (hCC k q) (by have := hC k q; omega)).trans (h k q)
theorem ownFrom_cap {β : Type} {B : Nat} {C : Nat → Prop} {W0 : World} (hC : ∀ k, C k → k < W0.heap.size) (hB : ∀ k, C k → k < B) : OwnFrom B (fun (_ : β) W => CapK C W0 W) :=
  fun s W W' row hs hg hr k hk => by
    have h0 := hs k hk
    have hl : k < W.heap.size := by
      have h1 := hC k hk
      rcases Nat.lt_or_ge k W.heap.size with h2 | h2
      · exact h2
      · rw [Array.getElem?_eq_none h2, Array.getElem?_eq_getElem h1] at h0; cases h0
    exact (hg.block k hl (fun e => by have := (hr k e.symm).1; have := hB k hk; omega)).trans h0
theorem ownFrom_size {β : Type} {B n : Nat} : OwnFrom B (fun (_ : β) W => n ≤ W.heap.size) := fun s W W' row hs hg hr => Nat.le_trans hs hg.size

/-- The values of a part that follows, and of the state behind it. -/
def encPart (p : (Int × Int) × St) : Array Value := #[.agg #[.int .i64 p.1.1, .int .i64 p.1.2], encSt p.2]

/-- What may follow with a holder and a voice. -/
def voiceOf (least most short : Int) (x : St) (h v : Int) : List ((Int × Int) × St) := if (stepF least most short x h v).2 then [((h, v), (stepF least most short x h v).1)] else []

/-- What may follow with a holder. -/
def rowOf (least most short : Int) (x : St) (heard : Int) (n : Nat) (h : Int) : List ((Int × Int) × St) :=
  (upTo heard (n + 1)).flatMap (voiceOf least most short x h)

/-- What may follow. -/
def partsOf (least most short : Int) (x : St) (floor heard : Int) (n : Nat) : List ((Int × Int) × St) :=
  (upTo floor (n + 1)).flatMap (rowOf least most short x heard n)

set_option maxRecDepth 100000 in
set_option maxHeartbeats 400000 in
theorem parts.calls (n least most short floor heard : Int) (vv : Value) (x : St) (w : World) :
    Calls Try.prog 51 #[.agg #[.int .i64 n, .int .i64 least, .int .i64 most, .int .i64 short, vv], encSt x, .agg #[.int .u16 floor, .int .u16 heard]] w fun e w' =>
      e = .returned (.func (.func 73) #[] #[.pointer (some ⟨w.heap.size, 0, none⟩), .pointer (some ⟨w.heap.size + 2, 0, none⟩), .pointer (some ⟨w.heap.size + 3, 0, none⟩), .pointer (some ⟨w.heap.size + 1, 0, none⟩)]) ∧
      w' = (((w.alloc (.cells #[.int .i64 n, .int .i64 least, .int .i64 most, .int .i64 short, vv] 33)).alloc (.cells #[.int .i64 x.holder, .int .i64 x.turn, .int .i64 x.short, .bool x.own] 109)).alloc (.cells #[.int .u16 floor, .int .u16 heard] 52)).alloc
        (.cells #[.func (.func 67) #[.agg #[.int .i64 n, .int .i64 least, .int .i64 most, .int .i64 short, vv]] #[]] 129) := by
  have hu := Try.underlying33
  have hu1 := Try.underlying109
  have hu2 := Try.underlying52
  unfold encSt
  go_enter Try.func51, Try.ntmps51
  go_wp2
  go_ret
  exact ⟨rfl, rfl⟩

/-- The blocks that the iterator over parts has captured. -/
def partsC (B : Nat) (k : Nat) : Prop := B ≤ k ∧ k < B + 4

set_option maxRecDepth 100000 in
set_option maxHeartbeats 2000000 in
theorem parts1.iter (n : Nat) (hn : n ≤ 12) (least most short floor heard : Int) (vv : Value) (x : St) (hx1 : 0 ≤ x.turn) (hx2 : x.turn ≤ 1000) (hx3 : 0 ≤ x.short) (hx4 : x.short ≤ 1000) (B : Nat) (w : World)
    (h0 : w.heap[B]? = some (.cells #[.int .i64 n, .int .i64 least, .int .i64 most, .int .i64 short, vv] 33 (0, 0)))
    (h1 : w.heap[B + 1]? = some (.cells #[.int .i64 x.holder, .int .i64 x.turn, .int .i64 x.short, .bool x.own] 109 (0, 0)))
    (h2 : w.heap[B + 2]? = some (.cells #[.int .u16 floor, .int .u16 heard] 52 (0, 0)))
    (h3 : w.heap[B + 3]? = some (.cells #[.func (.func 67) #[.agg #[.int .i64 n, .int .i64 least, .int .i64 most, .int .i64 short, vv]] #[]] 129 (0, 0))) :
    IterK Try.prog 73 #[.pointer (some ⟨B, 0, none⟩), .pointer (some ⟨B + 2, 0, none⟩), .pointer (some ⟨B + 3, 0, none⟩), .pointer (some ⟨B + 1, 0, none⟩)] encPart (partsOf least most short x floor heard n) (partsC B) w := by
  intro l J Jx W hWs hWC hJ hJx hY hJ0
  have hu := Try.underlying33
  have hu1 := Try.underlying109
  have hu2 := Try.underlying52
  have hu3 := Try.underlying65
  have b0 := (hWC B ⟨by omega, by omega⟩).trans h0
  have b1 := (hWC (B + 1) ⟨by omega, by omega⟩).trans h1
  have b2 := (hWC (B + 2) ⟨by omega, by omega⟩).trans h2
  have b3 := (hWC (B + 3) ⟨by omega, by omega⟩).trans h3
  have hB3 : B + 3 < W.heap.size := (Array.getElem?_eq_some_iff.1 b3).1
  clear h0 h1 h2 h3 hWC hWs
  refine callsIn_of_wp_marks Try.func73 rfl trivial ?_ rfl
  simp only [Try.ntmps73, List.size_toArray, List.length_cons, List.length_nil, Nat.reduceAdd, Nat.reduceSub, Array.replicate_succ, Array.replicate_zero, List.push_toArray, List.append_toArray, List.nil_append, List.cons_append]
  have c0 : ∀ i v, (#[.int .i64 (n : Int), .int .i64 least, .int .i64 most, .int .i64 short, vv] : Array Value)[i]? = some v → W.cell? ⟨B, i, none⟩ = some v := fun i v hv => by simp [World.cell?, b0, hv]
  have c00 := c0 0 _ rfl
  have c01 := c0 1 _ rfl
  have c02 := c0 2 _ rfl
  have c03 := c0 3 _ rfl
  have c04 := c0 4 _ rfl
  have c20 : W.cell? ⟨B + 2, 0, none⟩ = some (.int .u16 floor) := by simp [World.cell?, b2]
  clear c0
  have k0 : B < W.heap.size := by omega
  have k1 : B + 1 < W.heap.size := by omega
  have k2 : B + 2 < W.heap.size := by omega
  have B0 := Lib.hid b0
  have B1 := Lib.hid b1
  have B2 := Lib.hid b2
  have B3 := Lib.hid b3
  clear b0 b1 b2 b3
  gi_wp2_with fail
  refine ⟨trivial, rfl, (callsIn_wide.2 (in.calls _ _ _ _ _ _ _)).mono ?_⟩
  rintro e w' ⟨rfl, rfl⟩
  gi_wp2
  have hW0s : (((W.alloc (.cells #[.func (.yield l) #[] #[]] 133)).alloc (.cells #[.int .i64 n, .int .i64 least, .int .i64 most, .int .i64 short, vv] 33)).alloc (.cells #[.int .u16 floor] 49)).heap.size = W.heap.size + 3 := by simp
  have hW0b : Below W.heap.size W (((W.alloc (.cells #[.func (.yield l) #[] #[]] 133)).alloc (.cells #[.int .i64 n, .int .i64 least, .int .i64 most, .int .i64 short, vv] 33)).alloc (.cells #[.int .u16 floor] 49)) := (((Below.refl _ W).alloc (Nat.le_refl _) _).alloc (by simp) _).alloc (by simp; omega) _
  have hy0 : (((W.alloc (.cells #[.func (.yield l) #[] #[]] 133)).alloc (.cells #[.int .i64 n, .int .i64 least, .int .i64 most, .int .i64 short, vv] 33)).alloc (.cells #[.int .u16 floor] 49)).heap[W.heap.size]? = some (.cells #[.func (.yield l) #[] #[]] 133 (0, 0)) :=
    (Below.heap_alloc _ _ _ (by simp; omega)).trans ((Below.heap_alloc _ _ _ (by simp)).trans (World.alloc_heap_new W _))
  have hs0 : (((W.alloc (.cells #[.func (.yield l) #[] #[]] 133)).alloc (.cells #[.int .i64 n, .int .i64 least, .int .i64 most, .int .i64 short, vv] 33)).alloc (.cells #[.int .u16 floor] 49)).heap[W.heap.size + 1]? = some (.cells #[.int .i64 n, .int .i64 least, .int .i64 most, .int .i64 short, vv] 33 (0, 0)) :=
    (Below.heap_alloc _ _ _ (by simp)).trans (by have := World.alloc_heap_new (W.alloc (.cells #[.func (.yield l) #[] #[]] 133)) (.cells #[.int .i64 n, .int .i64 least, .int .i64 most, .int .i64 short, vv] 33); rwa [World.size_alloc] at this)
  have ht0 : (((W.alloc (.cells #[.func (.yield l) #[] #[]] 133)).alloc (.cells #[.int .i64 n, .int .i64 least, .int .i64 most, .int .i64 short, vv] 33)).alloc (.cells #[.int .u16 floor] 49)).heap[W.heap.size + 1 + 1]? = some (.cells #[.int .u16 floor] 49 (0, 0)) := by
    have := World.alloc_heap_new ((W.alloc (.cells #[.func (.yield l) #[] #[]] 133)).alloc (.cells #[.int .i64 n, .int .i64 least, .int .i64 most, .int .i64 short, vv] 33)) (.cells #[.int .u16 floor] 49)
    rwa [World.size_alloc, World.size_alloc] at this
  obtain ⟨W0, hW0⟩ : ∃ W0, (((W.alloc (.cells #[.func (.yield l) #[] #[]] 133)).alloc (.cells #[.int .i64 n, .int .i64 least, .int .i64 most, .int .i64 short, vv] 33)).alloc (.cells #[.int .u16 floor] 49)) = W0 := ⟨_, rfl⟩
  rw [hW0] at hW0s hW0b hy0 hs0 ht0 ⊢
  clear hW0
  have hCW : ∀ k, partsC B k → k < W.heap.size := fun k hk => by have := hk.2; omega
  have hJ00 : J [] W0 := OwnFrom.below hJ hJ0 hW0b
  refine wpIn_iter (gf := 83) (lb := #[.pointer (some ⟨W.heap.size + 1, 0, none⟩), .pointer (some ⟨W.heap.size + 1 + 1, 0, none⟩)]) rfl (enters_of Try.func83 (by kernel_rfl) rfl)
    (in1.iter n hn least most short floor vv (W.heap.size + 1) (W.heap.size + 1 + 1) W0 hs0 ht0) (Nat.le_refl _) (fun _ _ => rfl) (fun k hk => by rcases hk with rfl | rfl <;> omega) (fun _ => rfl)
    (fun pre W' => J (pre.flatMap (rowOf least most short x heard n)) W' ∧ CapK (partsC B) W W' ∧ W'.heap[W.heap.size]? = some (.cells #[.func (.yield l) #[] #[]] 133 (0, 0)) ∧ W.heap.size + 3 ≤ W'.heap.size)
    (fun c pre W' => c = .ret ∧ ∃ q p post, partsOf least most short x floor heard n = q ++ p :: post ∧ Jx (q ++ [p]) W')
    (OwnFrom.and (fun s A A' row hs hg hr => hJ _ A A' row hs hg (fun r e => ⟨by have := (hr r e).1; omega, (hr r e).2⟩)) (OwnFrom.and (ownFrom_cap hCW (fun k hk => by have := hCW k hk; omega)) (OwnFrom.and (ownFrom_block (fun _ => _) (by omega)) ownFrom_size)))
    (fun c => OwnFrom.and (ownFrom_pure _ _) (fun s A A' row hs hg hr => by obtain ⟨q, p, post, e1, e2⟩ := hs; exact ⟨q, p, post, e1, hJx _ A A' row e2 hg (fun r e => ⟨by have := (hr r e).1; omega, (hr r e).2⟩)⟩))
    ⟨hJ00, fun k hk => hW0b.block k (hCW k hk), hy0, by omega⟩
    (fun pre h a' W' => ∃ Bh, W0.heap.size ≤ Bh ∧ W'.heap[Bh]? = some (.cells #[.int .i64 h] 3 (0, 0)) ∧ a' = { tmps := #[.func (.yield l) #[] #[], .pointer (some ⟨B, 0, none⟩), .pointer (some ⟨B + 2, 0, none⟩), .pointer (some ⟨B + 3, 0, none⟩), .pointer (some ⟨B + 1, 0, none⟩), .pointer (some ⟨W.heap.size, 0, none⟩), .pointer (some ⟨Bh, 0, none⟩), undef, undef, undef, undef, .agg #[.int .i64 n, .int .i64 least, .int .i64 most, .int .i64 short, vv], .pointer (some ⟨B + 2, 0, none⟩), .int .u16 floor, .func (.func 83) #[] #[.pointer (some ⟨W.heap.size + 1, 0, none⟩), .pointer (some ⟨W.heap.size + 1 + 1, 0, none⟩)], .int .i64 h, undef, undef, undef, undef, undef, undef, undef, undef, undef, undef, undef, undef, undef, undef, undef, undef, undef, undef, undef, undef, undef, undef, undef], defers := [] })
    (fun pre h a' _ A A' row hs hg hr => by obtain ⟨Bh, e1, e2, e3⟩ := hs; exact ⟨Bh, e1, ownFrom_cells (fun (_ : Unit) => #[.int .i64 h]) 3 () A A' row e2 hg hr, e3⟩)
    ?assign ?body ?done ?stop
  case assign =>
    rintro l1 pre h post W1 K hx ⟨hJ1, hcap, hyb, hsz⟩ hK
    gi_wp2
    exact hK _ _ (KeptC.alloc _ _ _ _) ⟨OwnFrom.below hJ hJ1 ((Below.refl _ _).alloc (Nat.le_refl _) _), hcap.alloc hCW (by omega) _, (Below.heap_alloc _ _ _ (by omega)).trans hyb, by simp; omega⟩ ⟨W1.heap.size, by omega, World.alloc_heap_new _ _, rfl⟩
  case body =>
    rintro l1 pre h post a' W1 hx hl1 ⟨r1, hr1⟩ ⟨hJ1, hcap, hyb, hsz⟩ ⟨Bh, hBh, hbh, rfl⟩
    have cc : ∀ k i (v : Value) (cs : Array Value) t, partsC B k → W.heap[k]? = some (.cells cs t (0, 0)) → cs[i]? = some v → W1.cell? ⟨k, i, none⟩ = some v := fun k i v cs t hk hc hv => by
      have := (hcap k hk).trans hc
      simp [World.cell?, this, hv]
    have d00 := cc B 0 _ _ _ ⟨by omega, by omega⟩ B0.out rfl
    have d01 := cc B 1 _ _ _ ⟨by omega, by omega⟩ B0.out rfl
    have d02 := cc B 2 _ _ _ ⟨by omega, by omega⟩ B0.out rfl
    have d03 := cc B 3 _ _ _ ⟨by omega, by omega⟩ B0.out rfl
    have d04 := cc B 4 _ _ _ ⟨by omega, by omega⟩ B0.out rfl
    have d21 := cc (B + 2) 1 _ _ _ ⟨by omega, by omega⟩ B2.out rfl
    have HBH := Lib.hid hbh
    have HYB := Lib.hid hyb
    have HR1 := Lib.hid hr1
    have HX := Lib.hid hx
    clear cc hbh hyb hr1 hx c00 c01 c02 c03 c04 c20 hs0 ht0 hy0
    gi_wp2_with fail
    refine ⟨trivial, rfl, CallsIn.inRound l1 ((callsIn_wide.2 (in.calls _ _ _ _ _ _ _)).mono ?_)⟩
    rintro e w' ⟨rfl, rfl⟩
    gi_wp2
    have hW2s : ((W1.alloc (.cells #[.int .i64 n, .int .i64 least, .int .i64 most, .int .i64 short, vv] 33)).alloc (.cells #[.int .u16 heard] 49)).heap.size = W1.heap.size + 2 := by simp
    have hW2b : Below W1.heap.size W1 ((W1.alloc (.cells #[.int .i64 n, .int .i64 least, .int .i64 most, .int .i64 short, vv] 33)).alloc (.cells #[.int .u16 heard] 49)) := ((Below.refl _ W1).alloc (Nat.le_refl _) _).alloc (by simp) _
    have hs1 : ((W1.alloc (.cells #[.int .i64 n, .int .i64 least, .int .i64 most, .int .i64 short, vv] 33)).alloc (.cells #[.int .u16 heard] 49)).heap[W1.heap.size]? = some (.cells #[.int .i64 n, .int .i64 least, .int .i64 most, .int .i64 short, vv] 33 (0, 0)) := (Below.heap_alloc _ _ _ (by simp)).trans (World.alloc_heap_new W1 _)
    have ht1 : ((W1.alloc (.cells #[.int .i64 n, .int .i64 least, .int .i64 most, .int .i64 short, vv] 33)).alloc (.cells #[.int .u16 heard] 49)).heap[W1.heap.size + 1]? = some (.cells #[.int .u16 heard] 49 (0, 0)) := by
      have := World.alloc_heap_new (W1.alloc (.cells #[.int .i64 n, .int .i64 least, .int .i64 most, .int .i64 short, vv] 33)) (.cells #[.int .u16 heard] 49)
      rwa [World.size_alloc] at this
    obtain ⟨W2, hW2⟩ : ∃ W2, ((W1.alloc (.cells #[.int .i64 n, .int .i64 least, .int .i64 most, .int .i64 short, vv] 33)).alloc (.cells #[.int .u16 heard] 49)) = W2 := ⟨_, rfl⟩
    rw [hW2] at hW2s hW2b hs1 ht1 ⊢
    clear hW2
    have hBh1 : Bh < W1.heap.size := (Array.getElem?_eq_some_iff.1 HBH.out).1
    have hl1s : l1 < W1.heap.size := (Array.getElem?_eq_some_iff.1 HR1.out).1
    refine wpIn_iterN (l₀ := l1) (r₀ := r1) ((hW2b.block l1 hl1s).trans HR1.out) (gf := 83) (lb := #[.pointer (some ⟨W1.heap.size, 0, none⟩), .pointer (some ⟨W1.heap.size + 1, 0, none⟩)]) rfl (enters_of Try.func83 (by kernel_rfl) rfl)
      (in1.iter n hn least most short heard vv W1.heap.size (W1.heap.size + 1) W2 hs1 ht1) (Nat.le_refl _) (fun _ _ => rfl) (fun k hk => by rcases hk with rfl | rfl <;> omega) (fun _ => rfl)
      (fun pre' W' => J (pre.flatMap (rowOf least most short x heard n) ++ pre'.flatMap (voiceOf least most short x h)) W' ∧ CapK (partsC B) W W' ∧ W'.heap[W.heap.size]? = some (.cells #[.func (.yield l) #[] #[]] 133 (0, 0)) ∧ W'.heap[Bh]? = some (.cells #[.int .i64 h] 3 (0, 0)) ∧ KeptC (partsC B) W.heap.size W1 W')
      (fun c pre' W' => c = .ret ∧ (∃ q p post, partsOf least most short x floor heard n = q ++ p :: post ∧ Jx (q ++ [p]) W') ∧ KeptC (partsC B) W.heap.size W1 W')
      (OwnFrom.and (fun s A A' row hs hg hr => hJ _ A A' row hs hg (fun r e => ⟨by have := (hr r e).1; omega, (hr r e).2⟩)) (OwnFrom.and (ownFrom_cap hCW (fun k hk => by have := hCW k hk; omega)) (OwnFrom.and (ownFrom_block (fun _ => _) (by omega)) (OwnFrom.and (ownFrom_block (fun _ => _) (by omega)) (ownFrom_keptC (by omega))))))
      (fun c => OwnFrom.and (ownFrom_pure _ _) (OwnFrom.and (fun s A A' row hs hg hr => by obtain ⟨q, p, post, e1, e2⟩ := hs; exact ⟨q, p, post, e1, hJx _ A A' row e2 hg (fun r e => ⟨by have := (hr r e).1; omega, (hr r e).2⟩)⟩) (ownFrom_keptC (by omega))))
      ⟨by simpa using OwnFrom.below hJ hJ1 hW2b, fun k hk => (hW2b.block k (by have := hCW k hk; omega)).trans (hcap k hk), (hW2b.block _ (by omega)).trans HYB.out, (hW2b.block _ hBh1).trans HBH.out, KeptC.below hW2b (Nat.le_refl _)⟩
      (fun pre' v a'' _ => a'' = { tmps := #[.func (.yield l) #[] #[], .pointer (some ⟨B, 0, none⟩), .pointer (some ⟨B + 2, 0, none⟩), .pointer (some ⟨B + 3, 0, none⟩), .pointer (some ⟨B + 1, 0, none⟩), .pointer (some ⟨W.heap.size, 0, none⟩), .pointer (some ⟨Bh, 0, none⟩), .int .i64 v, undef, undef, undef, .agg #[.int .i64 n, .int .i64 least, .int .i64 most, .int .i64 short, vv], .pointer (some ⟨B + 2, 0, none⟩), .int .u16 floor, .func (.func 83) #[] #[.pointer (some ⟨W.heap.size + 1, 0, none⟩), .pointer (some ⟨W.heap.size + 1 + 1, 0, none⟩)], .int .i64 h, .agg #[.int .i64 n, .int .i64 least, .int .i64 most, .int .i64 short, vv], .pointer (some ⟨B + 2, 1, none⟩), .int .u16 heard, .func (.func 83) #[] #[.pointer (some ⟨W1.heap.size, 0, none⟩), .pointer (some ⟨W1.heap.size + 1, 0, none⟩)], .int .i64 v, undef, undef, undef, undef, undef, undef, undef, undef, undef, undef, undef, undef, undef, undef, undef, undef, undef, undef], defers := [] })
      (fun _ _ _ => ownFrom_pure _ _)
      ?assign2 ?body2 ?done2 ?stop2
    case assign2 =>
      rintro l2 pre' v post' W3 K hx' hi hK
      gi_wp2
      exact hK _ _ (KeptC.refl _ _ _) hi rfl
    case body2 =>
      rintro l2 pre' v post' a'' W3 hx' hl2 _ ⟨hJ3, hcap3, hyb3, hbh3, hkp3⟩ rfl
      have hs3 := hkp3.size
      have cc : ∀ k i (v : Value) (cs : Array Value) t, partsC B k → W.heap[k]? = some (.cells cs t (0, 0)) → cs[i]? = some v → W3.cell? ⟨k, i, none⟩ = some v := fun k i v cs t hk hc hv => by
        have := (hcap3 k hk).trans hc
        simp [World.cell?, this, hv]
      have e10 := cc (B + 1) 0 _ _ _ ⟨by omega, by omega⟩ B1.out rfl
      have e11 := cc (B + 1) 1 _ _ _ ⟨by omega, by omega⟩ B1.out rfl
      have e12 := cc (B + 1) 2 _ _ _ ⟨by omega, by omega⟩ B1.out rfl
      have e13 := cc (B + 1) 3 _ _ _ ⟨by omega, by omega⟩ B1.out rfl
      have e30 := cc (B + 3) 0 _ _ _ ⟨by omega, by omega⟩ B3.out rfl
      have eh : W3.cell? ⟨Bh, 0, none⟩ = some (.int .i64 h) := by simp [World.cell?, hbh3]
      have ey : W3.cell? ⟨W.heap.size, 0, none⟩ = some (.func (.yield l) #[] #[]) := by simp [World.cell?, hyb3]
      have q1 : B + 1 < W3.heap.size := by omega
      have q3 : B + 3 < W3.heap.size := by omega
      have qh : Bh < W3.heap.size := by omega
      have qy : W.heap.size < W3.heap.size := by omega
      have HYB3 := Lib.hid hyb3
      have HBH3 := Lib.hid hbh3
      have HX' := Lib.hid hx'
      clear cc hyb3 hbh3 hx' d00 d01 d02 d03 d04 d21 hs1 ht1
      gi_wp2_with fail
      refine ⟨trivial, rfl, CallsIn.inRound l2 ((callsIn_wide.2 (step.calls n least most short vv x h v _ hx1 hx2 hx3 hx4)).mono ?_)⟩
      rintro e w4 ⟨rfl, hb4⟩
      obtain ⟨r, hr⟩ : ∃ r, stepF least most short x h v = r := ⟨_, rfl⟩
      have hvo : voiceOf least most short x h v = if r.2 then [((h, v), r.1)] else [] := by rw [voiceOf, hr]
      rw [hr]
      obtain ⟨⟨yh, yt, ys, yo⟩, b⟩ := r
      simp only [encSt]
      have hbW : Below W3.heap.size W3 w4 := ((Below.refl _ W3).alloc (Nat.le_refl _) (.cells #[.int .i64 h, .int .i64 v] 65)).trans (hb4.mono (by simp))
      have hs4 : W3.heap.size + 1 ≤ w4.heap.size := by have := hb4.size; simp at this; omega
      have hp0 : (W3.alloc (.cells #[.int .i64 h, .int .i64 v] 65)).heap[W3.heap.size]? = some (.cells #[.int .i64 h, .int .i64 v] 65 (0, 0)) := World.alloc_heap_new W3 _
      have hp4 := (hb4.block W3.heap.size (by simp)).trans hp0
      have f0 : w4.cell? ⟨W3.heap.size, 0, none⟩ = some (.int .i64 h) := by simp [World.cell?, hp4]
      have f1 : w4.cell? ⟨W3.heap.size, 1, none⟩ = some (.int .i64 v) := by simp [World.cell?, hp4]
      have fy : w4.cell? ⟨W.heap.size, 0, none⟩ = some (.func (.yield l) #[] #[]) := (hbW.cell (p := ⟨W.heap.size, 0, none⟩) qy).trans ey
      have q5 : W3.heap.size < w4.heap.size := by omega
      have q6 : W.heap.size < w4.heap.size := by omega
      have hbY : Below W3.heap.size W3 (w4.alloc (.cells #[.int .i64 yh, .int .i64 yt, .int .i64 ys, .bool yo] 109)) := hbW.alloc (by omega) _
      have hJ5 := OwnFrom.below hJ hJ3 hbY
      have hcap5 : CapK (partsC B) W (w4.alloc (.cells #[.int .i64 yh, .int .i64 yt, .int .i64 ys, .bool yo] 109)) := hcap3.below hCW hbY (by omega)
      have hkY : KeptC (partsC B) W.heap.size W3 (w4.alloc (.cells #[.int .i64 yh, .int .i64 yt, .int .i64 ys, .bool yo] 109)) := KeptC.below hbY (Nat.le_refl _)
      have hyY := (hbY.block _ qy).trans HYB3.out
      have hhY := (hbY.block _ qh).trans HBH3.out
      have HVO := Lib.hid hvo
      have HHY := Lib.hid hhY
      have HYY := Lib.hid hyY
      clear hr hp0 hp4 hvo e10 e11 e12 e13 e30 eh ey hhY hyY
      have hkc : ∀ {X Y : World}, KeptC (partsC B) W.heap.size X Y → KeptC (inC W1.heap.size (W1.heap.size + 1)) W2.heap.size X Y := fun hk => hk.mono (fun k q => .inr (by rcases q with rfl | rfl <;> omega)) (by omega)
      cases b
      · gi_wp2
        refine ⟨fun _ h => (by cases h), ?_⟩
        gi_wp2
        refine ⟨hkc hkY, ?_, hcap5, HYY.out, HHY.out, hkp3.trans hkY⟩
        rw [List.flatMap_append]
        simpa [HVO.out] using hJ5
      · have hsplit : ∃ post'', partsOf least most short x floor heard n = (pre.flatMap (rowOf least most short x heard n) ++ pre'.flatMap (voiceOf least most short x h)) ++ ((h, v), ⟨yh, yt, ys, yo⟩) :: post'' := by
          refine ⟨post'.flatMap (voiceOf least most short x h) ++ post.flatMap (rowOf least most short x heard n), ?_⟩
          rw [partsOf, HX.out, List.flatMap_append, List.flatMap_cons, rowOf, HX'.out, List.flatMap_append, List.flatMap_cons, HVO.out]
          simp
        obtain ⟨post'', hsp⟩ := hsplit
        obtain ⟨fn, tmps, assign, body, hy, hR⟩ := hY _ _ _ _ hsp hJ5
        simp only [encPart, encSt] at hy
        have HSP := Lib.hid hsp
        clear hsp hY
        gi_wp2
        refine ⟨rfl, RoundIn.mono hR ?_⟩
        rintro e W6 ⟨hk6, (⟨rfl, hJ6⟩ | ⟨rfl, hJx6⟩)⟩
        · gi_wp2
          have hs6 := hk6.size
          refine ⟨hkc (hkY.trans hk6), ?_, hcap5.kept hCW (by have := hkY.size; omega) hk6 (fun k q => .inl q), (hk6.same _ (.inr (Nat.le_refl _)) (by have := hkY.size; omega)).trans HYY.out, (hk6.same _ (.inr (by omega)) (by have := hkY.size; omega)).trans HHY.out, (hkp3.trans hkY).trans hk6⟩
          rw [List.flatMap_append]
          simpa [HVO.out] using hJ6
        · gi_wp2
          exact ⟨hkc (hkY.trans hk6), rfl, ⟨_, _, _, HSP.out, hJx6⟩, (hkp3.trans hkY).trans hk6⟩
    case done2 =>
      rintro W3 ⟨hJ3, hcap3, hyb3, hbh3, hkp3⟩
      have hs3 := hkp3.size
      gi_wp2
      refine ⟨hkp3.mono (fun k q => .inr (by rcases q with rfl | rfl <;> omega)) (by omega), ?_, hcap3, hyb3, by omega⟩
      rw [List.flatMap_append]
      simpa [rowOf] using hJ3
    case stop2 =>
      rintro c pre' v post' W3 hx' ⟨rfl, hex, hkp3⟩
      gi_wp2
      exact ⟨hkp3.mono (fun k q => .inr (by rcases q with rfl | rfl <;> omega)) (by omega), rfl, hex⟩
  case done =>
    rintro D W1 hD ⟨hJ1, hcap, hyb, hsz⟩ hK
    gi_wp2
    refine ⟨by simp, .inl ⟨_, _, rfl, run_takeDeferred hK, ?_⟩⟩
    refine ⟨_, results_none rfl _ _ _, ⟨_, rfl⟩, .inl ?_⟩
    exact OwnFrom.putObj hJ _ hJ1 (by omega) hK rfl
  case stop =>
    rintro D c pre h post W1 hD hx ⟨rfl, q, p, post', hq, hJx1⟩ hK
    gi_wp2
    refine ⟨by simp, .inl ⟨_, _, rfl, run_takeDeferred hK, ?_⟩⟩
    refine ⟨_, results_none rfl _ _ _, ⟨_, rfl⟩, .inr ⟨q, p, post', hq, ?_⟩⟩
    exact OwnFrom.putObj hJx _ hJx1 (by omega) hK rfl
end Go.Proofs.Ytdnjmhhjjbdieaa.Q
end

section
/- Maps keyed by states: what they hold, told as a set or as a function. -/
namespace Go.Proofs.Ytdnjmhhjjbdieaa.Q
open Go.RowKit Go.Maps
set_option linter.unusedVariables false
set_option linter.unusedSimpArgs false

/-- The states that a map may hold. -/
def InBox (x : St) : Prop := (-2 ≤ x.holder ∧ x.holder ≤ 16) ∧ (0 ≤ x.turn ∧ x.turn ≤ 100) ∧ (0 ≤ x.short ∧ x.short ≤ 100)

theorem keyTypeSt : Try.prog.keyType 109 = true := by kernel_rfl

theorem typesN : Try.prog.types.size = 164 := by kernel_rfl

theorem keyAtSt : Try.prog.keyTypeAt 5 109 = true := by kernel_rfl
theorem laidOutQ : laidOutB Try.prog = true := by kernel_rfl

theorem keyedSt : Keyed Try.prog 109 :=
  Keyed.of_law (deep_law_laid (P := Try.prog) (k := 109) (m := 5) laidOutQ (by omega) (by rw [typesN]; decide) keyAtSt (by rw [Try.underlying109]))

theorem keyLits_ex (d : Nat) (a b c : Int) (o : Bool) (w1 : (Lit.int .i64 a).wf = true) (w2 : (Lit.int .i64 b).wf = true) (w3 : (Lit.int .i64 c).wf = true) : ∃ ls, Try.prog.keyLits (d + 1 + 1) 109 [.int .i64 a, .int .i64 b, .int .i64 c, .bool o] = some ls := by
  have hu := Try.underlying109
  have hui := Try.underlying3
  have hub := Try.underlying4
  have hc : Try.prog.cellsOf 109 = 4 := by kernel_rfl
  have hci : Try.prog.cellsOf 3 = 1 := by kernel_rfl
  have hcb : Try.prog.cellsOf 4 = 1 := by kernel_rfl
  unfold Program.keyLits
  simp only [hu, hc]
  simp [Program.keyLits, hui, hub, hci, hcb, w1, w2, w3]

set_option maxRecDepth 100000 in
theorem keyOf_ex (x : St) (hx : InBox x) : ∃ l, keyOf Try.prog 109 (encSt x) = some l := by
  obtain ⟨⟨h1, h2⟩, ⟨h3, h4⟩, ⟨h5, h6⟩⟩ := hx
  have hu := Try.underlying109
  have hui := Try.underlying3
  have hub := Try.underlying4
  have w1 : (Lit.int .i64 x.holder).wf = true := WalkArith.wf_i64 (by omega)
  have w2 : (Lit.int .i64 x.turn).wf = true := WalkArith.wf_i64 (by omega)
  have w3 : (Lit.int .i64 x.short).wf = true := WalkArith.wf_i64 (by omega)
  have hc : Try.prog.cellsOf 109 = 4 := by kernel_rfl
  unfold keyOf
  rw [hu]
  simp only [keyTypeSt, encSt, Value.formed, hu, hc, Bool.true_and]
  rw [if_pos (by rfl), typesN]
  obtain ⟨ls, hls⟩ := keyLits_ex 163 x.holder x.turn x.short x.own w1 w2 w3
  exact ⟨.string (keyBytes ls), by
    have : Try.prog.keyLits (164 + 1) 109 (Value.agg #[.int .i64 x.holder, .int .i64 x.turn, .int .i64 x.short, .bool x.own]).cells.toList = some ls := hls
    rw [this]; rfl⟩


/-! ### no more entries than there are states -/
open Classical in
theorem nodup_length_le {α : Type} : ∀ (l L : List α), l.Nodup → (∀ a ∈ l, a ∈ L) → l.length ≤ L.length
  | [], _, _, _ => Nat.zero_le _
  | a :: l, L, hn, hs => by
    obtain ⟨h1, h2⟩ := List.nodup_cons.1 hn
    have ha := hs a (by simp)
    have := nodup_length_le l (L.erase a) h2 (fun b hb => (List.mem_erase_of_ne (fun (e : b = a) => h1 (by rw [← e]; exact hb))).2 (hs b (by simp [hb])))
    rw [List.length_erase_of_mem ha] at this
    have := List.length_pos_of_mem ha
    simp only [List.length_cons]
    omega

def unbox (n : Nat) : St := ⟨(n % 19 : Nat) - 2, (n / 19 % 101 : Nat), (n / 1919 % 101 : Nat), n / 193819 == 1⟩
theorem unbox_ex (x : St) (hx : InBox x) : ∃ n, n < 387638 ∧ unbox n = x := by
  obtain ⟨h, t, s, o⟩ := x
  obtain ⟨⟨h1, h2⟩, ⟨h3, h4⟩, ⟨h5, h6⟩⟩ := hx
  simp only at *
  refine ⟨(h + 2).toNat + 19 * t.toNat + 1919 * s.toNat + 193819 * o.toNat, ?_, ?_⟩
  · cases o <;> simp <;> omega
  · have e1 : ((h + 2).toNat + 19 * t.toNat + 1919 * s.toNat + 193819 * o.toNat) % 19 = (h + 2).toNat := by omega
    have e2 : ((h + 2).toNat + 19 * t.toNat + 1919 * s.toNat + 193819 * o.toNat) / 19 % 101 = t.toNat := by omega
    have e3 : ((h + 2).toNat + 19 * t.toNat + 1919 * s.toNat + 193819 * o.toNat) / 1919 % 101 = s.toNat := by omega
    have e4 : ((h + 2).toNat + 19 * t.toNat + 1919 * s.toNat + 193819 * o.toNat) / 193819 = o.toNat := by omega
    unfold unbox
    rw [e1, e2, e3, e4]
    cases o <;> simp <;> omega

/-- The bound on a map's entries. -/
abbrev KB : Nat := 387638

theorem size_le_KB (es : List (Lit × DataW Unit)) (hd : es.Pairwise (fun p q => p.1 ≠ q.1)) (hk : ∀ p ∈ es, ∃ x, InBox x ∧ keyOf Try.prog 109 (encSt x) = some p.1) : es.length ≤ KB := by
  have hn : (es.map Prod.fst).Nodup := by
    rw [List.nodup_iff_pairwise_ne, List.pairwise_map]
    exact hd
  have := nodup_length_le (α := Lit) (es.map Prod.fst) ((List.range KB).filterMap fun n => keyOf Try.prog 109 (encSt (unbox n))) hn (fun a ha => by
    obtain ⟨p, hp, rfl⟩ := List.mem_map.1 ha
    obtain ⟨x, hx, hkx⟩ := hk p hp
    obtain ⟨n, hlt, rfl⟩ := unbox_ex x hx
    exact List.mem_filterMap.2 ⟨n, List.mem_range.2 hlt, hkx⟩)
  have h2 := List.length_filterMap_le (fun n => keyOf Try.prog 109 (encSt (unbox n))) (List.range KB)
  rw [List.length_map] at this
  rw [List.length_range] at h2
  omega


/-! ### a map's block, told as a function of states -/
/-- A kind of elements: their values, how they read. -/
structure Elem (β : Type) where
  t : TypeId
  e : TypeId
  R : Value → Option (DataW Unit × List MemPlace)
  enc : β → Value
  dat : β → DataW Unit
  z : Value
  zd : DataW Unit
  ht : Try.prog.underlying t = some (.map 109 e)
  encR : ∀ b, R (enc b) = some (dat b, [])
  inv : ∀ v b ps, R v = some (dat b, ps) → v = enc b
  hz : ∀ w, (zeroValue e).run Try.prog w = .ok z w
  zR : R z = some (zd, [])
  zinv : ∀ v ps, R v = some (zd, ps) → v = z
  some_dat : ∀ v y, R v = some y → (∃ b, y.1 = dat b) ∨ y.1 = zd

variable {β : Type} (E : Elem β)

/-- What a datum says, as a function. -/
structure Tells (D : DataW Unit) (M : St → Option β) : Prop where
  box : ∀ x, M x ≠ none → InBox x
  at_ : ∀ x kl v, keyOf Try.prog 109 (encSt x) = some kl → M x = some v → has D kl = true ∧ ∀ z, D.atKey kl z = E.dat v
  no : ∀ x kl, keyOf Try.prog 109 (encSt x) = some kl → M x = none → has D kl = false
  keys : ∀ kl, has D kl = true → ∃ x, InBox x ∧ keyOf Try.prog 109 (encSt x) = some kl

/-- Block b is the map M. -/
def MapIs (w : World) (b : Nat) (M : St → Option β) : Prop := ∃ D, w.ownsMap Try.prog 109 E.R b KB D ∧ Tells E D M

variable {E} {w w' : World} {b : Nat} {M : St → Option β}

theorem encSt_inj {x y : St} (h : encSt x = encSt y) : x = y := by
  obtain ⟨a, b, c, d⟩ := x
  obtain ⟨a', b', c', d'⟩ := y
  simp [encSt] at h
  obtain ⟨rfl, rfl, rfl, rfl⟩ := h
  rfl

theorem key_inj {x y : St} {kl : Lit} (hx : keyOf Try.prog 109 (encSt x) = some kl) (hy : keyOf Try.prog 109 (encSt y) = some kl) : x = y := encSt_inj (keyedSt.inj hx hy)

theorem MapIs.lt (h : MapIs E w b M) : b < w.heap.size := by obtain ⟨D, h, _⟩ := h; exact h.lt
theorem MapIs.kept {row : Option Nat} (h : MapIs E w b M) (hg : w.grownBy w' row) (hne : some b ≠ row) : MapIs E w' b M := by obtain ⟨D, h, ht⟩ := h; exact ⟨D, h.kept hg hne, ht⟩
theorem MapIs.same (h : MapIs E w b M) (hb : w'.heap[b]? = w.heap[b]?) : MapIs E w' b M := by
  obtain ⟨D, ⟨es, clock, h1, h2⟩, ht⟩ := h
  exact ⟨D, ⟨es, clock, hb.trans h1, h2⟩, ht⟩
theorem MapIs.isMap (h : MapIs E w b M) : ∃ es clock, w.heap[b]? = some (.map es clock) := by obtain ⟨D, ⟨es, clock, h1, _⟩, _⟩ := h; exact ⟨es, clock, h1⟩

theorem MapIs.made (w : World) : MapIs E (w.alloc (.map #[] 0)) w.heap.size (fun _ => none) :=
  ⟨.map [], (World.ownsMap_made w _ _ _).mono (Nat.zero_le _), ⟨fun x h => absurd rfl h, fun x kl v _ h => (by cases h), fun x kl _ _ => rfl, fun kl h => by cases h⟩⟩

set_option maxRecDepth 100000 in
theorem MapIs.update (h : MapIs E w b M) (x : St) (hx : InBox x) (v : β) :
    ∃ w', (Instr.mapUpdate E.t (.map (some b)) (encSt x) (E.enc v)).run Try.prog w = .ok () w' ∧ MapIs E w' b (fun y => if y = x then some v else M y) ∧ w.grownBy w' (some b) ∧ w.mapTurned w' b ∧ w'.heap.size = w.heap.size := by
  obtain ⟨D, ho, ht⟩ := h
  obtain ⟨kl, hkl⟩ := keyOf_ex x hx
  obtain ⟨w', hrun, ho', hturn⟩ := ho.store (val := E.enc v) keyedSt E.ht (by unfold maxLen KB; omega) hkl (E.encR v)
  have hm : IsMap D := ho.isMap
  have hkk : WideAt.IsKeyLit kl := keyedSt.key hkl
  have hT : Tells E (D.put kl (E.dat v)) (fun y => if y = x then some v else M y) := by
    refine ⟨fun y hy => ?_, fun y kl' u hk hu => ?_, fun y kl' hk hn => ?_, fun kl' hh => ?_⟩
    · by_cases e : y = x
      · exact e ▸ hx
      · rw [if_neg e] at hy; exact ht.box y hy
    · by_cases e : y = x
      · subst e
        rw [if_pos rfl] at hu
        cases hu
        obtain rfl : kl' = kl := Option.some.inj (hk.symm.trans hkl)
        exact ⟨has_put_same hm hkk _, fun z => atKey_put_same hm hkk _ z⟩
      · rw [if_neg e] at hu
        have hne : kl' ≠ kl := fun e' => e (key_inj hk (e' ▸ hkl))
        obtain ⟨h1, h2⟩ := ht.at_ y kl' u hk hu
        exact ⟨(has_put_other hne _).trans h1, fun z => (atKey_put_other hne _ z).trans (h2 z)⟩
    · by_cases e : y = x
      · rw [if_pos e] at hn; cases hn
      · rw [if_neg e] at hn
        have hne : kl' ≠ kl := fun e' => e (key_inj hk (e' ▸ hkl))
        exact (has_put_other hne _).trans (ht.no y kl' hk hn)
    · by_cases e : kl' = kl
      · exact ⟨x, hx, e ▸ hkl⟩
      · exact ht.keys kl' ((has_put_other e _).symm.trans hh)
  refine ⟨w', hrun, ⟨D.put kl (E.dat v), ?_, hT⟩, hturn.grown, hturn, ?_⟩
  · obtain ⟨es, clock, hb, F, hs, hD⟩ := ho'
    refine ⟨es, clock, hb, F, ?_, hD⟩
    obtain ⟨es', hD', hp, hk⟩ := World.ownsMap.entries ⟨es, clock, hb, F, hs, hD⟩ keyedSt
    have e1 : es.size = es'.length := by
      have := length_read (R0 := E.R) (k := 109) (P := Try.prog) es
      rw [← this]
      rw [hD'] at hD
      injection hD with hD
      rw [hD]
    rw [e1]
    refine size_le_KB es' hp fun p hp' => ?_
    refine hT.keys p.1 ?_
    rw [hD']
    exact List.any_eq_true.2 ⟨p, hp', WideAt.sameKey_self (hk p hp')⟩
  · obtain ⟨_, _, _, _, _, rfl⟩ := hturn
    simp [ChangeMaps.setBlock]

theorem MapIs.look (h : MapIs E w b M) (x : St) (hx : InBox x) :
    (Instr.lookup E.t (.map (some b)) (encSt x) false).run Try.prog w = .ok (match M x with | some v => E.enc v | none => E.z) w := by
  obtain ⟨D, ho, ht⟩ := h
  obtain ⟨kl, hkl⟩ := keyOf_ex x hx
  obtain ⟨v, ps, hrun, hv⟩ := ho.lookup keyedSt E.ht (E.hz w) E.zR hkl
  rw [hrun]
  cases hM : M x with
  | none => rw [atKey_of_not_has (ht.no x kl hkl hM)] at hv; rw [E.zinv v ps hv]
  | some u => rw [(ht.at_ x kl u hkl hM).2] at hv; rw [E.inv v u ps hv]

theorem MapIs.lookOk (h : MapIs E w b M) (x : St) (hx : InBox x) :
    (Instr.lookup E.t (.map (some b)) (encSt x) true).run Try.prog w = .ok (.tuple #[(match M x with | some v => E.enc v | none => E.z), .bool (M x).isSome]) w := by
  obtain ⟨D, ho, ht⟩ := h
  obtain ⟨kl, hkl⟩ := keyOf_ex x hx
  obtain ⟨v, ps, hrun, hv⟩ := ho.look_ok keyedSt E.ht (E.hz w) E.zR hkl
  rw [hrun]
  cases hM : M x with
  | none =>
    have h0 := ht.no x kl hkl hM
    rw [atKey_of_not_has h0] at hv
    rw [E.zinv v ps hv, h0]; rfl
  | some u =>
    have h0 := ht.at_ x kl u hkl hM
    rw [h0.2] at hv
    rw [E.inv v u ps hv, h0.1]; rfl

theorem MapIs.len (h : MapIs E w b M) (ty : TypeId) : ∃ n : Nat, n ≤ KB ∧ (Builtin.len_ #[E.t] ty #[.map (some b)]).run Try.prog w = .ok (.int .i64 n) w ∧ (n = 0 ↔ ∀ x, M x = none) := by
  obtain ⟨D, ho, ht⟩ := h
  refine ⟨Maps.size D, ho.size_le, ho.len E.ht ty, ?_⟩
  obtain ⟨es, rfl, hp, hk⟩ := ho.entries keyedSt
  rw [size_eq, List.length_eq_zero_iff]
  constructor
  · rintro rfl x
    cases hM : M x with
    | none => rfl
    | some v =>
      obtain ⟨kl, hkl⟩ := keyOf_ex x (ht.box x (by rw [hM]; simp))
      have := (ht.at_ x kl v hkl hM).1
      cases this
  · intro hall
    cases es with
    | nil => rfl
    | cons p r =>
      have hh : has (.map (p :: r)) p.1 = true := List.any_eq_true.2 ⟨p, by simp, WideAt.sameKey_self (hk p (by simp))⟩
      obtain ⟨x, hx, hkx⟩ := ht.keys p.1 hh
      rw [ht.no x p.1 hkx (hall x)] at hh
      cases hh


/-! ### ranging over a map -/
/-- Block b is the map M; block r is an iterator over it; those of L are still to come. -/
def RangeIs (E : Elem β) (w : World) (b r : Nat) (M : St → Option β) (L : St → Prop) (cnt : Nat) : Prop :=
  ∃ D left, w.ranges Try.prog 109 E.R b r KB D left cnt ∧ Tells E D M ∧ (∀ kl, left kl = true ↔ ∃ x, L x ∧ M x ≠ none ∧ keyOf Try.prog 109 (encSt x) = some kl)

variable {r cnt : Nat} {L : St → Prop}

theorem RangeIs.mapIs (h : RangeIs E w b r M L cnt) : MapIs E w b M := by obtain ⟨D, left, h, ht, _⟩ := h; exact ⟨D, h.owns, ht⟩
theorem RangeIs.ne (h : RangeIs E w b r M L cnt) : r ≠ b := by obtain ⟨D, left, h, _⟩ := h; exact h.ne
theorem RangeIs.lt (h : RangeIs E w b r M L cnt) : r < w.heap.size := by obtain ⟨D, left, h, _⟩ := h; exact h.lt
theorem RangeIs.left_eq (h : RangeIs E w b r M L cnt) : w.rangeLeft b r = cnt := by obtain ⟨D, left, h, _⟩ := h; exact h.left_eq
theorem RangeIs.kept {row : Option Nat} (h : RangeIs E w b r M L cnt) (hg : w.grownBy w' row) (hb : some b ≠ row) (hr : some r ≠ row) : RangeIs E w' b r M L cnt := by
  obtain ⟨D, left, h, ht, hl⟩ := h; exact ⟨D, left, h.kept hg hb hr, ht, hl⟩
theorem RangeIs.same (h : RangeIs E w b r M L cnt) (hb : w'.heap[b]? = w.heap[b]?) (hr : w'.heap[r]? = w.heap[r]?) : RangeIs E w' b r M L cnt := by
  obtain ⟨D, left, ⟨es, clock, since, seen, c0, h1, h2, h3, h4, h5, h6⟩, ht, hl⟩ := h
  exact ⟨D, left, ⟨es, clock, since, seen, c0, hb.trans h1, h2, h3, h4, hr.trans h5, h6⟩, ht, hl⟩
theorem RangeIs.iter (h : RangeIs E w b r M L cnt) : ∃ o : Obj, w.heap[r]? = some o ∧ o.isCells = false := by
  obtain ⟨D, left, ⟨es, clock, since, seen, c0, h1, h2, h3, h4, h5, h6⟩, ht, hl⟩ := h
  exact ⟨_, h5, rfl⟩

theorem MapIs.range (h : MapIs E w b M) :
    ∃ w' cnt, (Instr.range E.t (.map (some b))).run Try.prog w = .ok (.pointer (some ⟨w.heap.size, 0, none⟩)) w' ∧ RangeIs E w' b w.heap.size M (fun x => M x ≠ none) cnt ∧ w.grownBy w' none ∧ w'.heap.size = w.heap.size + 1 := by
  obtain ⟨D, ho, ht⟩ := h
  obtain ⟨w', hrun, hr, hg, hs⟩ := ho.range keyedSt E.ht
  refine ⟨w', _, hrun, ⟨D, _, hr, ht, fun kl => ?_⟩, hg, hs⟩
  constructor
  · intro hh
    obtain ⟨x, hx, hkx⟩ := ht.keys kl hh
    refine ⟨x, ?_, ?_, hkx⟩ <;> (intro hn; rw [ht.no x kl hkx hn] at hh; cases hh)
  · rintro ⟨x, hx, _, hkx⟩
    cases hM : M x with
    | none => exact absurd hM hx
    | some v => exact (ht.at_ x kl v hkx hM).1

theorem RangeIs.next (h : RangeIs E w b r M L cnt) (ty : TypeId) :
    ((∀ x, L x → M x = none) ∧ (Instr.next (.pointer (some ⟨r, 0, none⟩)) false ty).run Try.prog w = .ok (.tuple #[.bool false]) w) ∨
    ∃ x v w' cnt', L x ∧ M x = some v ∧ InBox x ∧ (Instr.next (.pointer (some ⟨r, 0, none⟩)) false ty).run Try.prog w = .ok (.tuple #[.bool true, encSt x, E.enc v]) w' ∧
      RangeIs E w' b r M (fun y => L y ∧ y ≠ x) cnt' ∧ cnt' < cnt ∧ w.grownBy w' (some r) ∧ w'.heap.size = w.heap.size ∧ (Instr.entry (.pointer (some ⟨r, 0, none⟩))).run Try.prog w' = .ok (.tuple #[encSt x, E.enc v]) w' := by
  obtain ⟨D, left, hr, ht, hl⟩ := h
  rcases hr.next keyedSt ty with ⟨_, hno, hrun⟩ | ⟨key, v, kl, y, w', cnt', hkey, hlk, hv, hat, hrun, hr', hlt, hg, hs, hen⟩
  · refine .inl ⟨fun x hx => ?_, hrun⟩
    cases hM : M x with
    | none => rfl
    | some v =>
      obtain ⟨kl, hkl⟩ := keyOf_ex x (ht.box x (by rw [hM]; simp))
      have := (hl kl).2 ⟨x, hx, by rw [hM]; simp, hkl⟩
      rw [hno kl] at this; cases this
  · obtain ⟨x, hx, hne, hkx⟩ := (hl kl).1 hlk
    obtain rfl : key = encSt x := keyedSt.inj hkey hkx
    cases hM : M x with
    | none => exact absurd hM hne
    | some u =>
      have h2 := (ht.at_ x kl u hkx hM).2
      have h3 : y.1 = E.dat u := (hat .nil).symm.trans (h2 .nil)
      obtain rfl : v = E.enc u := E.inv v u y.2 (by rw [hv, ← h3])
      refine .inr ⟨x, u, w', cnt', hx, hM, ht.box x (by rw [hM]; simp), hrun, ⟨D, _, hr', ht, fun kl' => ?_⟩, hlt, hg, hs, hen⟩
      rw [Bool.and_eq_true, hl kl']
      constructor
      · rintro ⟨⟨z, hz, hzn, hkz⟩, hsk⟩
        refine ⟨z, ⟨hz, ?_⟩, hzn, hkz⟩
        rintro rfl
        obtain rfl : kl' = kl := Option.some.inj (hkz.symm.trans hkx)
        rw [WideAt.sameKey_self (keyedSt.key hkz)] at hsk
        cases hsk
      · rintro ⟨z, ⟨hz, hzx⟩, hzn, hkz⟩
        refine ⟨⟨z, hz, hzn, hkz⟩, ?_⟩
        have hne' : kl' ≠ kl := fun e => hzx (key_inj hkz (e ▸ hkx))
        rw [sameKey_ne hne']; rfl

theorem RangeIs.drop (h : RangeIs E w b r M L cnt) (x : St) (hx : InBox x) (ty : TypeId) :
    ∃ w' cnt', (Builtin.delete_ #[E.t, 109] ty #[.map (some b), encSt x]).run Try.prog w = .ok (.tuple #[]) w' ∧
      RangeIs E w' b r (fun y => if y = x then none else M y) (fun y => L y ∧ y ≠ x) cnt' ∧ cnt' ≤ cnt ∧ w.mapTurned w' b := by
  obtain ⟨D, left, hr, ht, hl⟩ := h
  obtain ⟨kl, hkl⟩ := keyOf_ex x hx
  obtain ⟨w', cnt', hrun, hr', hle, hturn⟩ := hr.drop keyedSt E.ht hkl ty
  refine ⟨w', cnt', hrun, ⟨D.del kl, _, hr', ⟨fun y hy => ?_, fun y kl' u hk hu => ?_, fun y kl' hk hn => ?_, fun kl' hh => ?_⟩, fun kl' => ?_⟩, hle, hturn⟩
  · by_cases e : y = x
    · rw [if_pos e] at hy; exact absurd rfl hy
    · rw [if_neg e] at hy; exact ht.box y hy
  · by_cases e : y = x
    · rw [if_pos e] at hu; cases hu
    · rw [if_neg e] at hu
      have hne : kl' ≠ kl := fun e' => e (key_inj hk (e' ▸ hkl))
      obtain ⟨h1, h2⟩ := ht.at_ y kl' u hk hu
      exact ⟨(has_del_other hne).trans h1, fun z => (atKey_del_other hne z).trans (h2 z)⟩
  · by_cases e : y = x
    · subst e
      obtain rfl : kl' = kl := Option.some.inj (hk.symm.trans hkl)
      exact has_del_same
    · rw [if_neg e] at hn
      have hne : kl' ≠ kl := fun e' => e (key_inj hk (e' ▸ hkl))
      exact (has_del_other hne).trans (ht.no y kl' hk hn)
  · by_cases e : kl' = kl
    · rw [e, has_del_same] at hh; cases hh
    · exact ht.keys kl' ((has_del_other e).symm.trans hh)
  · rw [Bool.and_eq_true, hl kl']
    constructor
    · rintro ⟨⟨z, hz, hzn, hkz⟩, hsk⟩
      have hzx : z ≠ x := by
        rintro rfl
        obtain rfl : kl' = kl := Option.some.inj (hkz.symm.trans hkl)
        rw [WideAt.sameKey_self (keyedSt.key hkz)] at hsk
        cases hsk
      exact ⟨z, ⟨hz, hzx⟩, by simp only [if_neg hzx]; exact hzn, hkz⟩
    · rintro ⟨z, ⟨hz, hzx⟩, hzn, hkz⟩
      simp only [if_neg hzx] at hzn
      refine ⟨⟨z, hz, hzn, hkz⟩, ?_⟩
      have hne' : kl' ≠ kl := fun e => hzx (key_inj hkz (e ▸ hkl))
      rw [sameKey_ne hne']; rfl

/-! ### the two kinds of elements -/
theorem plainElem_bool_inv {H : Type} {P : Program} {e : TypeId} (he : P.underlying e = some .bool) {v : Value} {z : DataW H × List MemPlace} (h : plainElem P e v = some z) : ∃ c, v = .bool c ∧ z = (.lit (.bool c), []) := by
  unfold plainElem at h
  rw [he] at h
  cases v <;> simp at h
  exact ⟨_, rfl, h.symm⟩

/-- map[state]bool, all of whose elements are true. -/
noncomputable def EB : Elem Unit where
  t := 104
  e := 4
  R := plainElem Try.prog 4
  enc := fun _ => .bool true
  dat := fun _ => .lit (.bool true)
  z := .bool false
  zd := .lit (.bool false)
  ht := Try.underlying104
  encR := fun _ => plainElem_bool Try.underlying4 true
  inv := fun v b ps h => by
    obtain ⟨c, rfl, hc⟩ := plainElem_bool_inv Try.underlying4 h
    cases hc; rfl
  hz := fun w => by kernel_rfl
  zR := plainElem_bool Try.underlying4 false
  zinv := fun v ps h => by
    obtain ⟨c, rfl, hc⟩ := plainElem_bool_inv Try.underlying4 h
    cases hc; rfl
  some_dat := fun v y h => by
    obtain ⟨c, rfl, rfl⟩ := plainElem_bool_inv Try.underlying4 h
    cases c
    · exact .inr rfl
    · exact .inl ⟨(), rfl⟩

/-- How a pair of counts reads. -/
def pairElem (v : Value) : Option (DataW Unit × List MemPlace) :=
  match v with
  | .agg cs => match cs.toList with
    | [.int .i64 a, .int .i64 b] => some (.agg [.lit (.int .i64 a), .lit (.int .i64 b)], [])
    | _ => none
  | _ => none
theorem pairElem_mk (a b : Int) : pairElem (.agg #[.int .i64 a, .int .i64 b]) = some (.agg [.lit (.int .i64 a), .lit (.int .i64 b)], []) := rfl
theorem pairElem_inv {v : Value} {z : DataW Unit × List MemPlace} (h : pairElem v = some z) : ∃ a b, v = .agg #[.int .i64 a, .int .i64 b] ∧ z = (.agg [.lit (.int .i64 a), .lit (.int .i64 b)], []) := by
  unfold pairElem at h
  split at h
  · rename_i cs
    split at h
    · rename_i a b hc
      cases h
      have : cs = #[.int .i64 a, .int .i64 b] := by rw [← Array.toArray_toList (xs := cs), hc]
      exact ⟨a, b, by rw [this], rfl⟩
    · cases h
  · cases h

/-- map[state][2]int. -/
noncomputable def EP : Elem (Int × Int) where
  t := 116
  e := 115
  R := pairElem
  enc := fun p => .agg #[.int .i64 p.1, .int .i64 p.2]
  dat := fun p => .agg [.lit (.int .i64 p.1), .lit (.int .i64 p.2)]
  z := .agg #[.int .i64 0, .int .i64 0]
  zd := .agg [.lit (.int .i64 0), .lit (.int .i64 0)]
  ht := Try.underlying116
  encR := fun p => pairElem_mk _ _
  inv := fun v p ps h => by
    obtain ⟨a, b, rfl, hc⟩ := pairElem_inv h
    simp at hc
    obtain ⟨⟨rfl, rfl⟩, _⟩ := hc; rfl
  hz := fun w => by kernel_rfl
  zR := pairElem_mk 0 0
  zinv := fun v ps h => by
    obtain ⟨a, b, rfl, hc⟩ := pairElem_inv h
    simp at hc
    obtain ⟨⟨rfl, rfl⟩, _⟩ := hc; rfl
  some_dat := fun v y h => by
    obtain ⟨a, b, rfl, rfl⟩ := pairElem_inv h
    exact .inl ⟨(a, b), rfl⟩

end Go.Proofs.Ytdnjmhhjjbdieaa.Q
end
