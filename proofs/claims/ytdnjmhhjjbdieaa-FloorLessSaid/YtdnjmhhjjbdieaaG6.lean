/- Texts of a proof, joined: see the last one. -/
import Derived.Test.YtdnjmhhjjbdieaaG3
import Derived.Test.YtdnjmhhjjbdieaaG5
import Derived.Laws.BitsAllLaws
namespace Go.Proofs.YtdnjmhhjjbdieaaW.PrintLast
end Go.Proofs.YtdnjmhhjjbdieaaW.PrintLast
namespace Go.Proofs.YtdnjmhhjjbdieaaW.PrintWords
end Go.Proofs.YtdnjmhhjjbdieaaW.PrintWords
section
namespace Go.Proofs.Ytdnjmhhjjbdieaa.Q
open Go.RowKit Go.Shelf Go.Proofs.YtdnjmhhjjbdieaaW.PrintWords Go.Proofs.YtdnjmhhjjbdieaaW.PrintLast
set_option linter.unusedVariables false
set_option linter.unusedSimpArgs false
attribute [local go_sem] Oper.semAt_some
set_option maxRecDepth 100000 in
set_option maxHeartbeats 1000000 in
theorem whole.calls (a0 a1 a2 a3 : Int) (A : Option Addr) (len c g : Nat) (sv : Value) (i : Nat) (w : World) (h : w.heap[g]? = some (.cells #[.int .i64 a0, .int .i64 a1, .int .i64 a2, .int .i64 a3, .slice A len c, sv, .int .i64 i] 107 (0, 0))) :
    Calls Try.prog 72 #[.pointer (some ⟨g, 0, none⟩)] w fun e w' => e = .returned (.bool (decide (i = len))) ∧ Below w.heap.size w w' := by
  have hu := Try.underlying33
  have hu3 := Try.underlying107
  have e4 := cell_of h (i := 4) rfl
  have e6 := cell_of h (i := 6) rfl
  simp only [List.getElem_toArray, List.getElem_cons_zero, List.getElem_cons_succ] at e4 e6
  clear h
  go_enter Try.func72, Try.ntmps72
  go_wp2
  go_still (by kernel_rfl)
  go_wp2
  go_ret
  refine ⟨?_, (Below.refl _ _).drew⟩
  show Ending.returned (Value.bool ((i : Int) == (len : Int))) = _
  congr 2
  by_cases hi : i = len
  · subst hi; simp
  · have : ¬ ((i : Int) = len) := by omega
    simp [hi, this]
theorem Seen.lower {n : Nat} {least most short : Int} {A : Option Addr} {len c g sb cS i lo lo' : Nat} {bs : List Nat} {Ms : Nat → St → Prop} {w : World} (h : Seen n least most short A len c g sb cS i lo bs Ms w) (hlo : lo' ≤ lo) : Seen n least most short A len c g sb cS i lo' bs Ms w := by
  refine ⟨h.obj, ⟨h.row.1, ?_⟩, fun j b hj => ⟨Nat.le_trans hlo (h.maps j b hj).1, (h.maps j b hj).2⟩, h.nodup, Nat.le_trans hlo h.glo⟩
  rcases h.row.2 with q | ⟨g', cap, cur, r1, r2, r3⟩
  · exact .inl q
  · exact .inr ⟨g', cap, cur, r1, Nat.le_trans hlo r2, r3⟩
theorem Seen.below {n : Nat} {least most short : Int} {A : Option Addr} {len c g sb cS i lo : Nat} {bs : List Nat} {Ms : Nat → St → Prop} {w w' : World} (h : Seen n least most short A len c g sb cS i lo bs Ms w) (hb : Below w.heap.size w w') : Seen n least most short A len c g sb cS i lo bs Ms w' :=
  h.same (hb.block _ (Array.getElem?_eq_some_iff.1 h.obj).1) (hb.block _ h.rowlt) (fun b q => hb.block _ (h.maplt q))
theorem Looked.later {n : Nat} {least most short : Int} {A : Option Addr} {c g i lo lo' : Nat} {l : List S52} {w w' : World} (h : Looked n least most short A c l g i lo w) (hlo : lo' ≤ lo) (hb : Below w.heap.size w w') : Looked n least most short A c l g i lo' w' := by
  obtain ⟨sb, cS, bs, hne, ⟨h1, h2⟩ | ⟨h1, h2, h3⟩⟩ := h
  · exact ⟨sb, cS, bs, hne, .inl ⟨h1, (h2.lower hlo).below hb⟩⟩
  · exact ⟨sb, cS, bs, hne, .inr ⟨h1, h2, (h3.lower hlo).below hb⟩⟩
theorem check_ok {a0 a1 a2 a3 : Int} {l : List S52} (h : floor_Scene_check.f a0 a1 a2 a3 l = some 0) : l.length ≤ 40 ∧ (∃ n : Nat, a0 = n ∧ 1 ≤ n ∧ n ≤ 12) ∧ (1 ≤ a2 ∧ a2 ≤ 20) ∧ (1 ≤ a1 ∧ a1 ≤ a2) ∧ (0 ≤ a3 ∧ a3 ≤ 20) ∧ l.all (momOk (knownOf a0)) = true := by
  unfold floor_Scene_check.f at h
  split at h
  · cases h
  · rename_i hl
    split at h
    · rename_i hc
      simp only [win, Bool.and_eq_true, decide_eq_true_eq] at hc
      obtain ⟨⟨⟨⟨h0, h2⟩, h1⟩, h3⟩, h4⟩ := hc
      exact ⟨by omega, ⟨a0.toNat, by omega, by omega, by omega⟩, h2, h1, h3, h4⟩
    · cases h
set_option maxRecDepth 100000 in
set_option maxHeartbeats 1000000 in
theorem checked.bad (a0_0 a0_1 a0_2 a0_3 : Int) (A0_4 : Option Addr) (c0_4 : Nat) (l0_4 : List S52) (r : Int) (w : World) (hr0_4 : Kd.C k52 w A0_4 l0_4.length l0_4) (hc0_4 : l0_4.length ≤ c0_4) (h : floor_Scene_check.f a0_0 a0_1 a0_2 a0_3 l0_4 = some r) (hr : r ≠ 0) :
    Calls Try.prog 50 #[.agg #[.int .i64 a0_0, .int .i64 a0_1, .int .i64 a0_2, .int .i64 a0_3, .slice A0_4 l0_4.length c0_4]] w fun e w' => e = .returned (.tuple #[.pointer none, .int .i64 r]) ∧ Below w.heap.size w w' := by
  have hu := Try.underlying33
  go_enter Try.func50, Try.ntmps50
  have HR := Lib.hid hr0_4
  have HH := Lib.hid h
  clear hr0_4 h
  go_wp2_with fail
  refine (floor_Scene_check.calls a0_0 a0_1 a0_2 a0_3 A0_4 c0_4 l0_4 r _ (Kd.C_below HR.out ((Below.refl _ w).alloc (Nat.le_refl _) _)) hc0_4 HH.out).mono ?_
  rintro e w' ⟨rfl, hb⟩
  have hr2 : (r == 0) = false := by simpa using hr
  have HB := Lib.hid hb
  clear hb
  go_wp2_with fail
  go_ret2
  exact ⟨rfl, ((Below.refl _ w).alloc (Nat.le_refl _) _).trans (HB.out.mono (by simp))⟩
set_option maxRecDepth 100000 in
set_option maxHeartbeats 1000000 in
theorem checked.good (n : Nat) (a0_1 a0_2 a0_3 : Int) (A0_4 : Option Addr) (c0_4 : Nat) (l0_4 : List S52) (w : World) (hr0_4 : Kd.C k52 w A0_4 l0_4.length l0_4) (hc0_4 : l0_4.length ≤ c0_4) (h : floor_Scene_check.f n a0_1 a0_2 a0_3 l0_4 = some 0) :
    Calls Try.prog 50 #[.agg #[.int .i64 n, .int .i64 a0_1, .int .i64 a0_2, .int .i64 a0_3, .slice A0_4 l0_4.length c0_4]] w fun e w' =>
      ∃ g i, e = .returned (.tuple #[.pointer (some ⟨g, 0, none⟩), .int .i64 (if i = l0_4.length then 0 else 10)]) ∧ Below w.heap.size w w' ∧ Looked n a0_1 a0_2 a0_3 A0_4 c0_4 l0_4 g i w.heap.size w' := by
  have hu := Try.underlying33
  obtain ⟨hl, ⟨n', hn', _, hn⟩, _⟩ := check_ok h
  obtain rfl : n = n' := by omega
  go_enter Try.func50, Try.ntmps50
  have HR := Lib.hid hr0_4
  have HH := Lib.hid h
  clear hr0_4 h hn'
  go_wp2_with fail
  refine (floor_Scene_check.calls n a0_1 a0_2 a0_3 A0_4 c0_4 l0_4 0 _ (Kd.C_below HR.out ((Below.refl _ w).alloc (Nat.le_refl _) _)) hc0_4 HH.out).mono ?_
  rintro e w1 ⟨rfl, hb⟩
  have hb1 : Below w.heap.size w w1 := ((Below.refl _ w).alloc (Nat.le_refl _) _).trans (hb.mono (by simp))
  have hx := (hb.block w.heap.size (by simp)).trans (World.alloc_heap_new w _)
  have e0 := cell_of hx (i := 0) rfl
  have e1 := cell_of hx (i := 1) rfl
  have e2 := cell_of hx (i := 2) rfl
  have e3 := cell_of hx (i := 3) rfl
  have e4 := cell_of hx (i := 4) rfl
  simp only [List.getElem_toArray, List.getElem_cons_zero, List.getElem_cons_succ] at e0 e1 e2 e3 e4
  have HB1 := Lib.hid hb1
  clear hb hb1 hx
  go_wp2_with fail
  refine (look.calls n hn a0_1 a0_2 a0_3 A0_4 c0_4 l0_4 hl w1 (Kd.C_below HR.out HB1.out)).mono ?_
  rintro e w2 ⟨g, i, rfl, hb2, hL⟩
  have hL' := hL
  obtain ⟨sb, cS, bs, hne, hcase⟩ := hL'
  have hob : w2.heap[g]? = some (.cells #[.int .i64 n, .int .i64 a0_1, .int .i64 a0_2, .int .i64 a0_3, .slice A0_4 l0_4.length c0_4, .slice (some ⟨sb, 0, none⟩) (i + 1 : Nat) cS, .int .i64 i] 107 (0, 0)) := by
    rcases hcase with ⟨_, h⟩ | ⟨_, _, h⟩ <;> exact h.obj
  have HL := Lib.hid hL
  have HB2 := Lib.hid hb2
  have HOB := Lib.hid hob
  clear hL hb2 hob hne hcase e0 e1 e2 e3 e4
  go_wp2_with fail
  refine (whole.calls n a0_1 a0_2 a0_3 A0_4 l0_4.length c0_4 g _ i w2 HOB.out).mono ?_
  rintro e w3 ⟨rfl, hb3⟩
  have hb13 : Below w.heap.size w w3 := (HB1.out.trans (HB2.out.mono HB1.out.size)).trans (hb3.mono (Nat.le_trans HB1.out.size HB2.out.size))
  have hL3 : Looked n a0_1 a0_2 a0_3 A0_4 c0_4 l0_4 g i w.heap.size w3 := HL.out.later HB1.out.size hb3
  have HB13 := Lib.hid hb13
  have HL3 := Lib.hid hL3
  clear hb3 hb13 hL3
  by_cases hi : i = l0_4.length
  · have hd : decide (i = l0_4.length) = true := by simp [hi]
    rw [hd]
    go_wp2_with fail
    go_ret2
    exact ⟨g, i, by rw [if_pos hi]; rfl, HB13.out, HL3.out⟩
  · have hd : decide (i = l0_4.length) = false := by simp [hi]
    rw [hd]
    go_wp2_with fail
    go_ret2
    exact ⟨g, i, by rw [if_neg hi]; rfl, HB13.out, HL3.out⟩
end Go.Proofs.Ytdnjmhhjjbdieaa.Q
end
section
namespace Go.Proofs.Ytdnjmhhjjbdieaa.Q
open Go.RowKit Go.Shelf Go.Proofs.YtdnjmhhjjbdieaaW.PrintWords Go.Proofs.YtdnjmhhjjbdieaaW.PrintLast
set_option linter.unusedVariables false
theorem rowsIn_round {l m : Nat} {P : Program} {row : String} {args : Array Value} {w : World} {R : Value → World → Prop} (h : Rows P row args w R) : RowsIn (Fence.wide.inRound l) m P row args w R := fun c cs _ => by
  obtain ⟨v, w', r, s⟩ := h c cs
  exact ⟨v, w', r, stepsIn_wide.2 s⟩
section
variable {P : Program} {ops : Array Oper} {md : Region.Mode} {l m : Nat} {Q : Exit → Act → World → Prop}
theorem wpIn_of_wp_round {o : Oper} (hnd : ∀ c, o.op ≠ .defer c) {a : Act} {w : World} {K : Act → World → Prop} (hh : o.wp P a w K Q) (hQ : ¬ LetsOut Q) : o.wpIn (Fence.wide.inRound l) m P a w K Q := by
  unfold Oper.wp at hh
  unfold Oper.wpIn
  refine ⟨fun f _ => trivial, ?_⟩
  rw [Oper.semAt_eq _ _ _ hnd]
  generalize (execOp a.eval o).run P w = r at *
  cases r with
  | ok n w' =>
    cases n <;> simp only [Oper.upon] at hh <;> simp only [Oper.uponIn]
    case enter f args => exact ⟨fun hd => by simp [Fence.wide] at hd, (WideLike.round l).calls hh⟩
    case row row args => exact ⟨fun hd => by simp [Fence.wide] at hd, rowsIn_round hh⟩
    all_goals first | exact hh | exact hh.elim
  | halt x w' => cases x <;> simp only [Oper.upon] at hh <;> first | exact hh | exact hh.elim
theorem wpOpIn_of_wpOp (hnd : noDefer ops = true) {i : Nat} {a : Act} {w : World} {K K' : Act → World → Prop} (h : ∀ a w, K a w → K' a w) (hQ : ¬ LetsOut Q) (hh : wpOp P ops Q i K a w) : wpOpIn (Fence.wide.inRound l) m P ops Q i K' a w := by
  unfold wpOp at hh
  unfold wpOpIn
  split
  · rename_i ho; simp only [ho] at hh; exact h _ _ hh
  · rename_i o ho
    simp only [ho] at hh
    split
    · rename_i hw
      simp only [hw, if_true] at hh
      rcases hh with hh | hh
      · exact Oper.wpIn_mono h (wpIn_of_wp_round (noDefer_spec hnd ho) hh hQ)
      · exact (hQ hh.2).elim
    · rename_i hw
      simp only [hw] at hh
      exact ⟨fun f _ => trivial, h _ _ hh⟩
theorem wpAnyIn_of_any (hnd : noDefer ops = true) (hQ : ¬ LetsOut Q) : ∀ (fuel : Nat) (listed : Array Bool) (a : Act) (w : World), wpAny P md ops Q fuel listed a w → wpAnyIn (Fence.wide.inRound l) m P md ops Q fuel listed a w
  | 0, _, _, _, h => h
  | fuel + 1, _, _, _, h => ⟨h.1, fun i hi => wpOpIn_of_wpOp hnd (fun a' w' h' => wpAnyIn_of_any hnd hQ fuel _ a' w' h') hQ (h.2 i hi)⟩
theorem startIn_ {id n : Nat} {a : Act} {w : World} {S : World → Prop} {ds : List Nat} (T : Act → World → Prop) (L : Array Bool) (hm : P.follows .mixedOrders = true) (hnd : noDefer ops = true) (hn : ops.size = n) (hl : Array.replicate n false = L) (hS : S w.drew)
    (h : S w.drew → wpAnyLast P .any ops (onlyNormal T) S ds n L a w.drew) (hT : ∀ a' w', T a' w' → Q .normal a' w') : (Code.region id ops true).wpIn (Fence.wide.inRound l) m P Q a w := by
  subst hn
  subst hl
  refine wpIn_mono (wpIn_region_any hm (wpAnyIn_of_any hnd (fun ⟨a, w, h⟩ => h) _ _ _ _ (wpAny_of_last _ _ _ _ (h hS)))) (fun e a' w' h' => ?_)
  cases e <;> first | exact hT a' w' h' | exact h'.elim
end
end Go.Proofs.Ytdnjmhhjjbdieaa.Q
end
section
namespace Go.Proofs.Ytdnjmhhjjbdieaa.Q
open Go.RowKit Go.Shelf
set_option linter.unusedVariables false
theorem bits_and_u16_nat (a b : Nat) (ha : a < 65536) (hb : b < 65536) : bits .and .u16 (a : Int) (b : Int) = ((a &&& b : Nat) : Int) := by
  have hx : a &&& b < 2 ^ 16 := Nat.and_lt_two_pow _ (by omega)
  have h1 : (BitVec.ofInt 16 (a : Int)).toNat = a := by
    rw [BitVec.ofInt_natCast, BitVec.toNat_ofNat]; exact Nat.mod_eq_of_lt (by omega)
  have h2 : (BitVec.ofInt 16 (b : Int)).toNat = b := by
    rw [BitVec.ofInt_natCast, BitVec.toNat_ofNat]; exact Nat.mod_eq_of_lt (by omega)
  show IntKind.u16.wrap ((BitVec.ofInt 16 (a : Int) &&& BitVec.ofInt 16 (b : Int)).toNat : Int) = _
  rw [BitVec.toNat_and, h1, h2, IntKind.wrap_u16]
  omega
theorem bits_or_u16_nat (a b : Nat) (ha : a < 65536) (hb : b < 65536) : bits .or .u16 (a : Int) (b : Int) = ((a ||| b : Nat) : Int) := by
  have hx : a ||| b < 2 ^ 16 := Nat.or_lt_two_pow (by omega) (by omega)
  have h1 : (BitVec.ofInt 16 (a : Int)).toNat = a := by
    rw [BitVec.ofInt_natCast, BitVec.toNat_ofNat]; exact Nat.mod_eq_of_lt (by omega)
  have h2 : (BitVec.ofInt 16 (b : Int)).toNat = b := by
    rw [BitVec.ofInt_natCast, BitVec.toNat_ofNat]; exact Nat.mod_eq_of_lt (by omega)
  show IntKind.u16.wrap ((BitVec.ofInt 16 (a : Int) ||| BitVec.ofInt 16 (b : Int)).toNat : Int) = _
  rw [BitVec.toNat_or, h1, h2, IntKind.wrap_u16]
  omega
def pidx (q : Int) : Nat := if q = -1 then 15 else q.toNat
theorem pidx_lt {q : Int} (h1 : -1 ≤ q) (h2 : q ≤ 14) : pidx q < 16 := by unfold pidx; split <;> omega
theorem pidx_inj {p q : Int} (h1 : -1 ≤ p) (h2 : p ≤ 14) (h3 : -1 ≤ q) (h4 : q ≤ 14) (h : pidx p = pidx q) : p = q := by
  unfold pidx at h; split at h <;> split at h <;> omega
theorem bitOf_nat {q : Int} (h1 : -1 ≤ q) (h2 : q ≤ 14) : bitOf q = ((2 ^ pidx q : Nat) : Int) := by
  have hc : ∀ k : Fin 16, bitOf ((k : Nat) - 1 : Int) = ((2 ^ pidx ((k : Nat) - 1 : Int) : Nat) : Int) := by decide
  have := hc ⟨(q + 1).toNat, by omega⟩
  rwa [show (((q + 1).toNat : Nat) : Int) - 1 = q by omega] at this
def IsSet (v : Int) (P : Int → Prop) : Prop := ∃ m : Nat, v = m ∧ m < 65536 ∧ ∀ q, -1 ≤ q → q ≤ 14 → (m.testBit (pidx q) = true ↔ P q)
theorem IsSet.congr {v : Int} {P Q : Int → Prop} (h : IsSet v P) (hq : ∀ q, -1 ≤ q → q ≤ 14 → (P q ↔ Q q)) : IsSet v Q := by
  obtain ⟨m, h1, h2, h3⟩ := h
  exact ⟨m, h1, h2, fun q a b => (h3 q a b).trans (hq q a b)⟩
theorem isSet_zero : IsSet 0 (fun _ => False) := ⟨0, rfl, by omega, fun q _ _ => by simp⟩
theorem IsSet.or {v : Int} {P : Int → Prop} (h : IsSet v P) {q : Int} (h1 : -1 ≤ q) (h2 : q ≤ 14) : IsSet (Go.bits .or .u16 v (bitOf q)) (fun p => P p ∨ p = q) := by
  obtain ⟨m, rfl, hm, hp⟩ := h
  have hl := pidx_lt h1 h2
  have h2l : 2 ^ pidx q < 65536 := Nat.lt_of_lt_of_le (Nat.pow_lt_pow_right (by omega) hl) (by decide)
  refine ⟨m ||| 2 ^ pidx q, ?_, ?_, fun p a b => ?_⟩
  · rw [bitOf_nat h1 h2, bits_or_u16_nat _ _ hm h2l]
  · exact Nat.or_lt_two_pow (n := 16) hm h2l
  · rw [Nat.testBit_or, Nat.testBit_two_pow, Bool.or_eq_true, hp p a b, decide_eq_true_eq]
    exact or_congr Iff.rfl ⟨fun e => (pidx_inj h1 h2 a b e).symm, fun e => by rw [e]⟩
theorem IsSet.unique {v v' : Int} {P : Int → Prop} (h : IsSet v P) (h' : IsSet v' P) : v = v' := by
  obtain ⟨m, rfl, hm, hp⟩ := h
  obtain ⟨m', rfl, hm', hp'⟩ := h'
  congr 1
  apply Nat.eq_of_testBit_eq
  intro k
  by_cases hk : k < 16
  · have key : ∃ q : Int, -1 ≤ q ∧ q ≤ 14 ∧ pidx q = k := by
      by_cases h15 : k = 15
      · exact ⟨-1, by omega, by omega, by subst h15; rfl⟩
      · exact ⟨k, by omega, by omega, by unfold pidx; rw [if_neg (by omega)]; omega⟩
    obtain ⟨q, a, b, rfl⟩ := key
    have := (hp q a b).trans (hp' q a b).symm
    cases h1 : m.testBit (pidx q) <;> cases h2 : m'.testBit (pidx q) <;> simp [h1, h2] at this ⊢
  · have h16 : ∀ x : Nat, x < 65536 → x.testBit k = false := fun x hx => Nat.testBit_lt_two_pow (Nat.lt_of_lt_of_le hx (Nat.le_trans (by decide : 65536 ≤ 2 ^ 16) (Nat.pow_le_pow_right (by omega) (by omega))))
    rw [h16 m hm, h16 m' hm']
theorem inSet_nat {m : Nat} (hm : m < 65536) {q : Int} (h1 : -1 ≤ q) (h2 : q ≤ 14) : inSet m q = m.testBit (pidx q) := by
  have h2l : 2 ^ pidx q < 65536 := Nat.lt_of_lt_of_le (Nat.pow_lt_pow_right (by omega) (pidx_lt h1 h2)) (by decide)
  unfold inSet
  rw [bitOf_nat h1 h2, bits_and_u16_nat _ _ hm h2l]
  cases h : m.testBit (pidx q)
  · have : m &&& 2 ^ pidx q = 0 := by
      apply Nat.eq_of_testBit_eq
      intro k
      rw [Nat.testBit_and, Nat.testBit_two_pow]
      by_cases e : pidx q = k
      · subst e; simp [h]
      · simp [e]
    rw [this]; rfl
  · have : m &&& 2 ^ pidx q ≠ 0 := fun e => by
      have h3 : (m &&& 2 ^ pidx q).testBit (pidx q) = true := by rw [Nat.testBit_and, Nat.testBit_two_pow, h]; simp
      rw [e] at h3; simp at h3
    simpa using this
theorem IsSet.mem {v : Int} {P : Int → Prop} (h : IsSet v P) {q : Int} (h1 : -1 ≤ q) (h2 : q ≤ 14) : inSet v q = true ↔ P q := by
  obtain ⟨m, rfl, hm, hp⟩ := h
  rw [inSet_nat hm h1 h2]; exact hp q h1 h2
def orOf (ps : List Int) : Int := ps.foldl (fun a q => Go.bits .or .u16 a (bitOf q)) 0
theorem orOf_from (ps : List Int) : ∀ (v : Int) (P : Int → Prop), IsSet v P → (∀ q ∈ ps, -1 ≤ q ∧ q ≤ 14) → IsSet (ps.foldl (fun a q => Go.bits .or .u16 a (bitOf q)) v) (fun p => P p ∨ p ∈ ps) := by
  induction ps with
  | nil => intro v P h _; exact h.congr (fun q _ _ => by simp)
  | cons a ps ih =>
    intro v P h hr
    have ha := hr a (by simp)
    refine (ih _ _ (h.or ha.1 ha.2) (fun q hq => hr q (by simp [hq]))).congr (fun q _ _ => ?_)
    simp only [List.mem_cons]
    exact or_assoc
theorem orOf_isSet {ps : List Int} (h : ∀ q ∈ ps, -1 ≤ q ∧ q ≤ 14) : IsSet (orOf ps) (fun p => p ∈ ps) := (orOf_from ps 0 _ isSet_zero h).congr (fun q _ _ => by simp)
end Go.Proofs.Ytdnjmhhjjbdieaa.Q
end
section
namespace Go.Proofs.Ytdnjmhhjjbdieaa.Q
open Go.RowKit Go.Shelf Go.Proofs.YtdnjmhhjjbdieaaW.PrintWords Go.Proofs.YtdnjmhhjjbdieaaW.PrintLast
set_option linter.unusedVariables false
set_option linter.unusedSimpArgs false
attribute [local go_sem] Oper.semAt_some
def Out (ob len : Nat) (F : Nat → Int × Int) (w : World) : Prop :=
  ∃ cs : Array Value, w.heap[ob]? = some (.cells cs 54 (0, 0)) ∧ cs.size = len * 2 ∧ ∀ j, j < len → cs[j * 2]? = some (.int .u16 (F j).1) ∧ cs[j * 2 + 1]? = some (.int .u16 (F j).2)
def upd (F : Nat → Int × Int) (j : Nat) (v : Int × Int) : Nat → Int × Int := fun k => if k = j then v else F k
theorem Out.set0 {ob len : Nat} {F : Nat → Int × Int} {w : World} (h : Out ob len F w) {j : Nat} (hj : j < len) (v : Int) : Out ob len (upd F j (v, (F j).2)) (w.setCell ⟨ob, j * 2, none⟩ (.int .u16 v)) := by
  obtain ⟨cs, h1, h2, h3⟩ := h
  refine ⟨_, heap_set h1 _ _, by simpa using h2, fun k hk => ?_⟩
  have hl : j * 2 < cs.size := by omega
  by_cases e : k = j
  · subst e
    refine ⟨?_, ?_⟩
    · rw [Array.getElem?_setIfInBounds_self_of_lt hl]; simp [upd]
    · rw [Array.getElem?_setIfInBounds_ne (by omega)]; simpa [upd] using (h3 k hk).2
  · refine ⟨?_, ?_⟩
    · rw [Array.getElem?_setIfInBounds_ne (by omega)]; simpa [upd, e] using (h3 k hk).1
    · rw [Array.getElem?_setIfInBounds_ne (by omega)]; simpa [upd, e] using (h3 k hk).2
theorem Out.set1 {ob len : Nat} {F : Nat → Int × Int} {w : World} (h : Out ob len F w) {j : Nat} (hj : j < len) (v : Int) : Out ob len (upd F j ((F j).1, v)) (w.setCell ⟨ob, j * 2 + 1, none⟩ (.int .u16 v)) := by
  obtain ⟨cs, h1, h2, h3⟩ := h
  refine ⟨_, heap_set h1 _ _, by simpa using h2, fun k hk => ?_⟩
  have hl : j * 2 + 1 < cs.size := by omega
  by_cases e : k = j
  · subst e
    refine ⟨?_, ?_⟩
    · rw [Array.getElem?_setIfInBounds_ne (by omega)]; simpa [upd] using (h3 k hk).1
    · rw [Array.getElem?_setIfInBounds_self_of_lt hl]; simp [upd]
  · refine ⟨?_, ?_⟩
    · rw [Array.getElem?_setIfInBounds_ne (by omega)]; simpa [upd, e] using (h3 k hk).1
    · rw [Array.getElem?_setIfInBounds_ne (by omega)]; simpa [upd, e] using (h3 k hk).2
theorem Out.cell0 {ob len : Nat} {F : Nat → Int × Int} {w : World} (h : Out ob len F w) {j : Nat} (hj : j < len) : w.cell? ⟨ob, j * 2, none⟩ = some (.int .u16 (F j).1) := by
  obtain ⟨cs, h1, h2, h3⟩ := h
  exact cell_of h1 (h3 j hj).1
theorem Out.cell1 {ob len : Nat} {F : Nat → Int × Int} {w : World} (h : Out ob len F w) {j : Nat} (hj : j < len) : w.cell? ⟨ob, j * 2 + 1, none⟩ = some (.int .u16 (F j).2) := by
  obtain ⟨cs, h1, h2, h3⟩ := h
  exact cell_of h1 (h3 j hj).2
theorem Out.free {ob len : Nat} {F : Nat → Int × Int} {w : World} (h : Out ob len F w) (k : Nat) : w.frozen? ⟨ob, k, none⟩ = false := by
  obtain ⟨cs, h1, h2, h3⟩ := h
  exact not_frozen h1
theorem Out.lt {ob len : Nat} {F : Nat → Int × Int} {w : World} (h : Out ob len F w) : ob < w.heap.size := by
  obtain ⟨cs, h1, h2, h3⟩ := h
  exact (Array.getElem?_eq_some_iff.1 h1).1
theorem Out.same {ob len : Nat} {F : Nat → Int × Int} {w w' : World} (h : Out ob len F w) (hb : w'.heap[ob]? = w.heap[ob]?) : Out ob len F w' := by
  obtain ⟨cs, h1, h2, h3⟩ := h
  exact ⟨cs, hb.trans h1, h2, h3⟩
theorem ownFrom_out {γ : Type} {B ob len : Nat} {F : γ → Nat → Int × Int} : OwnFrom B (fun (s : γ) W => Out ob len (F s) W) :=
  fun s W W' row hs hg hr => by
    obtain ⟨cs, h1, h2, h3⟩ := hs
    exact ⟨cs, (ownFrom_cells (fun (_ : Unit) => cs) 54 () W W' row h1 hg hr), h2, h3⟩
def holdBy (least most short : Int) (n : Nat) (mf mh : Int) (S T : St → Prop) (q : Int) : Prop := ∃ x, S x ∧ ∃ p ∈ partsOf least most short x mf mh n, T p.2 ∧ p.1.1 = q
def voiceBy (least most short : Int) (n : Nat) (mf mh : Int) (S T : St → Prop) (q : Int) : Prop := ∃ x, S x ∧ ∃ p ∈ partsOf least most short x mf mh n, T p.2 ∧ p.1.2 = q
set_option maxRecDepth 100000 in
set_option maxHeartbeats 4000000 in
theorem who.fill (n : Nat) (hn : n ≤ 12) (least most short mf mh : Int) (vv : Value) (S T : St → Prop) (i : Nat) (hi : i ≤ 45) (hS : ∀ x, S x → Small x i)
    (sc xc oc ic cm g sb lenS cS ob len j bi bj rb lo cnt : Nat) (gcs : Array Value) (F0 : Nat → Int × Int) (ds : List Deferred) (Q : Exit → Act → World → Prop) (v0 v2 v3 v5 v9 v10 v11 v12 v13 v14 v15 v16 v17 v18 v19 v20 v21 v22 v23 v24 v25 v26 v27 v28 v29 v30 v31 v32 v33 v34 v35 v36 v37 v38 v40 v41 v42 v43 v44 v45 v46 v47 v48 v49 v50 v51 v52 v53 v54 v55 v56 v57 v58 v59 v60 v61 v62 v63 v64 v65 v66 v67 v68 v69 v70 v71 v72 v73 v74 v75 v76 v77 v78 v79 v80 v81 v82 v83 : Value) (W : World)
    (hr : RangeIs EB W bi rb (setOf S) (fun x => setOf S x ≠ none) cnt) (hb : MapIs EB W bj (setOf T)) (hbn : bi ≠ bj) (hrj : rb ≠ bj)
    (h1 : W.heap[sc]? = some (.cells #[.int .i64 n, .int .i64 least, .int .i64 most, .int .i64 short, vv] 33 (0, 0)))
    (h2 : W.heap[cm]? = some (.cells #[.int .u16 mf, .int .u16 mh] 52 (0, 0)))
    (h3 : W.heap[xc]? = some (.cells #[.pointer (some ⟨g, 0, none⟩)] 101 (0, 0)))
    (h4 : W.heap[oc]? = some (.cells #[.slice (some ⟨ob, 0, none⟩) len len] 27 (0, 0)))
    (h5 : W.heap[ic]? = some (.cells #[.int .i64 j] 3 (0, 0)))
    (h6 : W.heap[g]? = some (.cells gcs 107 (0, 0))) (h6' : gcs[5]? = some (.slice (some ⟨sb, 0, none⟩) lenS cS))
    (h7 : W.cell? ⟨sb, j + 1, none⟩ = some (.map (some bj))) (h7' : sb ≠ ob) (hj : j < len) (hl : len ≤ 40) (hlS : j + 1 < lenS) (hlS2 : lenS ≤ 100)
    (hsb : ∃ cur, W.heap[sb]? = some (.cells cur 104 (0, 0)))
    (hO : Out ob len F0 W) (hO1 : IsSet (F0 j).1 (fun _ => False)) (hO2 : IsSet (F0 j).2 (fun _ => False))
    (hlo : lo ≤ W.heap.size) (hds : Coll lo W.heap.size ds W)
    (hdone : ∀ (ds' : List Deferred) (u9 u10 u11 u40 u41 u42 u43 u44 u45 u46 u47 u50 u51 u52 u53 u54 u55 u56 u57 u58 u59 u60 u61 u62 u63 u64 u65 u66 u67 u68 u69 u70 u71 u72 u73 u74 u75 u76 u77 u78 u79 u80 u81 : Value) (F : Nat → Int × Int) (W' : World), Fr (fun k => k = ob ∨ k = rb) W W' → Out ob len F W' → (∀ k, k ≠ j → F k = F0 k) → IsSet (F j).1 (holdBy least most short n mf mh S T) → IsSet (F j).2 (voiceBy least most short n mf mh S T) →
      MapIs EB W' bi (setOf S) → Coll lo W'.heap.size ds' W' → Q .normal { tmps := (List.toArray (v0 :: (.pointer (some ⟨sc, 0, none⟩)) :: v2 :: v3 :: (.pointer (some ⟨xc, 0, none⟩)) :: v5 :: (.pointer (some ⟨oc, 0, none⟩)) :: (.pointer (some ⟨ic, 0, none⟩)) :: (.pointer (some ⟨cm, 0, none⟩)) :: u9 :: u10 :: u11 :: v12 :: v13 :: v14 :: v15 :: v16 :: v17 :: v18 :: v19 :: v20 :: v21 :: v22 :: v23 :: v24 :: v25 :: v26 :: v27 :: v28 :: v29 :: v30 :: v31 :: v32 :: v33 :: v34 :: v35 :: v36 :: v37 :: v38 :: (.pointer (some ⟨rb, 0, none⟩)) :: u40 :: u41 :: u42 :: u43 :: u44 :: u45 :: u46 :: u47 :: v48 :: v49 :: u50 :: u51 :: u52 :: u53 :: u54 :: u55 :: u56 :: u57 :: u58 :: u59 :: u60 :: u61 :: u62 :: u63 :: u64 :: u65 :: u66 :: u67 :: u68 :: u69 :: u70 :: u71 :: u72 :: u73 :: u74 :: u75 :: u76 :: u77 :: u78 :: u79 :: u80 :: u81 :: v82 :: v83 :: [])), defers := ds' } W') :
    (blockOf 2 Try.f18).wpIn Fence.wide 0 Try.prog (Exit.inBlock 2 Q) { tmps := (List.toArray (v0 :: (.pointer (some ⟨sc, 0, none⟩)) :: v2 :: v3 :: (.pointer (some ⟨xc, 0, none⟩)) :: v5 :: (.pointer (some ⟨oc, 0, none⟩)) :: (.pointer (some ⟨ic, 0, none⟩)) :: (.pointer (some ⟨cm, 0, none⟩)) :: v9 :: v10 :: v11 :: v12 :: v13 :: v14 :: v15 :: v16 :: v17 :: v18 :: v19 :: v20 :: v21 :: v22 :: v23 :: v24 :: v25 :: v26 :: v27 :: v28 :: v29 :: v30 :: v31 :: v32 :: v33 :: v34 :: v35 :: v36 :: v37 :: v38 :: (.pointer (some ⟨rb, 0, none⟩)) :: v40 :: v41 :: v42 :: v43 :: v44 :: v45 :: v46 :: v47 :: v48 :: v49 :: v50 :: v51 :: v52 :: v53 :: v54 :: v55 :: v56 :: v57 :: v58 :: v59 :: v60 :: v61 :: v62 :: v63 :: v64 :: v65 :: v66 :: v67 :: v68 :: v69 :: v70 :: v71 :: v72 :: v73 :: v74 :: v75 :: v76 :: v77 :: v78 :: v79 :: v80 :: v81 :: v82 :: v83 :: [])), defers := ds } W := by
  conv => arg 4; whnf
  have hmx : Try.prog.follows .mixedOrders = true := by kernel_rfl
  have hu := Try.underlying33
  have hu1 := Try.underlying109
  have hu2 := Try.underlying52
  have hu3 := Try.underlying107
  have hu4 := Try.underlying54
  have hu5 := Try.underlying65
  have ksc : sc < W.heap.size := (Array.getElem?_eq_some_iff.1 h1).1
  have kcm : cm < W.heap.size := (Array.getElem?_eq_some_iff.1 h2).1
  have kxc : xc < W.heap.size := (Array.getElem?_eq_some_iff.1 h3).1
  have koc : oc < W.heap.size := (Array.getElem?_eq_some_iff.1 h4).1
  have kic : ic < W.heap.size := (Array.getElem?_eq_some_iff.1 h5).1
  have kg : g < W.heap.size := (Array.getElem?_eq_some_iff.1 h6).1
  obtain ⟨ocs, hocs, _, _⟩ := id hO
  have no : ∀ {k : Nat} {cs : Array Value} {t : TypeId}, W.heap[k]? = some (.cells cs t (0, 0)) → t ≠ 54 → ¬ (k = ob ∨ k = rb) := fun hk ht h => by
    rcases h with rfl | rfl
    · rw [hocs] at hk; cases hk; exact ht rfl
    · obtain ⟨o, e, ec⟩ := hr.iter; rw [hk] at e; cases e; cases ec
  have nosc := no h1 (by decide)
  have nocm := no h2 (by decide)
  have noxc := no h3 (by decide)
  have nooc := no h4 (by decide)
  have noic := no h5 (by decide)
  have nog := no h6 (by decide)
  obtain ⟨scur, hscur⟩ := hsb
  have nosb := no hscur (by decide)
  have norb : rb ≠ ob := fun e => by
    subst e
    obtain ⟨o, e, ec⟩ := hr.iter; rw [hocs] at e; cases e; cases ec
  have nobi : bi ≠ ob := fun e => by
    subst e
    obtain ⟨es, c, e⟩ := hr.mapIs.isMap; rw [hocs] at e; cases e
  have nobj : ¬ (bj = ob ∨ bj = rb) := fun h => by
    rcases h with rfl | rfl
    · obtain ⟨es, c, e⟩ := hb.isMap; rw [hocs] at e; cases e
    · exact hrj rfl
  have H1 := Lib.hid h1
  have H2 := Lib.hid h2
  have H3 := Lib.hid h3
  have H4 := Lib.hid h4
  have H5 := Lib.hid h5
  have H6 := Lib.hid h6
  have H7 := Lib.hid h7
  have HB := Lib.hid hb
  have HO := Lib.hid hocs
  clear h1 h2 h3 h4 h5 h6 h7 hscur hb hocs no
  refine wpIn_loop_lay (fun (tT : List Value) (a' : Act) (wv : World) => ∃ (dfs : List Deferred) (u9 u10 u11 u40 u41 u42 u43 u44 u45 u46 u47 u50 u51 u52 u53 u54 u55 u56 u57 u58 u59 u60 u61 u62 u63 u64 u65 u66 u67 u68 u69 u70 u71 u72 u73 u74 u75 u76 u77 u78 u79 u80 u81 : Value), ((fun dfs w' => ∃ L cnt F, RangeIs EB w' bi rb (setOf S) L cnt ∧ Out ob len F w' ∧ (∀ k, k ≠ j → F k = F0 k) ∧ IsSet (F j).1 (holdBy least most short n mf mh (fun x => S x ∧ ¬ L x) T) ∧ IsSet (F j).2 (voiceBy least most short n mf mh (fun x => S x ∧ ¬ L x) T) ∧
      Fr (fun k => k = ob ∨ k = rb) W w' ∧ Coll lo w'.heap.size dfs w')  dfs wv) ∧ a' = { tmps := (lay [none, none, none, none, none, none, none, none, none, some u9, some u10, some u11, none, none, none, none, none, none, none, none, none, none, none, none, none, none, none, none, none, none, none, none, none, none, none, none, none, none, none, none, some u40, some u41, some u42, some u43, some u44, some u45, some u46, some u47, none, none, some u50, some u51, some u52, some u53, some u54, some u55, some u56, some u57, some u58, some u59, some u60, some u61, some u62, some u63, some u64, some u65, some u66, some u67, some u68, some u69, some u70, some u71, some u72, some u73, some u74, some u75, some u76, some u77, some u78, some u79, some u80, some u81] tT).toArray, defers := dfs }) (fun (a' : Act) (wv : World) => (fun w' => w'.rangeLeft bi rb)  wv) ?atStart ?round
  case' atStart =>
    dsimp only [lay]
    (repeat apply Exists.intro)
    refine ⟨?_, rfl⟩
  case' round =>
    dsimp only [lay]
    intro _ wr hinv
    obtain ⟨dfs, hinv⟩ := hinv
    obtain ⟨u9, hinv⟩ := hinv
    obtain ⟨u10, hinv⟩ := hinv
    obtain ⟨u11, hinv⟩ := hinv
    obtain ⟨u40, hinv⟩ := hinv
    obtain ⟨u41, hinv⟩ := hinv
    obtain ⟨u42, hinv⟩ := hinv
    obtain ⟨u43, hinv⟩ := hinv
    obtain ⟨u44, hinv⟩ := hinv
    obtain ⟨u45, hinv⟩ := hinv
    obtain ⟨u46, hinv⟩ := hinv
    obtain ⟨u47, hinv⟩ := hinv
    obtain ⟨u50, hinv⟩ := hinv
    obtain ⟨u51, hinv⟩ := hinv
    obtain ⟨u52, hinv⟩ := hinv
    obtain ⟨u53, hinv⟩ := hinv
    obtain ⟨u54, hinv⟩ := hinv
    obtain ⟨u55, hinv⟩ := hinv
    obtain ⟨u56, hinv⟩ := hinv
    obtain ⟨u57, hinv⟩ := hinv
    obtain ⟨u58, hinv⟩ := hinv
    obtain ⟨u59, hinv⟩ := hinv
    obtain ⟨u60, hinv⟩ := hinv
    obtain ⟨u61, hinv⟩ := hinv
    obtain ⟨u62, hinv⟩ := hinv
    obtain ⟨u63, hinv⟩ := hinv
    obtain ⟨u64, hinv⟩ := hinv
    obtain ⟨u65, hinv⟩ := hinv
    obtain ⟨u66, hinv⟩ := hinv
    obtain ⟨u67, hinv⟩ := hinv
    obtain ⟨u68, hinv⟩ := hinv
    obtain ⟨u69, hinv⟩ := hinv
    obtain ⟨u70, hinv⟩ := hinv
    obtain ⟨u71, hinv⟩ := hinv
    obtain ⟨u72, hinv⟩ := hinv
    obtain ⟨u73, hinv⟩ := hinv
    obtain ⟨u74, hinv⟩ := hinv
    obtain ⟨u75, hinv⟩ := hinv
    obtain ⟨u76, hinv⟩ := hinv
    obtain ⟨u77, hinv⟩ := hinv
    obtain ⟨u78, hinv⟩ := hinv
    obtain ⟨u79, hinv⟩ := hinv
    obtain ⟨u80, hinv⟩ := hinv
    obtain ⟨u81, hinv⟩ := hinv
    obtain ⟨hrel, ha⟩ := hinv
    subst ha
    try dsimp only
  case atStart =>
    refine ⟨_, cnt, F0, hr, hO, fun _ _ => rfl, hO1.congr (fun q _ _ => ⟨False.elim, fun ⟨x, hx, _⟩ => hx.2 (setOf_ne.2 hx.1)⟩), hO2.congr (fun q _ _ => ⟨False.elim, fun ⟨x, hx, _⟩ => hx.2 (setOf_ne.2 hx.1)⟩), Fr.refl _ _, hds⟩
  case round =>
    obtain ⟨L, cn2, F, hR, hOu, hFo, hI1, hI2, hF, hC⟩ := hrel
    clear hr hO hO1 hO2 hds
    rcases hR.next 0 with ⟨hall, hrun⟩ | ⟨x, v, W1, cnt1, hLx, hMx, hbx, hrun, hR1, hlt, hg1, hs1, hen⟩
    · gi_wp2
      have hno : ∀ x, S x ∧ ¬ L x ↔ S x := fun x => ⟨fun h => h.1, fun h => ⟨h, fun hL => setOf_ne.2 h (hall x hL)⟩⟩
      exact hdone dfs _ _ _ _ _ _ _ _ _ _ _ _ _ _ _ _ _ _ _ _ _ _ _ _ _ _ _ _ _ _ _ _ _ _ _ _ _ _ _ _ _ _ _ F wr hF hOu hFo (hI1.congr (fun q _ _ => exists_congr (fun x => and_congr (hno x) Iff.rfl))) (hI2.congr (fun q _ _ => exists_congr (fun x => and_congr (hno x) Iff.rfl))) hR.mapIs hC
    · simp only [encSt] at hrun hen
      have F1 := hF.trans (Fr.grown hg1 (fun r e => by cases e; exact .inr rfl))
      have e10 := F1.cell (cell_of H1.out (i := 0) rfl) nosc
      have e11 := F1.cell (cell_of H1.out (i := 1) rfl) nosc
      have e12 := F1.cell (cell_of H1.out (i := 2) rfl) nosc
      have e13 := F1.cell (cell_of H1.out (i := 3) rfl) nosc
      have e14 := F1.cell (cell_of H1.out (i := 4) rfl) nosc
      have e20 := F1.cell (cell_of H2.out (i := 0) rfl) nocm
      have e21 := F1.cell (cell_of H2.out (i := 1) rfl) nocm
      simp only [List.getElem_toArray, List.getElem_cons_zero, List.getElem_cons_succ] at e10 e11 e12 e13 e14 e20 e21
      have hsW := F1.size
      have k1 : sc < W1.heap.size := by omega
      have k2 : cm < W1.heap.size := by omega
      have hO1 : Out ob len F W1 := hOu.same (hg1.block _ hOu.lt (fun e => norb (Option.some.inj e).symm))
      have hC1 : Coll lo W1.heap.size dfs W1 := (hC.same (SameMarks.grown hg1 (fun r e => by cases e; exact hR.noMark))).up (by omega)
      have HF1 := Lib.hid F1
      have HO1 := Lib.hid hO1
      have HC1 := Lib.hid hC1
      have HR1 := Lib.hid hR1
      have HI1 := Lib.hid hI1
      have HI2 := Lib.hid hI2
      have HFO := Lib.hid hFo
      have hSx := setOf_some hMx
      have HLE := Lib.hid hR.left_eq
      clear F1 hO1 hC1 hR1 hs1 hF hOu hC hR hg1 hMx hI1 hI2 hFo
      gi_wp2
      obtain ⟨W2, hW2⟩ : ∃ W2, W1.alloc (.cells #[.int .i64 x.holder, .int .i64 x.turn, .int .i64 x.short, .bool x.own] 109) = W2 := ⟨_, rfl⟩
      have hb12 : Below W1.heap.size W1 W2 := by rw [← hW2]; exact (Below.refl _ W1).alloc (Nat.le_refl _) _
      have hW2s : W2.heap.size = W1.heap.size + 1 := by rw [← hW2]; simp
      rw [hW2]
      have HB12 := Lib.hid hb12
      have HW2s := Lib.hid hW2s
      clear hW2 hb12 hW2s e10 e11 e12 e13 e14 e20 e21
      refine ⟨trivial, rfl, (callsIn_wide.2 (parts.calls' n least most short mf mh vv x W2)).mono ?_⟩
      rintro e W3 ⟨rfl, hPA⟩
      have hb13 : Below W1.heap.size W1 W3 := HB12.out.trans (hPA.below.mono (by have := HW2s.out; omega))
      have hs3 := hPA.size
      have hs2 := HW2s.out
      have hs1 : W1.heap.size < W3.heap.size := by omega
      have hf3 : Fr (fun k => k = ob ∨ k = rb) W W3 := HF1.out.trans (Fr.of_below hb13 (fun k q1 q2 => by omega))
      have hR3 : RangeIs EB W3 bi rb (setOf S) (fun y => L y ∧ y ≠ x) cnt1 := HR1.out.same (hb13.block _ HR1.out.mapIs.lt) (hb13.block _ HR1.out.lt)
      have hO3 : Out ob len F W3 := HO1.out.same (hb13.block _ HO1.out.lt)
      have hC3 : Coll lo W1.heap.size dfs W3 := HC1.out.same (SameMarks.below hb13 (Nat.le_refl _))
      have HF3 := Lib.hid hf3
      have HR3 := Lib.hid hR3
      have HO3 := Lib.hid hO3
      have HC3 := Lib.hid hC3
      have HS3 := Lib.hid hs3
      have HS2 := Lib.hid hs2
      have HS1 := Lib.hid hs1
      clear hf3 hR3 hO3 hC3 hb13 hs3 hs2 hs1
      gi_wp2
      have hx0 := hS x hSx
      have hs3 := HS3.out
      have hs2 := HS2.out
      have hs1 := HS1.out
      have hlO := HO3.out.lt
      have hlR := HR3.out.lt
      have hli := HR3.out.mapIs.lt
      refine wpIn_iter (gf := 73) (lb := #[.pointer (some ⟨W2.heap.size, 0, none⟩), .pointer (some ⟨W2.heap.size + 2, 0, none⟩), .pointer (some ⟨W2.heap.size + 3, 0, none⟩), .pointer (some ⟨W2.heap.size + 1, 0, none⟩)]) rfl (enters_of Try.func73 (by kernel_rfl) rfl)
        (hPA.iter hn hx0 (by omega)) (Nat.le_refl _) (fun _ _ => rfl) (fun k hk => by have := hk.2; omega) (fun _ => rfl)
        (fun pre W' => (Fr (fun k => k = ob ∨ k = rb) W W' ∧ RangeIs EB W' bi rb (setOf S) (fun y => L y ∧ y ≠ x) cnt1 ∧ Coll lo W1.heap.size dfs W' ∧ W3.heap.size ≤ W'.heap.size) ∧
          ∃ F, Out ob len F W' ∧ (∀ k, k ≠ j → F k = F0 k) ∧ IsSet (F j).1 (fun q => holdBy least most short n mf mh (fun x => S x ∧ ¬ L x) T q ∨ ∃ p ∈ pre, T p.2 ∧ p.1.1 = q) ∧ IsSet (F j).2 (fun q => voiceBy least most short n mf mh (fun x => S x ∧ ¬ L x) T q ∨ ∃ p ∈ pre, T p.2 ∧ p.1.2 = q))
        (fun c pre W' => False)
        (OwnFrom.and (OwnFrom.and (ownFrom_fr (by have := HF3.out.size; omega)) (OwnFrom.and (ownFrom_range (by omega) (by omega)) (OwnFrom.and (ownFrom_coll (by omega)) ownFrom_size))) (fun s A A' row hs hg hr => by obtain ⟨F, q1, q2⟩ := hs; exact ⟨F, ownFrom_out (F := fun (_ : Unit) => F) () A A' row q1 hg hr, q2⟩))
        (fun c => ownFrom_pure _ _)
        ⟨⟨HF3.out, HR3.out, HC3.out, Nat.le_refl _⟩, F, HO3.out, HFO.out, by simpa using HI1.out, by simpa using HI2.out⟩
        (fun pre p a' W' => ∃ B, W3.heap.size ≤ B ∧ W'.heap[B]? = some (.cells #[.int .i64 p.1.1, .int .i64 p.1.2] 65 (0, 0)) ∧ W'.heap[B + 1]? = some (.cells #[.int .i64 p.2.holder, .int .i64 p.2.turn, .int .i64 p.2.short, .bool p.2.own] 109 (0, 0)) ∧ a' = { tmps := (List.toArray (v0 :: (.pointer (some ⟨sc, 0, none⟩)) :: v2 :: v3 :: (.pointer (some ⟨xc, 0, none⟩)) :: v5 :: (.pointer (some ⟨oc, 0, none⟩)) :: (.pointer (some ⟨ic, 0, none⟩)) :: (.pointer (some ⟨cm, 0, none⟩)) :: (.pointer (some ⟨W1.heap.size, 0, none⟩)) :: (.pointer (some ⟨B, 0, none⟩)) :: (.pointer (some ⟨B + 1, 0, none⟩)) :: v12 :: v13 :: v14 :: v15 :: v16 :: v17 :: v18 :: v19 :: v20 :: v21 :: v22 :: v23 :: v24 :: v25 :: v26 :: v27 :: v28 :: v29 :: v30 :: v31 :: v32 :: v33 :: v34 :: v35 :: v36 :: v37 :: v38 :: (.pointer (some ⟨rb, 0, none⟩)) :: (.tuple #[.bool true, .agg #[.int .i64 x.holder, .int .i64 x.turn, .int .i64 x.short, .bool x.own], EB.enc v]) :: (.bool true) :: (.tuple #[.agg #[.int .i64 x.holder, .int .i64 x.turn, .int .i64 x.short, .bool x.own], EB.enc v]) :: (.agg #[.int .i64 x.holder, .int .i64 x.turn, .int .i64 x.short, .bool x.own]) :: (.agg #[.int .i64 n, .int .i64 least, .int .i64 most, .int .i64 short, vv]) :: (.agg #[.int .i64 x.holder, .int .i64 x.turn, .int .i64 x.short, .bool x.own]) :: (.agg #[.int .u16 mf, .int .u16 mh]) :: (.func (.func 73) #[] #[.pointer (some ⟨W2.heap.size, 0, none⟩), .pointer (some ⟨W2.heap.size + 2, 0, none⟩), .pointer (some ⟨W2.heap.size + 3, 0, none⟩), .pointer (some ⟨W2.heap.size + 1, 0, none⟩)]) :: (.agg #[.int .i64 p.1.1, .int .i64 p.1.2]) :: (.agg #[.int .i64 p.2.holder, .int .i64 p.2.turn, .int .i64 p.2.short, .bool p.2.own]) :: u50 :: u51 :: u52 :: u53 :: u54 :: u55 :: u56 :: u57 :: u58 :: u59 :: u60 :: u61 :: u62 :: u63 :: u64 :: u65 :: u66 :: u67 :: u68 :: u69 :: u70 :: u71 :: u72 :: u73 :: u74 :: u75 :: u76 :: u77 :: u78 :: u79 :: u80 :: u81 :: v82 :: v83 :: [])), defers := [] })
        (fun pre p a' _ A A' row hs hg hr => by obtain ⟨B, e1, e2, e3, e4⟩ := hs; exact ⟨B, e1, ownFrom_cells (fun (_ : Unit) => #[.int .i64 p.1.1, .int .i64 p.1.2]) 65 () A A' row e2 hg hr, ownFrom_cells (fun (_ : Unit) => #[.int .i64 p.2.holder, .int .i64 p.2.turn, .int .i64 p.2.short, .bool p.2.own]) 109 () A A' row e3 hg hr, e4⟩)
        ?assign ?body ?done ?stop
      case assign =>
        rintro l1 pre p post W4 K hx' ⟨⟨hI1, hI2, hI3, hI4⟩, F4, hI5, hI6⟩ hK
        have HI := Lib.hid (⟨hI1, hI2, hI3, hI4⟩ : Fr (fun k => k = ob ∨ k = rb) W W4 ∧ _ ∧ _ ∧ _)
        have HI5 := Lib.hid hI5
        have HI6 := Lib.hid hI6
        clear hI1 hI2 hI3 hI4 hI5 hI6 hs3 hs2 hs1
        simp only [encPart, encSt]
        gi_wp2
        have hI := HI.out
        have hb2 : Below W4.heap.size W4 ((W4.alloc (.cells #[.int .i64 p.1.1, .int .i64 p.1.2] 65)).alloc (.cells #[.int .i64 p.2.holder, .int .i64 p.2.turn, .int .i64 p.2.short, .bool p.2.own] 109)) := ((Below.refl _ W4).alloc (Nat.le_refl _) _).alloc (by simp) _
        exact hK _ _ (KeptC.below hb2 (Nat.le_refl _)) ⟨⟨hI.1.trans (Fr.of_below hb2 (fun k q1 q2 => by omega)), hI.2.1.same (hb2.block _ hI.2.1.mapIs.lt) (hb2.block _ hI.2.1.lt), hI.2.2.1.same (SameMarks.below hb2 (Nat.le_refl _)), by have := hI.2.2.2; have := hb2.size; omega⟩, F4, HI5.out.same (hb2.block _ HI5.out.lt), HI6.out⟩ ⟨_, hI.2.2.2, heap_old (heap_new rfl), heap_new (by simp), rfl⟩
      case body =>
        rintro l1 pre p post a' W4 hx' hl1 ⟨r1, hr1⟩ ⟨hI, F4, hI5, hI6, hI7, hI8⟩ ⟨B, hB, hbB, hbB1, rfl⟩
        have hpm : p ∈ partsOf least most short x mf mh n := by rw [hx']; simp
        have hsp : Small p.2 (i + 1) := small_parts hn hx0 hpm
        obtain ⟨m1, m2, _⟩ := mem_partsOf.1 hpm
        obtain ⟨a1, a2, _⟩ := mem_upTo.1 m1
        obtain ⟨b1, b2, _⟩ := mem_upTo.1 m2
        have hMj4 : MapIs EB W4 bj (setOf T) := HB.out.same (hI.1.same bj HB.out.lt nobj)
        have hlk : (Instr.lookup 104 (.map (some bj)) (.agg #[.int .i64 p.2.holder, .int .i64 p.2.turn, .int .i64 p.2.short, .bool p.2.own]) false).run Try.prog W4.drew = .ok (.bool (setOf T p.2).isSome) W4.drew := by
          have := ((hMj4.same (w' := W4.drew) rfl).look p.2 (hsp.box (by omega)))
          cases hMp : setOf T p.2 <;> (rw [hMp] at this; exact this)
        have e3 := hI.1.cell (cell_of H3.out (i := 0) rfl) noxc
        have e4 := hI.1.cell (cell_of H4.out (i := 0) rfl) nooc
        have e5 := hI.1.cell (cell_of H5.out (i := 0) rfl) noic
        have e6 := hI.1.cell (cell_of H6.out h6') nog
        have e7 := hI.1.cell H7.out nosb
        have f0 := cell_of hbB (i := 0) rfl
        have f1 := cell_of hbB (i := 1) rfl
        have f2 := cell_of hbB1 (i := 0) rfl
        have f3 := cell_of hbB1 (i := 1) rfl
        have f4 := cell_of hbB1 (i := 2) rfl
        have f5 := cell_of hbB1 (i := 3) rfl
        simp only [List.getElem_toArray, List.getElem_cons_zero, List.getElem_cons_succ] at e3 e4 e5 f0 f1 f2 f3 f4 f5
        obtain ⟨j2, hj2⟩ : ∃ j2, j + 1 = j2 := ⟨_, rfl⟩
        rw [hj2] at e7
        have hwr : IntKind.i64.wrap ((j : Int) + 1) = (j2 : Int) := by simp [IntKind.wrap, IntKind.bits, IntKind.signed]; omega
        have hjl2 : (j2 : Int) < lenS := by omega
        have hjl : (j : Int) < len := by omega
        have o0 := hI5.cell0 hj
        have o1 := hI5.cell1 hj
        have g0 := hI5.free (j * 2)
        have g1 := hI5.free (j * 2 + 1)
        have HI := Lib.hid hI
        have HI5 := Lib.hid hI5
        have HI6 := Lib.hid hI6
        have HI7 := Lib.hid hI7
        have HI8 := Lib.hid hI8
        have HPM := Lib.hid hpm
        have HX' := Lib.hid hx'
        clear hI hI5 hI6 hI7 hI8 hpm hx' hMj4 hr1 hbB hbB1 m1 m2 hs1 hs2 hs3 hj2
        gi_wp2
        refine wpIn_region_still (.round l1) hmx (by kernel_rfl) (by kernel_rfl) ?_
        repeat still_step
        refine wpStill_nil ?_
        cases hMp : setOf T p.2 with
        | none =>
          simp only [hMp, Option.isSome_none]
          clear hlk
          gi_wp2
          have hI := HI.out
          have hnT : ¬ T p.2 := fun h => setOf_ne.2 h hMp
          refine ⟨KeptC.drew _ _ _, ⟨hI.1.trans (Fr.drew _), hI.2.1.same rfl rfl, hI.2.2.1.same (SameMarks.drew _), hI.2.2.2⟩, F4, HI5.out.same rfl, HI6.out, HI7.out.congr (fun q _ _ => ?_), HI8.out.congr (fun q _ _ => ?_)⟩
          · exact or_congr Iff.rfl ⟨fun ⟨r, hr, h⟩ => ⟨r, by simp [hr], h⟩, fun ⟨r, hr, h⟩ => by
              rcases List.mem_append.1 hr with hr | hr
              · exact ⟨r, hr, h⟩
              · rw [List.mem_singleton.1 hr] at h; exact (hnT h.1).elim⟩
          · exact or_congr Iff.rfl ⟨fun ⟨r, hr, h⟩ => ⟨r, by simp [hr], h⟩, fun ⟨r, hr, h⟩ => by
              rcases List.mem_append.1 hr with hr | hr
              · exact ⟨r, hr, h⟩
              · rw [List.mem_singleton.1 hr] at h; exact (hnT h.1).elim⟩
        | some u =>
          simp only [hMp, Option.isSome_some]
          clear hlk
          gi_wp2
          refine wpIn_region_still_tail (.round l1) 11 hmx (by kernel_rfl) (by kernel_rfl) ?_
          simp only [List.take_succ_cons, List.take_zero, List.drop_succ_cons, List.drop_zero]
          repeat still_step
          still_call (bit.calls _ _ (by omega) (by omega)).mono (fun e w' h => ⟨h.1, h.2.symm⟩)
          repeat still_step
          refine wpStill_nil ?_
          gi_wp2
          have hBW : ¬ (B = ob ∨ B = rb) := fun h => by have := HS3.out; have := HS1.out; rcases h with h | h <;> omega
          obtain ⟨v1, hv1⟩ : ∃ v1, Go.bits .or .u16 (F4 j).1 (bitOf p.1.1) = v1 := ⟨_, rfl⟩
          rw [hv1]
          obtain ⟨W5, hW5⟩ : ∃ W5, (W4.setCell ⟨ob, j * 2, none⟩ (.int .u16 v1)).drew.drew = W5 := ⟨_, rfl⟩
          rw [hW5]
          have hF45x : Fr (fun k => k = ob) W4 W5 := by rw [← hW5]; exact ((Fr.setCell (X := fun k => k = ob) W4 ⟨ob, j * 2, none⟩ _ rfl).trans (Fr.drew _)).trans (Fr.drew _)
          have hF45 : Fr (fun k => k = ob ∨ k = rb) W4 W5 := hF45x.mono (fun k _ h => .inl h)
          have HF45x := Lib.hid hF45x
          clear hF45x
          have hO5 : Out ob len (upd F4 j (v1, (F4 j).2)) W5 := by rw [← hW5]; exact (HI5.out.set0 hj v1).same rfl
          have hk5 : KeptC (partsC W2.heap.size) W3.heap.size W4 W5 := by
            rw [← hW5]
            exact (KeptC.setCell (B := W3.heap.size) W4 ⟨ob, j * 2, none⟩ _ (fun hc => by have h : W2.heap.size ≤ ob := hc.1; have := HO1.out.lt; have := HS2.out; omega) (by show ob < W3.heap.size; exact hlO)).trans ((KeptC.drew _ _ _).trans (KeptC.drew _ _ _))
          have hm5 : SameMarks W4 W5 := by rw [← hW5]; exact (SameMarks.setCell _ _ _).trans ((SameMarks.drew _).trans (SameMarks.drew _))
          have ee4 := hF45.cell e4 nooc
          have ee5 := hF45.cell e5 noic
          have ff1 := hF45.cell f1 hBW
          have oo1 := hO5.cell1 hj
          have gg1 := hO5.free (j * 2 + 1)
          have hu5' : (upd F4 j (v1, (F4 j).2) j).2 = (F4 j).2 := by simp [upd]
          rw [hu5'] at oo1
          have HF45 := Lib.hid hF45
          have HO5 := Lib.hid hO5
          have HK5 := Lib.hid hk5
          have HM5 := Lib.hid hm5
          have HV1 := Lib.hid hv1
          clear hF45 hO5 hk5 hm5 hv1 hW5 e3 e4 e5 e6 e7 f0 f1 f2 f3 f4 f5 o0 o1 g0 g1
          gi_wp2
          refine wpIn_region_still_tail (.round l1) 11 hmx (by kernel_rfl) (by kernel_rfl) ?_
          simp only [List.take_succ_cons, List.take_zero, List.drop_succ_cons, List.drop_zero]
          repeat still_step
          still_call (bit.calls _ _ (by omega) (by omega)).mono (fun e w' h => ⟨h.1, h.2.symm⟩)
          repeat still_step
          refine wpStill_nil ?_
          gi_wp2
          obtain ⟨v2, hv2⟩ : ∃ v2, Go.bits .or .u16 (F4 j).2 (bitOf p.1.2) = v2 := ⟨_, rfl⟩
          rw [hv2]
          have hI := HI.out
          have hF46 : Fr (fun k => k = ob ∨ k = rb) W4 (W5.setCell ⟨ob, j * 2 + 1, none⟩ (.int .u16 v2)).drew := (HF45.out.trans (Fr.setCell _ _ _ (.inl rfl))).trans (Fr.drew _)
          have hO6 : Out ob len (upd (upd F4 j (v1, (F4 j).2)) j ((upd F4 j (v1, (F4 j).2) j).1, v2)) (W5.setCell ⟨ob, j * 2 + 1, none⟩ (.int .u16 v2)).drew := (HO5.out.set1 hj v2).same rfl
          have hk6 : KeptC (partsC W2.heap.size) W3.heap.size W4 (W5.setCell ⟨ob, j * 2 + 1, none⟩ (.int .u16 v2)).drew :=
            HK5.out.trans ((KeptC.setCell (B := W3.heap.size) W5 ⟨ob, j * 2 + 1, none⟩ _ (fun hc => by have h : W2.heap.size ≤ ob := hc.1; have := HO1.out.lt; have := HS2.out; omega) (by show ob < W3.heap.size; exact hlO)).trans (KeptC.drew _ _ _))
          have hm6 : SameMarks W4 (W5.setCell ⟨ob, j * 2 + 1, none⟩ (.int .u16 v2)).drew := HM5.out.trans ((SameMarks.setCell _ _ _).trans (SameMarks.drew _))
          have hR6 : RangeIs EB (W5.setCell ⟨ob, j * 2 + 1, none⟩ (.int .u16 v2)).drew bi rb (setOf S) (fun y => L y ∧ y ≠ x) cnt1 := by
            have hset : ∀ (k : Nat), k ≠ ob → k < W4.heap.size → (W5.setCell ⟨ob, j * 2 + 1, none⟩ (.int .u16 v2)).drew.heap[k]? = W4.heap[k]? := fun k hk hkl => by
              refine (Below.heap_setCell _ _ _ _ hk).trans ?_
              exact HF45x.out.same k hkl hk
            exact hI.2.1.same (hset bi nobi hI.2.1.mapIs.lt) (hset rb norb hI.2.1.lt)
          have hT : T p.2 := setOf_some hMp
          refine ⟨hk6, ⟨hI.1.trans hF46, hR6, hI.2.2.1.same hm6, by have := hF46.size; have := hI.2.2.2; omega⟩, _, hO6, fun k hk => by simp [upd, hk]; exact HI6.out k hk, ?_, ?_⟩
          · have := HI7.out.or a1 (by omega : p.1.1 ≤ 14)
            rw [HV1.out] at this
            simp only [upd, if_true]
            exact this.congr (fun q _ _ => ⟨fun h => by
              rcases h with (h | ⟨r, hr, h⟩) | rfl
              · exact .inl h
              · exact .inr ⟨r, by simp [hr], h⟩
              · exact .inr ⟨p, by simp, hT, rfl⟩, fun h => by
              rcases h with h | ⟨r, hr, h⟩
              · exact .inl (.inl h)
              · rcases List.mem_append.1 hr with hr | hr
                · exact .inl (.inr ⟨r, hr, h⟩)
                · rw [List.mem_singleton.1 hr] at h; exact .inr h.2.symm⟩)
          · have := HI8.out.or b1 (by omega : p.1.2 ≤ 14)
            rw [hv2] at this
            simp only [upd, if_true]
            exact this.congr (fun q _ _ => ⟨fun h => by
              rcases h with (h | ⟨r, hr, h⟩) | rfl
              · exact .inl h
              · exact .inr ⟨r, by simp [hr], h⟩
              · exact .inr ⟨p, by simp, hT, rfl⟩, fun h => by
              rcases h with h | ⟨r, hr, h⟩
              · exact .inl (.inl h)
              · rcases List.mem_append.1 hr with hr | hr
                · exact .inl (.inr ⟨r, hr, h⟩)
                · rw [List.mem_singleton.1 hr] at h; exact .inr h.2.symm⟩)
      case done =>
        rintro D W5 hD ⟨hI, F5, hO5, hf5, hI7, hI8⟩ hK
        gi_wp2
        refine ⟨?_, ?measure⟩
        · (repeat apply Exists.intro)
          refine ⟨?_, rfl⟩
          have hDl : D < W5.heap.size := (Array.getElem?_eq_some_iff.1 hK).1
          have key : ∀ (f : (Int × Int) × St → Int) (q : Int), ((∃ z, (S z ∧ ¬ L z) ∧ ∃ p ∈ partsOf least most short z mf mh n, T p.2 ∧ f p = q) ∨ ∃ p ∈ partsOf least most short x mf mh n, T p.2 ∧ f p = q) ↔ ∃ z, (S z ∧ ¬ (L z ∧ z ≠ x)) ∧ ∃ p ∈ partsOf least most short z mf mh n, T p.2 ∧ f p = q := fun f q => by
            constructor
            · rintro (⟨z, ⟨q1, q2⟩, q3⟩ | q3)
              · exact ⟨z, ⟨q1, fun h => q2 h.1⟩, q3⟩
              · exact ⟨x, ⟨hSx, fun h => h.2 rfl⟩, q3⟩
            · rintro ⟨z, ⟨q1, q2⟩, q3⟩
              by_cases e : z = x
              · subst e; exact .inr q3
              · exact .inl ⟨z, ⟨q1, fun h => q2 ⟨h, e⟩⟩, q3⟩
          exact ⟨_, cnt1, F5, hI.2.1, hO5, hf5, hI7.congr (fun q _ _ => key (fun p => p.1.1) q), hI8.congr (fun q _ _ => key (fun p => p.1.2) q), hI.1, hI.2.2.1.push (by have := HF3.out.size; omega) (by omega) hDl hK⟩
        case measure =>
          rw [hI.2.1.left_eq, HLE.out]; exact hlt
      case stop =>
        rintro D c pre p post W5 hD hx' hf hK
        exact hf.elim
end Go.Proofs.Ytdnjmhhjjbdieaa.Q
end
section
namespace Go.Proofs.Ytdnjmhhjjbdieaa.Q
open Go.RowKit Go.Shelf Go.Proofs.YtdnjmhhjjbdieaaW.PrintWords Go.Proofs.YtdnjmhhjjbdieaaW.PrintLast
set_option linter.unusedVariables false
set_option linter.unusedSimpArgs false
attribute [local go_sem] Oper.semAt_some
def Found (least most short : Int) (n : Nat) (l : List S52) (j : Nat) (v : Int × Int) : Prop :=
  ∀ m, l[j]? = some m → IsSet v.1 (holdBy least most short n m.f0 m.f1 (pruned least most short n l 0 j) (pruned least most short n l 0 (j + 1))) ∧
    IsSet v.2 (voiceBy least most short n m.f0 m.f1 (pruned least most short n l 0 j) (pruned least most short n l 0 (j + 1)))
set_option maxRecDepth 100000 in
set_option maxHeartbeats 4000000 in
theorem who.rounds (n : Nat) (hn : n ≤ 12) (least most short : Int) (A : Option Addr) (c : Nat) (l : List S52) (hl : l.length ≤ 40)
    (sc xc oc g sb cS ob lo : Nat) (bs : List Nat) (Q : Exit → Act → World → Prop) (v0 v2 v3 v5 v7 v8 v9 v10 v11 v12 v13 v14 v15 v16 v17 v18 v19 v20 v21 v22 v23 v24 v28 v29 v30 v31 v32 v33 v34 v35 v36 v37 v38 v39 v40 v41 v42 v43 v44 v45 v46 v47 v48 v49 v50 v51 v52 v53 v54 v55 v56 v57 v58 v59 v60 v61 v62 v63 v64 v65 v66 v67 v68 v69 v70 v71 v72 v73 v74 v75 v76 v77 v78 v79 v80 v81 v82 v83 : Value) (W : World)
    (hA : Kd.C k52 W A l.length l) (hAo : ∀ ad, A = some ad → 0 < l.length → ad.block ≠ ob)
    (h1 : W.heap[sc]? = some (.cells #[.int .i64 n, .int .i64 least, .int .i64 most, .int .i64 short, .slice A l.length c] 33 (0, 0)))
    (h3 : W.heap[xc]? = some (.cells #[.pointer (some ⟨g, 0, none⟩)] 101 (0, 0)))
    (h4 : W.heap[oc]? = some (.cells #[.slice (some ⟨ob, 0, none⟩) l.length l.length] 27 (0, 0)))
    (hs : Seen n least most short A l.length c g sb cS l.length lo bs (pruned least most short n l 0) W)
    (hO : Out ob l.length (fun _ => (0, 0)) W) (hlo : lo ≤ W.heap.size)
    (hdone : ∀ (ds' : List Deferred) (u7 u8 u9 u10 u11 u27 u28 u29 u30 u31 u32 u33 u34 u35 u36 u37 u38 u39 u40 u41 u42 u43 u44 u45 u46 u47 u50 u51 u52 u53 u54 u55 u56 u57 u58 u59 u60 u61 u62 u63 u64 u65 u66 u67 u68 u69 u70 u71 u72 u73 u74 u75 u76 u77 u78 u79 u80 u81 u82 : Value) (F : Nat → Int × Int) (W' : World), Fr (fun k => k = ob) W W' → Out ob l.length F W' → (∀ j, j < l.length → Found least most short n l j (F j)) → Coll W.heap.size W'.heap.size ds' W' →
      Q .normal { tmps := (List.toArray (v0 :: (.pointer (some ⟨sc, 0, none⟩)) :: v2 :: v3 :: (.pointer (some ⟨xc, 0, none⟩)) :: v5 :: (.pointer (some ⟨oc, 0, none⟩)) :: u7 :: u8 :: u9 :: u10 :: u11 :: v12 :: v13 :: v14 :: v15 :: v16 :: v17 :: v18 :: v19 :: v20 :: v21 :: v22 :: v23 :: v24 :: (.slice A l.length c) :: (.int .i64 l.length) :: u27 :: u28 :: u29 :: u30 :: u31 :: u32 :: u33 :: u34 :: u35 :: u36 :: u37 :: u38 :: u39 :: u40 :: u41 :: u42 :: u43 :: u44 :: u45 :: u46 :: u47 :: v48 :: v49 :: u50 :: u51 :: u52 :: u53 :: u54 :: u55 :: u56 :: u57 :: u58 :: u59 :: u60 :: u61 :: u62 :: u63 :: u64 :: u65 :: u66 :: u67 :: u68 :: u69 :: u70 :: u71 :: u72 :: u73 :: u74 :: u75 :: u76 :: u77 :: u78 :: u79 :: u80 :: u81 :: u82 :: v83 :: [])), defers := ds' } W') :
    (blockOf 0 Try.f18).wpIn Fence.wide 0 Try.prog (Exit.inBlock 0 Q) { tmps := (List.toArray (v0 :: (.pointer (some ⟨sc, 0, none⟩)) :: v2 :: v3 :: (.pointer (some ⟨xc, 0, none⟩)) :: v5 :: (.pointer (some ⟨oc, 0, none⟩)) :: v7 :: v8 :: v9 :: v10 :: v11 :: v12 :: v13 :: v14 :: v15 :: v16 :: v17 :: v18 :: v19 :: v20 :: v21 :: v22 :: v23 :: v24 :: (.slice A l.length c) :: (.int .i64 l.length) :: (.int .i64 0) :: v28 :: v29 :: v30 :: v31 :: v32 :: v33 :: v34 :: v35 :: v36 :: v37 :: v38 :: v39 :: v40 :: v41 :: v42 :: v43 :: v44 :: v45 :: v46 :: v47 :: v48 :: v49 :: v50 :: v51 :: v52 :: v53 :: v54 :: v55 :: v56 :: v57 :: v58 :: v59 :: v60 :: v61 :: v62 :: v63 :: v64 :: v65 :: v66 :: v67 :: v68 :: v69 :: v70 :: v71 :: v72 :: v73 :: v74 :: v75 :: v76 :: v77 :: v78 :: v79 :: v80 :: v81 :: v82 :: v83 :: [])), defers := [] } W := by
  conv => arg 4; whnf
  have hmx : Try.prog.follows .mixedOrders = true := by kernel_rfl
  have hu := Try.underlying33
  have hu1 := Try.underlying109
  have hu2 := Try.underlying52
  have hu3 := Try.underlying107
  have H1 := Lib.hid h1
  have H3 := Lib.hid h3
  have H4 := Lib.hid h4
  have HA := Lib.hid hA
  have HS := Lib.hid hs
  obtain ⟨ocs, hocs, _, _⟩ := id hO
  have HOC := Lib.hid hocs
  have ksc : sc < W.heap.size := (Array.getElem?_eq_some_iff.1 h1).1
  have kxc : xc < W.heap.size := (Array.getElem?_eq_some_iff.1 h3).1
  have koc : oc < W.heap.size := (Array.getElem?_eq_some_iff.1 h4).1
  have kg : g < W.heap.size := (Array.getElem?_eq_some_iff.1 hs.obj).1
  have no : ∀ {k : Nat} {cs : Array Value} {t : TypeId}, W.heap[k]? = some (.cells cs t (0, 0)) → t ≠ 54 → k ≠ ob := fun hk ht h => by
    subst h; rw [hocs] at hk; cases hk; exact ht rfl
  have nosc := no h1 (by decide)
  have noxc := no h3 (by decide)
  have nooc := no h4 (by decide)
  have nog := no hs.obj (by decide)
  have hsbh : ∃ cur, W.heap[sb]? = some (.cells cur 104 (0, 0)) := by
    rcases hs.row.2 with ⟨q, _⟩ | ⟨g', cap, cur, r1, r2, r3, _⟩
    · cases q
    · cases r1; exact ⟨cur, r3⟩
  obtain ⟨scur, hscur⟩ := hsbh
  have nosb := no hscur (by decide)
  have HSC := Lib.hid hscur
  have nomap : ∀ {b : Nat} {M : St → Option Unit}, MapIs EB W b M → b ≠ ob := fun hM e => by
    subst e; obtain ⟨es, cl, hm⟩ := hM.isMap; rw [hocs] at hm; cases hm
  clear h1 h3 h4 hA hs hocs hscur no
  refine wpIn_loop_lay (fun (tT : List Value) (a' : Act) (wv : World) => ∃ (dfs : List Deferred) (u7 u8 u9 u10 u11 u27 u28 u29 u30 u31 u32 u33 u34 u35 u36 u37 u38 u39 u40 u41 u42 u43 u44 u45 u46 u47 u50 u51 u52 u53 u54 u55 u56 u57 u58 u59 u60 u61 u62 u63 u64 u65 u66 u67 u68 u69 u70 u71 u72 u73 u74 u75 u76 u77 u78 u79 u80 u81 u82 : Value), ((fun u27 dfs w' => ∃ (k : Nat) (F : Nat → Int × Int), u27 = .int .i64 k ∧ k ≤ l.length ∧ Fr (fun k => k = ob) W w' ∧ Coll W.heap.size w'.heap.size dfs w' ∧ Out ob l.length F w' ∧ (∀ j, j < k → Found least most short n l j (F j)) ∧ (∀ j, k ≤ j → F j = (0, 0))) u27 dfs wv) ∧ a' = { tmps := (lay [none, none, none, none, none, none, none, some u7, some u8, some u9, some u10, some u11, none, none, none, none, none, none, none, none, none, none, none, none, none, none, none, some u27, some u28, some u29, some u30, some u31, some u32, some u33, some u34, some u35, some u36, some u37, some u38, some u39, some u40, some u41, some u42, some u43, some u44, some u45, some u46, some u47, none, none, some u50, some u51, some u52, some u53, some u54, some u55, some u56, some u57, some u58, some u59, some u60, some u61, some u62, some u63, some u64, some u65, some u66, some u67, some u68, some u69, some u70, some u71, some u72, some u73, some u74, some u75, some u76, some u77, some u78, some u79, some u80, some u81, some u82] tT).toArray, defers := dfs }) (fun (a' : Act) (wv : World) => (fun u27 w' => l.length - (intOf u27).toNat) (Array.getD a'.tmps 27 undef) wv) ?atStart ?round
  case' atStart =>
    dsimp only [lay]
    (repeat apply Exists.intro)
    refine ⟨?_, rfl⟩
  case' round =>
    dsimp only [lay]
    intro _ wr hinv
    obtain ⟨dfs, hinv⟩ := hinv
    obtain ⟨u7, hinv⟩ := hinv
    obtain ⟨u8, hinv⟩ := hinv
    obtain ⟨u9, hinv⟩ := hinv
    obtain ⟨u10, hinv⟩ := hinv
    obtain ⟨u11, hinv⟩ := hinv
    obtain ⟨u27, hinv⟩ := hinv
    obtain ⟨u28, hinv⟩ := hinv
    obtain ⟨u29, hinv⟩ := hinv
    obtain ⟨u30, hinv⟩ := hinv
    obtain ⟨u31, hinv⟩ := hinv
    obtain ⟨u32, hinv⟩ := hinv
    obtain ⟨u33, hinv⟩ := hinv
    obtain ⟨u34, hinv⟩ := hinv
    obtain ⟨u35, hinv⟩ := hinv
    obtain ⟨u36, hinv⟩ := hinv
    obtain ⟨u37, hinv⟩ := hinv
    obtain ⟨u38, hinv⟩ := hinv
    obtain ⟨u39, hinv⟩ := hinv
    obtain ⟨u40, hinv⟩ := hinv
    obtain ⟨u41, hinv⟩ := hinv
    obtain ⟨u42, hinv⟩ := hinv
    obtain ⟨u43, hinv⟩ := hinv
    obtain ⟨u44, hinv⟩ := hinv
    obtain ⟨u45, hinv⟩ := hinv
    obtain ⟨u46, hinv⟩ := hinv
    obtain ⟨u47, hinv⟩ := hinv
    obtain ⟨u50, hinv⟩ := hinv
    obtain ⟨u51, hinv⟩ := hinv
    obtain ⟨u52, hinv⟩ := hinv
    obtain ⟨u53, hinv⟩ := hinv
    obtain ⟨u54, hinv⟩ := hinv
    obtain ⟨u55, hinv⟩ := hinv
    obtain ⟨u56, hinv⟩ := hinv
    obtain ⟨u57, hinv⟩ := hinv
    obtain ⟨u58, hinv⟩ := hinv
    obtain ⟨u59, hinv⟩ := hinv
    obtain ⟨u60, hinv⟩ := hinv
    obtain ⟨u61, hinv⟩ := hinv
    obtain ⟨u62, hinv⟩ := hinv
    obtain ⟨u63, hinv⟩ := hinv
    obtain ⟨u64, hinv⟩ := hinv
    obtain ⟨u65, hinv⟩ := hinv
    obtain ⟨u66, hinv⟩ := hinv
    obtain ⟨u67, hinv⟩ := hinv
    obtain ⟨u68, hinv⟩ := hinv
    obtain ⟨u69, hinv⟩ := hinv
    obtain ⟨u70, hinv⟩ := hinv
    obtain ⟨u71, hinv⟩ := hinv
    obtain ⟨u72, hinv⟩ := hinv
    obtain ⟨u73, hinv⟩ := hinv
    obtain ⟨u74, hinv⟩ := hinv
    obtain ⟨u75, hinv⟩ := hinv
    obtain ⟨u76, hinv⟩ := hinv
    obtain ⟨u77, hinv⟩ := hinv
    obtain ⟨u78, hinv⟩ := hinv
    obtain ⟨u79, hinv⟩ := hinv
    obtain ⟨u80, hinv⟩ := hinv
    obtain ⟨u81, hinv⟩ := hinv
    obtain ⟨u82, hinv⟩ := hinv
    obtain ⟨hrel, ha⟩ := hinv
    subst ha
    try dsimp only
  case atStart =>
    exact ⟨0, _, rfl, Nat.zero_le _, Fr.refl _ _, Coll.nil _ _ _, hO, fun j hj => by omega, fun _ _ => rfl⟩
  case round =>
    obtain ⟨k, F, rfl, hk, hF, hC, hOu, hfd, hz⟩ := hrel
    clear hO
    by_cases hlt : k < l.length
    · have hSz := hF.size
      have hx : Kd.C k52 W A l.length l := HA.out
      obtain ⟨ad, rfl, m0, m1⟩ := at_T52 hx k (by omega) (by omega)
      have hrd : rd_T52 l (k : Int) = l[k] := by simp [rd_T52, List.getD, hlt]
      rw [hrd, Int.toNat_natCast] at m0 m1
      obtain ⟨⟨mf, mh⟩, hm⟩ : ∃ m, l[k] = m := ⟨_, rfl⟩
      rw [hm] at m0 m1
      simp only [] at m0 m1
      have hadb : (ad.add (k * 2)).block ≠ ob := by
        have := hAo ad rfl (by omega)
        unfold Addr.add; split <;> simpa using this
      have m0' := hF.cell m0 hadb
      have m1' := hF.cell m1 hadb
      have hk2 : (k : Int) < l.length := by omega
      have hi2 : (ad.add (k * 2)).block < wr.heap.size := World.block_lt_of_cell? wr _ m0'
      have hi3 : (ad.add (k * 2)).block < wr.heap.size + 1 := by omega
      have hi4 : (ad.add (k * 2)).block < wr.heap.size + 1 + 1 := by omega
      have HF := Lib.hid hF
      have HC := Lib.hid hC
      have HO := Lib.hid hOu
      have HFD := Lib.hid hfd
      have HZ := Lib.hid hz
      clear hF hC hOu hfd hz m0 m1 hrd hx
      gi_wp2
      obtain ⟨W1, hW1⟩ : ∃ W1, (wr.alloc (.cells #[.int .i64 k] 3)).alloc (.cells #[.int .u16 mf, .int .u16 mh] 52) = W1 := ⟨_, rfl⟩
      have hb1 : Below wr.heap.size wr W1 := by rw [← hW1]; exact ((Below.refl _ wr).alloc (Nat.le_refl _) _).alloc (by simp) _
      have hs1 : W1.heap.size = wr.heap.size + 2 := by rw [← hW1]; simp
      have hic : W1.heap[wr.heap.size]? = some (.cells #[.int .i64 k] 3 (0, 0)) := by rw [← hW1]; exact heap_old (heap_new rfl)
      have hcm : W1.heap[wr.heap.size + 1]? = some (.cells #[.int .u16 mf, .int .u16 mh] 52 (0, 0)) := by rw [← hW1]; exact heap_new (by simp)
      rw [hW1]
      have hF1 : Fr (fun k => k = ob) W W1 := HF.out.trans (Fr.of_below hb1 (fun k q1 q2 => by omega))
      have hSeen := HS.out
      have hbL := hSeen.len
      obtain ⟨bi, hbi⟩ : ∃ b, bs[k]? = some b := ⟨_, List.getElem?_eq_getElem (by omega)⟩
      obtain ⟨bj, hbj⟩ : ∃ b, bs[k + 1]? = some b := ⟨_, List.getElem?_eq_getElem (by omega)⟩
      have hbij : bi ≠ bj := fun e => by
        subst e
        have h1 := List.getElem?_eq_some_iff.1 hbi
        have h2 := List.getElem?_eq_some_iff.1 hbj
        exact (List.pairwise_iff_getElem.1 hSeen.nodup) k (k + 1) h1.1 h2.1 (by omega) (h1.2.trans h2.2.symm)
      have hMi := (hSeen.maps k bi hbi).2
      have hMj := (hSeen.maps (k + 1) bj hbj).2
      have hMi1 := hMi.same (hF1.same _ hMi.lt (nomap hMi))
      have hMj1 := hMj.same (hF1.same _ hMj.lt (nomap hMj))
      obtain ⟨W2, cnt, hrng, hR2, hg2, hs2⟩ := (hMi1.same (w' := W1.drew) rfl).range
      have hrng : (Instr.range 104 (.map (some bi))).run Try.prog W1.drew = .ok (.pointer (some ⟨W1.heap.size, 0, none⟩)) W2 := hrng
      have hxc1 := (hF1.same _ kxc noxc).trans H3.out
      have hobj1 := (hF1.same _ kg nog).trans hSeen.obj
      have e3 := cell_of hxc1 (i := 0) rfl
      have e5 := cell_of hobj1 (i := 5) rfl
      have e7 := cell_of hic (i := 0) rfl
      have ei := hF1.cell (hSeen.cell hbi) nosb
      simp only [List.getElem_toArray, List.getElem_cons_zero, List.getElem_cons_succ] at e3 e5 e7
      have hk3 : (k : Int) < (l.length : Int) + 1 := by omega
      have hk4 : (k : Int) < ((l.length + 1 : Nat) : Int) := by omega
      have HB1 := Lib.hid hb1
      have HS1 := Lib.hid hs1
      have HIC := Lib.hid hic
      have HCM := Lib.hid hcm
      have HF1 := Lib.hid hF1
      have HR2 := Lib.hid hR2
      have HG2 := Lib.hid hg2
      have HS2 := Lib.hid hs2
      have HMJ := Lib.hid hMj1
      clear hb1 hs1 hic hcm hF1 hR2 hg2 hs2 hMj1 hMi1 hMi hMj hxc1 hobj1 hW1 hSeen m0' m1'
      gi_wp2
      refine wpIn_region_still_tail .wide 7 hmx (by kernel_rfl) (by kernel_rfl) ?_
      simp only [List.take_succ_cons, List.take_zero, List.drop_succ_cons, List.drop_zero]
      repeat still_step
      refine wpStill_nil ?_
      gi_wp2
      have hSeen := HS.out
      have hs1 := HS1.out
      have hs2 : W2.heap.size = W1.heap.size + 1 := HS2.out
      have hF12 : Fr (fun _ => False) W1 W2 := (Fr.drew W1).trans (Fr.grown HG2.out (fun r e => by cases e))
      have hF02 : Fr (fun k => k = ob) W W2 := HF1.out.trans (hF12.mono (fun k _ h => h.elim))
      have hFr2 : Fr (fun _ => False) wr W2 := (Fr.of_below HB1.out (fun k q1 q2 => by omega)).trans hF12
      have hob2 : Out ob l.length F W2 := HO.out.same (hFr2.same _ HO.out.lt (by simp))
      have hsbc : ∃ cur, W2.heap[sb]? = some (.cells cur 104 (0, 0)) := ⟨scur, (hF02.same _ (Array.getElem?_eq_some_iff.1 HSC.out).1 nosb).trans HSC.out⟩
      have hz0 := HZ.out k (Nat.le_refl _)
      have hbjl := hSeen.maplt (List.mem_of_getElem? hbj)
      refine who.fill (Q := _) n hn least most short mf mh _ (pruned least most short n l 0 k) (pruned least most short n l 0 (k + 1)) k (by omega) (fun x hx => fwd_small hn k x hx.1) sc xc oc wr.heap.size (wr.heap.size + 1) g sb (l.length + 1) cS ob l.length k bi bj W1.heap.size W.heap.size cnt _ F dfs _ _ _ _ _ _ _ _ _ _ _ _ _ _ _ _ _ _ _ _ _ _ _ _ _ _ _ _ _ _ _ _ _ _ _ _ _ _ _ _ _ _ _ _ _ _ _ _ _ _ _ _ _ _ _ _ _ _ _ _ _ _ _ _ _ _ _ _ _ _ _ _ _ _ _ _ _ _ W2
        HR2.out (HMJ.out.same (hF12.same _ HMJ.out.lt (by simp))) hbij (by omega) ((hF02.same _ ksc nosc).trans H1.out) ((hF12.same _ (by omega) (by simp)).trans HCM.out) ((hF02.same _ kxc noxc).trans H3.out) ((hF02.same _ koc nooc).trans H4.out) ((hF12.same _ (by omega) (by simp)).trans HIC.out) ((hF02.same _ kg nog).trans hSeen.obj) rfl (hF02.cell (hSeen.cell hbj) nosb) nosb hlt hl (by omega) (by omega) hsbc
        hob2 (by rw [hz0]; exact isSet_zero) (by rw [hz0]; exact isSet_zero) (by have := hF02.size; omega) ((HC.out.same (SameMarks.fr hFr2 (fun k h => h.elim))).up (by omega)) ?_
      rintro ds3 t9 t10 t11 t40 t41 t42 t43 t44 t45 t46 t47 t50 t51 t52 t53 t54 t55 t56 t57 t58 t59 t60 t61 t62 t63 t64 t65 t66 t67 t68 t69 t70 t71 t72 t73 t74 t75 t76 t77 t78 t79 t80 t81 F3 W3 hF3 hO3 hf3 hI1 hI2 hM3 hC3
      have hF03 : Fr (fun k => k = ob) W W3 := ⟨hF3.os.trans hF02.os, hF3.tape.trans hF02.tape, hF3.output.trans hF02.output, Nat.le_trans hF02.size hF3.size, fun q hq hx => (hF3.same q (by have := hF02.size; omega) (fun h => by have := HF1.out.size; rcases h with h | h <;> omega)).trans (hF02.same q hq hx)⟩
      have HF03 := Lib.hid hF03
      have HO3 := Lib.hid hO3
      have HC3 := Lib.hid hC3
      have HI1 := Lib.hid hI1
      have HI2 := Lib.hid hI2
      have HF3' := Lib.hid hf3
      have hwr : IntKind.i64.wrap ((k : Int) + 1) = (k : Int) + 1 := by simp [IntKind.wrap, IntKind.bits, IntKind.signed]; omega
      clear hF3 hF03 hO3 hC3 hI1 hI2 hf3 hF12 hF02 hFr2 hob2 hsbc hs1 hs2 hz0 hrng hM3 ei e3 e5 e7
      gi_wp2
      refine ⟨?_, ?measure⟩
      · (repeat apply Exists.intro)
        refine ⟨?_, rfl⟩
        refine ⟨k + 1, F3, by simp, by omega, HF03.out, HC3.out, HO3.out, fun j hj => ?_, fun j hj => ?_⟩
        · by_cases e : j = k
          · subst e
            intro m hm'
            have : m = ⟨mf, mh⟩ := by rw [List.getElem?_eq_getElem hlt, hm] at hm'; exact (Option.some.inj hm').symm
            subst this
            exact ⟨HI1.out, HI2.out⟩
          · rw [HF3'.out j e]; exact HFD.out j (by omega)
        · rw [HF3'.out j (by omega)]; exact HZ.out j (by omega)
      case measure =>
        simp [intOf]
        omega
    · obtain rfl : k = l.length := by omega
      gi_wp2
      exact hdone dfs _ _ _ _ _ _ _ _ _ _ _ _ _ _ _ _ _ _ _ _ _ _ _ _ _ _ _ _ _ _ _ _ _ _ _ _ _ _ _ _ _ _ _ _ _ _ _ _ _ _ _ _ _ _ _ _ _ _ _ F wr hF hOu hfd hC
end Go.Proofs.Ytdnjmhhjjbdieaa.Q
end
section
namespace Go.Proofs.Ytdnjmhhjjbdieaa.Q
open Go.RowKit Go.Shelf Go.Proofs.YtdnjmhhjjbdieaaW.PrintWords Go.Proofs.YtdnjmhhjjbdieaaW.PrintLast
set_option linter.unusedVariables false
set_option linter.unusedSimpArgs false
attribute [local go_sem] Oper.semAt_some
def addSt (S : List St) (y : St) : List St := if y ∈ S then S else S ++ [y]
theorem mem_addAll (ys : List St) : ∀ (S : List St) (x : St), x ∈ ys.foldl addSt S ↔ x ∈ S ∨ x ∈ ys := by
  induction ys with
  | nil => intro S x; simp
  | cons y ys ih =>
    intro S x
    rw [List.foldl_cons, ih]
    have h : x ∈ addSt S y ↔ x ∈ S ∨ x = y := by
      unfold addSt
      split
      · rename_i hy
        exact ⟨.inl, fun h => h.elim id (fun e => e ▸ hy)⟩
      · simp
    rw [h, List.mem_cons, or_assoc]
def nextL (least most short : Int) (n : Nat) (m : S52) (S : List St) : List St := (S.flatMap fun x => (partsOf least most short x m.f0 m.f1 n).map (·.2)).foldl addSt []
theorem mem_nextL {least most short : Int} {n : Nat} {m : S52} {S : List St} {y : St} : y ∈ nextL least most short n m S ↔ nexts least most short n m.f0 m.f1 (fun x => x ∈ S) y := by
  unfold nextL nexts
  rw [mem_addAll]
  simp only [List.not_mem_nil, false_or, List.mem_flatMap, List.mem_map]
def fwdL (least most short : Int) (n : Nat) (l : List S52) : Nat → List St
  | 0 => [beginSt]
  | j + 1 => match l[j]? with | some m => nextL least most short n m (fwdL least most short n l j) | none => []
theorem mem_fwdL {least most short : Int} {n : Nat} {l : List S52} : ∀ (j : Nat) (y : St), y ∈ fwdL least most short n l j ↔ fwd least most short n l j y
  | 0, y => by simp [fwdL, fwd]
  | j + 1, y => by
    cases hm : l[j]? with
    | none => simp [fwdL, fwd, hm]
    | some m =>
      simp only [fwdL, fwd, hm, mem_nextL]
      unfold nexts
      exact exists_congr (fun x => and_congr (mem_fwdL j x) Iff.rfl)
def tellB (least most short : Int) (n : Nat) : List S52 → St → Bool
  | [], _ => true
  | m :: l, x => (partsOf least most short x m.f0 m.f1 n).any fun p => tellB least most short n l p.2
theorem tellB_iff {least most short : Int} {n : Nat} : ∀ (l : List S52) (x : St), tellB least most short n l x = true ↔ tellable least most short n l x
  | [], x => by simp [tellB, tellable]
  | m :: l, x => by
    simp only [tellB, tellable, List.any_eq_true]
    exact exists_congr (fun p => and_congr Iff.rfl (tellB_iff l p.2))
def prunedL (least most short : Int) (n : Nat) (l : List S52) (j : Nat) : List St := (fwdL least most short n l j).filter (tellB least most short n (l.drop j))
theorem mem_prunedL {least most short : Int} {n : Nat} {l : List S52} {j : Nat} {y : St} : y ∈ prunedL least most short n l j ↔ pruned least most short n l 0 j y := by
  unfold prunedL pruned
  rw [List.mem_filter, mem_fwdL, tellB_iff]
  exact and_congr Iff.rfl ⟨fun h _ => h, fun h => h (Nat.zero_le _)⟩
def goodParts (least most short : Int) (n : Nat) (l : List S52) (j : Nat) (m : S52) : List (Int × Int) :=
  (prunedL least most short n l j).flatMap fun x => ((partsOf least most short x m.f0 m.f1 n).filter fun p => decide (p.2 ∈ prunedL least most short n l (j + 1))).map (·.1)
theorem mem_goodParts {least most short : Int} {n : Nat} {l : List S52} {j : Nat} {m : S52} {q : Int × Int} : q ∈ goodParts least most short n l j m ↔
    ∃ x, pruned least most short n l 0 j x ∧ ∃ p ∈ partsOf least most short x m.f0 m.f1 n, pruned least most short n l 0 (j + 1) p.2 ∧ p.1 = q := by
  unfold goodParts
  rw [List.mem_flatMap]
  refine exists_congr (fun x => and_congr mem_prunedL ?_)
  rw [List.mem_map]
  refine exists_congr (fun p => ?_)
  rw [List.mem_filter, decide_eq_true_eq, mem_prunedL, and_assoc]
def toldOf (least most short : Int) (n : Nat) (l : List S52) (j : Nat) : S54 :=
  match l[j]? with
  | some m => ⟨orOf ((goodParts least most short n l j m).map (·.1)), orOf ((goodParts least most short n l j m).map (·.2))⟩
  | none => ⟨0, 0⟩
theorem good_range {least most short : Int} {n : Nat} (hn : n ≤ 12) {l : List S52} {j : Nat} {m : S52} {q : Int × Int} (h : q ∈ goodParts least most short n l j m) : (-1 ≤ q.1 ∧ q.1 < n) ∧ (-1 ≤ q.2 ∧ q.2 < n) := by
  obtain ⟨x, _, p, hp, _, rfl⟩ := mem_goodParts.1 h
  obtain ⟨h1, h2, _⟩ := mem_partsOf.1 hp
  have a := mem_upTo.1 h1
  have b := mem_upTo.1 h2
  omega
theorem found_told {least most short : Int} {n : Nat} (hn : n ≤ 12) {l : List S52} {j : Nat} (hj : j < l.length) {v : Int × Int} (h : Found least most short n l j v) : v = ((toldOf least most short n l j).f0, (toldOf least most short n l j).f1) := by
  obtain ⟨h1, h2⟩ := h l[j] (List.getElem?_eq_getElem hj)
  have e : toldOf least most short n l j = ⟨orOf ((goodParts least most short n l j l[j]).map (·.1)), orOf ((goodParts least most short n l j l[j]).map (·.2))⟩ := by
    unfold toldOf; rw [List.getElem?_eq_getElem hj]
  have k1 : IsSet (orOf ((goodParts least most short n l j l[j]).map (·.1))) (holdBy least most short n l[j].f0 l[j].f1 (pruned least most short n l 0 j) (pruned least most short n l 0 (j + 1))) :=
    (orOf_isSet (fun q hq => by obtain ⟨r, hr, rfl⟩ := List.mem_map.1 hq; have := good_range hn hr; omega)).congr (fun q _ _ => by
      rw [List.mem_map]
      exact ⟨fun ⟨r, hr, e⟩ => by obtain ⟨x, hx, p, hp, ht, rfl⟩ := mem_goodParts.1 hr; exact ⟨x, hx, p, hp, ht, e⟩, fun ⟨x, hx, p, hp, ht, e⟩ => ⟨p.1, mem_goodParts.2 ⟨x, hx, p, hp, ht, rfl⟩, e⟩⟩)
  have k2 : IsSet (orOf ((goodParts least most short n l j l[j]).map (·.2))) (voiceBy least most short n l[j].f0 l[j].f1 (pruned least most short n l 0 j) (pruned least most short n l 0 (j + 1))) :=
    (orOf_isSet (fun q hq => by obtain ⟨r, hr, rfl⟩ := List.mem_map.1 hq; have := good_range hn hr; omega)).congr (fun q _ _ => by
      rw [List.mem_map]
      exact ⟨fun ⟨r, hr, e⟩ => by obtain ⟨x, hx, p, hp, ht, rfl⟩ := mem_goodParts.1 hr; exact ⟨x, hx, p, hp, ht, e⟩, fun ⟨x, hx, p, hp, ht, e⟩ => ⟨p.1, mem_goodParts.2 ⟨x, hx, p, hp, ht, rfl⟩, e⟩⟩)
  rw [e]
  exact Prod.ext (h1.unique k1) (h2.unique k2)
theorem fwd_later {least most short : Int} {n : Nat} {l : List S52} {i : Nat} (h : ∀ x, ¬ fwd least most short n l i x) : ∀ d x, ¬ fwd least most short n l (i + d) x
  | 0, x => h x
  | d + 1, x => fun hx => by
    have hx : fwd least most short n l ((i + d) + 1) x := hx
    cases hm : l[i + d]? with
    | none => simp [fwd, hm] at hx
    | some m =>
      simp only [fwd, hm] at hx
      obtain ⟨y, hy, _⟩ := hx
      exact fwd_later h d y hy
def floor_Who.f (a0_0 a0_1 a0_2 a0_3 : Int) (l0_4 : List S52) : Option (List S54 × Int) :=
  match floor_Scene_check.f a0_0 a0_1 a0_2 a0_3 l0_4 with
  | none => none
  | some r => if r = 0 then
      if (fwdL a0_1 a0_2 a0_3 a0_0.toNat l0_4 l0_4.length).isEmpty then some ([], 10) else some ((List.range l0_4.length).map (toldOf a0_1 a0_2 a0_3 a0_0.toNat l0_4), 0)
    else some ([], r)
theorem fwdL_empty {least most short : Int} {n : Nat} {l : List S52} {j : Nat} : (fwdL least most short n l j).isEmpty = true ↔ ∀ x, ¬ fwd least most short n l j x := by
  rw [List.isEmpty_iff, List.eq_nil_iff_forall_not_mem]
  exact forall_congr' (fun x => not_congr (mem_fwdL j x))
theorem take_two {α : Type} {l : List α} {k : Nat} {a b : α} (h0 : l[k]? = some a) (h1 : l[k + 1]? = some b) : (l.drop k).take 2 = [a, b] := by
  obtain ⟨k0, rfl⟩ := List.getElem?_eq_some_iff.1 h0
  obtain ⟨k1, rfl⟩ := List.getElem?_eq_some_iff.1 h1
  rw [List.drop_eq_getElem_cons k0, List.drop_eq_getElem_cons k1]
  rfl
theorem Out.told {ob : Nat} {F : Nat → Int × Int} {ts : List S54} {w : World} {base : Nat} (h : Out ob ts.length F w) (hb : base ≤ ob) (hF : ∀ j t, ts[j]? = some t → F j = (t.f0, t.f1)) (hl : ts.length ≤ 40) :
    Kd.R k54 54 w base (fun _ => True) (.slice (some ⟨ob, 0, none⟩) ts.length ts.length) ts := by
  obtain ⟨cs, h1, h2, h3⟩ := h
  have hz : k54.sz = 2 := rfl
  have hcl : cs.toList.length = ts.length * k54.sz := by rw [hz]; simpa using h2
  refine ⟨fun _ _ => trivial, cs.toList, ⟨hcl, .inr ⟨ob, ts.length, cs, rfl, hb, h1, Nat.le_refl _, by unfold maxLen; omega, h2, ?_⟩⟩, hcl, fun j p hp => ?_⟩
  · rw [hz]; exact List.take_of_length_le (by simp; omega)
  · obtain ⟨hj, _⟩ := List.getElem?_eq_some_iff.1 hp
    obtain ⟨c0, c1⟩ := h3 j hj
    rw [hF j p hp] at c0 c1
    have e : (cs.toList.drop (j * 2)).take 2 = [.int .u16 p.f0, .int .u16 p.f1] := take_two (by simpa using c0) (by simpa using c1)
    show k54.M _ _ _ p ((cs.toList.drop (j * 2)).take 2)
    rw [e]
    exact ⟨[.int .u16 p.f0], [.int .u16 p.f1], rfl, rfl, rfl⟩
end Go.Proofs.Ytdnjmhhjjbdieaa.Q
end
section
namespace Go.Proofs.Ytdnjmhhjjbdieaa.Q
open Go.RowKit Go.Shelf Go.Proofs.YtdnjmhhjjbdieaaW.PrintWords Go.Proofs.YtdnjmhhjjbdieaaW.PrintLast
set_option linter.unusedVariables false
set_option linter.unusedSimpArgs false
attribute [local go_sem] Oper.semAt_some
theorem ownFrom_R {γ α : Type} {d : Kd α} {e B base : Nat} {v : Value} {xs : List α} : OwnFrom B (fun (_ : γ) W => d.R e W base (fun _ => True) v xs) := fun s W W' row hs hg hr =>
  Kd.R_mono (Kd.R_step (Kd.R_bound hs) (fun k hk hl => hg.block k hl (fun e2 => by
    obtain ⟨_, _, _, q, _, cells, hc⟩ := hk
    obtain ⟨_, o, ho, hoc⟩ := hr k e2.symm
    rw [hc] at ho; cases ho; cases hoc))) (fun _ _ => trivial)
def Picked (least most short mf mh : Int) (n : Nat) (x : St) (T : St → Prop) (ps ps' : List S65) (x' : St) : Prop :=
  (∃ pre p post, partsOf least most short x mf mh n = pre ++ p :: post ∧ (∀ q ∈ pre, ¬ T q.2) ∧ T p.2 ∧ ps' = ps ++ [⟨p.1.1, p.1.2⟩] ∧ x' = p.2) ∨
  ((∀ q ∈ partsOf least most short x mf mh n, ¬ T q.2) ∧ ps' = ps ∧ x' = x)
set_option maxRecDepth 100000 in
set_option maxHeartbeats 4000000 in
theorem tell.pick (n : Nat) (hn : n ≤ 12) (least most short mf mh : Int) (vv : Value) (x : St) (T : St → Prop) (i : Nat) (hi : i ≤ 45) (hx : Small x i)
    (xc oc atc ic g sb lenS cS j bj lo : Nat) (gcs : Array Value) (ov : Value) (ps : List S65) (ds : List Deferred) (Q : Exit → Act → World → Prop) (v0 v1 v2 v3 v5 v9 v10 v11 v12 v13 v14 v15 v16 v17 v18 v19 v20 v21 v22 v23 v24 v25 v26 v27 v28 v29 v30 v31 v33 v34 v35 v36 v37 v38 v39 v40 v41 v42 v43 v44 v45 v46 v47 v48 v49 v50 v51 : Value) (W0 W : World)
    (hPA : PartsAt n least most short mf mh vv x W0 W) (hb : MapIs EB W0 bj (setOf T))
    (h3 : W0.heap[xc]? = some (.cells #[.pointer (some ⟨g, 0, none⟩)] 101 (0, 0)))
    (h4 : W0.heap[oc]? = some (.cells #[ov] 61 (0, 0)))
    (ha : W0.heap[atc]? = some (.cells #[.int .i64 x.holder, .int .i64 x.turn, .int .i64 x.short, .bool x.own] 109 (0, 0)))
    (h5 : W0.heap[ic]? = some (.cells #[.int .i64 j] 3 (0, 0)))
    (h6 : W0.heap[g]? = some (.cells gcs 107 (0, 0))) (h6' : gcs[5]? = some (.slice (some ⟨sb, 0, none⟩) lenS cS))
    (h7 : W0.cell? ⟨sb, j + 1, none⟩ = some (.map (some bj))) (hlS : j + 1 < lenS) (hlS2 : lenS ≤ 100)
    (hR : Kd.R k65 65 W0 lo (fun _ => True) ov ps) (hps : ps.length ≤ 100) (hlo : lo ≤ W0.heap.size) (hds : Coll lo W0.heap.size ds W0)
    (hdone : ∀ (ds' : List Deferred) (ov' : Value) (ps' : List S65) (x' : St) (W' : World), Picked least most short mf mh n x T ps ps' x' → Fr (fun k => k = oc ∨ k = atc ∨ ov.ownBlock = some k) W0 W' →
      W'.heap[oc]? = some (.cells #[ov'] 61 (0, 0)) → W'.heap[atc]? = some (.cells #[.int .i64 x'.holder, .int .i64 x'.turn, .int .i64 x'.short, .bool x'.own] 109 (0, 0)) → Kd.R k65 65 W' lo (fun _ => True) ov' ps' → Coll lo W'.heap.size ds' W' →
      Q .normal { tmps := (List.toArray (v0 :: v1 :: v2 :: v3 :: (.pointer (some ⟨xc, 0, none⟩)) :: v5 :: (.pointer (some ⟨oc, 0, none⟩)) :: (.pointer (some ⟨atc, 0, none⟩)) :: (.pointer (some ⟨ic, 0, none⟩)) :: v9 :: v10 :: v11 :: v12 :: v13 :: v14 :: v15 :: v16 :: v17 :: v18 :: v19 :: v20 :: v21 :: v22 :: v23 :: v24 :: v25 :: v26 :: v27 :: v28 :: v29 :: v30 :: v31 :: (.func (.func 73) #[] #[.pointer (some ⟨W0.heap.size, 0, none⟩), .pointer (some ⟨W0.heap.size + 2, 0, none⟩), .pointer (some ⟨W0.heap.size + 3, 0, none⟩), .pointer (some ⟨W0.heap.size + 1, 0, none⟩)]) :: v33 :: v34 :: v35 :: v36 :: v37 :: v38 :: v39 :: v40 :: v41 :: v42 :: v43 :: v44 :: v45 :: v46 :: v47 :: v48 :: v49 :: v50 :: v51 :: [])), defers := ds' } W') :
    (blockOf 2 Try.f31).wpIn Fence.wide 0 Try.prog (Exit.inBlock 2 Q) { tmps := (List.toArray (v0 :: v1 :: v2 :: v3 :: (.pointer (some ⟨xc, 0, none⟩)) :: v5 :: (.pointer (some ⟨oc, 0, none⟩)) :: (.pointer (some ⟨atc, 0, none⟩)) :: (.pointer (some ⟨ic, 0, none⟩)) :: v9 :: v10 :: v11 :: v12 :: v13 :: v14 :: v15 :: v16 :: v17 :: v18 :: v19 :: v20 :: v21 :: v22 :: v23 :: v24 :: v25 :: v26 :: v27 :: v28 :: v29 :: v30 :: v31 :: (.func (.func 73) #[] #[.pointer (some ⟨W0.heap.size, 0, none⟩), .pointer (some ⟨W0.heap.size + 2, 0, none⟩), .pointer (some ⟨W0.heap.size + 3, 0, none⟩), .pointer (some ⟨W0.heap.size + 1, 0, none⟩)]) :: v33 :: v34 :: v35 :: v36 :: v37 :: v38 :: v39 :: v40 :: v41 :: v42 :: v43 :: v44 :: v45 :: v46 :: v47 :: v48 :: v49 :: v50 :: v51 :: [])), defers := ds } W := by
  conv => arg 4; whnf
  have hmx : Try.prog.follows .mixedOrders = true := by kernel_rfl
  have hu1 := Try.underlying109
  have hu3 := Try.underlying107
  have hu5 := Try.underlying65
  have hbW := hPA.below
  have hsW := hPA.size
  have hFW : Fr (fun _ => False) W0 W := Fr.of_below hbW (fun k q1 q2 => by omega)
  have koc := (Array.getElem?_eq_some_iff.1 h4).1
  have katc := (Array.getElem?_eq_some_iff.1 ha).1
  have kxc := (Array.getElem?_eq_some_iff.1 h3).1
  have kic := (Array.getElem?_eq_some_iff.1 h5).1
  have kg := (Array.getElem?_eq_some_iff.1 h6).1
  have g3 := (hbW.block _ kxc).trans h3
  have g4 := (hbW.block _ koc).trans h4
  have ga := (hbW.block _ katc).trans ha
  have g5 := (hbW.block _ kic).trans h5
  have g6 := (hbW.block _ kg).trans h6
  have g7 := hFW.cell h7 (by simp)
  have hbM : MapIs EB W bj (setOf T) := hb.same (hbW.block _ hb.lt)
  have hRW : Kd.R k65 65 W lo (fun _ => True) ov ps := Kd.R_below hR hbW
  have hov : ∀ k, ov.ownBlock = some k → k < W0.heap.size ∧ k ≠ oc ∧ k ≠ atc := fun k hk => by
    obtain ⟨_, _, hl, q, hq, cells, hc⟩ := (Kd.R_bound hR).1 k hk
    have hq1 : q = 65 := by simpa [k65, Kd.iso, Kd.pair, Kd.int, Kd.scalar] using hq
    subst hq1
    refine ⟨hl, fun e => ?_, fun e => ?_⟩
    · subst e; rw [h4] at hc; cases hc
    · subst e; rw [ha] at hc; cases hc
  have hdW : Coll lo W.heap.size ds W := (hds.same (SameMarks.below hbW (Nat.le_refl _))).up (by omega)
  have hoa : oc ≠ atc := fun e => by subst e; rw [h4] at ha; cases ha
  have H3 := Lib.hid g3
  have H4 := Lib.hid g4
  have HA := Lib.hid ga
  have H5 := Lib.hid g5
  have H6 := Lib.hid g6
  have H7 := Lib.hid g7
  have HM := Lib.hid hbM
  have HR := Lib.hid hRW
  have HOV := Lib.hid hov
  have HDW := Lib.hid hdW
  have HFW := Lib.hid hFW
  have HSW := Lib.hid hsW
  have HOA := Lib.hid hoa
  clear h3 h4 ha h5 h6 h7 g3 g4 ga g5 g6 g7 hbM hb hRW hR hov hds hdW hFW hbW hsW hoa
  gi_wp2
  have hsW := HSW.out
  refine wpIn_iter (gf := 73) (lb := #[.pointer (some ⟨W0.heap.size, 0, none⟩), .pointer (some ⟨W0.heap.size + 2, 0, none⟩), .pointer (some ⟨W0.heap.size + 3, 0, none⟩), .pointer (some ⟨W0.heap.size + 1, 0, none⟩)]) rfl (enters_of Try.func73 (by decide) rfl)
    (hPA.iter hn hx (by omega)) (Nat.le_refl _) (fun _ _ => rfl) (fun k hk => by have := hk.2; omega) (fun _ => rfl)
    (fun pre W' => (∀ q ∈ pre, ¬ T q.2) ∧ Fr (fun _ => False) W W')
    (fun c pre W' => c = .exit 2 ∧ ∃ q p, pre = q ++ [p] ∧ (∀ r ∈ q, ¬ T r.2) ∧ T p.2 ∧ ∃ ov', Fr (fun k => k = oc ∨ k = atc ∨ ov.ownBlock = some k) W W' ∧ W'.heap[oc]? = some (.cells #[ov'] 61 (0, 0)) ∧
      W'.heap[atc]? = some (.cells #[.int .i64 p.2.holder, .int .i64 p.2.turn, .int .i64 p.2.short, .bool p.2.own] 109 (0, 0)) ∧ Kd.R k65 65 W' lo (fun _ => True) ov' (ps ++ [⟨p.1.1, p.1.2⟩]))
    (OwnFrom.and (ownFrom_pure _ _) (ownFrom_fr (Nat.le_refl _)))
    (fun c => fun s A A' row hs hg hr => by
      obtain ⟨q0, q, p, q1, q2, q3, ov', q4, q5, q6, q7⟩ := hs
      exact ⟨q0, q, p, q1, q2, q3, ov', ownFrom_fr (Nat.le_refl _) () A A' row q4 hg hr, ownFrom_cells (fun (_ : Unit) => #[ov']) 61 () A A' row q5 hg hr,
        ownFrom_cells (fun (_ : Unit) => #[.int .i64 p.2.holder, .int .i64 p.2.turn, .int .i64 p.2.short, .bool p.2.own]) 109 () A A' row q6 hg hr, ownFrom_R () A A' row q7 hg hr⟩)
    ⟨(fun q hq => by cases hq), Fr.refl _ _⟩
    (fun pre p a' W' => ∃ B, W.heap.size ≤ B ∧ W'.heap[B]? = some (.cells #[.int .i64 p.1.1, .int .i64 p.1.2] 65 (0, 0)) ∧ W'.heap[B + 1]? = some (.cells #[.int .i64 p.2.holder, .int .i64 p.2.turn, .int .i64 p.2.short, .bool p.2.own] 109 (0, 0)) ∧ a' = { tmps := (List.toArray (v0 :: v1 :: v2 :: v3 :: (.pointer (some ⟨xc, 0, none⟩)) :: v5 :: (.pointer (some ⟨oc, 0, none⟩)) :: (.pointer (some ⟨atc, 0, none⟩)) :: (.pointer (some ⟨ic, 0, none⟩)) :: v9 :: (.pointer (some ⟨B, 0, none⟩)) :: (.pointer (some ⟨B + 1, 0, none⟩)) :: v12 :: v13 :: v14 :: v15 :: v16 :: v17 :: v18 :: v19 :: v20 :: v21 :: v22 :: v23 :: v24 :: v25 :: v26 :: v27 :: v28 :: v29 :: v30 :: v31 :: (.func (.func 73) #[] #[.pointer (some ⟨W0.heap.size, 0, none⟩), .pointer (some ⟨W0.heap.size + 2, 0, none⟩), .pointer (some ⟨W0.heap.size + 3, 0, none⟩), .pointer (some ⟨W0.heap.size + 1, 0, none⟩)]) :: (.agg #[.int .i64 p.1.1, .int .i64 p.1.2]) :: (.agg #[.int .i64 p.2.holder, .int .i64 p.2.turn, .int .i64 p.2.short, .bool p.2.own]) :: v35 :: v36 :: v37 :: v38 :: v39 :: v40 :: v41 :: v42 :: v43 :: v44 :: v45 :: v46 :: v47 :: v48 :: v49 :: v50 :: v51 :: [])), defers := [] })
    (fun pre p a' _ A A' row hs hg hr => by obtain ⟨B, e1, e2, e3, e4⟩ := hs; exact ⟨B, e1, ownFrom_cells (fun (_ : Unit) => #[.int .i64 p.1.1, .int .i64 p.1.2]) 65 () A A' row e2 hg hr, ownFrom_cells (fun (_ : Unit) => #[.int .i64 p.2.holder, .int .i64 p.2.turn, .int .i64 p.2.short, .bool p.2.own]) 109 () A A' row e3 hg hr, e4⟩)
    ?assign ?body ?done ?stop
  case assign =>
    rintro l1 pre p post W4 K hx' ⟨hI1, hI2⟩ hK
    have HI1 := Lib.hid hI1
    have HI2 := Lib.hid hI2
    clear hI1 hI2
    simp only [encPart, encSt]
    gi_wp2
    have hb2 : Below W4.heap.size W4 ((W4.alloc (.cells #[.int .i64 p.1.1, .int .i64 p.1.2] 65)).alloc (.cells #[.int .i64 p.2.holder, .int .i64 p.2.turn, .int .i64 p.2.short, .bool p.2.own] 109)) := ((Below.refl _ W4).alloc (Nat.le_refl _) _).alloc (by simp) _
    exact hK _ _ (KeptC.below hb2 (Nat.le_refl _)) ⟨HI1.out, HI2.out.trans (Fr.of_below hb2 (fun k q1 q2 => by omega))⟩ ⟨W4.heap.size, HI2.out.size, heap_old (heap_new rfl), heap_new (by simp), rfl⟩
  case body =>
    rintro l1 pre p post a' W4 hx' hl1 ⟨r1, hr1⟩ ⟨hI1, hI2⟩ ⟨B, hB, hbB, hbB1, rfl⟩
    have hpm : p ∈ partsOf least most short x mf mh n := by rw [hx']; simp
    have hsp : Small p.2 (i + 1) := small_parts hn hx hpm
    obtain ⟨m1, m2, _⟩ := mem_partsOf.1 hpm
    obtain ⟨a1, a2, _⟩ := mem_upTo.1 m1
    obtain ⟨b1, b2, _⟩ := mem_upTo.1 m2
    have hMj4 : MapIs EB W4 bj (setOf T) := HM.out.same (hI2.same bj HM.out.lt (by simp))
    have hlk : (Instr.lookup 104 (.map (some bj)) (.agg #[.int .i64 p.2.holder, .int .i64 p.2.turn, .int .i64 p.2.short, .bool p.2.own]) false).run Try.prog W4.drew = .ok (.bool (setOf T p.2).isSome) W4.drew := by
      have := ((hMj4.same (w' := W4.drew) rfl).look p.2 (hsp.box (by omega)))
      cases hMp : setOf T p.2 <;> (rw [hMp] at this; exact this)
    have e3 := hI2.cell (cell_of H3.out (i := 0) rfl) (by simp)
    have e5 := hI2.cell (cell_of H5.out (i := 0) rfl) (by simp)
    have e6 := hI2.cell (cell_of H6.out h6') (by simp)
    have e7 := hI2.cell H7.out (by simp)
    have f0 := cell_of hbB (i := 0) rfl
    have f1 := cell_of hbB (i := 1) rfl
    have f2 := cell_of hbB1 (i := 0) rfl
    have f3 := cell_of hbB1 (i := 1) rfl
    have f4 := cell_of hbB1 (i := 2) rfl
    have f5 := cell_of hbB1 (i := 3) rfl
    simp only [List.getElem_toArray, List.getElem_cons_zero, List.getElem_cons_succ] at e3 e5 f0 f1 f2 f3 f4 f5
    obtain ⟨j2, hj2⟩ : ∃ j2, j + 1 = j2 := ⟨_, rfl⟩
    rw [hj2] at e7
    have hwr : IntKind.i64.wrap ((j : Int) + 1) = (j2 : Int) := by simp [IntKind.wrap, IntKind.bits, IntKind.signed]; omega
    have hjl2 : (j2 : Int) < lenS := by omega
    have HI1 := Lib.hid hI1
    have HI2 := Lib.hid hI2
    have HPM := Lib.hid hpm
    have HX' := Lib.hid hx'
    have HBB := Lib.hid hbB
    have HBB1 := Lib.hid hbB1
    clear hI1 hI2 hpm hx' hMj4 hr1 hbB hbB1 m1 m2 hj2 hsW
    gi_wp2
    refine wpIn_region_still (.round l1) hmx (by kernel_rfl) (by kernel_rfl) ?_
    repeat still_step
    refine wpStill_nil ?_
    cases hMp : setOf T p.2 with
    | none =>
      simp only [hMp, Option.isSome_none]
      clear hlk
      gi_wp2
      have hnT : ¬ T p.2 := fun h => setOf_ne.2 h hMp
      refine ⟨KeptC.drew _ _ _, fun q hq => ?_, HI2.out.trans (Fr.drew _)⟩
      rcases List.mem_append.1 hq with hq | hq
      · exact HI1.out q hq
      · rw [List.mem_singleton.1 hq]; exact hnT
    | some u =>
      simp only [hMp, Option.isSome_some]
      clear hlk
      have hT : T p.2 := setOf_some hMp
      have HT := Lib.hid hT
      clear hT hMp
      gi_wp2
      have hI2 := HI2.out
      have hsW := HSW.out
      have hz4 := hI2.size
      have hF4 : Below W.heap.size W W4 := hI2.below (Nat.le_refl _) (by simp)
      have eo := hI2.cell (cell_of H4.out (i := 0) rfl) (by simp)
      have go0 := not_frozen (i := 0) ((hF4.block _ (Array.getElem?_eq_some_iff.1 H4.out).1).trans H4.out)
      simp only [List.getElem_toArray, List.getElem_cons_zero] at eo
      have hBl := (Array.getElem?_eq_some_iff.1 HBB.out).1
      have hBl1 := (Array.getElem?_eq_some_iff.1 HBB1.out).1
      have hRw : Kd.R k65 65 W4.drew.drew lo (fun _ => True) ov ps := Kd.R_below HR.out (hF4.drew.drew)
      have HBB := HBB.out
      have HBB1 := HBB1.out
      refine startIn_ (n := 7) (S := fun w' => w'.cell? ⟨B, 0, none⟩ = some (.int .i64 p.1.1) ∧ w'.cell? ⟨B, 1, none⟩ = some (.int .i64 p.1.2) ∧ w'.cell? ⟨B + 1, 0, none⟩ = some (.int .i64 p.2.holder) ∧ w'.cell? ⟨B + 1, 1, none⟩ = some (.int .i64 p.2.turn) ∧ w'.cell? ⟨B + 1, 2, none⟩ = some (.int .i64 p.2.short) ∧ w'.cell? ⟨B + 1, 3, none⟩ = some (.bool p.2.own)) (ds := [6])
        (fun _ w' => KeptC (partsC W0.heap.size) W.heap.size W4 w' ∧ ∃ ov', Fr (fun k => k = oc ∨ k = atc ∨ ov.ownBlock = some k) W w' ∧ w'.heap[oc]? = some (.cells #[ov'] 61 (0, 0)) ∧
          w'.heap[atc]? = some (.cells #[.int .i64 p.2.holder, .int .i64 p.2.turn, .int .i64 p.2.short, .bool p.2.own] 109 (0, 0)) ∧ Kd.R k65 65 w' lo (fun _ => True) ov' (ps ++ [⟨p.1.1, p.1.2⟩]))
        #[false, false, false, false, false, false, false] hmx (by kernel_rfl) rfl rfl ⟨f0, f1, f2, f3, f4, f5⟩ (fun hHeld => ?_) ?cont
      case cont =>
        rintro a' w' ⟨hk, hov'⟩
        gi_wp2
        exact ⟨hk, rfl, pre, p, rfl, HI1.out, HT.out, hov'⟩
      refine take_ (i := 1) (N := some 46) (v := ?_) (a' := ?_) #[false, true, false, false, false, false, false] rfl rfl (by kernel_rfl) (fun _ _ _ h => h) (Or.inl ⟨by rfl, ?_⟩) hHeld ?_ ?_
      rotate_left
      · rintro w' ⟨s0, s1, s2, s3, s4, s5⟩
        go_simp
        with_reducible rfl
      rotate_left
      · simp only [Act.put, List.setIfInBounds_toArray, List.set_cons_zero, List.set_cons_succ]
        rfl
      refine take_ (i := 4) (N := some 49) (v := ?_) (a' := ?_) #[false, true, false, false, true, false, false] rfl rfl (by kernel_rfl) (fun _ _ _ h => h) (Or.inl ⟨by rfl, ?_⟩) hHeld ?_ ?_
      rotate_left
      · rintro w' ⟨s0, s1, s2, s3, s4, s5⟩
        go_simp
        with_reducible rfl
      rotate_left
      · simp only [Act.put, List.setIfInBounds_toArray, List.set_cons_zero, List.set_cons_succ]
        rfl
      have hoz : oc < W4.heap.size := by have := (Array.getElem?_eq_some_iff.1 H4.out).1; omega
      have haz : atc < W4.heap.size := by have := (Array.getElem?_eq_some_iff.1 HA.out).1; omega
      have hS : ∀ w' : World, w'.heap[B]? = W4.heap[B]? → w'.heap[B + 1]? = W4.heap[B + 1]? → w'.cell? ⟨B, 0, none⟩ = some (.int .i64 p.1.1) ∧ w'.cell? ⟨B, 1, none⟩ = some (.int .i64 p.1.2) ∧ w'.cell? ⟨B + 1, 0, none⟩ = some (.int .i64 p.2.holder) ∧ w'.cell? ⟨B + 1, 1, none⟩ = some (.int .i64 p.2.turn) ∧ w'.cell? ⟨B + 1, 2, none⟩ = some (.int .i64 p.2.short) ∧ w'.cell? ⟨B + 1, 3, none⟩ = some (.bool p.2.own) := fun w' q1 q2 =>
        ⟨cell_of (q1.trans HBB) rfl, cell_of (q1.trans HBB) rfl, cell_of (q2.trans HBB1) rfl, cell_of (q2.trans HBB1) rfl, cell_of (q2.trans HBB1) rfl, cell_of (q2.trans HBB1) rfl⟩
      refine two_ (i := 0) (j := 2) (Ni := some 45) (Nj := some 47) #[true, true, false, false, true, false, false] #[false, true, true, false, true, false, false] rfl rfl rfl rfl (by kernel_rfl) (by decide) (by decide) (fun K hK => ?_) (fun K hK => ?_)
      · refine value_ (w1 := ?_) (v := ?_) (by rfl) rfl ?_ ?_
        rotate_left 2
        · go_simp
          constructor
          · rfl
          · rfl
        refine hK.out _ _ (hS _ rfl rfl) (fun hHeld => ?_)
        clear hK K
        refine norm_ (a' := ?_) ?_ ?_
        rotate_left
        · show Act.put _ (some 45) _ = _
          simp only [Act.put, List.setIfInBounds_toArray, List.set_cons_zero, List.set_cons_succ]
          rfl
        refine one_ (i := 2) (N := some 47) #[true, true, true, false, true, false, false] rfl rfl (by kernel_rfl) (by decide) (fun K hK => ?_)
        refine value_ (w1 := ?_) (v := ?_) (by rfl) rfl ?_ ?_
        rotate_left 2
        · go_simp
          constructor
          · rfl
          · rfl
        refine hK.out _ _ (hS _ (Below.heap_alloc _ _ _ hBl) (Below.heap_alloc _ _ _ hBl1)) (fun hHeld => ?_)
        clear hK K
        refine norm_ (a' := ?_) ?_ ?_
        rotate_left
        · show Act.put _ (some 47) _ = _
          simp only [Act.put, List.setIfInBounds_toArray, List.set_cons_zero, List.set_cons_succ]
          rfl
        refine one_ (i := 3) (N := some 48) #[true, true, true, true, true, false, false] rfl rfl (by kernel_rfl) (by decide) (fun K hK => ?_)
        refine Kd.R_append_step k65 (w0 := W4.drew.drew) (W := W4.drew.drew) lo (by rfl) (.tmp 45) (.tmp 47) 61 65 (.agg #[(.int .i64 0), (.int .i64 0)]) 16 rfl Try.underlying61 info65 rfl (by decide) (by omega) ov ps (⟨p.1.1, p.1.2⟩ : S65) [.int .i64 p.1.1, .int .i64 p.1.2] (fun _ => True) (fun _ => False) rfl rfl (k65_mkM _ _ _ (⟨p.1.1, p.1.2⟩ : S65)) (fun _ hk => hk.elim) (fun _ _ => trivial) hRw (Below.refl _ _) (by show lo ≤ W4.heap.size; omega) (by omega) ?_
        intro v1 W6 hR6 _ hg6 hat6
        obtain ⟨A1, cp1, rfl⟩ := Kd.R_slice hR6
        obtain ⟨v1, hv1⟩ : ∃ v1, Value.slice A1 (ps ++ [(⟨p.1.1, p.1.2⟩ : S65)]).length cp1 = v1 := ⟨_, rfl⟩
        have hov := HOV.out
        have hneB : some B ≠ ov.ownBlock := fun e => by have := (hov B e.symm).1; omega
        have hneB1 : some (B + 1) ≠ ov.ownBlock := fun e => by have := (hov (B + 1) e.symm).1; omega
        have hneo : some oc ≠ ov.ownBlock := fun e => (hov oc e.symm).2.1 rfl
        have hnea : some atc ≠ ov.ownBlock := fun e => (hov atc e.symm).2.2 rfl
        have q6B := hg6.block B hBl hneB
        have q6B1 := hg6.block (B + 1) hBl1 hneB1
        have q6o := ((hg6.block oc hoz hneo).trans (hF4.block _ (Array.getElem?_eq_some_iff.1 H4.out).1)).trans H4.out
        have q6a := ((hg6.block atc haz hnea).trans (hF4.block _ (Array.getElem?_eq_some_iff.1 HA.out).1)).trans HA.out
        rw [hv1] at hR6 hat6 ⊢
        refine hK.out _ _ (hS _ q6B q6B1) (fun hHeld => ?_)
        clear hK K
        refine norm_ (a' := ?_) ?_ ?_
        rotate_left
        · show Act.put _ (some 48) _ = _
          simp only [Act.put, List.setIfInBounds_toArray, List.set_cons_zero, List.set_cons_succ]
          rfl
        refine one_ (i := 5) (N := none) #[true, true, true, true, true, true, false] rfl rfl (by kernel_rfl) (by decide) (fun K hK => ?_)
        have c6o := cell_of q6o (i := 0) rfl
        have z6o := not_frozen (i := 0) q6o
        simp only [List.getElem_toArray, List.getElem_cons_zero] at c6o
        refine skip_ (w1 := W6.setCell ⟨oc, 0, none⟩ v1) (by rfl) rfl ?_ ?_
        · rw [← hv1]; go_simp
        have hHs := HOA.out
        have q7a := (Below.heap_setCell W6 ⟨oc, 0, none⟩ v1 atc (fun e => hHs e.symm)).trans q6a
        have q7o := heap_set q6o 0 v1
        refine hK.out _ _ (hS _ ((Below.heap_setCell W6 ⟨oc, 0, none⟩ v1 B (fun e => by subst e; omega)).trans q6B) ((Below.heap_setCell W6 ⟨oc, 0, none⟩ v1 (B + 1) (fun e => by have : B + 1 = oc := e; omega)).trans q6B1)) (fun hHeld => ?_)
        clear hK K
        refine last_ (i := 6) (N := none) #[true, true, true, true, true, true, true] rfl rfl (by kernel_rfl) (by decide) (fun K hK => ?_)
        obtain ⟨W7, hW7⟩ : ∃ W7, W6.setCell ⟨oc, 0, none⟩ v1 = W7 := ⟨_, rfl⟩
        rw [hW7] at q7a q7o ⊢
        have c0 := cell_of q7a (i := 0) rfl
        have c1 := cell_of q7a (i := 1) rfl
        have c2 := cell_of q7a (i := 2) rfl
        have c3 := cell_of q7a (i := 3) rfl
        have z0 := not_frozen (i := 0) q7a
        have z1 := not_frozen (i := 1) q7a
        have z2 := not_frozen (i := 2) q7a
        have z3 := not_frozen (i := 3) q7a
        simp only [List.getElem_toArray, List.getElem_cons_zero, List.getElem_cons_succ] at c0 c1 c2 c3
        refine skip_ (w1 := (((W7.setCell ⟨atc, 0, none⟩ (.int .i64 p.2.holder)).setCell ⟨atc, 1, none⟩ (.int .i64 p.2.turn)).setCell ⟨atc, 2, none⟩ (.int .i64 p.2.short)).setCell ⟨atc, 3, none⟩ (.bool p.2.own)) (by rfl) rfl ?_ ?_
        · go_simp
        refine hK.out _ _ (done_ (by kernel_rfl) ?_)
        have hHs := HOA.out
        have hFx : Fr (fun k => k = oc ∨ k = atc ∨ ov.ownBlock = some k) W4 W7 := by
          rw [← hW7]
          exact (((Fr.drew W4).trans (Fr.drew _)).trans (Fr.grown hg6 (fun r e => .inr (.inr e)))).trans (Fr.setCell _ _ _ (.inl rfl))
        have hkx : KeptC (partsC W0.heap.size) W.heap.size W4 W7 := by
          rw [← hW7]
          refine (((KeptC.drew _ _ _).trans (KeptC.drew _ _ _)).trans (KeptC.grown hg6 (fun k e => ?_))).trans (KeptC.setCell _ _ _ (fun hc => ?_) (by show oc < W.heap.size; have := (Array.getElem?_eq_some_iff.1 H4.out).1; omega))
          · have := (hov k e).1
            exact ⟨fun hc => by have : W0.heap.size ≤ k := hc.1; omega, by omega⟩
          · have : W0.heap.size ≤ oc := hc.1
            omega
        have hR7 : Kd.R k65 65 W7 lo (fun _ => True) v1 (ps ++ [⟨p.1.1, p.1.2⟩]) := by
          rw [← hW7]
          exact Kd.R_set hR6 q6o (fun q hq => by
            have hq1 : q = 65 := by simpa [k65, Kd.iso, Kd.pair, Kd.int, Kd.scalar] using hq
            subst hq1; decide) 0 v1
        have hty : ∀ q, q ∈ 65 :: (k65).E → q ≠ 109 := fun q hq => by
          have hq1 : q = 65 := by simpa [k65, Kd.iso, Kd.pair, Kd.int, Kd.scalar] using hq
          subst hq1; decide
        have r0 := heap_set q7a 0 (.int .i64 p.2.holder)
        have r1 := heap_set r0 1 (.int .i64 p.2.turn)
        have r2 := heap_set r1 2 (.int .i64 p.2.short)
        have r3 := heap_set r2 3 (.bool p.2.own)
        have kz : ¬ partsC W0.heap.size atc := fun hc => by have : W0.heap.size ≤ atc := hc.1; omega
        have kz2 : atc < W.heap.size := by have := (Array.getElem?_eq_some_iff.1 HA.out).1; omega
        refine ⟨(((hkx.trans (KeptC.setCell _ _ _ kz kz2)).trans (KeptC.setCell _ _ _ kz kz2)).trans (KeptC.setCell _ _ _ kz kz2)).trans (KeptC.setCell _ _ _ kz kz2), v1,
          (((((hI2.mono (fun k _ h => h.elim)).trans hFx).trans (Fr.setCell _ _ _ (.inr (.inl rfl)))).trans (Fr.setCell _ _ _ (.inr (.inl rfl)))).trans (Fr.setCell _ _ _ (.inr (.inl rfl)))).trans (Fr.setCell _ _ _ (.inr (.inl rfl))), ?_, ?_, ?_⟩
        · refine (Below.heap_setCell _ _ _ _ hHs).trans ((Below.heap_setCell _ _ _ _ hHs).trans ((Below.heap_setCell _ _ _ _ hHs).trans ((Below.heap_setCell _ _ _ _ hHs).trans ?_)))
          simpa using q7o
        · simpa using r3
        · exact Kd.R_set (Kd.R_set (Kd.R_set (Kd.R_set hR7 q7a hty 0 _) r0 hty 1 _) r1 hty 2 _) r2 hty 3 _
      · refine value_ (w1 := ?_) (v := ?_) (by rfl) rfl ?_ ?_
        rotate_left 2
        · go_simp
          constructor
          · rfl
          · rfl
        refine hK.out _ _ (hS _ (Below.heap_alloc _ _ _ hBl) (Below.heap_alloc _ _ _ hBl1)) (fun hHeld => ?_)
        clear hK K
        refine norm_ (a' := ?_) ?_ ?_
        rotate_left
        · show Act.put _ (some 47) _ = _
          simp only [Act.put, List.setIfInBounds_toArray, List.set_cons_zero, List.set_cons_succ]
          rfl
        refine one_ (i := 0) (N := some 45) #[true, true, true, false, true, false, false] rfl rfl (by kernel_rfl) (by decide) (fun K hK => ?_)
        refine value_ (w1 := ?_) (v := ?_) (by rfl) rfl ?_ ?_
        rotate_left 2
        · go_simp
          constructor
          · rfl
          · rfl
        refine hK.out _ _ (hS _ (Below.heap_alloc _ _ _ hBl) (Below.heap_alloc _ _ _ hBl1)) (fun hHeld => ?_)
        clear hK K
        refine norm_ (a' := ?_) ?_ ?_
        rotate_left
        · show Act.put _ (some 45) _ = _
          simp only [Act.put, List.setIfInBounds_toArray, List.set_cons_zero, List.set_cons_succ]
          rfl
        refine one_ (i := 3) (N := some 48) #[true, true, true, true, true, false, false] rfl rfl (by kernel_rfl) (by decide) (fun K hK => ?_)
        refine Kd.R_append_step k65 (w0 := W4.drew.drew) (W := W4.drew.drew) lo (by rfl) (.tmp 45) (.tmp 47) 61 65 (.agg #[(.int .i64 0), (.int .i64 0)]) 16 rfl Try.underlying61 info65 rfl (by decide) (by omega) ov ps (⟨p.1.1, p.1.2⟩ : S65) [.int .i64 p.1.1, .int .i64 p.1.2] (fun _ => True) (fun _ => False) rfl rfl (k65_mkM _ _ _ (⟨p.1.1, p.1.2⟩ : S65)) (fun _ hk => hk.elim) (fun _ _ => trivial) hRw (Below.refl _ _) (by show lo ≤ W4.heap.size; omega) (by omega) ?_
        intro v1 W6 hR6 _ hg6 hat6
        obtain ⟨A1, cp1, rfl⟩ := Kd.R_slice hR6
        obtain ⟨v1, hv1⟩ : ∃ v1, Value.slice A1 (ps ++ [(⟨p.1.1, p.1.2⟩ : S65)]).length cp1 = v1 := ⟨_, rfl⟩
        have hov := HOV.out
        have hneB : some B ≠ ov.ownBlock := fun e => by have := (hov B e.symm).1; omega
        have hneB1 : some (B + 1) ≠ ov.ownBlock := fun e => by have := (hov (B + 1) e.symm).1; omega
        have hneo : some oc ≠ ov.ownBlock := fun e => (hov oc e.symm).2.1 rfl
        have hnea : some atc ≠ ov.ownBlock := fun e => (hov atc e.symm).2.2 rfl
        have q6B := hg6.block B hBl hneB
        have q6B1 := hg6.block (B + 1) hBl1 hneB1
        have q6o := ((hg6.block oc hoz hneo).trans (hF4.block _ (Array.getElem?_eq_some_iff.1 H4.out).1)).trans H4.out
        have q6a := ((hg6.block atc haz hnea).trans (hF4.block _ (Array.getElem?_eq_some_iff.1 HA.out).1)).trans HA.out
        rw [hv1] at hR6 hat6 ⊢
        refine hK.out _ _ (hS _ q6B q6B1) (fun hHeld => ?_)
        clear hK K
        refine norm_ (a' := ?_) ?_ ?_
        rotate_left
        · show Act.put _ (some 48) _ = _
          simp only [Act.put, List.setIfInBounds_toArray, List.set_cons_zero, List.set_cons_succ]
          rfl
        refine one_ (i := 5) (N := none) #[true, true, true, true, true, true, false] rfl rfl (by kernel_rfl) (by decide) (fun K hK => ?_)
        have c6o := cell_of q6o (i := 0) rfl
        have z6o := not_frozen (i := 0) q6o
        simp only [List.getElem_toArray, List.getElem_cons_zero] at c6o
        refine skip_ (w1 := W6.setCell ⟨oc, 0, none⟩ v1) (by rfl) rfl ?_ ?_
        · rw [← hv1]; go_simp
        have hHs := HOA.out
        have q7a := (Below.heap_setCell W6 ⟨oc, 0, none⟩ v1 atc (fun e => hHs e.symm)).trans q6a
        have q7o := heap_set q6o 0 v1
        refine hK.out _ _ (hS _ ((Below.heap_setCell W6 ⟨oc, 0, none⟩ v1 B (fun e => by subst e; omega)).trans q6B) ((Below.heap_setCell W6 ⟨oc, 0, none⟩ v1 (B + 1) (fun e => by have : B + 1 = oc := e; omega)).trans q6B1)) (fun hHeld => ?_)
        clear hK K
        refine last_ (i := 6) (N := none) #[true, true, true, true, true, true, true] rfl rfl (by kernel_rfl) (by decide) (fun K hK => ?_)
        obtain ⟨W7, hW7⟩ : ∃ W7, W6.setCell ⟨oc, 0, none⟩ v1 = W7 := ⟨_, rfl⟩
        rw [hW7] at q7a q7o ⊢
        have c0 := cell_of q7a (i := 0) rfl
        have c1 := cell_of q7a (i := 1) rfl
        have c2 := cell_of q7a (i := 2) rfl
        have c3 := cell_of q7a (i := 3) rfl
        have z0 := not_frozen (i := 0) q7a
        have z1 := not_frozen (i := 1) q7a
        have z2 := not_frozen (i := 2) q7a
        have z3 := not_frozen (i := 3) q7a
        simp only [List.getElem_toArray, List.getElem_cons_zero, List.getElem_cons_succ] at c0 c1 c2 c3
        refine skip_ (w1 := (((W7.setCell ⟨atc, 0, none⟩ (.int .i64 p.2.holder)).setCell ⟨atc, 1, none⟩ (.int .i64 p.2.turn)).setCell ⟨atc, 2, none⟩ (.int .i64 p.2.short)).setCell ⟨atc, 3, none⟩ (.bool p.2.own)) (by rfl) rfl ?_ ?_
        · go_simp
        refine hK.out _ _ (done_ (by kernel_rfl) ?_)
        have hHs := HOA.out
        have hFx : Fr (fun k => k = oc ∨ k = atc ∨ ov.ownBlock = some k) W4 W7 := by
          rw [← hW7]
          exact (((Fr.drew W4).trans (Fr.drew _)).trans (Fr.grown hg6 (fun r e => .inr (.inr e)))).trans (Fr.setCell _ _ _ (.inl rfl))
        have hkx : KeptC (partsC W0.heap.size) W.heap.size W4 W7 := by
          rw [← hW7]
          refine (((KeptC.drew _ _ _).trans (KeptC.drew _ _ _)).trans (KeptC.grown hg6 (fun k e => ?_))).trans (KeptC.setCell _ _ _ (fun hc => ?_) (by show oc < W.heap.size; have := (Array.getElem?_eq_some_iff.1 H4.out).1; omega))
          · have := (hov k e).1
            exact ⟨fun hc => by have : W0.heap.size ≤ k := hc.1; omega, by omega⟩
          · have : W0.heap.size ≤ oc := hc.1
            omega
        have hR7 : Kd.R k65 65 W7 lo (fun _ => True) v1 (ps ++ [⟨p.1.1, p.1.2⟩]) := by
          rw [← hW7]
          exact Kd.R_set hR6 q6o (fun q hq => by
            have hq1 : q = 65 := by simpa [k65, Kd.iso, Kd.pair, Kd.int, Kd.scalar] using hq
            subst hq1; decide) 0 v1
        have hty : ∀ q, q ∈ 65 :: (k65).E → q ≠ 109 := fun q hq => by
          have hq1 : q = 65 := by simpa [k65, Kd.iso, Kd.pair, Kd.int, Kd.scalar] using hq
          subst hq1; decide
        have r0 := heap_set q7a 0 (.int .i64 p.2.holder)
        have r1 := heap_set r0 1 (.int .i64 p.2.turn)
        have r2 := heap_set r1 2 (.int .i64 p.2.short)
        have r3 := heap_set r2 3 (.bool p.2.own)
        have kz : ¬ partsC W0.heap.size atc := fun hc => by have : W0.heap.size ≤ atc := hc.1; omega
        have kz2 : atc < W.heap.size := by have := (Array.getElem?_eq_some_iff.1 HA.out).1; omega
        refine ⟨(((hkx.trans (KeptC.setCell _ _ _ kz kz2)).trans (KeptC.setCell _ _ _ kz kz2)).trans (KeptC.setCell _ _ _ kz kz2)).trans (KeptC.setCell _ _ _ kz kz2), v1,
          (((((hI2.mono (fun k _ h => h.elim)).trans hFx).trans (Fr.setCell _ _ _ (.inr (.inl rfl)))).trans (Fr.setCell _ _ _ (.inr (.inl rfl)))).trans (Fr.setCell _ _ _ (.inr (.inl rfl)))).trans (Fr.setCell _ _ _ (.inr (.inl rfl))), ?_, ?_, ?_⟩
        · refine (Below.heap_setCell _ _ _ _ hHs).trans ((Below.heap_setCell _ _ _ _ hHs).trans ((Below.heap_setCell _ _ _ _ hHs).trans ((Below.heap_setCell _ _ _ _ hHs).trans ?_)))
          simpa using q7o
        · simpa using r3
        · exact Kd.R_set (Kd.R_set (Kd.R_set (Kd.R_set hR7 q7a hty 0 _) r0 hty 1 _) r1 hty 2 _) r2 hty 3 _
  case done =>
    rintro D W5 hD ⟨hI1, hI2⟩ hK
    gi_wp2
    have hsW := HSW.out
    have hDl : D < W5.heap.size := (Array.getElem?_eq_some_iff.1 hK).1
    have hz5 := hI2.size
    have hF5 : Below W.heap.size W W5 := hI2.below (Nat.le_refl _) (by simp)
    exact hdone _ ov ps x W5 (.inr ⟨hI1, rfl, rfl⟩) ((HFW.out.trans hI2).mono (fun k _ h => h.elim)) ((hF5.block _ (Array.getElem?_eq_some_iff.1 H4.out).1).trans H4.out) ((hF5.block _ (Array.getElem?_eq_some_iff.1 HA.out).1).trans HA.out) (Kd.R_below HR.out hF5)
      ((HDW.out.same (SameMarks.below hF5 (Nat.le_refl _))).push (by omega) hD hDl hK)
  case stop =>
    rintro D c pre p post W5 hD hx' ⟨rfl, q, p', hq, hn', hT, ov', hF, hoc, hat, hR'⟩ hK
    obtain ⟨rfl, hpp⟩ := List.append_inj' hq rfl
    obtain rfl : p = p' := by simpa using hpp
    gi_wp2
    have hsW := HSW.out
    have hDl : D < W5.heap.size := (Array.getElem?_eq_some_iff.1 hK).1
    have hz5 := hF.size
    have hov := HOV.out
    exact hdone _ ov' _ p.2 W5 (.inl ⟨_, p, post, hx', hn', hT, rfl, rfl⟩) ((HFW.out.mono (fun k _ h => h.elim)).trans hF) hoc hat hR'
      ((HDW.out.same (SameMarks.fr hF (fun k h e => by
        rcases h with rfl | rfl | h
        · rw [H4.out] at e; cases e
        · rw [HA.out] at e; cases e
        · obtain ⟨_, _, hl, q, hq, cells, hc⟩ := (Kd.R_bound HR.out).1 k h
          rw [hc] at e; cases e))).push (by omega) hD hDl hK)
end Go.Proofs.Ytdnjmhhjjbdieaa.Q
end
