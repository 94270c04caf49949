/-
  No cell of these rows narrows 'for every input' (looked for: loops, veiled, ifaces, maps, wideKeys, modest, calm, conditions, laid).
  DERIVED. THE GIVEN ROWS OF THIS SEAT. 13 by the template 'for every input the law returns true; each argument reads behind the call as it read before'; 0 by the template 'total and deterministic' (their statements: YtdnjmhhjjbdieaaTotals.lean).
  GIVEN WITH THE SEED: the statements are not yours to turn. If you find one false, say at which input.
  Laid BY PROGRAM, IN A SANDBOX (cutbox-rows.mjs): the forced cells as the released guide's own fill.sh prints them over the translation eecb71bb11fafd3d… (all of the seat's roots in one cut). By AI agents, Wed Nov 11 2026. No macro, syntax, notation, axiom, sorry.
-/
import Derived.Test.YtdnjmhhjjbdieaaChecked
import GoSem.Claim
import GoSem.ClaimJoined
import GoSem.ClaimMapViews
import Derived.JoinedTies
import Derived.KernelRfl
namespace Go.Proofs.Ytdnjmhhjjbdieaa
/- THE CELL 'sum', in the pinned program and in every row, IS THE sha256 OF THE DUMP (.gsa) THAT YtdnjmhhjjbdieaaProg.lean LOADS. Nothing in Lean hashes anything: it is a label: what it is worth is what the hold of that sum in a sandbox is worth. -/
noncomputable def Try.pinned : Pinned := { name := "ytdnjmhhjjbdieaa", sum := "eecb71bb11fafd3da29099c18c9ac7591d8fc7ebd3464660224bafb0cc43665d", checked := Try.checked }
namespace Rows
def none {H : Type} : Left H := { results := [], args := [] }

/-- 'palantypelaw02.FloorWho': WHATEVER THE INPUT: true; the input reads as it did. -/
def floorWhoSpec : ChangeSpec := { name := "floorWho", fn := fun _ => fun
  | [d] => { results := [.lit (.bool true)], args := [d] }
  | _ => none }
def floorWhoRow : OpenClaim := { program := "ytdnjmhhjjbdieaa", sum := "eecb71bb11fafd3da29099c18c9ac7591d8fc7ebd3464660224bafb0cc43665d", func := "palantype/palantypelaw02.FloorWho", spec := "floorWho", unfollowed := true, recurses := true, plainKeys := false, apart := false }
def FloorWhoSaid : Prop := floorWhoRow.holds Try.pinned (OpenSpec.ofChange floorWhoSpec)

/-- ITS FALSE NEIGHBOUR: 'it returns false'. Refute it at one input. -/
def floorWhoWrong : ChangeSpec := { name := "floorWho", fn := fun _ => fun
  | [d] => { results := [.lit (.bool false)], args := [d] }
  | _ => none }
def FloorWhoWrongFalsely : Prop := floorWhoRow.holds Try.pinned (OpenSpec.ofChange floorWhoWrong)

/-- 'palantypelaw02.FloorHelds': WHATEVER THE INPUT: true; the input reads as it did. -/
def floorHeldsSpec : ChangeSpec := { name := "floorHelds", fn := fun _ => fun
  | [d1, d2] => { results := [.lit (.bool true)], args := [d1, d2] }
  | _ => none }
def floorHeldsRow : OpenClaim := { program := "ytdnjmhhjjbdieaa", sum := "eecb71bb11fafd3da29099c18c9ac7591d8fc7ebd3464660224bafb0cc43665d", func := "palantype/palantypelaw02.FloorHelds", spec := "floorHelds", unfollowed := true, recurses := true, plainKeys := false, apart := false }
def FloorHeldsSaid : Prop := floorHeldsRow.holds Try.pinned (OpenSpec.ofChange floorHeldsSpec)

/-- ITS FALSE NEIGHBOUR: 'it returns false'. Refute it at one input. -/
def floorHeldsWrong : ChangeSpec := { name := "floorHelds", fn := fun _ => fun
  | [d1, d2] => { results := [.lit (.bool false)], args := [d1, d2] }
  | _ => none }
def FloorHeldsWrongFalsely : Prop := floorHeldsRow.holds Try.pinned (OpenSpec.ofChange floorHeldsWrong)

/-- 'palantypelaw02.FloorLess': WHATEVER THE INPUT: true; the input reads as it did. -/
def floorLessSpec : ChangeSpec := { name := "floorLess", fn := fun _ => fun
  | [d1, d2, d3, d4, d5] => { results := [.lit (.bool true)], args := [d1, d2, d3, d4, d5] }
  | _ => none }
def floorLessRow : OpenClaim := { program := "ytdnjmhhjjbdieaa", sum := "eecb71bb11fafd3da29099c18c9ac7591d8fc7ebd3464660224bafb0cc43665d", func := "palantype/palantypelaw02.FloorLess", spec := "floorLess", unfollowed := true, recurses := true, plainKeys := false, apart := false }
def FloorLessSaid : Prop := floorLessRow.holds Try.pinned (OpenSpec.ofChange floorLessSpec)

/-- ITS FALSE NEIGHBOUR: 'it returns false'. Refute it at one input. -/
def floorLessWrong : ChangeSpec := { name := "floorLess", fn := fun _ => fun
  | [d1, d2, d3, d4, d5] => { results := [.lit (.bool false)], args := [d1, d2, d3, d4, d5] }
  | _ => none }
def FloorLessWrongFalsely : Prop := floorLessRow.holds Try.pinned (OpenSpec.ofChange floorLessWrong)

/-- 'palantypelaw02.FloorBreaks': WHATEVER THE INPUT: true; the input reads as it did. -/
def floorBreaksSpec : ChangeSpec := { name := "floorBreaks", fn := fun _ => fun
  | [d] => { results := [.lit (.bool true)], args := [d] }
  | _ => none }
def floorBreaksRow : OpenClaim := { program := "ytdnjmhhjjbdieaa", sum := "eecb71bb11fafd3da29099c18c9ac7591d8fc7ebd3464660224bafb0cc43665d", func := "palantype/palantypelaw02.FloorBreaks", spec := "floorBreaks", unfollowed := true, recurses := true, plainKeys := false, apart := false }
def FloorBreaksSaid : Prop := floorBreaksRow.holds Try.pinned (OpenSpec.ofChange floorBreaksSpec)

/-- ITS FALSE NEIGHBOUR: 'it returns false'. Refute it at one input. -/
def floorBreaksWrong : ChangeSpec := { name := "floorBreaks", fn := fun _ => fun
  | [d] => { results := [.lit (.bool false)], args := [d] }
  | _ => none }
def FloorBreaksWrongFalsely : Prop := floorBreaksRow.holds Try.pinned (OpenSpec.ofChange floorBreaksWrong)

/-- 'palantypelaw02.FloorNumbers': WHATEVER THE INPUT: true; the input reads as it did. -/
def floorNumbersSpec : ChangeSpec := { name := "floorNumbers", fn := fun _ => fun
  | [d1, d2, d3] => { results := [.lit (.bool true)], args := [d1, d2, d3] }
  | _ => none }
def floorNumbersRow : OpenClaim := { program := "ytdnjmhhjjbdieaa", sum := "eecb71bb11fafd3da29099c18c9ac7591d8fc7ebd3464660224bafb0cc43665d", func := "palantype/palantypelaw02.FloorNumbers", spec := "floorNumbers", unfollowed := true, recurses := true, plainKeys := false, apart := false }
def FloorNumbersSaid : Prop := floorNumbersRow.holds Try.pinned (OpenSpec.ofChange floorNumbersSpec)

/-- ITS FALSE NEIGHBOUR: 'it returns false'. Refute it at one input. -/
def floorNumbersWrong : ChangeSpec := { name := "floorNumbers", fn := fun _ => fun
  | [d1, d2, d3] => { results := [.lit (.bool false)], args := [d1, d2, d3] }
  | _ => none }
def FloorNumbersWrongFalsely : Prop := floorNumbersRow.holds Try.pinned (OpenSpec.ofChange floorNumbersWrong)

/-- 'palantypelaw02.FloorTurns': WHATEVER THE INPUT: true; the input reads as it did. -/
def floorTurnsSpec : ChangeSpec := { name := "floorTurns", fn := fun _ => fun
  | [d] => { results := [.lit (.bool true)], args := [d] }
  | _ => none }
def floorTurnsRow : OpenClaim := { program := "ytdnjmhhjjbdieaa", sum := "eecb71bb11fafd3da29099c18c9ac7591d8fc7ebd3464660224bafb0cc43665d", func := "palantype/palantypelaw02.FloorTurns", spec := "floorTurns", unfollowed := true, recurses := true, plainKeys := false, apart := false }
def FloorTurnsSaid : Prop := floorTurnsRow.holds Try.pinned (OpenSpec.ofChange floorTurnsSpec)

/-- ITS FALSE NEIGHBOUR: 'it returns false'. Refute it at one input. -/
def floorTurnsWrong : ChangeSpec := { name := "floorTurns", fn := fun _ => fun
  | [d] => { results := [.lit (.bool false)], args := [d] }
  | _ => none }
def FloorTurnsWrongFalsely : Prop := floorTurnsRow.holds Try.pinned (OpenSpec.ofChange floorTurnsWrong)

/-- 'palantypetop.TopSpeaks': WHATEVER THE INPUT: true; the input reads as it did. -/
def topSpeaksSpec : ChangeSpec := { name := "topSpeaks", fn := fun _ => fun
  | [d1, d2] => { results := [.lit (.bool true)], args := [d1, d2] }
  | _ => none }
def topSpeaksRow : OpenClaim := { program := "ytdnjmhhjjbdieaa", sum := "eecb71bb11fafd3da29099c18c9ac7591d8fc7ebd3464660224bafb0cc43665d", func := "palantype/palantypetop.TopSpeaks", spec := "topSpeaks", unfollowed := true, recurses := true, plainKeys := false, apart := false }
def TopSpeaksSaid : Prop := topSpeaksRow.holds Try.pinned (OpenSpec.ofChange topSpeaksSpec)

/-- ITS FALSE NEIGHBOUR: 'it returns false'. Refute it at one input. -/
def topSpeaksWrong : ChangeSpec := { name := "topSpeaks", fn := fun _ => fun
  | [d1, d2] => { results := [.lit (.bool false)], args := [d1, d2] }
  | _ => none }
def TopSpeaksWrongFalsely : Prop := topSpeaksRow.holds Try.pinned (OpenSpec.ofChange topSpeaksWrong)

/-- 'palantypelaw02.FloorCut': WHATEVER THE INPUT: true; the input reads as it did. -/
def floorCutSpec : ChangeSpec := { name := "floorCut", fn := fun _ => fun
  | [d1, d2] => { results := [.lit (.bool true)], args := [d1, d2] }
  | _ => none }
def floorCutRow : OpenClaim := { program := "ytdnjmhhjjbdieaa", sum := "eecb71bb11fafd3da29099c18c9ac7591d8fc7ebd3464660224bafb0cc43665d", func := "palantype/palantypelaw02.FloorCut", spec := "floorCut", unfollowed := true, recurses := true, plainKeys := false, apart := false }
def FloorCutSaid : Prop := floorCutRow.holds Try.pinned (OpenSpec.ofChange floorCutSpec)

/-- ITS FALSE NEIGHBOUR: 'it returns false'. Refute it at one input. -/
def floorCutWrong : ChangeSpec := { name := "floorCut", fn := fun _ => fun
  | [d1, d2] => { results := [.lit (.bool false)], args := [d1, d2] }
  | _ => none }
def FloorCutWrongFalsely : Prop := floorCutRow.holds Try.pinned (OpenSpec.ofChange floorCutWrong)

/-- 'palantypelaw02.FloorAll': WHATEVER THE INPUT: true; the input reads as it did. -/
def floorAllSpec : ChangeSpec := { name := "floorAll", fn := fun _ => fun
  | [d1, d2, d3, d4] => { results := [.lit (.bool true)], args := [d1, d2, d3, d4] }
  | _ => none }
def floorAllRow : OpenClaim := { program := "ytdnjmhhjjbdieaa", sum := "eecb71bb11fafd3da29099c18c9ac7591d8fc7ebd3464660224bafb0cc43665d", func := "palantype/palantypelaw02.FloorAll", spec := "floorAll", unfollowed := true, recurses := true, plainKeys := false, apart := false }
def FloorAllSaid : Prop := floorAllRow.holds Try.pinned (OpenSpec.ofChange floorAllSpec)

/-- ITS FALSE NEIGHBOUR: 'it returns false'. Refute it at one input. -/
def floorAllWrong : ChangeSpec := { name := "floorAll", fn := fun _ => fun
  | [d1, d2, d3, d4] => { results := [.lit (.bool false)], args := [d1, d2, d3, d4] }
  | _ => none }
def FloorAllWrongFalsely : Prop := floorAllRow.holds Try.pinned (OpenSpec.ofChange floorAllWrong)

/-- 'palantypelaw02.FloorSure': WHATEVER THE INPUT: true; the input reads as it did. -/
def floorSureSpec : ChangeSpec := { name := "floorSure", fn := fun _ => fun
  | [d1, d2] => { results := [.lit (.bool true)], args := [d1, d2] }
  | _ => none }
def floorSureRow : OpenClaim := { program := "ytdnjmhhjjbdieaa", sum := "eecb71bb11fafd3da29099c18c9ac7591d8fc7ebd3464660224bafb0cc43665d", func := "palantype/palantypelaw02.FloorSure", spec := "floorSure", unfollowed := true, recurses := true, plainKeys := false, apart := false }
def FloorSureSaid : Prop := floorSureRow.holds Try.pinned (OpenSpec.ofChange floorSureSpec)

/-- ITS FALSE NEIGHBOUR: 'it returns false'. Refute it at one input. -/
def floorSureWrong : ChangeSpec := { name := "floorSure", fn := fun _ => fun
  | [d1, d2] => { results := [.lit (.bool false)], args := [d1, d2] }
  | _ => none }
def FloorSureWrongFalsely : Prop := floorSureRow.holds Try.pinned (OpenSpec.ofChange floorSureWrong)

/-- 'palantypelaw02.FloorRanges': WHATEVER THE INPUT: true; the input reads as it did. -/
def floorRangesSpec : ChangeSpec := { name := "floorRanges", fn := fun _ => fun
  | [d1, d2, d3] => { results := [.lit (.bool true)], args := [d1, d2, d3] }
  | _ => none }
def floorRangesRow : OpenClaim := { program := "ytdnjmhhjjbdieaa", sum := "eecb71bb11fafd3da29099c18c9ac7591d8fc7ebd3464660224bafb0cc43665d", func := "palantype/palantypelaw02.FloorRanges", spec := "floorRanges", unfollowed := true, recurses := true, plainKeys := false, apart := false }
def FloorRangesSaid : Prop := floorRangesRow.holds Try.pinned (OpenSpec.ofChange floorRangesSpec)

/-- ITS FALSE NEIGHBOUR: 'it returns false'. Refute it at one input. -/
def floorRangesWrong : ChangeSpec := { name := "floorRanges", fn := fun _ => fun
  | [d1, d2, d3] => { results := [.lit (.bool false)], args := [d1, d2, d3] }
  | _ => none }
def FloorRangesWrongFalsely : Prop := floorRangesRow.holds Try.pinned (OpenSpec.ofChange floorRangesWrong)

/-- 'palantypelaw02.FloorTells': WHATEVER THE INPUT: true; the input reads as it did. -/
def floorTellsSpec : ChangeSpec := { name := "floorTells", fn := fun _ => fun
  | [d1, d2, d3, d4, d5, d6] => { results := [.lit (.bool true)], args := [d1, d2, d3, d4, d5, d6] }
  | _ => none }
def floorTellsRow : OpenClaim := { program := "ytdnjmhhjjbdieaa", sum := "eecb71bb11fafd3da29099c18c9ac7591d8fc7ebd3464660224bafb0cc43665d", func := "palantype/palantypelaw02.FloorTells", spec := "floorTells", unfollowed := true, recurses := true, plainKeys := false, apart := false }
def FloorTellsSaid : Prop := floorTellsRow.holds Try.pinned (OpenSpec.ofChange floorTellsSpec)

/-- ITS FALSE NEIGHBOUR: 'it returns false'. Refute it at one input. -/
def floorTellsWrong : ChangeSpec := { name := "floorTells", fn := fun _ => fun
  | [d1, d2, d3, d4, d5, d6] => { results := [.lit (.bool false)], args := [d1, d2, d3, d4, d5, d6] }
  | _ => none }
def FloorTellsWrongFalsely : Prop := floorTellsRow.holds Try.pinned (OpenSpec.ofChange floorTellsWrong)

/-- 'palantypelaw02.FloorNames': WHATEVER THE INPUT: true; the input reads as it did. -/
def floorNamesSpec : ChangeSpec := { name := "floorNames", fn := fun _ => fun
  | [] => { results := [.lit (.bool true)], args := [] }
  | _ => none }
def floorNamesRow : OpenClaim := { program := "ytdnjmhhjjbdieaa", sum := "eecb71bb11fafd3da29099c18c9ac7591d8fc7ebd3464660224bafb0cc43665d", func := "palantype/palantypelaw02.FloorNames", spec := "floorNames", unfollowed := true, recurses := true, plainKeys := false, apart := false }
def FloorNamesSaid : Prop := floorNamesRow.holds Try.pinned (OpenSpec.ofChange floorNamesSpec)

/-- ITS FALSE NEIGHBOUR: 'it returns false'. Refute it at one input. -/
def floorNamesWrong : ChangeSpec := { name := "floorNames", fn := fun _ => fun
  | [] => { results := [.lit (.bool false)], args := [] }
  | _ => none }
def FloorNamesWrongFalsely : Prop := floorNamesRow.holds Try.pinned (OpenSpec.ofChange floorNamesWrong)

/- THE SECOND FORM. 'bulk': how many values and letters a reading holds, each counted each time it is reached (what is shared counts as often as it is met; a slice's spare places count too). A statement '..UptoSaid' is the law's where the arguments, and the package variables that the reading takes, are together of bulk at most 1048576: NARROWER than '..Said'. Prove '..Said' where nothing that the law and all that it calls make is longer than what came in: it says more and counts as full. Else prove '..UptoSaid'. A law counts once. -/
mutual
def uptoBulk {H : Type} : DataW H → Nat
  | .lit (.string bytes) => bytes.length + 1
  | .lit _ => 1
  | .nil => 1
  | .ptr d => uptoBulk d + 1
  | .slice elems spare => uptoBulkAll elems + uptoBulkAll spare + 1
  | .agg parts => uptoBulkAll parts + 1
  | .iface _ d => uptoBulk d + 1
  | .map entries => uptoBulkEntries entries + 1
  | .held _ => 1
def uptoBulkAll {H : Type} : List (DataW H) → Nat
  | [] => 0
  | d :: r => uptoBulk d + uptoBulkAll r
def uptoBulkEntries {H : Type} : List (Lit × DataW H) → Nat
  | [] => 0
  | x :: r => uptoBulkEntry x + uptoBulkEntries r
def uptoBulkEntry {H : Type} : Lit × DataW H → Nat
  | (.string bytes, d) => bytes.length + uptoBulk d + 1
  | (_, d) => uptoBulk d + 1
 end
def uptoSmall : (H : Type) → List (DataW H) → Bool := fun _ ds => decide (uptoBulkAll ds ≤ 1048576)
def OpenSpec.upto (s : _root_.Go.ChangeSpec) : _root_.Go.OpenSpec := { _root_.Go.OpenSpec.ofChange s with cond := some uptoSmall }

/-- 'palantypelaw02.FloorWho', WHERE WHAT IT READS IS OF BULK AT MOST 1048576: true; the input reads as it did. -/
def floorWhoUptoRow : OpenClaim := { program := "ytdnjmhhjjbdieaa", sum := "eecb71bb11fafd3da29099c18c9ac7591d8fc7ebd3464660224bafb0cc43665d", func := "palantype/palantypelaw02.FloorWho", spec := "floorWho", unfollowed := true, recurses := true, plainKeys := false, apart := false, narrowed := true }
def FloorWhoUptoSaid : Prop := floorWhoUptoRow.holds Try.pinned (OpenSpec.upto floorWhoSpec)

/-- 'palantypelaw02.FloorHelds', WHERE WHAT IT READS IS OF BULK AT MOST 1048576: true; the input reads as it did. -/
def floorHeldsUptoRow : OpenClaim := { program := "ytdnjmhhjjbdieaa", sum := "eecb71bb11fafd3da29099c18c9ac7591d8fc7ebd3464660224bafb0cc43665d", func := "palantype/palantypelaw02.FloorHelds", spec := "floorHelds", unfollowed := true, recurses := true, plainKeys := false, apart := false, narrowed := true }
def FloorHeldsUptoSaid : Prop := floorHeldsUptoRow.holds Try.pinned (OpenSpec.upto floorHeldsSpec)

/-- 'palantypelaw02.FloorLess', WHERE WHAT IT READS IS OF BULK AT MOST 1048576: true; the input reads as it did. -/
def floorLessUptoRow : OpenClaim := { program := "ytdnjmhhjjbdieaa", sum := "eecb71bb11fafd3da29099c18c9ac7591d8fc7ebd3464660224bafb0cc43665d", func := "palantype/palantypelaw02.FloorLess", spec := "floorLess", unfollowed := true, recurses := true, plainKeys := false, apart := false, narrowed := true }
def FloorLessUptoSaid : Prop := floorLessUptoRow.holds Try.pinned (OpenSpec.upto floorLessSpec)

/-- 'palantypelaw02.FloorBreaks', WHERE WHAT IT READS IS OF BULK AT MOST 1048576: true; the input reads as it did. -/
def floorBreaksUptoRow : OpenClaim := { program := "ytdnjmhhjjbdieaa", sum := "eecb71bb11fafd3da29099c18c9ac7591d8fc7ebd3464660224bafb0cc43665d", func := "palantype/palantypelaw02.FloorBreaks", spec := "floorBreaks", unfollowed := true, recurses := true, plainKeys := false, apart := false, narrowed := true }
def FloorBreaksUptoSaid : Prop := floorBreaksUptoRow.holds Try.pinned (OpenSpec.upto floorBreaksSpec)

/-- 'palantypelaw02.FloorNumbers', WHERE WHAT IT READS IS OF BULK AT MOST 1048576: true; the input reads as it did. -/
def floorNumbersUptoRow : OpenClaim := { program := "ytdnjmhhjjbdieaa", sum := "eecb71bb11fafd3da29099c18c9ac7591d8fc7ebd3464660224bafb0cc43665d", func := "palantype/palantypelaw02.FloorNumbers", spec := "floorNumbers", unfollowed := true, recurses := true, plainKeys := false, apart := false, narrowed := true }
def FloorNumbersUptoSaid : Prop := floorNumbersUptoRow.holds Try.pinned (OpenSpec.upto floorNumbersSpec)

/-- 'palantypelaw02.FloorTurns', WHERE WHAT IT READS IS OF BULK AT MOST 1048576: true; the input reads as it did. -/
def floorTurnsUptoRow : OpenClaim := { program := "ytdnjmhhjjbdieaa", sum := "eecb71bb11fafd3da29099c18c9ac7591d8fc7ebd3464660224bafb0cc43665d", func := "palantype/palantypelaw02.FloorTurns", spec := "floorTurns", unfollowed := true, recurses := true, plainKeys := false, apart := false, narrowed := true }
def FloorTurnsUptoSaid : Prop := floorTurnsUptoRow.holds Try.pinned (OpenSpec.upto floorTurnsSpec)

/-- 'palantypetop.TopSpeaks', WHERE WHAT IT READS IS OF BULK AT MOST 1048576: true; the input reads as it did. -/
def topSpeaksUptoRow : OpenClaim := { program := "ytdnjmhhjjbdieaa", sum := "eecb71bb11fafd3da29099c18c9ac7591d8fc7ebd3464660224bafb0cc43665d", func := "palantype/palantypetop.TopSpeaks", spec := "topSpeaks", unfollowed := true, recurses := true, plainKeys := false, apart := false, narrowed := true }
def TopSpeaksUptoSaid : Prop := topSpeaksUptoRow.holds Try.pinned (OpenSpec.upto topSpeaksSpec)

/-- 'palantypelaw02.FloorCut', WHERE WHAT IT READS IS OF BULK AT MOST 1048576: true; the input reads as it did. -/
def floorCutUptoRow : OpenClaim := { program := "ytdnjmhhjjbdieaa", sum := "eecb71bb11fafd3da29099c18c9ac7591d8fc7ebd3464660224bafb0cc43665d", func := "palantype/palantypelaw02.FloorCut", spec := "floorCut", unfollowed := true, recurses := true, plainKeys := false, apart := false, narrowed := true }
def FloorCutUptoSaid : Prop := floorCutUptoRow.holds Try.pinned (OpenSpec.upto floorCutSpec)

/-- 'palantypelaw02.FloorAll', WHERE WHAT IT READS IS OF BULK AT MOST 1048576: true; the input reads as it did. -/
def floorAllUptoRow : OpenClaim := { program := "ytdnjmhhjjbdieaa", sum := "eecb71bb11fafd3da29099c18c9ac7591d8fc7ebd3464660224bafb0cc43665d", func := "palantype/palantypelaw02.FloorAll", spec := "floorAll", unfollowed := true, recurses := true, plainKeys := false, apart := false, narrowed := true }
def FloorAllUptoSaid : Prop := floorAllUptoRow.holds Try.pinned (OpenSpec.upto floorAllSpec)

/-- 'palantypelaw02.FloorSure', WHERE WHAT IT READS IS OF BULK AT MOST 1048576: true; the input reads as it did. -/
def floorSureUptoRow : OpenClaim := { program := "ytdnjmhhjjbdieaa", sum := "eecb71bb11fafd3da29099c18c9ac7591d8fc7ebd3464660224bafb0cc43665d", func := "palantype/palantypelaw02.FloorSure", spec := "floorSure", unfollowed := true, recurses := true, plainKeys := false, apart := false, narrowed := true }
def FloorSureUptoSaid : Prop := floorSureUptoRow.holds Try.pinned (OpenSpec.upto floorSureSpec)

/-- 'palantypelaw02.FloorRanges', WHERE WHAT IT READS IS OF BULK AT MOST 1048576: true; the input reads as it did. -/
def floorRangesUptoRow : OpenClaim := { program := "ytdnjmhhjjbdieaa", sum := "eecb71bb11fafd3da29099c18c9ac7591d8fc7ebd3464660224bafb0cc43665d", func := "palantype/palantypelaw02.FloorRanges", spec := "floorRanges", unfollowed := true, recurses := true, plainKeys := false, apart := false, narrowed := true }
def FloorRangesUptoSaid : Prop := floorRangesUptoRow.holds Try.pinned (OpenSpec.upto floorRangesSpec)

/-- 'palantypelaw02.FloorTells', WHERE WHAT IT READS IS OF BULK AT MOST 1048576: true; the input reads as it did. -/
def floorTellsUptoRow : OpenClaim := { program := "ytdnjmhhjjbdieaa", sum := "eecb71bb11fafd3da29099c18c9ac7591d8fc7ebd3464660224bafb0cc43665d", func := "palantype/palantypelaw02.FloorTells", spec := "floorTells", unfollowed := true, recurses := true, plainKeys := false, apart := false, narrowed := true }
def FloorTellsUptoSaid : Prop := floorTellsUptoRow.holds Try.pinned (OpenSpec.upto floorTellsSpec)

/-- 'palantypelaw02.FloorNames', WHERE WHAT IT READS IS OF BULK AT MOST 1048576: true; the input reads as it did. -/
def floorNamesUptoRow : OpenClaim := { program := "ytdnjmhhjjbdieaa", sum := "eecb71bb11fafd3da29099c18c9ac7591d8fc7ebd3464660224bafb0cc43665d", func := "palantype/palantypelaw02.FloorNames", spec := "floorNames", unfollowed := true, recurses := true, plainKeys := false, apart := false, narrowed := true }
def FloorNamesUptoSaid : Prop := floorNamesUptoRow.holds Try.pinned (OpenSpec.upto floorNamesSpec)

end Rows
end Go.Proofs.Ytdnjmhhjjbdieaa
