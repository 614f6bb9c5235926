/-
  No cell of these rows narrows 'for every input' (looked for: loops, veiled, ifaces, maps, wideKeys, modest, calm, conditions, laid).
  DERIVED. THE GIVEN ROWS OF THIS SEAT. 5 by the template 'for every input the law returns true; each argument reads behind the call as it read before'; 0 by the template 'total and deterministic' (their statements: YtmeckkckjikjiaaTotals.lean).
  GIVEN WITH THE SEED: the statements are not yours to turn. If you find one false, say at which input.
  Laid BY PROGRAM, IN A SANDBOX (cutbox-rows.mjs): the forced cells as the released guide's own fill.sh prints them over the translation aea8c46b4ea98cf9… (all of the seat's roots in one cut). By AI agents, Wed Nov 11 2026. No macro, syntax, notation, axiom, sorry.
-/
import Derived.Test.YtmeckkckjikjiaaChecked
import GoSem.Claim
import GoSem.ClaimJoined
import GoSem.ClaimMapViews
import Derived.JoinedTies
import Derived.KernelRfl
namespace Go.Proofs.Ytmeckkckjikjiaa
/- THE CELL 'sum', in the pinned program and in every row, IS THE sha256 OF THE DUMP (.gsa) THAT YtmeckkckjikjiaaProg.lean LOADS. Nothing in Lean hashes anything: it is a label: what it is worth is what the hold of that sum in a sandbox is worth. -/
noncomputable def Try.pinned : Pinned := { name := "ytmeckkckjikjiaa", sum := "aea8c46b4ea98cf995fec71a4791439c9fe75c50bb95eb2fd37d6a871490d313", checked := Try.checked }
namespace Rows
def none {H : Type} : Left H := { results := [], args := [] }

/-- 'zelligelaw07.PredCircles': WHATEVER THE INPUT: true; the input reads as it did. -/
def predCirclesSpec : ChangeSpec := { name := "predCircles", fn := fun _ => fun
  | [d1, d2] => { results := [.lit (.bool true)], args := [d1, d2] }
  | _ => none }
def predCirclesRow : OpenClaim := { program := "ytmeckkckjikjiaa", sum := "aea8c46b4ea98cf995fec71a4791439c9fe75c50bb95eb2fd37d6a871490d313", func := "zellige/zelligelaw07.PredCircles", spec := "predCircles", inPlace := ["math/bits.Add64", "math/bits.Sub64"], apart := false }
def PredCirclesSaid : Prop := predCirclesRow.holds Try.pinned (OpenSpec.ofChange predCirclesSpec)

/-- ITS FALSE NEIGHBOUR: 'it returns false'. Refute it at one input. -/
def predCirclesWrong : ChangeSpec := { name := "predCircles", fn := fun _ => fun
  | [d1, d2] => { results := [.lit (.bool false)], args := [d1, d2] }
  | _ => none }
def PredCirclesWrongFalsely : Prop := predCirclesRow.holds Try.pinned (OpenSpec.ofChange predCirclesWrong)

/-- 'zelligelaw07.PredWhere': WHATEVER THE INPUT: true; the input reads as it did. -/
def predWhereSpec : ChangeSpec := { name := "predWhere", fn := fun _ => fun
  | [d1, d2] => { results := [.lit (.bool true)], args := [d1, d2] }
  | _ => none }
def predWhereRow : OpenClaim := { program := "ytmeckkckjikjiaa", sum := "aea8c46b4ea98cf995fec71a4791439c9fe75c50bb95eb2fd37d6a871490d313", func := "zellige/zelligelaw07.PredWhere", spec := "predWhere", inPlace := ["math/bits.Sub64", "math/bits.Add64"], apart := false }
def PredWhereSaid : Prop := predWhereRow.holds Try.pinned (OpenSpec.ofChange predWhereSpec)

/-- ITS FALSE NEIGHBOUR: 'it returns false'. Refute it at one input. -/
def predWhereWrong : ChangeSpec := { name := "predWhere", fn := fun _ => fun
  | [d1, d2] => { results := [.lit (.bool false)], args := [d1, d2] }
  | _ => none }
def PredWhereWrongFalsely : Prop := predWhereRow.holds Try.pinned (OpenSpec.ofChange predWhereWrong)

/-- 'zelligelaw07.PredTurns': WHATEVER THE INPUT: true; the input reads as it did. -/
def predTurnsSpec : ChangeSpec := { name := "predTurns", fn := fun _ => fun
  | [d1, d2] => { results := [.lit (.bool true)], args := [d1, d2] }
  | _ => none }
def predTurnsRow : OpenClaim := { program := "ytmeckkckjikjiaa", sum := "aea8c46b4ea98cf995fec71a4791439c9fe75c50bb95eb2fd37d6a871490d313", func := "zellige/zelligelaw07.PredTurns", spec := "predTurns", inPlace := ["math/bits.Sub64", "math/bits.Add64"], apart := false }
def PredTurnsSaid : Prop := predTurnsRow.holds Try.pinned (OpenSpec.ofChange predTurnsSpec)

/-- ITS FALSE NEIGHBOUR: 'it returns false'. Refute it at one input. -/
def predTurnsWrong : ChangeSpec := { name := "predTurns", fn := fun _ => fun
  | [d1, d2] => { results := [.lit (.bool false)], args := [d1, d2] }
  | _ => none }
def PredTurnsWrongFalsely : Prop := predTurnsRow.holds Try.pinned (OpenSpec.ofChange predTurnsWrong)

/-- 'zelligelaw07.PredAreas': WHATEVER THE INPUT: true; the input reads as it did. -/
def predAreasSpec : ChangeSpec := { name := "predAreas", fn := fun _ => fun
  | [d1, d2, d3] => { results := [.lit (.bool true)], args := [d1, d2, d3] }
  | _ => none }
def predAreasRow : OpenClaim := { program := "ytmeckkckjikjiaa", sum := "aea8c46b4ea98cf995fec71a4791439c9fe75c50bb95eb2fd37d6a871490d313", func := "zellige/zelligelaw07.PredAreas", spec := "predAreas", inPlace := ["math/bits.Sub64", "math/bits.Add64"], apart := false }
def PredAreasSaid : Prop := predAreasRow.holds Try.pinned (OpenSpec.ofChange predAreasSpec)

/-- ITS FALSE NEIGHBOUR: 'it returns false'. Refute it at one input. -/
def predAreasWrong : ChangeSpec := { name := "predAreas", fn := fun _ => fun
  | [d1, d2, d3] => { results := [.lit (.bool false)], args := [d1, d2, d3] }
  | _ => none }
def PredAreasWrongFalsely : Prop := predAreasRow.holds Try.pinned (OpenSpec.ofChange predAreasWrong)

/-- 'zelligelaw07.PredMoves': WHATEVER THE INPUT: true; the input reads as it did. -/
def predMovesSpec : ChangeSpec := { name := "predMoves", fn := fun _ => fun
  | [d1, d2, d3] => { results := [.lit (.bool true)], args := [d1, d2, d3] }
  | _ => none }
def predMovesRow : OpenClaim := { program := "ytmeckkckjikjiaa", sum := "aea8c46b4ea98cf995fec71a4791439c9fe75c50bb95eb2fd37d6a871490d313", func := "zellige/zelligelaw07.PredMoves", spec := "predMoves", inPlace := ["math/bits.Add64", "math/bits.Sub64"], apart := false }
def PredMovesSaid : Prop := predMovesRow.holds Try.pinned (OpenSpec.ofChange predMovesSpec)

/-- ITS FALSE NEIGHBOUR: 'it returns false'. Refute it at one input. -/
def predMovesWrong : ChangeSpec := { name := "predMoves", fn := fun _ => fun
  | [d1, d2, d3] => { results := [.lit (.bool false)], args := [d1, d2, d3] }
  | _ => none }
def PredMovesWrongFalsely : Prop := predMovesRow.holds Try.pinned (OpenSpec.ofChange predMovesWrong)

/- THE SECOND FORM. 'bulk': how many values and letters a reading holds, each counted each time it is reached (what is shared counts as often as it is met; a slice's spare places count too). A statement '..UptoSaid' is the law's where the arguments, and the package variables that the reading takes, are together of bulk at most 1048576: NARROWER than '..Said'. Prove '..Said' where nothing that the law and all that it calls make is longer than what came in: it says more and counts as full. Else prove '..UptoSaid'. A law counts once. -/
mutual
def uptoBulk {H : Type} : DataW H → Nat
  | .lit (.string bytes) => bytes.length + 1
  | .lit _ => 1
  | .nil => 1
  | .ptr d => uptoBulk d + 1
  | .slice elems spare => uptoBulkAll elems + uptoBulkAll spare + 1
  | .agg parts => uptoBulkAll parts + 1
  | .iface _ d => uptoBulk d + 1
  | .map entries => uptoBulkEntries entries + 1
  | .held _ => 1
def uptoBulkAll {H : Type} : List (DataW H) → Nat
  | [] => 0
  | d :: r => uptoBulk d + uptoBulkAll r
def uptoBulkEntries {H : Type} : List (Lit × DataW H) → Nat
  | [] => 0
  | x :: r => uptoBulkEntry x + uptoBulkEntries r
def uptoBulkEntry {H : Type} : Lit × DataW H → Nat
  | (.string bytes, d) => bytes.length + uptoBulk d + 1
  | (_, d) => uptoBulk d + 1
 end
def uptoSmall : (H : Type) → List (DataW H) → Bool := fun _ ds => decide (uptoBulkAll ds ≤ 1048576)
def OpenSpec.upto (s : _root_.Go.ChangeSpec) : _root_.Go.OpenSpec := { _root_.Go.OpenSpec.ofChange s with cond := some uptoSmall }

/-- 'zelligelaw07.PredCircles', WHERE WHAT IT READS IS OF BULK AT MOST 1048576: true; the input reads as it did. -/
def predCirclesUptoRow : OpenClaim := { program := "ytmeckkckjikjiaa", sum := "aea8c46b4ea98cf995fec71a4791439c9fe75c50bb95eb2fd37d6a871490d313", func := "zellige/zelligelaw07.PredCircles", spec := "predCircles", inPlace := ["math/bits.Add64", "math/bits.Sub64"], apart := false, narrowed := true }
def PredCirclesUptoSaid : Prop := predCirclesUptoRow.holds Try.pinned (OpenSpec.upto predCirclesSpec)

/-- 'zelligelaw07.PredWhere', WHERE WHAT IT READS IS OF BULK AT MOST 1048576: true; the input reads as it did. -/
def predWhereUptoRow : OpenClaim := { program := "ytmeckkckjikjiaa", sum := "aea8c46b4ea98cf995fec71a4791439c9fe75c50bb95eb2fd37d6a871490d313", func := "zellige/zelligelaw07.PredWhere", spec := "predWhere", inPlace := ["math/bits.Sub64", "math/bits.Add64"], apart := false, narrowed := true }
def PredWhereUptoSaid : Prop := predWhereUptoRow.holds Try.pinned (OpenSpec.upto predWhereSpec)

/-- 'zelligelaw07.PredTurns', WHERE WHAT IT READS IS OF BULK AT MOST 1048576: true; the input reads as it did. -/
def predTurnsUptoRow : OpenClaim := { program := "ytmeckkckjikjiaa", sum := "aea8c46b4ea98cf995fec71a4791439c9fe75c50bb95eb2fd37d6a871490d313", func := "zellige/zelligelaw07.PredTurns", spec := "predTurns", inPlace := ["math/bits.Sub64", "math/bits.Add64"], apart := false, narrowed := true }
def PredTurnsUptoSaid : Prop := predTurnsUptoRow.holds Try.pinned (OpenSpec.upto predTurnsSpec)

/-- 'zelligelaw07.PredAreas', WHERE WHAT IT READS IS OF BULK AT MOST 1048576: true; the input reads as it did. -/
def predAreasUptoRow : OpenClaim := { program := "ytmeckkckjikjiaa", sum := "aea8c46b4ea98cf995fec71a4791439c9fe75c50bb95eb2fd37d6a871490d313", func := "zellige/zelligelaw07.PredAreas", spec := "predAreas", inPlace := ["math/bits.Sub64", "math/bits.Add64"], apart := false, narrowed := true }
def PredAreasUptoSaid : Prop := predAreasUptoRow.holds Try.pinned (OpenSpec.upto predAreasSpec)

/-- 'zelligelaw07.PredMoves', WHERE WHAT IT READS IS OF BULK AT MOST 1048576: true; the input reads as it did. -/
def predMovesUptoRow : OpenClaim := { program := "ytmeckkckjikjiaa", sum := "aea8c46b4ea98cf995fec71a4791439c9fe75c50bb95eb2fd37d6a871490d313", func := "zellige/zelligelaw07.PredMoves", spec := "predMoves", inPlace := ["math/bits.Add64", "math/bits.Sub64"], apart := false, narrowed := true }
def PredMovesUptoSaid : Prop := predMovesUptoRow.holds Try.pinned (OpenSpec.upto predMovesSpec)

end Rows
end Go.Proofs.Ytmeckkckjikjiaa
