/-
  No cell of these rows narrows 'for every input' (looked for: loops, veiled, ifaces, maps, wideKeys, modest, calm, conditions, laid).
  DERIVED. THE GIVEN ROWS OF THIS SEAT. 5 by the template 'for every input the law returns true; each argument reads behind the call as it read before'; 0 by the template 'total and deterministic' (their statements: YtlkngfidohiepaaTotals.lean).
  GIVEN WITH THE SEED: the statements are not yours to turn. If you find one false, say at which input.
  Laid BY PROGRAM, IN A SANDBOX (cutbox-rows.mjs): the forced cells as the released guide's own fill.sh prints them over the translation 86c4c557f47153a0… (all of the seat's roots in one cut). By AI agents, Wed Nov 11 2026. No macro, syntax, notation, axiom, sorry.
-/
import Derived.Test.YtlkngfidohiepaaChecked
import GoSem.Claim
import GoSem.ClaimJoined
import GoSem.ClaimMapViews
import Derived.JoinedTies
import Derived.KernelRfl
namespace Go.Proofs.Ytlkngfidohiepaa
/- THE CELL 'sum', in the pinned program and in every row, IS THE sha256 OF THE DUMP (.gsa) THAT YtlkngfidohiepaaProg.lean LOADS. Nothing in Lean hashes anything: it is a label: what it is worth is what the hold of that sum in a sandbox is worth. -/
noncomputable def Try.pinned : Pinned := { name := "ytlkngfidohiepaa", sum := "86c4c557f47153a0834b7224cb3a8d5dfb78e3608e1749332ec4b274376af62d", checked := Try.checked }
namespace Rows
def none {H : Type} : Left H := { results := [], args := [] }

/-- 'zelligelaw08.TieConflicts': WHATEVER THE INPUT: true; the input reads as it did. -/
def tieConflictsSpec : ChangeSpec := { name := "tieConflicts", fn := fun _ => fun
  | [d1, d2] => { results := [.lit (.bool true)], args := [d1, d2] }
  | _ => none }
def tieConflictsRow : OpenClaim := { program := "ytlkngfidohiepaa", sum := "86c4c557f47153a0834b7224cb3a8d5dfb78e3608e1749332ec4b274376af62d", func := "zellige/zelligelaw08.TieConflicts", spec := "tieConflicts", inPlace := ["math/bits.Sub64", "math/bits.Add64"], apart := false }
def TieConflictsSaid : Prop := tieConflictsRow.holds Try.pinned (OpenSpec.ofChange tieConflictsSpec)

/-- ITS FALSE NEIGHBOUR: 'it returns false'. Refute it at one input. -/
def tieConflictsWrong : ChangeSpec := { name := "tieConflicts", fn := fun _ => fun
  | [d1, d2] => { results := [.lit (.bool false)], args := [d1, d2] }
  | _ => none }
def TieConflictsWrongFalsely : Prop := tieConflictsRow.holds Try.pinned (OpenSpec.ofChange tieConflictsWrong)

/-- 'zelligelaw08.TieTurns': WHATEVER THE INPUT: true; the input reads as it did. -/
def tieTurnsSpec : ChangeSpec := { name := "tieTurns", fn := fun _ => fun
  | [d1, d2] => { results := [.lit (.bool true)], args := [d1, d2] }
  | _ => none }
def tieTurnsRow : OpenClaim := { program := "ytlkngfidohiepaa", sum := "86c4c557f47153a0834b7224cb3a8d5dfb78e3608e1749332ec4b274376af62d", func := "zellige/zelligelaw08.TieTurns", spec := "tieTurns", inPlace := ["math/bits.Sub64", "math/bits.Add64"], apart := false }
def TieTurnsSaid : Prop := tieTurnsRow.holds Try.pinned (OpenSpec.ofChange tieTurnsSpec)

/-- ITS FALSE NEIGHBOUR: 'it returns false'. Refute it at one input. -/
def tieTurnsWrong : ChangeSpec := { name := "tieTurns", fn := fun _ => fun
  | [d1, d2] => { results := [.lit (.bool false)], args := [d1, d2] }
  | _ => none }
def TieTurnsWrongFalsely : Prop := tieTurnsRow.holds Try.pinned (OpenSpec.ofChange tieTurnsWrong)

/-- 'zelligelaw08.TieDiagonals': WHATEVER THE INPUT: true; the input reads as it did. -/
def tieDiagonalsSpec : ChangeSpec := { name := "tieDiagonals", fn := fun _ => fun
  | [d1, d2] => { results := [.lit (.bool true)], args := [d1, d2] }
  | _ => none }
def tieDiagonalsRow : OpenClaim := { program := "ytlkngfidohiepaa", sum := "86c4c557f47153a0834b7224cb3a8d5dfb78e3608e1749332ec4b274376af62d", func := "zellige/zelligelaw08.TieDiagonals", spec := "tieDiagonals", inPlace := ["math/bits.Sub64", "math/bits.Add64"], apart := false }
def TieDiagonalsSaid : Prop := tieDiagonalsRow.holds Try.pinned (OpenSpec.ofChange tieDiagonalsSpec)

/-- ITS FALSE NEIGHBOUR: 'it returns false'. Refute it at one input. -/
def tieDiagonalsWrong : ChangeSpec := { name := "tieDiagonals", fn := fun _ => fun
  | [d1, d2] => { results := [.lit (.bool false)], args := [d1, d2] }
  | _ => none }
def TieDiagonalsWrongFalsely : Prop := tieDiagonalsRow.holds Try.pinned (OpenSpec.ofChange tieDiagonalsWrong)

/-- 'zelligelaw08.TieMoves': WHATEVER THE INPUT: true; the input reads as it did. -/
def tieMovesSpec : ChangeSpec := { name := "tieMoves", fn := fun _ => fun
  | [d1, d2, d3] => { results := [.lit (.bool true)], args := [d1, d2, d3] }
  | _ => none }
def tieMovesRow : OpenClaim := { program := "ytlkngfidohiepaa", sum := "86c4c557f47153a0834b7224cb3a8d5dfb78e3608e1749332ec4b274376af62d", func := "zellige/zelligelaw08.TieMoves", spec := "tieMoves", inPlace := ["math/bits.Sub64", "math/bits.Add64"], apart := false }
def TieMovesSaid : Prop := tieMovesRow.holds Try.pinned (OpenSpec.ofChange tieMovesSpec)

/-- ITS FALSE NEIGHBOUR: 'it returns false'. Refute it at one input. -/
def tieMovesWrong : ChangeSpec := { name := "tieMoves", fn := fun _ => fun
  | [d1, d2, d3] => { results := [.lit (.bool false)], args := [d1, d2, d3] }
  | _ => none }
def TieMovesWrongFalsely : Prop := tieMovesRow.holds Try.pinned (OpenSpec.ofChange tieMovesWrong)

/-- 'zelligelaw08.TieBest': WHATEVER THE INPUT: true; the input reads as it did. -/
def tieBestSpec : ChangeSpec := { name := "tieBest", fn := fun _ => fun
  | [d1, d2, d3] => { results := [.lit (.bool true)], args := [d1, d2, d3] }
  | _ => none }
def tieBestRow : OpenClaim := { program := "ytlkngfidohiepaa", sum := "86c4c557f47153a0834b7224cb3a8d5dfb78e3608e1749332ec4b274376af62d", func := "zellige/zelligelaw08.TieBest", spec := "tieBest", inPlace := ["math/bits.Sub64", "math/bits.Add64"], apart := false }
def TieBestSaid : Prop := tieBestRow.holds Try.pinned (OpenSpec.ofChange tieBestSpec)

/-- ITS FALSE NEIGHBOUR: 'it returns false'. Refute it at one input. -/
def tieBestWrong : ChangeSpec := { name := "tieBest", fn := fun _ => fun
  | [d1, d2, d3] => { results := [.lit (.bool false)], args := [d1, d2, d3] }
  | _ => none }
def TieBestWrongFalsely : Prop := tieBestRow.holds Try.pinned (OpenSpec.ofChange tieBestWrong)

/- THE SECOND FORM. 'bulk': how many values and letters a reading holds, each counted each time it is reached (what is shared counts as often as it is met; a slice's spare places count too). A statement '..UptoSaid' is the law's where the arguments, and the package variables that the reading takes, are together of bulk at most 1048576: NARROWER than '..Said'. Prove '..Said' where nothing that the law and all that it calls make is longer than what came in: it says more and counts as full. Else prove '..UptoSaid'. A law counts once. -/
mutual
def uptoBulk {H : Type} : DataW H → Nat
  | .lit (.string bytes) => bytes.length + 1
  | .lit _ => 1
  | .nil => 1
  | .ptr d => uptoBulk d + 1
  | .slice elems spare => uptoBulkAll elems + uptoBulkAll spare + 1
  | .agg parts => uptoBulkAll parts + 1
  | .iface _ d => uptoBulk d + 1
  | .map entries => uptoBulkEntries entries + 1
  | .held _ => 1
def uptoBulkAll {H : Type} : List (DataW H) → Nat
  | [] => 0
  | d :: r => uptoBulk d + uptoBulkAll r
def uptoBulkEntries {H : Type} : List (Lit × DataW H) → Nat
  | [] => 0
  | x :: r => uptoBulkEntry x + uptoBulkEntries r
def uptoBulkEntry {H : Type} : Lit × DataW H → Nat
  | (.string bytes, d) => bytes.length + uptoBulk d + 1
  | (_, d) => uptoBulk d + 1
 end
def uptoSmall : (H : Type) → List (DataW H) → Bool := fun _ ds => decide (uptoBulkAll ds ≤ 1048576)
def OpenSpec.upto (s : _root_.Go.ChangeSpec) : _root_.Go.OpenSpec := { _root_.Go.OpenSpec.ofChange s with cond := some uptoSmall }

/-- 'zelligelaw08.TieConflicts', WHERE WHAT IT READS IS OF BULK AT MOST 1048576: true; the input reads as it did. -/
def tieConflictsUptoRow : OpenClaim := { program := "ytlkngfidohiepaa", sum := "86c4c557f47153a0834b7224cb3a8d5dfb78e3608e1749332ec4b274376af62d", func := "zellige/zelligelaw08.TieConflicts", spec := "tieConflicts", inPlace := ["math/bits.Sub64", "math/bits.Add64"], apart := false, narrowed := true }
def TieConflictsUptoSaid : Prop := tieConflictsUptoRow.holds Try.pinned (OpenSpec.upto tieConflictsSpec)

/-- 'zelligelaw08.TieTurns', WHERE WHAT IT READS IS OF BULK AT MOST 1048576: true; the input reads as it did. -/
def tieTurnsUptoRow : OpenClaim := { program := "ytlkngfidohiepaa", sum := "86c4c557f47153a0834b7224cb3a8d5dfb78e3608e1749332ec4b274376af62d", func := "zellige/zelligelaw08.TieTurns", spec := "tieTurns", inPlace := ["math/bits.Sub64", "math/bits.Add64"], apart := false, narrowed := true }
def TieTurnsUptoSaid : Prop := tieTurnsUptoRow.holds Try.pinned (OpenSpec.upto tieTurnsSpec)

/-- 'zelligelaw08.TieDiagonals', WHERE WHAT IT READS IS OF BULK AT MOST 1048576: true; the input reads as it did. -/
def tieDiagonalsUptoRow : OpenClaim := { program := "ytlkngfidohiepaa", sum := "86c4c557f47153a0834b7224cb3a8d5dfb78e3608e1749332ec4b274376af62d", func := "zellige/zelligelaw08.TieDiagonals", spec := "tieDiagonals", inPlace := ["math/bits.Sub64", "math/bits.Add64"], apart := false, narrowed := true }
def TieDiagonalsUptoSaid : Prop := tieDiagonalsUptoRow.holds Try.pinned (OpenSpec.upto tieDiagonalsSpec)

/-- 'zelligelaw08.TieMoves', WHERE WHAT IT READS IS OF BULK AT MOST 1048576: true; the input reads as it did. -/
def tieMovesUptoRow : OpenClaim := { program := "ytlkngfidohiepaa", sum := "86c4c557f47153a0834b7224cb3a8d5dfb78e3608e1749332ec4b274376af62d", func := "zellige/zelligelaw08.TieMoves", spec := "tieMoves", inPlace := ["math/bits.Sub64", "math/bits.Add64"], apart := false, narrowed := true }
def TieMovesUptoSaid : Prop := tieMovesUptoRow.holds Try.pinned (OpenSpec.upto tieMovesSpec)

/-- 'zelligelaw08.TieBest', WHERE WHAT IT READS IS OF BULK AT MOST 1048576: true; the input reads as it did. -/
def tieBestUptoRow : OpenClaim := { program := "ytlkngfidohiepaa", sum := "86c4c557f47153a0834b7224cb3a8d5dfb78e3608e1749332ec4b274376af62d", func := "zellige/zelligelaw08.TieBest", spec := "tieBest", inPlace := ["math/bits.Sub64", "math/bits.Add64"], apart := false, narrowed := true }
def TieBestUptoSaid : Prop := tieBestUptoRow.holds Try.pinned (OpenSpec.upto tieBestSpec)

end Rows
end Go.Proofs.Ytlkngfidohiepaa
