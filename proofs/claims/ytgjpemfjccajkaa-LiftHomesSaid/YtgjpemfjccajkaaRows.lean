/-
  No cell of these rows narrows 'for every input' (looked for: loops, veiled, ifaces, maps, wideKeys, modest, calm, conditions, laid).
  DERIVED. THE GIVEN ROWS OF THIS SEAT. 5 by the template 'for every input the law returns true; each argument reads behind the call as it read before'; 0 by the template 'total and deterministic' (their statements: YtgjpemfjccajkaaTotals.lean).
  GIVEN WITH THE SEED: the statements are not yours to turn. If you find one false, say at which input.
  Laid BY PROGRAM, IN A SANDBOX (cutbox-rows.mjs): the forced cells as the released guide's own fill.sh prints them over the translation 1b2f4e0bbfd710b0… (all of the seat's roots in one cut). By AI agents, Wed Nov 11 2026. No macro, syntax, notation, axiom, sorry.
-/
import Derived.Test.YtgjpemfjccajkaaChecked
import GoSem.Claim
import GoSem.ClaimJoined
import GoSem.ClaimMapViews
import Derived.JoinedTies
import Derived.KernelRfl
namespace Go.Proofs.Ytgjpemfjccajkaa
/- THE CELL 'sum', in the pinned program and in every row, IS THE sha256 OF THE DUMP (.gsa) THAT YtgjpemfjccajkaaProg.lean LOADS. Nothing in Lean hashes anything: it is a label: what it is worth is what the hold of that sum in a sandbox is worth. -/
noncomputable def Try.pinned : Pinned := { name := "ytgjpemfjccajkaa", sum := "1b2f4e0bbfd710b0ab892c9c1b17a38742c9a832045ca03a8e813cf84f820762", checked := Try.checked }
namespace Rows
def none {H : Type} : Left H := { results := [], args := [] }

/-- 'zelligelaw06.LiftSums': WHATEVER THE INPUT: true; the input reads as it did. -/
def liftSumsSpec : ChangeSpec := { name := "liftSums", fn := fun _ => fun
  | [d1, d2] => { results := [.lit (.bool true)], args := [d1, d2] }
  | _ => none }
def liftSumsRow : OpenClaim := { program := "ytgjpemfjccajkaa", sum := "1b2f4e0bbfd710b0ab892c9c1b17a38742c9a832045ca03a8e813cf84f820762", func := "zellige/zelligelaw06.LiftSums", spec := "liftSums", apart := false }
def LiftSumsSaid : Prop := liftSumsRow.holds Try.pinned (OpenSpec.ofChange liftSumsSpec)

/-- ITS FALSE NEIGHBOUR: 'it returns false'. Refute it at one input. -/
def liftSumsWrong : ChangeSpec := { name := "liftSums", fn := fun _ => fun
  | [d1, d2] => { results := [.lit (.bool false)], args := [d1, d2] }
  | _ => none }
def LiftSumsWrongFalsely : Prop := liftSumsRow.holds Try.pinned (OpenSpec.ofChange liftSumsWrong)

/-- 'zelligelaw06.LiftHomes': WHATEVER THE INPUT: true; the input reads as it did. -/
def liftHomesSpec : ChangeSpec := { name := "liftHomes", fn := fun _ => fun
  | [d1, d2] => { results := [.lit (.bool true)], args := [d1, d2] }
  | _ => none }
def liftHomesRow : OpenClaim := { program := "ytgjpemfjccajkaa", sum := "1b2f4e0bbfd710b0ab892c9c1b17a38742c9a832045ca03a8e813cf84f820762", func := "zellige/zelligelaw06.LiftHomes", spec := "liftHomes", apart := false }
def LiftHomesSaid : Prop := liftHomesRow.holds Try.pinned (OpenSpec.ofChange liftHomesSpec)

/-- ITS FALSE NEIGHBOUR: 'it returns false'. Refute it at one input. -/
def liftHomesWrong : ChangeSpec := { name := "liftHomes", fn := fun _ => fun
  | [d1, d2] => { results := [.lit (.bool false)], args := [d1, d2] }
  | _ => none }
def LiftHomesWrongFalsely : Prop := liftHomesRow.holds Try.pinned (OpenSpec.ofChange liftHomesWrong)

/-- 'zelligelaw06.LiftMoves': WHATEVER THE INPUT: true; the input reads as it did. -/
def liftMovesSpec : ChangeSpec := { name := "liftMoves", fn := fun _ => fun
  | [d1, d2, d3] => { results := [.lit (.bool true)], args := [d1, d2, d3] }
  | _ => none }
def liftMovesRow : OpenClaim := { program := "ytgjpemfjccajkaa", sum := "1b2f4e0bbfd710b0ab892c9c1b17a38742c9a832045ca03a8e813cf84f820762", func := "zellige/zelligelaw06.LiftMoves", spec := "liftMoves", apart := false }
def LiftMovesSaid : Prop := liftMovesRow.holds Try.pinned (OpenSpec.ofChange liftMovesSpec)

/-- ITS FALSE NEIGHBOUR: 'it returns false'. Refute it at one input. -/
def liftMovesWrong : ChangeSpec := { name := "liftMoves", fn := fun _ => fun
  | [d1, d2, d3] => { results := [.lit (.bool false)], args := [d1, d2, d3] }
  | _ => none }
def LiftMovesWrongFalsely : Prop := liftMovesRow.holds Try.pinned (OpenSpec.ofChange liftMovesWrong)

/-- 'zelligelaw06.LiftOrders': WHATEVER THE INPUT: true; the input reads as it did. -/
def liftOrdersSpec : ChangeSpec := { name := "liftOrders", fn := fun _ => fun
  | [d1, d2, d3] => { results := [.lit (.bool true)], args := [d1, d2, d3] }
  | _ => none }
def liftOrdersRow : OpenClaim := { program := "ytgjpemfjccajkaa", sum := "1b2f4e0bbfd710b0ab892c9c1b17a38742c9a832045ca03a8e813cf84f820762", func := "zellige/zelligelaw06.LiftOrders", spec := "liftOrders", apart := false }
def LiftOrdersSaid : Prop := liftOrdersRow.holds Try.pinned (OpenSpec.ofChange liftOrdersSpec)

/-- ITS FALSE NEIGHBOUR: 'it returns false'. Refute it at one input. -/
def liftOrdersWrong : ChangeSpec := { name := "liftOrders", fn := fun _ => fun
  | [d1, d2, d3] => { results := [.lit (.bool false)], args := [d1, d2, d3] }
  | _ => none }
def LiftOrdersWrongFalsely : Prop := liftOrdersRow.holds Try.pinned (OpenSpec.ofChange liftOrdersWrong)

/-- 'zelligelaw06.LiftWindows': WHATEVER THE INPUT: true; the input reads as it did. -/
def liftWindowsSpec : ChangeSpec := { name := "liftWindows", fn := fun _ => fun
  | [d1, d2, d3] => { results := [.lit (.bool true)], args := [d1, d2, d3] }
  | _ => none }
def liftWindowsRow : OpenClaim := { program := "ytgjpemfjccajkaa", sum := "1b2f4e0bbfd710b0ab892c9c1b17a38742c9a832045ca03a8e813cf84f820762", func := "zellige/zelligelaw06.LiftWindows", spec := "liftWindows", apart := false }
def LiftWindowsSaid : Prop := liftWindowsRow.holds Try.pinned (OpenSpec.ofChange liftWindowsSpec)

/-- ITS FALSE NEIGHBOUR: 'it returns false'. Refute it at one input. -/
def liftWindowsWrong : ChangeSpec := { name := "liftWindows", fn := fun _ => fun
  | [d1, d2, d3] => { results := [.lit (.bool false)], args := [d1, d2, d3] }
  | _ => none }
def LiftWindowsWrongFalsely : Prop := liftWindowsRow.holds Try.pinned (OpenSpec.ofChange liftWindowsWrong)

/- THE SECOND FORM. 'bulk': how many values and letters a reading holds, each counted each time it is reached (what is shared counts as often as it is met; a slice's spare places count too). A statement '..UptoSaid' is the law's where the arguments, and the package variables that the reading takes, are together of bulk at most 1048576: NARROWER than '..Said'. Prove '..Said' where nothing that the law and all that it calls make is longer than what came in: it says more and counts as full. Else prove '..UptoSaid'. A law counts once. -/
mutual
def uptoBulk {H : Type} : DataW H → Nat
  | .lit (.string bytes) => bytes.length + 1
  | .lit _ => 1
  | .nil => 1
  | .ptr d => uptoBulk d + 1
  | .slice elems spare => uptoBulkAll elems + uptoBulkAll spare + 1
  | .agg parts => uptoBulkAll parts + 1
  | .iface _ d => uptoBulk d + 1
  | .map entries => uptoBulkEntries entries + 1
  | .held _ => 1
def uptoBulkAll {H : Type} : List (DataW H) → Nat
  | [] => 0
  | d :: r => uptoBulk d + uptoBulkAll r
def uptoBulkEntries {H : Type} : List (Lit × DataW H) → Nat
  | [] => 0
  | x :: r => uptoBulkEntry x + uptoBulkEntries r
def uptoBulkEntry {H : Type} : Lit × DataW H → Nat
  | (.string bytes, d) => bytes.length + uptoBulk d + 1
  | (_, d) => uptoBulk d + 1
 end
def uptoSmall : (H : Type) → List (DataW H) → Bool := fun _ ds => decide (uptoBulkAll ds ≤ 1048576)
def OpenSpec.upto (s : _root_.Go.ChangeSpec) : _root_.Go.OpenSpec := { _root_.Go.OpenSpec.ofChange s with cond := some uptoSmall }

/-- 'zelligelaw06.LiftSums', WHERE WHAT IT READS IS OF BULK AT MOST 1048576: true; the input reads as it did. -/
def liftSumsUptoRow : OpenClaim := { program := "ytgjpemfjccajkaa", sum := "1b2f4e0bbfd710b0ab892c9c1b17a38742c9a832045ca03a8e813cf84f820762", func := "zellige/zelligelaw06.LiftSums", spec := "liftSums", apart := false, narrowed := true }
def LiftSumsUptoSaid : Prop := liftSumsUptoRow.holds Try.pinned (OpenSpec.upto liftSumsSpec)

/-- 'zelligelaw06.LiftHomes', WHERE WHAT IT READS IS OF BULK AT MOST 1048576: true; the input reads as it did. -/
def liftHomesUptoRow : OpenClaim := { program := "ytgjpemfjccajkaa", sum := "1b2f4e0bbfd710b0ab892c9c1b17a38742c9a832045ca03a8e813cf84f820762", func := "zellige/zelligelaw06.LiftHomes", spec := "liftHomes", apart := false, narrowed := true }
def LiftHomesUptoSaid : Prop := liftHomesUptoRow.holds Try.pinned (OpenSpec.upto liftHomesSpec)

/-- 'zelligelaw06.LiftMoves', WHERE WHAT IT READS IS OF BULK AT MOST 1048576: true; the input reads as it did. -/
def liftMovesUptoRow : OpenClaim := { program := "ytgjpemfjccajkaa", sum := "1b2f4e0bbfd710b0ab892c9c1b17a38742c9a832045ca03a8e813cf84f820762", func := "zellige/zelligelaw06.LiftMoves", spec := "liftMoves", apart := false, narrowed := true }
def LiftMovesUptoSaid : Prop := liftMovesUptoRow.holds Try.pinned (OpenSpec.upto liftMovesSpec)

/-- 'zelligelaw06.LiftOrders', WHERE WHAT IT READS IS OF BULK AT MOST 1048576: true; the input reads as it did. -/
def liftOrdersUptoRow : OpenClaim := { program := "ytgjpemfjccajkaa", sum := "1b2f4e0bbfd710b0ab892c9c1b17a38742c9a832045ca03a8e813cf84f820762", func := "zellige/zelligelaw06.LiftOrders", spec := "liftOrders", apart := false, narrowed := true }
def LiftOrdersUptoSaid : Prop := liftOrdersUptoRow.holds Try.pinned (OpenSpec.upto liftOrdersSpec)

/-- 'zelligelaw06.LiftWindows', WHERE WHAT IT READS IS OF BULK AT MOST 1048576: true; the input reads as it did. -/
def liftWindowsUptoRow : OpenClaim := { program := "ytgjpemfjccajkaa", sum := "1b2f4e0bbfd710b0ab892c9c1b17a38742c9a832045ca03a8e813cf84f820762", func := "zellige/zelligelaw06.LiftWindows", spec := "liftWindows", apart := false, narrowed := true }
def LiftWindowsUptoSaid : Prop := liftWindowsUptoRow.holds Try.pinned (OpenSpec.upto liftWindowsSpec)

end Rows
end Go.Proofs.Ytgjpemfjccajkaa
