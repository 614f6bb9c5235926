/-
  No cell of these rows narrows 'for every input' (looked for: loops, veiled, ifaces, maps, wideKeys, modest, calm, conditions, laid).
  DERIVED. THE GIVEN ROWS OF THIS SEAT. 6 by the template 'for every input the law returns true; each argument reads behind the call as it read before'; 0 by the template 'total and deterministic' (their statements: YtbmeokhoebjdbaaTotals.lean).
  GIVEN WITH THE SEED: the statements are not yours to turn. If you find one false, say at which input.
  Laid BY PROGRAM, IN A SANDBOX (cutbox-rows.mjs): the forced cells as the released guide's own fill.sh prints them over the translation a1b0d089b88938f6… (all of the seat's roots in one cut). By AI agents, Wed Nov 11 2026. No macro, syntax, notation, axiom, sorry.
-/
import Derived.Test.YtbmeokhoebjdbaaChecked
import GoSem.Claim
import GoSem.ClaimJoined
import GoSem.ClaimMapViews
import Derived.JoinedTies
import Derived.KernelRfl
namespace Go.Proofs.Ytbmeokhoebjdbaa
/- THE CELL 'sum', in the pinned program and in every row, IS THE sha256 OF THE DUMP (.gsa) THAT YtbmeokhoebjdbaaProg.lean LOADS. Nothing in Lean hashes anything: it is a label: what it is worth is what the hold of that sum in a sandbox is worth. -/
noncomputable def Try.pinned : Pinned := { name := "ytbmeokhoebjdbaa", sum := "a1b0d089b88938f65fd22b3b0e2749d28e6e37cdd8d67321ebcfa1eb3ffa27ec", checked := Try.checked }
namespace Rows
def none {H : Type} : Left H := { results := [], args := [] }

/-- 'zelligelaw02.QuadHexes': WHATEVER THE INPUT: true; the input reads as it did. -/
def quadHexesSpec : ChangeSpec := { name := "quadHexes", fn := fun _ => fun
  | [d] => { results := [.lit (.bool true)], args := [d] }
  | _ => none }
def quadHexesRow : OpenClaim := { program := "ytbmeokhoebjdbaa", sum := "a1b0d089b88938f65fd22b3b0e2749d28e6e37cdd8d67321ebcfa1eb3ffa27ec", func := "zellige/zelligelaw02.QuadHexes", spec := "quadHexes", inPlace := ["math/bits.Sub64", "math/bits.Add64"], apart := false }
def QuadHexesSaid : Prop := quadHexesRow.holds Try.pinned (OpenSpec.ofChange quadHexesSpec)

/-- ITS FALSE NEIGHBOUR: 'it returns false'. Refute it at one input. -/
def quadHexesWrong : ChangeSpec := { name := "quadHexes", fn := fun _ => fun
  | [d] => { results := [.lit (.bool false)], args := [d] }
  | _ => none }
def QuadHexesWrongFalsely : Prop := quadHexesRow.holds Try.pinned (OpenSpec.ofChange quadHexesWrong)

/-- 'zelligelaw02.QuadMuls': WHATEVER THE INPUT: true; the input reads as it did. -/
def quadMulsSpec : ChangeSpec := { name := "quadMuls", fn := fun _ => fun
  | [d1, d2] => { results := [.lit (.bool true)], args := [d1, d2] }
  | _ => none }
def quadMulsRow : OpenClaim := { program := "ytbmeokhoebjdbaa", sum := "a1b0d089b88938f65fd22b3b0e2749d28e6e37cdd8d67321ebcfa1eb3ffa27ec", func := "zellige/zelligelaw02.QuadMuls", spec := "quadMuls", inPlace := ["math/bits.Sub64", "math/bits.Add64"], apart := false }
def QuadMulsSaid : Prop := quadMulsRow.holds Try.pinned (OpenSpec.ofChange quadMulsSpec)

/-- ITS FALSE NEIGHBOUR: 'it returns false'. Refute it at one input. -/
def quadMulsWrong : ChangeSpec := { name := "quadMuls", fn := fun _ => fun
  | [d1, d2] => { results := [.lit (.bool false)], args := [d1, d2] }
  | _ => none }
def QuadMulsWrongFalsely : Prop := quadMulsRow.holds Try.pinned (OpenSpec.ofChange quadMulsWrong)

/-- 'zelligelaw02.QuadAdds': WHATEVER THE INPUT: true; the input reads as it did. -/
def quadAddsSpec : ChangeSpec := { name := "quadAdds", fn := fun _ => fun
  | [d1, d2] => { results := [.lit (.bool true)], args := [d1, d2] }
  | _ => none }
def quadAddsRow : OpenClaim := { program := "ytbmeokhoebjdbaa", sum := "a1b0d089b88938f65fd22b3b0e2749d28e6e37cdd8d67321ebcfa1eb3ffa27ec", func := "zellige/zelligelaw02.QuadAdds", spec := "quadAdds", inPlace := ["math/bits.Add64", "math/bits.Sub64"], apart := false }
def QuadAddsSaid : Prop := quadAddsRow.holds Try.pinned (OpenSpec.ofChange quadAddsSpec)

/-- ITS FALSE NEIGHBOUR: 'it returns false'. Refute it at one input. -/
def quadAddsWrong : ChangeSpec := { name := "quadAdds", fn := fun _ => fun
  | [d1, d2] => { results := [.lit (.bool false)], args := [d1, d2] }
  | _ => none }
def QuadAddsWrongFalsely : Prop := quadAddsRow.holds Try.pinned (OpenSpec.ofChange quadAddsWrong)

/-- 'zelligelaw02.QuadRings': WHATEVER THE INPUT: true; the input reads as it did. -/
def quadRingsSpec : ChangeSpec := { name := "quadRings", fn := fun _ => fun
  | [d1, d2, d3] => { results := [.lit (.bool true)], args := [d1, d2, d3] }
  | _ => none }
def quadRingsRow : OpenClaim := { program := "ytbmeokhoebjdbaa", sum := "a1b0d089b88938f65fd22b3b0e2749d28e6e37cdd8d67321ebcfa1eb3ffa27ec", func := "zellige/zelligelaw02.QuadRings", spec := "quadRings", inPlace := ["math/bits.Sub64", "math/bits.Add64"], apart := false }
def QuadRingsSaid : Prop := quadRingsRow.holds Try.pinned (OpenSpec.ofChange quadRingsSpec)

/-- ITS FALSE NEIGHBOUR: 'it returns false'. Refute it at one input. -/
def quadRingsWrong : ChangeSpec := { name := "quadRings", fn := fun _ => fun
  | [d1, d2, d3] => { results := [.lit (.bool false)], args := [d1, d2, d3] }
  | _ => none }
def QuadRingsWrongFalsely : Prop := quadRingsRow.holds Try.pinned (OpenSpec.ofChange quadRingsWrong)

/-- 'zelligelaw02.QuadOrders': WHATEVER THE INPUT: true; the input reads as it did. -/
def quadOrdersSpec : ChangeSpec := { name := "quadOrders", fn := fun _ => fun
  | [d1, d2] => { results := [.lit (.bool true)], args := [d1, d2] }
  | _ => none }
def quadOrdersRow : OpenClaim := { program := "ytbmeokhoebjdbaa", sum := "a1b0d089b88938f65fd22b3b0e2749d28e6e37cdd8d67321ebcfa1eb3ffa27ec", func := "zellige/zelligelaw02.QuadOrders", spec := "quadOrders", inPlace := ["math/bits.Sub64", "math/bits.Add64"], apart := false }
def QuadOrdersSaid : Prop := quadOrdersRow.holds Try.pinned (OpenSpec.ofChange quadOrdersSpec)

/-- ITS FALSE NEIGHBOUR: 'it returns false'. Refute it at one input. -/
def quadOrdersWrong : ChangeSpec := { name := "quadOrders", fn := fun _ => fun
  | [d1, d2] => { results := [.lit (.bool false)], args := [d1, d2] }
  | _ => none }
def QuadOrdersWrongFalsely : Prop := quadOrdersRow.holds Try.pinned (OpenSpec.ofChange quadOrdersWrong)

/-- 'zelligelaw02.QuadSmall': WHATEVER THE INPUT: true; the input reads as it did. -/
def quadSmallSpec : ChangeSpec := { name := "quadSmall", fn := fun _ => fun
  | [d1, d2, d3] => { results := [.lit (.bool true)], args := [d1, d2, d3] }
  | _ => none }
def quadSmallRow : OpenClaim := { program := "ytbmeokhoebjdbaa", sum := "a1b0d089b88938f65fd22b3b0e2749d28e6e37cdd8d67321ebcfa1eb3ffa27ec", func := "zellige/zelligelaw02.QuadSmall", spec := "quadSmall", inPlace := ["math/bits.Sub64", "math/bits.Add64"], apart := false }
def QuadSmallSaid : Prop := quadSmallRow.holds Try.pinned (OpenSpec.ofChange quadSmallSpec)

/-- ITS FALSE NEIGHBOUR: 'it returns false'. Refute it at one input. -/
def quadSmallWrong : ChangeSpec := { name := "quadSmall", fn := fun _ => fun
  | [d1, d2, d3] => { results := [.lit (.bool false)], args := [d1, d2, d3] }
  | _ => none }
def QuadSmallWrongFalsely : Prop := quadSmallRow.holds Try.pinned (OpenSpec.ofChange quadSmallWrong)

/- THE SECOND FORM. 'bulk': how many values and letters a reading holds, each counted each time it is reached (what is shared counts as often as it is met; a slice's spare places count too). A statement '..UptoSaid' is the law's where the arguments, and the package variables that the reading takes, are together of bulk at most 1048576: NARROWER than '..Said'. Prove '..Said' where nothing that the law and all that it calls make is longer than what came in: it says more and counts as full. Else prove '..UptoSaid'. A law counts once. -/
mutual
def uptoBulk {H : Type} : DataW H → Nat
  | .lit (.string bytes) => bytes.length + 1
  | .lit _ => 1
  | .nil => 1
  | .ptr d => uptoBulk d + 1
  | .slice elems spare => uptoBulkAll elems + uptoBulkAll spare + 1
  | .agg parts => uptoBulkAll parts + 1
  | .iface _ d => uptoBulk d + 1
  | .map entries => uptoBulkEntries entries + 1
  | .held _ => 1
def uptoBulkAll {H : Type} : List (DataW H) → Nat
  | [] => 0
  | d :: r => uptoBulk d + uptoBulkAll r
def uptoBulkEntries {H : Type} : List (Lit × DataW H) → Nat
  | [] => 0
  | x :: r => uptoBulkEntry x + uptoBulkEntries r
def uptoBulkEntry {H : Type} : Lit × DataW H → Nat
  | (.string bytes, d) => bytes.length + uptoBulk d + 1
  | (_, d) => uptoBulk d + 1
 end
def uptoSmall : (H : Type) → List (DataW H) → Bool := fun _ ds => decide (uptoBulkAll ds ≤ 1048576)
def OpenSpec.upto (s : _root_.Go.ChangeSpec) : _root_.Go.OpenSpec := { _root_.Go.OpenSpec.ofChange s with cond := some uptoSmall }

/-- 'zelligelaw02.QuadHexes', WHERE WHAT IT READS IS OF BULK AT MOST 1048576: true; the input reads as it did. -/
def quadHexesUptoRow : OpenClaim := { program := "ytbmeokhoebjdbaa", sum := "a1b0d089b88938f65fd22b3b0e2749d28e6e37cdd8d67321ebcfa1eb3ffa27ec", func := "zellige/zelligelaw02.QuadHexes", spec := "quadHexes", inPlace := ["math/bits.Sub64", "math/bits.Add64"], apart := false, narrowed := true }
def QuadHexesUptoSaid : Prop := quadHexesUptoRow.holds Try.pinned (OpenSpec.upto quadHexesSpec)

/-- 'zelligelaw02.QuadMuls', WHERE WHAT IT READS IS OF BULK AT MOST 1048576: true; the input reads as it did. -/
def quadMulsUptoRow : OpenClaim := { program := "ytbmeokhoebjdbaa", sum := "a1b0d089b88938f65fd22b3b0e2749d28e6e37cdd8d67321ebcfa1eb3ffa27ec", func := "zellige/zelligelaw02.QuadMuls", spec := "quadMuls", inPlace := ["math/bits.Sub64", "math/bits.Add64"], apart := false, narrowed := true }
def QuadMulsUptoSaid : Prop := quadMulsUptoRow.holds Try.pinned (OpenSpec.upto quadMulsSpec)

/-- 'zelligelaw02.QuadAdds', WHERE WHAT IT READS IS OF BULK AT MOST 1048576: true; the input reads as it did. -/
def quadAddsUptoRow : OpenClaim := { program := "ytbmeokhoebjdbaa", sum := "a1b0d089b88938f65fd22b3b0e2749d28e6e37cdd8d67321ebcfa1eb3ffa27ec", func := "zellige/zelligelaw02.QuadAdds", spec := "quadAdds", inPlace := ["math/bits.Add64", "math/bits.Sub64"], apart := false, narrowed := true }
def QuadAddsUptoSaid : Prop := quadAddsUptoRow.holds Try.pinned (OpenSpec.upto quadAddsSpec)

/-- 'zelligelaw02.QuadRings', WHERE WHAT IT READS IS OF BULK AT MOST 1048576: true; the input reads as it did. -/
def quadRingsUptoRow : OpenClaim := { program := "ytbmeokhoebjdbaa", sum := "a1b0d089b88938f65fd22b3b0e2749d28e6e37cdd8d67321ebcfa1eb3ffa27ec", func := "zellige/zelligelaw02.QuadRings", spec := "quadRings", inPlace := ["math/bits.Sub64", "math/bits.Add64"], apart := false, narrowed := true }
def QuadRingsUptoSaid : Prop := quadRingsUptoRow.holds Try.pinned (OpenSpec.upto quadRingsSpec)

/-- 'zelligelaw02.QuadOrders', WHERE WHAT IT READS IS OF BULK AT MOST 1048576: true; the input reads as it did. -/
def quadOrdersUptoRow : OpenClaim := { program := "ytbmeokhoebjdbaa", sum := "a1b0d089b88938f65fd22b3b0e2749d28e6e37cdd8d67321ebcfa1eb3ffa27ec", func := "zellige/zelligelaw02.QuadOrders", spec := "quadOrders", inPlace := ["math/bits.Sub64", "math/bits.Add64"], apart := false, narrowed := true }
def QuadOrdersUptoSaid : Prop := quadOrdersUptoRow.holds Try.pinned (OpenSpec.upto quadOrdersSpec)

/-- 'zelligelaw02.QuadSmall', WHERE WHAT IT READS IS OF BULK AT MOST 1048576: true; the input reads as it did. -/
def quadSmallUptoRow : OpenClaim := { program := "ytbmeokhoebjdbaa", sum := "a1b0d089b88938f65fd22b3b0e2749d28e6e37cdd8d67321ebcfa1eb3ffa27ec", func := "zellige/zelligelaw02.QuadSmall", spec := "quadSmall", inPlace := ["math/bits.Sub64", "math/bits.Add64"], apart := false, narrowed := true }
def QuadSmallUptoSaid : Prop := quadSmallUptoRow.holds Try.pinned (OpenSpec.upto quadSmallSpec)

end Rows
end Go.Proofs.Ytbmeokhoebjdbaa
