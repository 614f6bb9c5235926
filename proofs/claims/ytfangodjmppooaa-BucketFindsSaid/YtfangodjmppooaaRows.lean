/-
  No cell of these rows narrows 'for every input' (looked for: loops, veiled, ifaces, maps, wideKeys, modest, calm, conditions, laid).
  DERIVED. THE GIVEN ROWS OF THIS SEAT. 4 by the template 'for every input the law returns true; each argument reads behind the call as it read before'; 0 by the template 'total and deterministic' (their statements: YtfangodjmppooaaTotals.lean).
  GIVEN WITH THE SEED: the statements are not yours to turn. If you find one false, say at which input.
  Laid BY PROGRAM, IN A SANDBOX (cutbox-rows.mjs): the forced cells as the released guide's own fill.sh prints them over the translation 1c525ee1de7ba601… (all of the seat's roots in one cut). By AI agents, Wed Nov 11 2026. No macro, syntax, notation, axiom, sorry.
-/
import Derived.Test.YtfangodjmppooaaChecked
import GoSem.Claim
import GoSem.ClaimJoined
import GoSem.ClaimMapViews
import Derived.JoinedTies
import Derived.KernelRfl
namespace Go.Proofs.Ytfangodjmppooaa
/- THE CELL 'sum', in the pinned program and in every row, IS THE sha256 OF THE DUMP (.gsa) THAT YtfangodjmppooaaProg.lean LOADS. Nothing in Lean hashes anything: it is a label: what it is worth is what the hold of that sum in a sandbox is worth. -/
noncomputable def Try.pinned : Pinned := { name := "ytfangodjmppooaa", sum := "1c525ee1de7ba6010856f9dc06f0e49ce62b39ce573a660a04aa739c06fbf11e", checked := Try.checked }
namespace Rows
def none {H : Type} : Left H := { results := [], args := [] }

/-- 'zelligelaw15.BucketCells': WHATEVER THE INPUT: true; the input reads as it did. -/
def bucketCellsSpec : ChangeSpec := { name := "bucketCells", fn := fun _ => fun
  | [d1, d2, d3] => { results := [.lit (.bool true)], args := [d1, d2, d3] }
  | _ => none }
def bucketCellsRow : OpenClaim := { program := "ytfangodjmppooaa", sum := "1c525ee1de7ba6010856f9dc06f0e49ce62b39ce573a660a04aa739c06fbf11e", func := "zellige/zelligelaw15.BucketCells", spec := "bucketCells", unfollowed := true, recurses := true, apart := false }
def BucketCellsSaid : Prop := bucketCellsRow.holds Try.pinned (OpenSpec.ofChange bucketCellsSpec)

/-- ITS FALSE NEIGHBOUR: 'it returns false'. Refute it at one input. -/
def bucketCellsWrong : ChangeSpec := { name := "bucketCells", fn := fun _ => fun
  | [d1, d2, d3] => { results := [.lit (.bool false)], args := [d1, d2, d3] }
  | _ => none }
def BucketCellsWrongFalsely : Prop := bucketCellsRow.holds Try.pinned (OpenSpec.ofChange bucketCellsWrong)

/-- 'zelligelaw15.BucketFinds': WHATEVER THE INPUT: true; the input reads as it did. -/
def bucketFindsSpec : ChangeSpec := { name := "bucketFinds", fn := fun _ => fun
  | [d1, d2, d3] => { results := [.lit (.bool true)], args := [d1, d2, d3] }
  | _ => none }
def bucketFindsRow : OpenClaim := { program := "ytfangodjmppooaa", sum := "1c525ee1de7ba6010856f9dc06f0e49ce62b39ce573a660a04aa739c06fbf11e", func := "zellige/zelligelaw15.BucketFinds", spec := "bucketFinds", unfollowed := true, recurses := true, apart := false }
def BucketFindsSaid : Prop := bucketFindsRow.holds Try.pinned (OpenSpec.ofChange bucketFindsSpec)

/-- ITS FALSE NEIGHBOUR: 'it returns false'. Refute it at one input. -/
def bucketFindsWrong : ChangeSpec := { name := "bucketFinds", fn := fun _ => fun
  | [d1, d2, d3] => { results := [.lit (.bool false)], args := [d1, d2, d3] }
  | _ => none }
def BucketFindsWrongFalsely : Prop := bucketFindsRow.holds Try.pinned (OpenSpec.ofChange bucketFindsWrong)

/-- 'zelligelaw15.BucketNears': WHATEVER THE INPUT: true; the input reads as it did. -/
def bucketNearsSpec : ChangeSpec := { name := "bucketNears", fn := fun _ => fun
  | [d1, d2, d3] => { results := [.lit (.bool true)], args := [d1, d2, d3] }
  | _ => none }
def bucketNearsRow : OpenClaim := { program := "ytfangodjmppooaa", sum := "1c525ee1de7ba6010856f9dc06f0e49ce62b39ce573a660a04aa739c06fbf11e", func := "zellige/zelligelaw15.BucketNears", spec := "bucketNears", unfollowed := true, recurses := true, apart := false }
def BucketNearsSaid : Prop := bucketNearsRow.holds Try.pinned (OpenSpec.ofChange bucketNearsSpec)

/-- ITS FALSE NEIGHBOUR: 'it returns false'. Refute it at one input. -/
def bucketNearsWrong : ChangeSpec := { name := "bucketNears", fn := fun _ => fun
  | [d1, d2, d3] => { results := [.lit (.bool false)], args := [d1, d2, d3] }
  | _ => none }
def BucketNearsWrongFalsely : Prop := bucketNearsRow.holds Try.pinned (OpenSpec.ofChange bucketNearsWrong)

/-- 'zelligelaw15.BucketNews': WHATEVER THE INPUT: true; the input reads as it did. -/
def bucketNewsSpec : ChangeSpec := { name := "bucketNews", fn := fun _ => fun
  | [d1, d2, d3] => { results := [.lit (.bool true)], args := [d1, d2, d3] }
  | _ => none }
def bucketNewsRow : OpenClaim := { program := "ytfangodjmppooaa", sum := "1c525ee1de7ba6010856f9dc06f0e49ce62b39ce573a660a04aa739c06fbf11e", func := "zellige/zelligelaw15.BucketNews", spec := "bucketNews", unfollowed := true, recurses := true, apart := false }
def BucketNewsSaid : Prop := bucketNewsRow.holds Try.pinned (OpenSpec.ofChange bucketNewsSpec)

/-- ITS FALSE NEIGHBOUR: 'it returns false'. Refute it at one input. -/
def bucketNewsWrong : ChangeSpec := { name := "bucketNews", fn := fun _ => fun
  | [d1, d2, d3] => { results := [.lit (.bool false)], args := [d1, d2, d3] }
  | _ => none }
def BucketNewsWrongFalsely : Prop := bucketNewsRow.holds Try.pinned (OpenSpec.ofChange bucketNewsWrong)

/- THE SECOND FORM. 'bulk': how many values and letters a reading holds, each counted each time it is reached (what is shared counts as often as it is met; a slice's spare places count too). A statement '..UptoSaid' is the law's where the arguments, and the package variables that the reading takes, are together of bulk at most 1048576: NARROWER than '..Said'. Prove '..Said' where nothing that the law and all that it calls make is longer than what came in: it says more and counts as full. Else prove '..UptoSaid'. A law counts once. -/
mutual
def uptoBulk {H : Type} : DataW H → Nat
  | .lit (.string bytes) => bytes.length + 1
  | .lit _ => 1
  | .nil => 1
  | .ptr d => uptoBulk d + 1
  | .slice elems spare => uptoBulkAll elems + uptoBulkAll spare + 1
  | .agg parts => uptoBulkAll parts + 1
  | .iface _ d => uptoBulk d + 1
  | .map entries => uptoBulkEntries entries + 1
  | .held _ => 1
def uptoBulkAll {H : Type} : List (DataW H) → Nat
  | [] => 0
  | d :: r => uptoBulk d + uptoBulkAll r
def uptoBulkEntries {H : Type} : List (Lit × DataW H) → Nat
  | [] => 0
  | x :: r => uptoBulkEntry x + uptoBulkEntries r
def uptoBulkEntry {H : Type} : Lit × DataW H → Nat
  | (.string bytes, d) => bytes.length + uptoBulk d + 1
  | (_, d) => uptoBulk d + 1
 end
def uptoSmall : (H : Type) → List (DataW H) → Bool := fun _ ds => decide (uptoBulkAll ds ≤ 1048576)
def OpenSpec.upto (s : _root_.Go.ChangeSpec) : _root_.Go.OpenSpec := { _root_.Go.OpenSpec.ofChange s with cond := some uptoSmall }

/-- 'zelligelaw15.BucketCells', WHERE WHAT IT READS IS OF BULK AT MOST 1048576: true; the input reads as it did. -/
def bucketCellsUptoRow : OpenClaim := { program := "ytfangodjmppooaa", sum := "1c525ee1de7ba6010856f9dc06f0e49ce62b39ce573a660a04aa739c06fbf11e", func := "zellige/zelligelaw15.BucketCells", spec := "bucketCells", unfollowed := true, recurses := true, apart := false, narrowed := true }
def BucketCellsUptoSaid : Prop := bucketCellsUptoRow.holds Try.pinned (OpenSpec.upto bucketCellsSpec)

/-- 'zelligelaw15.BucketFinds', WHERE WHAT IT READS IS OF BULK AT MOST 1048576: true; the input reads as it did. -/
def bucketFindsUptoRow : OpenClaim := { program := "ytfangodjmppooaa", sum := "1c525ee1de7ba6010856f9dc06f0e49ce62b39ce573a660a04aa739c06fbf11e", func := "zellige/zelligelaw15.BucketFinds", spec := "bucketFinds", unfollowed := true, recurses := true, apart := false, narrowed := true }
def BucketFindsUptoSaid : Prop := bucketFindsUptoRow.holds Try.pinned (OpenSpec.upto bucketFindsSpec)

/-- 'zelligelaw15.BucketNears', WHERE WHAT IT READS IS OF BULK AT MOST 1048576: true; the input reads as it did. -/
def bucketNearsUptoRow : OpenClaim := { program := "ytfangodjmppooaa", sum := "1c525ee1de7ba6010856f9dc06f0e49ce62b39ce573a660a04aa739c06fbf11e", func := "zellige/zelligelaw15.BucketNears", spec := "bucketNears", unfollowed := true, recurses := true, apart := false, narrowed := true }
def BucketNearsUptoSaid : Prop := bucketNearsUptoRow.holds Try.pinned (OpenSpec.upto bucketNearsSpec)

/-- 'zelligelaw15.BucketNews', WHERE WHAT IT READS IS OF BULK AT MOST 1048576: true; the input reads as it did. -/
def bucketNewsUptoRow : OpenClaim := { program := "ytfangodjmppooaa", sum := "1c525ee1de7ba6010856f9dc06f0e49ce62b39ce573a660a04aa739c06fbf11e", func := "zellige/zelligelaw15.BucketNews", spec := "bucketNews", unfollowed := true, recurses := true, apart := false, narrowed := true }
def BucketNewsUptoSaid : Prop := bucketNewsUptoRow.holds Try.pinned (OpenSpec.upto bucketNewsSpec)

end Rows
end Go.Proofs.Ytfangodjmppooaa
