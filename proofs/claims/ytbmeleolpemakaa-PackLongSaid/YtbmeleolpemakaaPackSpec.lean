/- What pack.Pack computes, on plain lists. -/
import Derived.Test.YtbmeleolpemakaaPackPut
namespace Go.Proofs.Ytbmeleolpemakaa.F
open Go Go.RowKit Go.Proofs.YtbmeleolpemakaaW.PrintWords
/-- The sites' bytes; none: too many. -/
def sitesF (k : Nat) : List Int → S50 → List S50 → Option (Option (List Int × S50))
  | l, s, [] => some (some (l, s))
  | l, s, x :: xs => (puts k l [wrap64 (x.f0 - s.f0), x.f1, x.f2]).bind fun l' => if (1048576 : Int) < (l'.length : Int) then some none else sitesF k l' x xs
/-- Pack's bytes and error, where there are no faces. -/
def pack_Pack.f (a0_0 a0_1 a0_2 : Int) (l3 : List S50) (l4 : List S54) : Option (List Int × Int) :=
  if l4.length = 0 then (puts 11 [90, 71] [a0_0, a0_1, a0_2, l3.length, 0]).bind fun l => (sitesF 11 l ⟨0, 0, 0⟩ l3).bind fun s => match s with
    | none => some ([], 5)
    | some (l1, _) => some (l1, 0)
  else none
end Go.Proofs.Ytbmeleolpemakaa.F
