/- LiftSums: the contract of the law: it answers true for all offs. -/
import Derived.Test.YtgjpemfjccajkaaFx11
import Derived.Test.YtgjpemfjccajkaaRowKit
namespace Go.Proofs.Ytgjpemfjccajkaa.F
open Go.RowKit Go.Proofs.YtgjpemfjccajkaaW.PrintWords Go.Proofs.YtgjpemfjccajkaaW.PrintLast Go.Proofs.YtgjpemfjccajkaaW.PrintMore
theorem lives_true : zelligelaw06_lives.f 3 = some true := by decide +kernel
theorem wrap_back {a b : Int} (ha : (Lit.int .i64 a).wf = true) : wrap64 (wrap64 (a + b) - b) = a := by
  have := bounds_i64 ha
  unfold wrap64
  omega
theorem sums_true (a b c d : Int) (ha : (Lit.int .i64 a).wf = true) (hb : (Lit.int .i64 b).wf = true) : zelligelaw06_LiftSums.f 3 a b c d = some true := by
  unfold zelligelaw06_LiftSums.f lift_Sum.f lift_Less.f
  simp [wrap_back ha, wrap_back hb, lives_true]
theorem sums_calls (a b c d : Int) (w : World) (ha : (Lit.int .i64 a).wf = true) (hb : (Lit.int .i64 b).wf = true) (_hc : (Lit.int .i64 c).wf = true) (_hd : (Lit.int .i64 d).wf = true) :
    Calls Try.prog 3 #[.agg #[.int .i64 a, .int .i64 b], .agg #[.int .i64 c, .int .i64 d]] w fun e w' => e = .returned (.bool true) ∧ Below w.heap.size w w' :=
  zelligelaw06_LiftSums.calls 3 a b c d true w (sums_true a b c d ha hb)
end Go.Proofs.Ytgjpemfjccajkaa.F
