import Derived.Test.YtcnkicmemapicaaProg
import Derived.Below
import Derived.Deep.Draws
import Derived.Deep.AppendLies
import Derived.Maps.AppendAt
import Derived.OwnWalk
import Derived.Laws.BytesArg
import Derived.Laws.MakeOwn
import Derived.Laws.OwnMore
import Derived.Deep.OwnRows
import Derived.Tactics
import Derived.Lib.ConvBytes
import Derived.Laws.Slices
import Derived.WalkKit
import Derived.KernelRfl
import Derived.RowKit3
import Derived.Deep.LoopGhost
import Derived.Deep.QuietTactic
import Derived.BigQuiet
import Derived.WideLaws
import Derived.Deep.DeepCutAuto
import Derived.Deep.CutBlock
import Derived.Deep.RegionHeld3
import Derived.Laws.Rows
import Derived.Lib.AppendStr
import Derived.ArgAppend
import Derived.Laws.IdiomCopy
import Derived.OrdersHeld
import Derived.Laws.BitsLemmas
import Derived.RowKit
import Derived.Test.YtcnkicmemapicaaWWords
import Derived.Test.YtcnkicmemapicaaWLast
import Derived.Test.YtcnkicmemapicaaWTab
import Derived.Test.YtcnkicmemapicaaWFour
import Derived.Test.YtcnkicmemapicaaWQPut
import Derived.Test.YtcnkicmemapicaaWApart
import Derived.Test.YtcnkicmemapicaaWArr
import Derived.Test.YtcnkicmemapicaaWZeros
import Derived.Test.YtcnkicmemapicaaWFoot
import Derived.Test.YtcnkicmemapicaaWKept
import Derived.Test.YtcnkicmemapicaaWShare
import Derived.Test.YtcnkicmemapicaaWN
import Derived.Test.YtcnkicmemapicaaWFootNe
import Derived.Test.YtcnkicmemapicaaWAt
import Derived.Test.YtcnkicmemapicaaWEqStruct
import Derived.Test.YtcnkicmemapicaaWRepsOne
import Derived.Test.YtcnkicmemapicaaWInv
import Derived.Test.YtcnkicmemapicaaWInvWords
import Derived.Test.YtcnkicmemapicaaWGuard
import Derived.Test.YtcnkicmemapicaaWNEv
import Derived.Test.YtcnkicmemapicaaWMore
namespace Go.Proofs.Ytcnkicmemapicaa.F
open Go.RowKit Go.Proofs.YtcnkicmemapicaaW.PrintWords Go.Proofs.YtcnkicmemapicaaW.PrintLast Go.Proofs.YtcnkicmemapicaaW.PrintMore
attribute [local go_sem] max2_int min2_int max_two min_two max_three min_three max_four min_four   -- for this text's walks alone
set_option linter.unusedVariables false
set_option linter.unusedSimpArgs false



def errW : Option Int → Value
  | none => .nilIface
  | some c => .iface 0 (.int .i64 c)
theorem errW_none : errW none = .nilIface := rfl
theorem errW_some (c : Int) : errW (some c) = .iface 0 (.int .i64 c) := rfl

theorem info9 : (Try.prog.info? 9).map (fun i => (i.zero, i.size, i.bytes)) = some (some (.string ⟨#[]⟩), 1, 16) := by kernel_rfl
-- the values' own types

end Go.Proofs.Ytcnkicmemapicaa.F
