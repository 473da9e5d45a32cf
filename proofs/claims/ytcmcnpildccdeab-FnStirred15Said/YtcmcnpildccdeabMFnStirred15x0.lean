/- The functions that the law FnStirred15 reaches, as plain functions, and that the code comes to them. Begun as a text of the print; turned by wip/mend.py. -/
import Derived.Test.YtcmcnpildccdeabProg
import Derived.Below
import Derived.Deep.Draws
import Derived.Deep.AppendLies
import Derived.Maps.AppendAt
import Derived.OwnWalk
import Derived.Laws.BytesArg
import Derived.Laws.MakeOwn
import Derived.Laws.OwnMore
import Derived.Deep.OwnRows
import Derived.Tactics
import Derived.Lib.ConvBytes
import Derived.Laws.Slices
import Derived.WalkKit
import Derived.KernelRfl
import Derived.RowKit3
import Derived.Deep.LoopGhost
import Derived.Deep.QuietTactic
import Derived.BigQuiet
import Derived.WideLaws
import Derived.Deep.DeepCutAuto
import Derived.Deep.CutBlock
import Derived.Deep.RegionHeld3
import Derived.Laws.Rows
import Derived.Lib.AppendStr
import Derived.ArgAppend
import Derived.Laws.IdiomCopy
import Derived.OrdersHeld
import Derived.Laws.BitsLemmas
import Derived.RowKit
import Derived.Test.YtcmcnpildccdeabWWords
import Derived.Test.YtcmcnpildccdeabWLast
import Derived.Test.YtcmcnpildccdeabWTab
import Derived.Test.YtcmcnpildccdeabWFour
import Derived.Test.YtcmcnpildccdeabWQPut
import Derived.Test.YtcmcnpildccdeabWApart
import Derived.Test.YtcmcnpildccdeabWArr
import Derived.Test.YtcmcnpildccdeabWZeros
import Derived.Test.YtcmcnpildccdeabWFoot
import Derived.Test.YtcmcnpildccdeabWKept
import Derived.Test.YtcmcnpildccdeabWShare
import Derived.Test.YtcmcnpildccdeabWN
import Derived.Test.YtcmcnpildccdeabWFootNe
import Derived.Test.YtcmcnpildccdeabWAt
import Derived.Test.YtcmcnpildccdeabWEqStruct
import Derived.Test.YtcmcnpildccdeabWRepsOne
import Derived.Test.YtcmcnpildccdeabWInv
import Derived.Test.YtcmcnpildccdeabWInvWords
import Derived.Test.YtcmcnpildccdeabWGuard
import Derived.Test.YtcmcnpildccdeabWNEv
import Derived.Test.YtcmcnpildccdeabWMore
namespace Go.Proofs.Ytcmcnpildccdeab.MFnStirred15
open Go.RowKit Go.Proofs.YtcmcnpildccdeabW.PrintWords Go.Proofs.YtcmcnpildccdeabW.PrintLast Go.Proofs.YtcmcnpildccdeabW.PrintMore
attribute [local go_sem] max2_int min2_int max_two min_two max_three min_three max_four min_four   -- for this text's walks alone
set_option linter.unusedVariables false
set_option linter.unusedSimpArgs false



def errW : Option Int → Value
  | none => .nilIface
  | some c => .iface 0 (.int .i64 c)
theorem errW_none : errW none = .nilIface := rfl
theorem errW_some (c : Int) : errW (some c) = .iface 0 (.int .i64 c) := rfl

theorem info3 : (Try.prog.info? 3).map (fun i => (i.zero, i.size, i.bytes)) = some (some (.int .i64 0), 1, 8) := by kernel_rfl
-- the values' own types

end Go.Proofs.Ytcmcnpildccdeab.MFnStirred15
