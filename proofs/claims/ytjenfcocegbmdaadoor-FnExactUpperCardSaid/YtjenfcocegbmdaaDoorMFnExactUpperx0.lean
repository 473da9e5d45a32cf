/- The functions that the law FnExactUpper reaches, as plain functions, and that the code comes to them. Begun as a text of the print over stubs; turned by wip/handstub.py and wip/mend.py. -/
import Derived.Test.YtjenfcocegbmdaaDoorProg
import Derived.Below
import Derived.Deep.Draws
import Derived.Deep.AppendLies
import Derived.Maps.AppendAt
import Derived.OwnWalk
import Derived.Laws.BytesArg
import Derived.Laws.MakeOwn
import Derived.Laws.OwnMore
import Derived.Deep.OwnRows
import Derived.Tactics
import Derived.Lib.ConvBytes
import Derived.Laws.Slices
import Derived.WalkKit
import Derived.KernelRfl
import Derived.RowKit3
import Derived.Deep.LoopGhost
import Derived.Deep.QuietTactic
import Derived.BigQuiet
import Derived.WideLaws
import Derived.Deep.DeepCutAuto
import Derived.Deep.CutBlock
import Derived.Deep.RegionHeld3
import Derived.Laws.Rows
import Derived.Lib.AppendStr
import Derived.ArgAppend
import Derived.Laws.IdiomCopy
import Derived.OrdersHeld
import Derived.Laws.BitsLemmas
import Derived.RowKit
import Derived.Test.YtjenfcocegbmdaaDoorWWords
import Derived.Test.YtjenfcocegbmdaaDoorWLast
import Derived.Test.YtjenfcocegbmdaaDoorWTab
import Derived.Test.YtjenfcocegbmdaaDoorWFour
import Derived.Test.YtjenfcocegbmdaaDoorWQPut
import Derived.Test.YtjenfcocegbmdaaDoorWApart
import Derived.Test.YtjenfcocegbmdaaDoorWArr
import Derived.Test.YtjenfcocegbmdaaDoorWZeros
import Derived.Test.YtjenfcocegbmdaaDoorWFoot
import Derived.Test.YtjenfcocegbmdaaDoorWKept
import Derived.Test.YtjenfcocegbmdaaDoorWShare
import Derived.Test.YtjenfcocegbmdaaDoorWN
import Derived.Test.YtjenfcocegbmdaaDoorWFootNe
import Derived.Test.YtjenfcocegbmdaaDoorWAt
import Derived.Test.YtjenfcocegbmdaaDoorWEqStruct
import Derived.Test.YtjenfcocegbmdaaDoorWRepsOne
import Derived.Test.YtjenfcocegbmdaaDoorWInv
import Derived.Test.YtjenfcocegbmdaaDoorWInvWords
import Derived.Test.YtjenfcocegbmdaaDoorWGuard
import Derived.Test.YtjenfcocegbmdaaDoorWNEv
import Derived.Test.YtjenfcocegbmdaaDoorWMore
namespace Go.Proofs.YtjenfcocegbmdaaDoor.MFnExactUpper
open Go.RowKit Go.Proofs.YtjenfcocegbmdaaDoorW.PrintWords Go.Proofs.YtjenfcocegbmdaaDoorW.PrintLast Go.Proofs.YtjenfcocegbmdaaDoorW.PrintMore
attribute [local go_sem] max2_int min2_int max_two min_two max_three min_three max_four min_four   -- for this text's walks alone
set_option linter.unusedVariables false
set_option linter.unusedSimpArgs false



def errW : Option Int → Value
  | none => .nilIface
  | some c => .iface 0 (.int .i64 c)
theorem errW_none : errW none = .nilIface := rfl
theorem errW_some (c : Int) : errW (some c) = .iface 0 (.int .i64 c) := rfl

theorem info5 : (Tryd.prog.info? 5).map (fun i => (i.zero, i.size, i.bytes)) = some (some (.int .u8 0), 1, 1) := by kernel_rfl
-- the values' own types

end Go.Proofs.YtjenfcocegbmdaaDoor.MFnExactUpper
