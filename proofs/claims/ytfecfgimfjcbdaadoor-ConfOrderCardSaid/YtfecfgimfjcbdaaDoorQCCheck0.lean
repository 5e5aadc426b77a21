/- Contracts of simple functions that replica/conf.Check calls. The lines were written by the kit's print.sh (called for that function, which is no law), not by hand; kept as a text of this claim. -/
import Derived.Test.YtfecfgimfjcbdaaDoorProg
import Derived.Below
import Derived.Deep.Draws
import Derived.Deep.AppendLies
import Derived.Maps.AppendAt
import Derived.OwnWalk
import Derived.Laws.BytesArg
import Derived.Laws.MakeOwn
import Derived.Laws.OwnMore
import Derived.Deep.OwnRows
import Derived.Tactics
import Derived.Lib.ConvBytes
import Derived.Laws.Slices
import Derived.WalkKit
import Derived.KernelRfl
import Derived.RowKit3
import Derived.Deep.LoopGhost
import Derived.Deep.QuietTactic
import Derived.BigQuiet
import Derived.WideLaws
import Derived.Deep.DeepCutAuto
import Derived.Deep.CutBlock
import Derived.Deep.RegionHeld3
import Derived.Laws.Rows
import Derived.Lib.AppendStr
import Derived.ArgAppend
import Derived.Laws.IdiomCopy
import Derived.OrdersHeld
import Derived.Laws.BitsLemmas
import Derived.RowKit
import Derived.Test.YtfecfgimfjcbdaaDoorWWords
import Derived.Test.YtfecfgimfjcbdaaDoorWLast
import Derived.Test.YtfecfgimfjcbdaaDoorWTab
import Derived.Test.YtfecfgimfjcbdaaDoorWFour
import Derived.Test.YtfecfgimfjcbdaaDoorWQPut
import Derived.Test.YtfecfgimfjcbdaaDoorWApart
import Derived.Test.YtfecfgimfjcbdaaDoorWArr
import Derived.Test.YtfecfgimfjcbdaaDoorWZeros
import Derived.Test.YtfecfgimfjcbdaaDoorWFoot
import Derived.Test.YtfecfgimfjcbdaaDoorWKept
import Derived.Test.YtfecfgimfjcbdaaDoorWShare
import Derived.Test.YtfecfgimfjcbdaaDoorWN
import Derived.Test.YtfecfgimfjcbdaaDoorWFootNe
import Derived.Test.YtfecfgimfjcbdaaDoorWAt
import Derived.Test.YtfecfgimfjcbdaaDoorWEqStruct
import Derived.Test.YtfecfgimfjcbdaaDoorWRepsOne
import Derived.Test.YtfecfgimfjcbdaaDoorWInv
import Derived.Test.YtfecfgimfjcbdaaDoorWInvWords
import Derived.Test.YtfecfgimfjcbdaaDoorWGuard
import Derived.Test.YtfecfgimfjcbdaaDoorWNEv
import Derived.Test.YtfecfgimfjcbdaaDoorWMore
namespace Go.Proofs.YtfecfgimfjcbdaaDoor.QCCheck
open Go.RowKit Go.Proofs.YtfecfgimfjcbdaaDoorW.PrintWords Go.Proofs.YtfecfgimfjcbdaaDoorW.PrintLast Go.Proofs.YtfecfgimfjcbdaaDoorW.PrintMore
attribute [local go_sem] max2_int min2_int max_two min_two max_three min_three max_four min_four   -- for this text's walks alone
set_option linter.unusedVariables false
set_option linter.unusedSimpArgs false



def errW : Option Int → Value
  | none => .nilIface
  | some c => .iface 0 (.int .i64 c)
theorem errW_none : errW none = .nilIface := rfl
theorem errW_some (c : Int) : errW (some c) = .iface 0 (.int .i64 c) := rfl

-- the values' own types

end Go.Proofs.YtfecfgimfjcbdaaDoor.QCCheck
