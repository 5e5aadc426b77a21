/- Contracts of simple functions that replica/conf.Parse calls. The lines were written by the kit's print.sh (called for that function, which is no law), not by hand; kept as a text of this claim. -/
import Derived.Test.YtfecfgimfjcbdaaGreatDoorProg
import Derived.Below
import Derived.Deep.Draws
import Derived.Deep.AppendLies
import Derived.Maps.AppendAt
import Derived.OwnWalk
import Derived.Laws.BytesArg
import Derived.Laws.MakeOwn
import Derived.Laws.OwnMore
import Derived.Deep.OwnRows
import Derived.Tactics
import Derived.Lib.ConvBytes
import Derived.Laws.Slices
import Derived.WalkKit
import Derived.KernelRfl
import Derived.RowKit3
import Derived.Deep.LoopGhost
import Derived.Deep.QuietTactic
import Derived.BigQuiet
import Derived.WideLaws
import Derived.Deep.DeepCutAuto
import Derived.Deep.CutBlock
import Derived.Deep.RegionHeld3
import Derived.Laws.Rows
import Derived.Lib.AppendStr
import Derived.ArgAppend
import Derived.Laws.IdiomCopy
import Derived.OrdersHeld
import Derived.Laws.BitsLemmas
import Derived.RowKit
import Derived.Test.YtfecfgimfjcbdaaGreatDoorKWWords
import Derived.Test.YtfecfgimfjcbdaaGreatDoorKWLast
import Derived.Test.YtfecfgimfjcbdaaGreatDoorKWTab
import Derived.Test.YtfecfgimfjcbdaaGreatDoorKWApart
import Derived.Test.YtfecfgimfjcbdaaGreatDoorKWFoot
import Derived.Test.YtfecfgimfjcbdaaGreatDoorKWKept
import Derived.Test.YtfecfgimfjcbdaaGreatDoorKWShare
import Derived.Test.YtfecfgimfjcbdaaGreatDoorKWN
import Derived.Laws.StructEq
import Derived.Test.YtfecfgimfjcbdaaGreatDoorKWRepsOne
import Derived.Test.YtfecfgimfjcbdaaGreatDoorKWMore
namespace Go.Proofs.YtfecfgimfjcbdaaGreatDoor.QCParse
open Go.RowKit Go.Proofs.YtfecfgimfjcbdaaGreatDoorW.PrintWords Go.Proofs.YtfecfgimfjcbdaaGreatDoorW.PrintLast Go.Proofs.YtfecfgimfjcbdaaGreatDoorW.PrintMore
set_option linter.unusedVariables false
set_option linter.unusedSimpArgs false

def errW : Option Int → Value
  | none => .nilIface
  | some c => .iface 115 (.int .i64 c)
theorem errW_none : errW none = .nilIface := rfl
theorem errW_some (c : Int) : errW (some c) = .iface 115 (.int .i64 c) := rfl

theorem info5 : (Tryz.prog.info? 5).map (fun i => (i.zero, i.size, i.bytes)) = some (some (.int .u8 0), 1, 1) := by kernel_rfl
-- the values' own types

end Go.Proofs.YtfecfgimfjcbdaaGreatDoor.QCParse
