/- What the laws' rows over Config share. -/
import Derived.Test.YtfecfgimfjcbdaaDoorMuA
import Derived.Test.YtfecfgimfjcbdaaDoorMuO
import Derived.Lib.SmallJoins
import Derived.Lib.AppendIntMem
namespace Go.Proofs.YtfecfgimfjcbdaaDoor.Cf
open Go.RowKit Go.Proofs.YtfecfgimfjcbdaaDoorW.PrintWords
theorem ownC : ownKnob Tryd.prog.godebug = none := by kernel_rfl
theorem laidC : laidOutB Tryd.prog = true := by kernel_rfl
theorem chk_two (nm sc : ByteArray) (k : Nat → Int) : chkI nm sc k = 0 ∨ chkI nm sc k = 124 := by
  unfold chkI
  split
  · exact .inl rfl
  · exact .inr rfl
end Go.Proofs.YtfecfgimfjcbdaaDoor.Cf
