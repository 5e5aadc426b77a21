/- The parts of a status line, as the reference has them, in plain words. -/
import Derived.Test.YtfecfgimfjcbdaaDoorConfD
namespace Go.Proofs.YtfecfgimfjcbdaaDoor.Cf
open Go.RowKit Go.Proofs.YtfecfgimfjcbdaaDoorW.PrintWords

/-- A part of a status line. -/
inductive Pt where
  | lit (t : ByteArray)
  | words (ws : List ByteArray)
  | num

/-- How many bytes of it stand at l's beginning, whether it is whole, its value. -/
def oneP (l : List UInt8) : Pt → Nat × Bool × Nat
  | .lit t => (com l (bl t), com l (bl t) == t.size, 0)
  | .words ws => ((pick l ws 0 0).1, (pick l ws 0 0).2.isSome, (pick l ws 0 0).2.getD 0)
  | .num => ((nm l 0 0).1, decide (0 < (nm l 0 0).1), (nm l 0 0).2.1)

/-- The three fields of a part, as the reference has them. -/
def ptIs : Pt → ByteArray → List ByteArray → Bool → Prop
  | .lit t, x, _, _ => x = t ∧ t.toList ≠ [] ∧ t.size ≤ 100
  | .words ws, x, ys, b => x = ByteArray.empty ∧ ys = ws ∧ b = false ∧ ws.length ≤ 1000 ∧ ∀ y ∈ ws, y.size ≤ 100
  | .num, x, _, b => x = ByteArray.empty ∧ b = true

end Go.Proofs.YtfecfgimfjcbdaaDoor.Cf
