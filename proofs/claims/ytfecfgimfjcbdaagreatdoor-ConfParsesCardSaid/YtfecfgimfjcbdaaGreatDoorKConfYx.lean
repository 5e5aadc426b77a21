/- Small laws of the walk: a guarded load of a whole struct; a guarded comparison of two Configs. -/
import Derived.Test.YtfecfgimfjcbdaaGreatDoorKConfZf
namespace Go.Proofs.YtfecfgimfjcbdaaGreatDoor.Cf
open Go.RowKit Go.Proofs.YtfecfgimfjcbdaaGreatDoorW.PrintWords Go.Proofs.YtfecfgimfjcbdaaGreatDoorW.PrintLast Go.Proofs.YtfecfgimfjcbdaaGreatDoorW.PrintMore

section
variable {P : Program} {ops : Array Oper} {rest : List Oper} {o og : Oper} {a : Act} {Q : Exit → Act → World → Prop} {W : World}
/-- A comparison whose answer is known. -/
theorem wpList_cmp (hgd : o.guard = none) (op : BinOp) (ty t2 : TypeId) (x y : Operand) (ho : o.op = .binOp op ty x y t2)
    (v1 v2 : Value) (hx : a.eval x = v1) (hy : a.eval y = v2) (b : Bool) (hrun : (do eqGuard op ty x y v1 v2; binOp op ty v1 v2 : Sem Value).run P W = .ok (.bool b) W)
    (h : wpList P ops Q rest (a.put o.dst (.bool b)) W) : wpList P ops Q (o :: rest) a W :=
  wpList_plain hgd fun K hK => by
    unfold Oper.wp execOp
    simp only [ho, hx, hy]
    rw [Sem.run_bind, hrun]
    exact hK _ _ h
end
set_option maxRecDepth 100000 in
set_option maxHeartbeats 1000000 in
theorem cfg_eql (x y : Operand) (nm sc : ByteArray) (k : Nat → Int) (W : World) : (do eqGuard .eql 23 x y (.agg (cfgC nm sc k)) (.agg (cfgC nm sc k)); binOp .eql 23 (.agg (cfgC nm sc k)) (.agg (cfgC nm sc k)) : Sem Value).run Tryz.prog W = .ok (.bool true) W := by
  unfold cfgC
  generalize k 0 = k0
  generalize k 1 = k1
  generalize k 2 = k2
  generalize k 3 = k3
  generalize k 4 = k4
  generalize k 5 = k5
  generalize k 6 = k6
  generalize k 7 = k7
  generalize k 8 = k8
  generalize k 9 = k9
  generalize k 10 = k10
  generalize k 11 = k11
  generalize k 12 = k12
  generalize k 13 = k13
  generalize k 14 = k14
  generalize k 15 = k15
  go_simp
end Go.Proofs.YtfecfgimfjcbdaaGreatDoor.Cf
