/- Small laws of the walk: a guarded load of a whole struct; a guarded comparison of two Configs. -/
import Derived.Test.YtfecfgimfjcbdaaDoorMfM
namespace Go.Proofs.YtfecfgimfjcbdaaDoor.Cf
open Go.RowKit Go.Proofs.YtfecfgimfjcbdaaDoorW.PrintWords Go.Proofs.YtfecfgimfjcbdaaDoorW.PrintLast Go.Proofs.YtfecfgimfjcbdaaDoorW.PrintMore

section
variable {P : Program} {ops : Array Oper} {rest : List Oper} {o og : Oper} {a : Act} {Q : Exit → Act → World → Prop} {W : World}
/-- A load of a whole struct, behind a guard that says yes. -/
theorem wpList_load_g {g0 : Nat} {u : Bool} {t0 : Tmp} (hgd : o.guard = some (g0, u)) (hop : ops[g0]? = some og) (hod : og.dst = some t0) (hov : a.tmps[t0]? = some (.bool u)) (ty : TypeId) (x : Operand) (ho : o.op = .load ty x)
    (g : Nat) (hx : a.eval x = .pointer (some ⟨g, 0, none⟩)) (t : TypeId) (cs : Array Value) (fr : Nat × Nat) (d : TypeDesc) (hg : W.heap[g]? = some (.cells cs t fr))
    (hu : P.underlying ty = some d) (hd : (match d with | .struct _ | .array _ _ => true | _ => false) = true) (hi : (P.info? ty).map (·.size) = some cs.size)
    (h : wpList P ops Q rest (a.put o.dst (.agg cs)) W) : wpList P ops Q (o :: rest) a W :=
  BigFrame.wpList_want (wanted_on hgd hop hod hov) fun _ hK => wp_load_row ty x ho g hx t cs fr d hg hu hd hi (hK _ _ h)
/-- A comparison whose answer is known, behind a guard that says yes. -/
theorem wpList_cmp_g {g0 : Nat} {u : Bool} {t0 : Tmp} (hgd : o.guard = some (g0, u)) (hop : ops[g0]? = some og) (hod : og.dst = some t0) (hov : a.tmps[t0]? = some (.bool u)) (op : BinOp) (ty t2 : TypeId) (x y : Operand) (ho : o.op = .binOp op ty x y t2)
    (v1 v2 : Value) (hx : a.eval x = v1) (hy : a.eval y = v2) (b : Bool) (hrun : (do eqGuard op ty x y v1 v2; binOp op ty v1 v2 : Sem Value).run P W = .ok (.bool b) W)
    (h : wpList P ops Q rest (a.put o.dst (.bool b)) W) : wpList P ops Q (o :: rest) a W :=
  BigFrame.wpList_want (wanted_on hgd hop hod hov) fun K hK => by
    unfold Oper.wp execOp
    simp only [ho, hx, hy]
    rw [Sem.run_bind, hrun]
    exact hK _ _ h
/-- A comparison whose answer is known. -/
theorem wpList_cmp (hgd : o.guard = none) (op : BinOp) (ty t2 : TypeId) (x y : Operand) (ho : o.op = .binOp op ty x y t2)
    (v1 v2 : Value) (hx : a.eval x = v1) (hy : a.eval y = v2) (b : Bool) (hrun : (do eqGuard op ty x y v1 v2; binOp op ty v1 v2 : Sem Value).run P W = .ok (.bool b) W)
    (h : wpList P ops Q rest (a.put o.dst (.bool b)) W) : wpList P ops Q (o :: rest) a W :=
  wpList_plain hgd fun K hK => by
    unfold Oper.wp execOp
    simp only [ho, hx, hy]
    rw [Sem.run_bind, hrun]
    exact hK _ _ h
end
set_option maxRecDepth 100000 in
set_option maxHeartbeats 1000000 in
theorem cfg_neq (x y : Operand) (nm sc : ByteArray) (k : Nat → Int) (W : World) : (do eqGuard .neq 23 x y (.agg (cfgC nm sc k)) (.agg (cfgC nm sc k)); binOp .neq 23 (.agg (cfgC nm sc k)) (.agg (cfgC nm sc k)) : Sem Value).run Tryd.prog W = .ok (.bool false) W := by
  unfold cfgC
  generalize k 0 = k0
  generalize k 1 = k1
  generalize k 2 = k2
  generalize k 3 = k3
  generalize k 4 = k4
  generalize k 5 = k5
  generalize k 6 = k6
  generalize k 7 = k7
  generalize k 8 = k8
  generalize k 9 = k9
  generalize k 10 = k10
  generalize k 11 = k11
  generalize k 12 = k12
  generalize k 13 = k13
  generalize k 14 = k14
  generalize k 15 = k15
  go_simp
set_option maxRecDepth 100000 in
set_option maxHeartbeats 1000000 in
theorem cfg_eql (x y : Operand) (nm sc : ByteArray) (k : Nat → Int) (W : World) : (do eqGuard .eql 23 x y (.agg (cfgC nm sc k)) (.agg (cfgC nm sc k)); binOp .eql 23 (.agg (cfgC nm sc k)) (.agg (cfgC nm sc k)) : Sem Value).run Tryd.prog W = .ok (.bool true) W := by
  unfold cfgC
  generalize k 0 = k0
  generalize k 1 = k1
  generalize k 2 = k2
  generalize k 3 = k3
  generalize k 4 = k4
  generalize k 5 = k5
  generalize k 6 = k6
  generalize k 7 = k7
  generalize k 8 = k8
  generalize k 9 = k9
  generalize k 10 = k10
  generalize k 11 = k11
  generalize k 12 = k12
  generalize k 13 = k13
  generalize k 14 = k14
  generalize k 15 = k15
  go_simp
end Go.Proofs.YtfecfgimfjcbdaaDoor.Cf
