/- loose, lines and turned: the laws' own helpers, walked. (Several texts in one: Small laws of the walk: a guarded load of a whole struct; a guarded comparison of two Configs. · plain and back: the laws' own helpers, walked. · A Config that comes in; the tables of unicode/utf8 as they are laid. · What the laws' rows over Config share. · loose, lines and turned: the laws' own helpers, walked.) -/
import Derived.Test.YtfecfgimfjcbdaaDoorMfM
import Derived.Test.YtfecfgimfjcbdaaDoorMfT
import Derived.Test.YtfecfgimfjcbdaaDoorMfC
import Derived.Test.YtfecfgimfjcbdaaDoorCards
import Derived.Test.YtfecfgimfjcbdaaDoorTie
import Derived.ProofKit
import Derived.SizedLaws
import Derived.Carry
import Derived.Lay
import Derived.LaidMore
import Derived.LaidSub
import Derived.Lib.LaidU8T
import Derived.SevenTiedAt
import Derived.Stop.Joined
import Derived.Lib.SmallJoins
import Derived.Lib.AppendIntMem
import Derived.Test.YtfecfgimfjcbdaaDoorQLloose1
import Derived.Test.YtfecfgimfjcbdaaDoorMfA
namespace Go.Proofs.YtfecfgimfjcbdaaDoor.Cf
open Go.RowKit Go.Proofs.YtfecfgimfjcbdaaDoorW.PrintWords Go.Proofs.YtfecfgimfjcbdaaDoorW.PrintLast Go.Proofs.YtfecfgimfjcbdaaDoorW.PrintMore

section
variable {P : Program} {ops : Array Oper} {rest : List Oper} {o og : Oper} {a : Act} {Q : Exit → Act → World → Prop} {W : World}
/-- A load of a whole struct, behind a guard that says yes. -/
theorem wpList_load_g {g0 : Nat} {u : Bool} {t0 : Tmp} (hgd : o.guard = some (g0, u)) (hop : ops[g0]? = some og) (hod : og.dst = some t0) (hov : a.tmps[t0]? = some (.bool u)) (ty : TypeId) (x : Operand) (ho : o.op = .load ty x)
    (g : Nat) (hx : a.eval x = .pointer (some ⟨g, 0, none⟩)) (t : TypeId) (cs : Array Value) (fr : Nat × Nat) (d : TypeDesc) (hg : W.heap[g]? = some (.cells cs t fr))
    (hu : P.underlying ty = some d) (hd : (match d with | .struct _ | .array _ _ => true | _ => false) = true) (hi : (P.info? ty).map (·.size) = some cs.size)
    (h : wpList P ops Q rest (a.put o.dst (.agg cs)) W) : wpList P ops Q (o :: rest) a W :=
  BigFrame.wpList_want (wanted_on hgd hop hod hov) fun _ hK => wp_load_row ty x ho g hx t cs fr d hg hu hd hi (hK _ _ h)
/-- A comparison whose answer is known, behind a guard that says yes. -/
theorem wpList_cmp_g {g0 : Nat} {u : Bool} {t0 : Tmp} (hgd : o.guard = some (g0, u)) (hop : ops[g0]? = some og) (hod : og.dst = some t0) (hov : a.tmps[t0]? = some (.bool u)) (op : BinOp) (ty t2 : TypeId) (x y : Operand) (ho : o.op = .binOp op ty x y t2)
    (v1 v2 : Value) (hx : a.eval x = v1) (hy : a.eval y = v2) (b : Bool) (hrun : (do eqGuard op ty x y v1 v2; binOp op ty v1 v2 : Sem Value).run P W = .ok (.bool b) W)
    (h : wpList P ops Q rest (a.put o.dst (.bool b)) W) : wpList P ops Q (o :: rest) a W :=
  BigFrame.wpList_want (wanted_on hgd hop hod hov) fun K hK => by
    unfold Oper.wp execOp
    simp only [ho, hx, hy]
    rw [Sem.run_bind, hrun]
    exact hK _ _ h
/-- A comparison whose answer is known. -/
theorem wpList_cmp (hgd : o.guard = none) (op : BinOp) (ty t2 : TypeId) (x y : Operand) (ho : o.op = .binOp op ty x y t2)
    (v1 v2 : Value) (hx : a.eval x = v1) (hy : a.eval y = v2) (b : Bool) (hrun : (do eqGuard op ty x y v1 v2; binOp op ty v1 v2 : Sem Value).run P W = .ok (.bool b) W)
    (h : wpList P ops Q rest (a.put o.dst (.bool b)) W) : wpList P ops Q (o :: rest) a W :=
  wpList_plain hgd fun K hK => by
    unfold Oper.wp execOp
    simp only [ho, hx, hy]
    rw [Sem.run_bind, hrun]
    exact hK _ _ h
end
set_option maxRecDepth 100000 in
set_option maxHeartbeats 1000000 in
theorem cfg_neq (x y : Operand) (nm sc : ByteArray) (k : Nat → Int) (W : World) : (do eqGuard .neq 23 x y (.agg (cfgC nm sc k)) (.agg (cfgC nm sc k)); binOp .neq 23 (.agg (cfgC nm sc k)) (.agg (cfgC nm sc k)) : Sem Value).run Tryd.prog W = .ok (.bool false) W := by
  unfold cfgC
  generalize k 0 = k0
  generalize k 1 = k1
  generalize k 2 = k2
  generalize k 3 = k3
  generalize k 4 = k4
  generalize k 5 = k5
  generalize k 6 = k6
  generalize k 7 = k7
  generalize k 8 = k8
  generalize k 9 = k9
  generalize k 10 = k10
  generalize k 11 = k11
  generalize k 12 = k12
  generalize k 13 = k13
  generalize k 14 = k14
  generalize k 15 = k15
  go_simp
set_option maxRecDepth 100000 in
set_option maxHeartbeats 1000000 in
theorem cfg_eql (x y : Operand) (nm sc : ByteArray) (k : Nat → Int) (W : World) : (do eqGuard .eql 23 x y (.agg (cfgC nm sc k)) (.agg (cfgC nm sc k)); binOp .eql 23 (.agg (cfgC nm sc k)) (.agg (cfgC nm sc k)) : Sem Value).run Tryd.prog W = .ok (.bool true) W := by
  unfold cfgC
  generalize k 0 = k0
  generalize k 1 = k1
  generalize k 2 = k2
  generalize k 3 = k3
  generalize k 4 = k4
  generalize k 5 = k5
  generalize k 6 = k6
  generalize k 7 = k7
  generalize k 8 = k8
  generalize k 9 = k9
  generalize k 10 = k10
  generalize k 11 = k11
  generalize k 12 = k12
  generalize k 13 = k13
  generalize k 14 = k14
  generalize k 15 = k15
  go_simp
end Go.Proofs.YtfecfgimfjcbdaaDoor.Cf

namespace Go.Proofs.YtfecfgimfjcbdaaDoor.Cf
open Go.RowKit Go.Proofs.YtfecfgimfjcbdaaDoorW.PrintWords Go.Proofs.YtfecfgimfjcbdaaDoorW.PrintLast Go.Proofs.YtfecfgimfjcbdaaDoorW.PrintMore Go.Proofs.YtfecfgimfjcbdaaDoor.QCParse

/-! ### How long a print is -/
theorem lnK_len (k : Nat → Int) (hk : ∀ i, -9223372036854775808 ≤ k i ∧ k i ≤ 9223372036854775807) (ind : List UInt8) (hind : ind.length ≤ 4) (i : Nat) (hi : i < 16) : (lnK k ind i (tE i)).length ≤ 130 := by
  have h1 := (kTab_small i _ (tE_at i hi)).2.1
  have h2 := shS_le i _ (tE_at i hi) (k i) (hk i)
  unfold lnK
  simp only [List.length_append, List.length_cons, List.length_nil, bl_length]
  omega
theorem join_len (c : Nat) : ∀ ls : List (List UInt8), (∀ l ∈ ls, l.length ≤ c) → (joinN ls).length ≤ (c + 1) * ls.length
  | [], _ => Nat.le_refl _
  | l :: ls, h => by
    have h1 := h l (List.mem_cons_self ..)
    have h2 := join_len c ls (fun x hx => h x (List.mem_cons_of_mem _ hx))
    unfold joinN at h2 ⊢
    rw [List.flatMap_cons, List.length_append, List.length_append, List.length_cons, List.length_nil, List.length_cons, Nat.mul_add]
    omega
theorem join_app (a b : List (List UInt8)) : joinN (a ++ b) = joinN a ++ joinN b := by unfold joinN; rw [List.flatMap_append]
def lnsA (nm : ByteArray) (k : Nat → Int) : List (List UInt8) := [lnR nm, lnK k in2 0 (tE 0), lnH devN, lK k 1, lK k 2, lK k 3, lnC, lnH netN, lK k 4, lK k 5, lK k 6, lK k 7, lK k 8, lK k 9]
def lnsB (k : Nat → Int) : List (List UInt8) := [lK k 10, lK k 11, lK k 12, lnC, lnH synN, lK k 13, lK k 14, lK k 15, lnC, [125]]
theorem lines_AB (nm sc : ByteArray) (k : Nat → Int) : linesP nm sc k = lnsA nm k ++ ([lnS sc] ++ lnsB k) := rfl
theorem print_len (nm sc : ByteArray) (k : Nat → Int) (hk : ∀ i, -9223372036854775808 ≤ k i ∧ k i ≤ 9223372036854775807) (hn : nm.size ≤ 31) (hs : sc.size ≤ 64) : (printL nm sc k).length ≤ 4000 := by
  rw [printL_lines, lines_AB, join_app, join_app]
  have h := fun i hi => lnK_len k hk in4 (by decide) i hi
  have hA : ∀ l ∈ lnsA nm k, l.length ≤ 130 := by
    intro l hl
    simp only [lnsA, List.mem_cons, List.not_mem_nil, or_false] at hl
    rcases hl with rfl | rfl | rfl | rfl | rfl | rfl | rfl | rfl | rfl | rfl | rfl | rfl | rfl | rfl
    · unfold lnR
      simp only [List.length_append, List.length_cons, List.length_nil, bl_length]
      rw [show resB.size = 8 from rfl]
      omega
    · exact lnK_len k hk in2 (by decide) 0 (by decide)
    · decide
    · exact h 1 (by decide)
    · exact h 2 (by decide)
    · exact h 3 (by decide)
    · decide
    · decide
    · exact h 4 (by decide)
    · exact h 5 (by decide)
    · exact h 6 (by decide)
    · exact h 7 (by decide)
    · exact h 8 (by decide)
    · exact h 9 (by decide)
  have hB : ∀ l ∈ lnsB k, l.length ≤ 130 := by
    intro l hl
    simp only [lnsB, List.mem_cons, List.not_mem_nil, or_false] at hl
    rcases hl with rfl | rfl | rfl | rfl | rfl | rfl | rfl | rfl | rfl | rfl
    · exact h 10 (by decide)
    · exact h 11 (by decide)
    · exact h 12 (by decide)
    · decide
    · decide
    · exact h 13 (by decide)
    · exact h 14 (by decide)
    · exact h 15 (by decide)
    · decide
    · decide
  have j1 := join_len 130 _ hA
  have j2 := join_len 130 _ hB
  have hq := quote_le sc
  have e2 : (joinN [lnS sc]).length = 4 + (13 + ((quoteL sc).length + 3)) := by
    unfold joinN lnS
    simp only [List.flatMap_cons, List.flatMap_nil, List.append_nil, List.length_append, List.length_cons, List.length_nil]
    rw [show (bl (⟨#[32, 32, 32, 32]⟩ : ByteArray)).length = 4 from rfl, show (bl (⟨#[115, 104, 97, 114, 101, 100, 45, 115, 101, 99, 114, 101, 116]⟩ : ByteArray)).length = 13 from rfl]
    omega
  rw [show (lnsA nm k).length = 14 from rfl] at j1
  rw [show (lnsB k).length = 10 from rfl] at j2
  rw [List.length_append, List.length_append, e2]
  omega
theorem name_le (nm : ByteArray) (h : nameI nm = true) : nm.size ≤ 31 := by
  unfold nameI at h
  rw [Bool.and_eq_true, Bool.and_eq_true] at h
  exact (of_decide_eq_true h.1.1).2
theorem parseP_long (s : ByteArray) (h : 4096 < s.size) : parseP s = .error (0, 6) := if_pos h
theorem parseP_short (s : ByteArray) (h : ¬ 4096 < s.size) : parseP s = resP s := if_neg h
theorem cfg_same (nm sc : ByteArray) (k k' : Nat → Int) (h : ∀ i, i < 16 → k' i = k i) : cfgC nm sc k' = cfgC nm sc k := by
  unfold cfgC
  rw [h 0 (by decide), h 1 (by decide), h 2 (by decide), h 3 (by decide), h 4 (by decide), h 5 (by decide), h 6 (by decide), h 7 (by decide), h 8 (by decide), h 9 (by decide), h 10 (by decide), h 11 (by decide), h 12 (by decide), h 13 (by decide), h 14 (by decide), h 15 (by decide)]
theorem parseV_same (nm sc : ByteArray) (k k' : Nat → Int) (h : ∀ i, i < 16 → k' i = k i) : parseV (.ok (nm, sc, k')) = .tuple #[.agg (cfgC nm sc k), .int .i64 0, .int .i64 0] := by
  show Value.tuple #[.agg (cfgC nm sc k'), _, _] = _
  rw [cfg_same nm sc k k' h]

/-! ### The walks -/
theorem below_vr {B : Nat} {w w1 w2 : World} {o : Obj} (h : Below B w w1) (hB : B ≤ w1.heap.size) (hg : (w1.alloc o).grownBy w2 (some w1.heap.size)) : Below B w w2 :=
  pw_below_grown (h.alloc hB o) (some w1.heap.size) (Nat.le_trans hB (by simp)) hg (fun q hq => by obtain rfl := Option.some.inj hq; exact hB)
theorem lnum_any (e : Int) (w : World) : Calls Tryd.prog 20 #[.int .i64 e] w fun e' w' => e' = .returned (.int .i64 e) ∧ w = w' := by
  go_enter Tryd.func20, Tryd.ntmps20
  go_wp2
  go_ret
  exact ⟨rfl, rfl⟩
/-- The tables that the calls read lie as they are laid. -/
structure Env (w : World) : Prop where
  utf : Utf w
  db : DB w
  tab : Tab10 w
theorem Env.to {w w' : World} (h : Env w) (hb : Below w.heap.size w w') : Env w' :=
  ⟨fun _ k => h.utf _ (below_then hb hb.size k), fun _ k => h.db _ (below_then hb hb.size k), fun _ k => h.tab _ (below_then hb hb.size k)⟩
/-- A resource that is one. -/
def nmP : ByteArray := (⟨#[114, 48]⟩ : ByteArray)
def scP : ByteArray := (⟨#[111, 112, 101, 110, 32, 115, 101, 115, 97, 109, 101]⟩ : ByteArray)
def kP : Nat → Int := fun i => ([3, 64, 128, 4, 8, 256, 3, 20, 16, 32, 2, 0, 0, 4, 8, 4] : List Int).getD i 0
theorem kP_bd : ∀ i, -9223372036854775808 ≤ kP i ∧ kP i ≤ 9223372036854775807 := by
  intro i
  by_cases h : i < 16
  · have : ∀ i : Fin 16, -9223372036854775808 ≤ kP i.val ∧ kP i.val ≤ 9223372036854775807 := by decide +kernel
    exact this ⟨i, h⟩
  · unfold kP
    rw [List.getD_eq_getElem?_getD, List.getElem?_eq_none (by simp; omega)]
    decide
theorem plain_ok : chkI nmP scP kP = 0 := by decide +kernel
set_option maxRecDepth 100000 in
set_option maxHeartbeats 1000000 in
theorem plain_any (w : World) : Calls Tryd.prog 26 #[] w fun e w' => e = .returned (.agg (cfgC nmP scP kP)) ∧ Below w.heap.size w w' := by
  have hn := blk_new w (.cells cfg0 23)
  go_enter Tryd.func26, Tryd.ntmps26
  go_wp2_with (first | (refine store_whole rfl rfl rfl (g := w.heap.size) rfl (cfgC nmP scP kP) (by rfl) hn (by kernel_rfl) (by rfl) (cfgOne _ _ _) ?_; intro w2 h2 hg2) | fail)
  exact bodyPost_ret (results_c1 rfl _ _ w.heap.size 23 _ _ _ rfl h2 Tryd.underlying23 rfl (by kernel_rfl)) rfl ⟨rfl, below_vr (Below.refl _ _) (Nat.le_refl _) hg2⟩
set_option maxRecDepth 100000 in
set_option maxHeartbeats 4000000 in
theorem back_any (nm sc : ByteArray) (k : Nat → Int) (hk : ∀ i, -9223372036854775808 ≤ k i ∧ k i ≤ 9223372036854775807) (hc : chkI nm sc k = 0) (w : World) (he : Env w) :
    Calls Tryd.prog 25 #[.agg (cfgC nm sc k)] w fun e w' => e = .returned (.bool true) ∧ Below w.heap.size w w' := by
  have HP : Aside0 (∀ W, Env W → Calls Tryd.prog 22 #[.agg (cfgC nm sc k)] W fun e w' => e = .returned (.tuple #[.string ⟨(printL nm sc k).toArray⟩, .int .i64 0]) ∧ Below W.heap.size W w') := ⟨fun W h => by
    have := print_any nm sc k hk W h.utf h.db h.tab
    rw [hc, if_pos rfl] at this
    exact this⟩
  have hF := Fine.of hc
  have hlen := print_len nm sc k hk (name_le nm hF.name) hF.short
  obtain ⟨y, hy⟩ : ∃ y : ByteArray, (⟨(printL nm sc k).toArray⟩ : ByteArray) = y := ⟨_, rfl⟩
  have hbl : bl y = printL nm sc k := by rw [← hy]; rfl
  have hsz : y.size ≤ 4000 := by rw [← bl_length, hbl]; exact hlen
  obtain ⟨k', hr, hk'⟩ := hF.back y hbl
  have HR : Aside0 (∀ W, Calls Tryd.prog 24 #[.string y] W fun e w' => e = .returned (.tuple #[.agg (cfgC nm sc k), .int .i64 0, .int .i64 0]) ∧ Below W.heap.size W w') := ⟨fun W => by
    have := confparse_any y W _ ((parseP_short y (by omega)).trans hr)
    rw [parseV_same nm sc k k' hk'] at this
    exact this⟩
  have hne : ¬ y.toList = [] := by
    rw [toList_blN, hbl, printL_lines]
    unfold joinN linesP lnR
    simp
  rw [hy] at HP
  clear hy hbl hr hk' hF hlen
  have HE := Aside0.mk he
  clear he hc
  have hne2 : y.toList.isEmpty = false := by simpa using hne
  have K1 := Aside0.mk (blk_new w (.cells (cfgC nm sc k) 23))
  have HB1 := Aside0.mk ((Below.refl w.heap.size w).alloc (Nat.le_refl _) (.cells (cfgC nm sc k) 23))
  go_enter Tryd.func25, Tryd.ntmps25
  go_wp2_with ((with_reducible refine gate_dst (N := 11) rfl ?_); refine wpList_load_row rfl 23 _ rfl w.heap.size rfl 23 (cfgC nm sc k) (0, 0) _ K1.out Tryd.underlying23 rfl (by kernel_rfl) ?_)
  generalize w.alloc (.cells (cfgC nm sc k) 23) = w1 at *
  refine (HP.out w1 (HE.out.to HB1.out)).mono ?_
  rintro e w2 ⟨rfl, hB2⟩
  have K2 := Aside0.mk (blk_below K1.out hB2)
  have HB2 := Aside0.mk (below_then HB1.out HB1.out.size hB2)
  clear hB2 K1 HB1
  go_wp2_with fail
  refine (lnum_any _ _).mono ?_
  rintro e w3 ⟨rfl, rfl⟩
  go_wp2_with fail
  refine (HR.out _).mono ?_
  rintro e w4 ⟨rfl, hB4⟩
  have K4 := Aside0.mk (blk_below K2.out hB4)
  have HB4 := Aside0.mk (below_then HB2.out HB2.out.size hB4)
  clear hB4 K2 HB2
  go_wp2_with (first | (refine store_whole rfl rfl rfl (g := w4.heap.size) rfl (cfgC nm sc k) (by rfl) (blk_new w4 _) (by kernel_rfl) (by rfl) (cfgOne nm sc k) ?_; intro w5 h5 hg5) | fail)
  have HB5 := Aside0.mk (below_vr HB4.out HB4.out.size hg5)
  have hlt4 : w.heap.size < w4.heap.size := blk_lt K4.out
  have K5 := Aside0.mk (grown_blk hg5 (blk_alloc K4.out _) (by omega))
  have L5 := Aside0.mk h5
  clear h5 hg5 HB4 K4
  refine (lnum_any _ _).mono ?_
  rintro e w6 ⟨rfl, rfl⟩
  generalize w4.heap.size = b4 at *
  go_wp2_with (first
    | ((with_reducible refine gate_dst (N := 36) rfl ?_); refine wpList_load_g rfl rfl rfl rfl 23 _ rfl b4 rfl 23 (cfgC nm sc k) (0, 0) _ L5.out Tryd.underlying23 rfl (by kernel_rfl) ?_)
    | ((with_reducible refine gate_dst (N := 37) rfl ?_); refine wpList_load_g rfl rfl rfl rfl 23 _ rfl w.heap.size rfl 23 (cfgC nm sc k) (0, 0) _ K5.out Tryd.underlying23 rfl (by kernel_rfl) ?_)
    | ((with_reducible refine gate_dst (N := 38) rfl ?_); refine wpList_cmp_g rfl rfl rfl rfl .neq 23 _ _ _ rfl _ _ rfl rfl false (cfg_neq _ _ nm sc k _) ?_)
    | ((with_reducible refine gate_dst (N := 41) rfl ?_); refine wpList_load_row rfl 23 _ rfl b4 rfl 23 (cfgC nm sc k) (0, 0) _ L5.out Tryd.underlying23 rfl (by kernel_rfl) ?_)
    | fail)
  refine (HP.out w5 (HE.out.to HB5.out)).mono ?_
  rintro e w7 ⟨rfl, hB7⟩
  have HB7 := Aside0.mk (below_then HB5.out HB5.out.size hB7)
  clear hB7 K5 L5 HB5
  go_wp2_with fail
  refine (lnum_any _ _).mono ?_
  rintro e w8 ⟨rfl, rfl⟩
  go_wp2
  go_ret
  exact ⟨rfl, HB7.out⟩
end Go.Proofs.YtfecfgimfjcbdaaDoor.Cf

namespace Go.Proofs.YtfecfgimfjcbdaaDoor.Cf
open Go.ChangeShapes Go.WideShapes Go.ChangeAt Go.RowKit Go.Proofs.YtfecfgimfjcbdaaDoorW.PrintWords

set_option maxRecDepth 100000 in
theorem config_cells : Tryd.prog.cellTypes Tryd.prog.depth 23 = some [9, 3, 3, 3, 3, 3, 3, 3, 3, 3, 3, 9, 3, 3, 3, 3, 3, 3] := by kernel_rfl
set_option maxRecDepth 100000 in
theorem cell_int {W : World} {base : Nat} {v : Value} (ho : Cell.okWide Tryd.prog W .any base 3 v) : ∃ n, v = .int .i64 n ∧ -9223372036854775808 ≤ n ∧ n ≤ 9223372036854775807 := by
  unfold Cell.okWide at ho
  rw [Tryd.underlying3] at ho
  have ho' : Cell.ok Tryd.prog W .any base 3 v := ho
  unfold Cell.ok at ho'
  rw [Tryd.underlying3] at ho'
  cases v <;> simp only at ho'
  rename_i k n
  obtain ⟨rfl, hk⟩ := ho'
  exact ⟨n, rfl, hk⟩
set_option maxRecDepth 100000 in
theorem cell_str {W : World} {base : Nat} {v : Value} (ho : Cell.okWide Tryd.prog W .any base 9 v) : ∃ s, v = .string s := by
  unfold Cell.okWide at ho
  rw [Tryd.underlying9] at ho
  have ho' : Cell.ok Tryd.prog W .any base 9 v := ho
  unfold Cell.ok at ho'
  rw [Tryd.underlying9] at ho'
  cases v <;> simp only at ho'
  exact ⟨_, rfl⟩
set_option maxRecDepth 100000 in
/-- A resource that came in. -/
theorem open_config {W : World} {base : Nat} {v : Value} (h : Value.okWide Tryd.prog W .any base 23 v) : ∃ (nm sc : ByteArray) (k : Nat → Int), v = .agg (cfgC nm sc k) ∧ ∀ i, -9223372036854775808 ≤ k i ∧ k i ≤ 9223372036854775807 := by
  unfold Value.okWide at h
  rw [Tryd.underlying23] at h
  obtain ⟨cs, rfl, hsz, ts, hts, _, hc⟩ := h
  obtain rfl := Option.some.inj (config_cells.symm.trans hts)
  have h18 : cs.size = 18 := hsz.trans (by kernel_rfl)
  have hi : ∀ i, i < 18 → ([9, 3, 3, 3, 3, 3, 3, 3, 3, 3, 3, 9, 3, 3, 3, 3, 3, 3] : List TypeId)[i]? = some 3 → ∃ n, cs[i]? = some (.int .i64 n) ∧ -9223372036854775808 ≤ n ∧ n ≤ 9223372036854775807 := by
    intro i hlt ht
    have hv : cs[i]? = some (cs[i]'(by omega)) := Array.getElem?_eq_getElem (by omega)
    obtain ⟨u, hu, ho⟩ := hc i _ hv
    simp only [List.length_cons, List.length_nil, Nat.zero_add, Nat.reduceAdd, Nat.mod_eq_of_lt hlt] at hu
    obtain rfl : u = 3 := Option.some.inj (hu.symm.trans ht)
    obtain ⟨n, hn, hb⟩ := cell_int ho
    exact ⟨n, hv.trans (congrArg some hn), hb⟩
  have hs : ∀ i, i < 18 → ([9, 3, 3, 3, 3, 3, 3, 3, 3, 3, 3, 9, 3, 3, 3, 3, 3, 3] : List TypeId)[i]? = some 9 → ∃ s, cs[i]? = some (.string s) := by
    intro i hlt ht
    have hv : cs[i]? = some (cs[i]'(by omega)) := Array.getElem?_eq_getElem (by omega)
    obtain ⟨u, hu, ho⟩ := hc i _ hv
    simp only [List.length_cons, List.length_nil, Nat.zero_add, Nat.reduceAdd, Nat.mod_eq_of_lt hlt] at hu
    obtain rfl : u = 9 := Option.some.inj (hu.symm.trans ht)
    obtain ⟨s, hn⟩ := cell_str ho
    exact ⟨s, hv.trans (congrArg some hn)⟩
  obtain ⟨nm, e0⟩ := hs 0 (by decide) rfl
  obtain ⟨sc, e11⟩ := hs 11 (by decide) rfl
  obtain ⟨n1, e1, b1⟩ := hi 1 (by decide) rfl
  obtain ⟨n2, e2, b2⟩ := hi 2 (by decide) rfl
  obtain ⟨n3, e3, b3⟩ := hi 3 (by decide) rfl
  obtain ⟨n4, e4, b4⟩ := hi 4 (by decide) rfl
  obtain ⟨n5, e5, b5⟩ := hi 5 (by decide) rfl
  obtain ⟨n6, e6, b6⟩ := hi 6 (by decide) rfl
  obtain ⟨n7, e7, b7⟩ := hi 7 (by decide) rfl
  obtain ⟨n8, e8, b8⟩ := hi 8 (by decide) rfl
  obtain ⟨n9, e9, b9⟩ := hi 9 (by decide) rfl
  obtain ⟨n10, e10, b10⟩ := hi 10 (by decide) rfl
  obtain ⟨n12, e12, b12⟩ := hi 12 (by decide) rfl
  obtain ⟨n13, e13, b13⟩ := hi 13 (by decide) rfl
  obtain ⟨n14, e14, b14⟩ := hi 14 (by decide) rfl
  obtain ⟨n15, e15, b15⟩ := hi 15 (by decide) rfl
  obtain ⟨n16, e16, b16⟩ := hi 16 (by decide) rfl
  obtain ⟨n17, e17, b17⟩ := hi 17 (by decide) rfl
  refine ⟨nm, sc, fun i => ([n4, n1, n2, n3, n5, n6, n7, n8, n9, n10, n12, n13, n14, n15, n16, n17] : List Int).getD i 0, ?_, fun i => ?_⟩
  · congr 1
    apply Array.ext'
    apply List.ext_getElem?
    intro i
    rw [Array.getElem?_toList]
    rcases i with _ | _ | _ | _ | _ | _ | _ | _ | _ | _ | _ | _ | _ | _ | _ | _ | _ | _ | i
    · exact e0.trans rfl
    · exact e1.trans rfl
    · exact e2.trans rfl
    · exact e3.trans rfl
    · exact e4.trans rfl
    · exact e5.trans rfl
    · exact e6.trans rfl
    · exact e7.trans rfl
    · exact e8.trans rfl
    · exact e9.trans rfl
    · exact e10.trans rfl
    · exact e11.trans rfl
    · exact e12.trans rfl
    · exact e13.trans rfl
    · exact e14.trans rfl
    · exact e15.trans rfl
    · exact e16.trans rfl
    · exact e17.trans rfl
    · rw [Array.getElem?_eq_none (by omega)]
      rfl
  · rcases i with _ | _ | _ | _ | _ | _ | _ | _ | _ | _ | _ | _ | _ | _ | _ | _ | i
    · exact b4
    · exact b1
    · exact b2
    · exact b3
    · exact b5
    · exact b6
    · exact b7
    · exact b8
    · exact b9
    · exact b10
    · exact b12
    · exact b13
    · exact b14
    · exact b15
    · exact b16
    · exact b17
    · simp

set_option maxRecDepth 100000 in
theorem u8extra : U8Extra Tryd.prog Tryd.laysValid_ren := ⟨by kernel_rfl, by kernel_rfl, by kernel_rfl, by kernel_rfl, by kernel_rfl, by kernel_rfl, by kernel_rfl⟩
set_option maxRecDepth 100000 in
theorem utf_of {W : World} {l : List (String × DataW Unit)} (h : laidMet Tryd.prog l W) (h1 : (l.filter fun x => x.1 == "unicode/utf8.first") = [("unicode/utf8.first", Lib.firstData)]) (h2 : (l.filter fun x => x.1 == "unicode/utf8.acceptRanges") = [("unicode/utf8.acceptRanges", Lib.acceptData)]) : Utf W := by
  have m1 : ("unicode/utf8.first", Lib.firstData) ∈ l := (List.mem_filter.1 (h1 ▸ List.mem_singleton.2 rfl : ("unicode/utf8.first", Lib.firstData) ∈ l.filter fun x => x.1 == "unicode/utf8.first")).1
  have m2 : ("unicode/utf8.acceptRanges", Lib.acceptData) ∈ l := (List.mem_filter.1 (h2 ▸ List.mem_singleton.2 rfl : ("unicode/utf8.acceptRanges", Lib.acceptData) ∈ l.filter fun x => x.1 == "unicode/utf8.acceptRanges")).1
  have ht := utf8Tabs_of_readsT (U8Types.of196 Tryd.laysValid) u8extra (Lib.laidMet.reads h m1) (Lib.laidMet.reads h m2)
  exact fun w' hb => Utf8Tabs_below ht hb
end Go.Proofs.YtfecfgimfjcbdaaDoor.Cf

namespace Go.Proofs.YtfecfgimfjcbdaaDoor.Cf
open Go.RowKit Go.Proofs.YtfecfgimfjcbdaaDoorW.PrintWords
theorem ownC : ownKnob Tryd.prog.godebug = none := by kernel_rfl
theorem laidC : laidOutB Tryd.prog = true := by kernel_rfl
theorem chk_two (nm sc : ByteArray) (k : Nat → Int) : chkI nm sc k = 0 ∨ chkI nm sc k = 124 := by
  unfold chkI
  split
  · exact .inl rfl
  · exact .inr rfl
end Go.Proofs.YtfecfgimfjcbdaaDoor.Cf

namespace Go.Proofs.YtfecfgimfjcbdaaDoor.Cf
open Go.RowKit Go.Proofs.YtfecfgimfjcbdaaDoorW.PrintWords Go.Proofs.YtfecfgimfjcbdaaDoorW.PrintLast Go.Proofs.YtfecfgimfjcbdaaDoorW.PrintMore Go.Proofs.YtfecfgimfjcbdaaDoor.QLloose

theorem loose_l0 (s : ByteArray) (hs : s.size ≤ 1125899906842624) (d : Nat) : ∀ (k j : Nat) (i : Bool), s.size - j = d → d < k → j ≤ s.size → replicalaw12_loose.l0 k s i (j : Int) = some (looseL ((bl s).drop j) i) := by
  induction d with
  | zero =>
    intro k j i hd hk hj
    obtain ⟨k, rfl⟩ : ∃ k', k = k' + 1 := ⟨k - 1, by omega⟩
    simp only [replicalaw12_loose.l0]
    rw [if_neg (by omega), List.drop_eq_nil_of_le (by rw [bl_length]; omega)]
    rfl
  | succ d ih =>
    intro k j i hd hk hj
    obtain ⟨k, rfl⟩ : ∃ k', k = k' + 1 := ⟨k - 1, by omega⟩
    obtain ⟨c, hc, hb⟩ := bl_drop s j (by omega)
    have hw : wrap64 ((j : Int) + 1) = ((j + 1 : Nat) : Int) := by rw [wrap_at (by omega) (by omega)]; omega
    have ih1 := fun b => ih k (j + 1) b (by omega) (by omega) (by omega)
    have e : ∀ n : Nat, n < 256 → (((c.toNat : Int) = (n : Int)) ↔ c = UInt8.ofNat n) := fun n hn => by
      constructor
      · intro h
        apply UInt8.toNat.inj
        rw [UInt8.toNat_ofNat']
        omega
      · intro h
        rw [h, UInt8.toNat_ofNat']
        omega
    have e10 : ((c.toNat : Int) = 10) ↔ c = 10 := e 10 (by decide)
    have e35 : ((c.toNat : Int) = 35) ↔ c = 35 := e 35 (by decide)
    have e32 : ((c.toNat : Int) = 32) ↔ c = 32 := e 32 (by decide)
    have e9 : ((c.toNat : Int) = 9) ↔ c = 9 := e 9 (by decide)
    have e13 : ((c.toNat : Int) = 13) ↔ c = 13 := e 13 (by decide)
    simp only [replicalaw12_loose.l0]
    rw [if_pos (by omega), if_pos (by omega), hb, hw, hc]
    simp only [looseL]
    by_cases h10 : c = 10
    · rw [if_pos (e10.2 h10), if_pos h10, ih1]
    · rw [if_neg (fun h => h10 (e10.1 h)), if_neg h10]
      by_cases h35 : c = 35
      · rw [if_pos (e35.2 h35), if_pos h35, ih1]
      · rw [if_neg (fun h => h35 (e35.1 h)), if_neg h35]
        cases i with
        | true => rw [if_pos rfl, if_neg (by simp), ih1]
        | false =>
          rw [if_neg (by decide)]
          by_cases h32 : c = 32
          · rw [if_pos (e32.2 h32), if_neg (fun h => h.2.1 h32), ih1]
          · rw [if_neg (fun h => h32 (e32.1 h))]
            by_cases h9 : c = 9
            · rw [if_pos (e9.2 h9), if_neg (fun h => h.2.2.1 h9), ih1]
            · rw [if_neg (fun h => h9 (e9.1 h))]
              by_cases h13 : c = 13
              · rw [if_pos (e13.2 h13), if_neg (fun h => h.2.2.2 h13), ih1]
              · rw [if_neg (fun h => h13 (e13.1 h)), if_pos ⟨rfl, h32, h9, h13⟩]
theorem loose_any (s : ByteArray) (hs : s.size ≤ 1125899906842624) (w : World) : Calls Tryd.prog 27 #[.string s] w fun e w' => e = .returned (.bool (looseL (bl s) false)) ∧ Drawn0 w w' :=
  replicalaw12_loose.calls (s.size + 1) s _ w (by
    have := loose_l0 s hs s.size (s.size + 1) 0 false (by omega) (by omega) (by omega)
    rw [List.drop_zero] at this
    exact this)

/-! ### Rows of strings -/
theorem info_str : (Tryd.prog.info? 9).map (fun i => (i.zero, i.size, i.bytes)) = some (some (.string ⟨#[]⟩), 1, 16) := by kernel_rfl
/-- A slice of strings of the call's own. -/
abbrev OwnS (w : World) (B : Nat) (v : Value) (ls : List ByteArray) : Prop := w.ownsRow B 9 1 v ls.length (ls.map Value.string)
theorem OwnS.cell {w : World} {B : Nat} {v : Value} {ls : List ByteArray} (h : OwnS w B v ls) (hne : ls ≠ []) : ∃ g c, v = .slice (some ⟨g, 0, none⟩) ls.length c ∧ B ≤ g ∧ ls.length ≤ c ∧ c ≤ maxLen ∧ ∃ cur, w.heap[g]? = some (.cells cur 9 (0, 0)) ∧ ∀ (j : Nat) (x : ByteArray), ls[j]? = some x → cur[j]? = some (Value.string x) := by
  rcases h.2 with ⟨_, h0⟩ | ⟨g, cap, cur, hv, hg, hk, hc, hm, hsz, ht⟩
  · exact absurd (List.eq_nil_of_length_eq_zero h0) hne
  · refine ⟨g, cap, hv, hg, hc, hm, cur, hk, fun j x hj => ?_⟩
    have hl : j < ls.length := (List.getElem?_eq_some_iff.1 hj).1
    have e : (cur.toList.take (ls.length * 1))[j]? = some (.string x) := by rw [ht, List.getElem?_map, hj]; rfl
    rw [List.getElem?_take, if_pos (by omega)] at e
    simpa using e
theorem no10_cut (s : ByteArray) (a j : Nat) (h : a ≤ j) (hj : j < s.size) : bl (s.extract a (j + 1)) = bl (s.extract a j) ++ [s[j]'hj] := by
  rw [bl_cut, bl_cut, show j + 1 - a = (j - a) + 1 by omega, List.take_succ_eq_append_getElem (by rw [List.length_drop, bl_length]; omega)]
  congr 2
  rw [List.getElem_drop]
  simp only [bl, show a + (j - a) = j by omega]
  rfl
set_option maxRecDepth 100000 in
set_option maxHeartbeats 1000000 in
theorem lines_any (s : ByteArray) (hs : s.size ≤ 1000000) (w : World) :
    Calls Tryd.prog 28 #[.string s] w fun e w' => ∃ (v : Value) (ls : List ByteArray), e = .returned v ∧ ls.map bl = linesF [] (bl s) ∧ OwnS w' w.heap.size v ls ∧ Below w.heap.size w w' := by
  obtain ⟨i0, hi, hz0, hz1, hz2⟩ := info_parts info_str
  have HO : Aside0 (OwnS w w.heap.size (.slice none 0 0) []) := ⟨World.ownsRow_nil _ _ _ _⟩
  have HB := Aside0.mk (Below.refl w.heap.size w)
  go_enter Tryd.func28, Tryd.ntmps28
  go_wp2
  go_loopg [3, 4, 5] s.size (fun kq v3 v4 v5 wr => ∃ (a j : Nat) (ls : List ByteArray), j ≤ s.size ∧ a ≤ j ∧ kq = s.size - j ∧ v4 = .int .i64 a ∧ v5 = .int .i64 j ∧ ls.length ≤ j ∧ Aside0 (ls.map bl ++ linesF (bl (s.extract a j)) ((bl s).drop j) = linesF [] (bl s)) ∧ Aside0 (OwnS wr w.heap.size v3 ls) ∧ Aside0 (Below w.heap.size w wr))
  case atStart => exact ⟨0, 0, [], by omega, by omega, by omega, rfl, rfl, by simp, ⟨by simp [bl]⟩, HO, HB⟩
  case round =>
    clear HO HB
    obtain ⟨a, j, ls, hj, haj, rfl, rfl, rfl, hll, HL, HO, HB⟩ := hrel
    by_cases hlt : j < s.size
    · have hd : decide ((j : Int) < s.size) = true := decide_eq_true (by omega)
      have hc : (bl s).drop j = (s[j]'hlt) :: (bl s).drop (j + 1) := by
        rw [List.drop_eq_getElem_cons (by rw [bl_length]; exact hlt)]
        congr 1
      have HL2 := HL.out
      rw [hc] at HL2
      simp only [linesF] at HL2
      have HBs := HB.out.size
      by_cases h10 : s[j]'hlt = 10
      · rw [if_pos h10] at HL2
        have HL3 := Aside0.mk HL2
        clear HL2 HL hc
        have he : (((s[j]'hlt).toNat : Int) == 10) = true := by rw [h10]; rfl
        clear h10
        go_wp2_with (at_builtin; refine wpList_append_own _ rfl _ _ 45 rfl w.heap.size 9 i0 (.string ⟨#[]⟩) 1 16 Tryd.underlying45 hi hz0 hz1 hz2 rfl (by decide) _ _ _ rfl (HO.out.alloc _) ⟨wr.heap.size, 0, none⟩ 1 1 [.string (s.extract a j)] rfl rfl ?c1 ?c2 ?c3 ?c4 ?c5 ?_)
        case c1 =>
          intro i u hi
          match i, hi with
          | 0, hi => simp at hi; subst hi; simp [Addr.add]
        case c2 => intro u hu; simp at hu; subst hu; rfl
        case c3 => unfold maxLen; omega
        case c4 => omega
        case c5 => simp; omega
        intro v' w2 hown' hgrow _
        have HO2 : Aside0 (OwnS w2 w.heap.size v' (ls ++ [s.extract a j])) := ⟨by
          unfold OwnS
          rw [List.length_append, List.map_append]
          exact hown'⟩
        have HB2 : Aside0 (Below w.heap.size w w2) := ⟨(HB.out.alloc HBs _).grown hgrow (by simp; omega) (fun k hk => (HO.out.lt k hk).1)⟩
        clear hown' hgrow HO HB
        go_wp2
        go_roundg (s.size - (j + 1))
        case measure => omega
        case rel =>
          refine ⟨j + 1, j + 1, ls ++ [s.extract a j], by omega, by omega, by omega, by go_num, by go_num, by simp; omega, ⟨?_⟩, HO2, HB2⟩
          rw [List.map_append, List.append_assoc]
          have e0 : bl (s.extract (j + 1) (j + 1)) = [] := by rw [bl_cut, Nat.sub_self]; rfl
          rw [e0]
          exact HL3.out
      · rw [if_neg h10, ← no10_cut s a j haj hlt] at HL2
        have HL3 := Aside0.mk HL2
        clear HL2 HL hc
        have he : (((s[j]'hlt).toNat : Int) == 10) = false := by
          rw [beq_eq_false_iff_ne]
          intro e
          apply h10
          apply UInt8.toNat.inj
          show _ = 10
          omega
        clear h10
        go_wp2
        go_roundg (s.size - (j + 1))
        case measure => omega
        case rel => exact ⟨a, j + 1, ls, by omega, by omega, by omega, rfl, by go_num, by omega, HL3, HO, HB⟩
    · have hd : decide ((j : Int) < s.size) = false := decide_eq_false (by omega)
      have hl2 : ls.map bl = linesF [] (bl s) := by
        have := HL.out
        rw [List.drop_eq_nil_of_le (by rw [bl_length]; omega)] at this
        simpa [linesF] using this
      go_wp2
      go_ret
      exact ⟨_, ls, rfl, hl2, HO.out, HB.out⟩

/-! ### turned -/
theorem tmod_low (k n : Int) (hn : 0 < n) : -n < k.tmod n ∧ k.tmod n < n := by
  have h1 := Int.tmod_lt_of_pos k hn
  have h2 := Int.tmod_lt_of_pos (-k) hn
  rw [Int.neg_tmod] at h2
  exact ⟨by omega, h1⟩
theorem tmod_mod (k n : Int) : (k.tmod n) % n = k % n := by
  have h := Int.mul_tdiv_add_tmod k n
  have : k % n = (n * k.tdiv n + k.tmod n) % n := by rw [h]
  rw [this, Int.mul_add_emod_self_left]
theorem rot_at (j n : Nat) (k : Int) (hn : 0 < n) : ((j : Int) + k.tmod (n : Int) + (n : Int)) % (n : Int) = (((j + (k % (n : Int)).toNat) % n : Nat) : Int) := by
  have h1 := tmod_mod k n
  have h2 := Int.emod_nonneg k (show (n : Int) ≠ 0 by omega)
  have h3 : (((k % (n : Int)).toNat : Nat) : Int) = k % (n : Int) := by omega
  have h4 := Int.mul_ediv_add_emod (k.tmod (n : Int)) (n : Int)
  rw [h1] at h4
  rw [← h4, Int.natCast_emod, Int.natCast_add, h3]
  have : (j : Int) + ((n : Int) * (k.tmod (n : Int) / (n : Int)) + k % (n : Int)) + (n : Int) = (j : Int) + k % (n : Int) + (n : Int) * (k.tmod (n : Int) / (n : Int) + 1) := by
    rw [Int.mul_add, Int.mul_one]
    omega
  rw [this, Int.add_mul_emod_self_left]
theorem odd_t (k : Int) : k.tmod 2 = 0 ↔ k % 2 = 0 := by
  rw [← Int.dvd_iff_emod_eq_zero, ← Int.dvd_iff_tmod_eq_zero]
set_option maxRecDepth 100000 in
set_option maxHeartbeats 1000000 in
theorem turned_any (ls : List ByteArray) (g off c : Nat) (k : Int) (w : World) (hn : 1 ≤ ls.length) (hn2 : ls.length ≤ 1000)
    (hcell : ∀ j x, ls[j]? = some x → w.cell? ⟨g, off + j, none⟩ = some (.string x)) (hg : g < w.heap.size) :
    Calls Tryd.prog 29 #[.slice (some ⟨g, off, none⟩) ls.length c, .int .i64 k] w fun e w' => ∃ v, e = .returned v ∧ OwnS w' w.heap.size v (turnedL ls k) ∧ Below w.heap.size w w' := by
  obtain ⟨i0, hi, hz0, hz1, hz2⟩ := info_parts info_str
  have HO : Aside0 (OwnS w w.heap.size (.slice none 0 0) []) := ⟨World.ownsRow_nil _ _ _ _⟩
  have HB := Aside0.mk (Below.refl w.heap.size w)
  have HC := Aside0.mk hcell
  clear hcell
  have HT := Aside0.mk (fun i hi => turned_at ls k i _ hi rfl)
  have HTL := Aside0.mk (turned_length ls k)
  generalize turnedL ls k = tl at *
  obtain ⟨n, hnl⟩ : ∃ n, ls.length = n := ⟨_, rfl⟩
  rw [hnl] at hn hn2 HT HTL
  rw [hnl]
  have HN := Aside0.mk hnl
  clear hnl
  have htm := tmod_low k n (by omega)
  obtain ⟨ht0, ht1⟩ := htm
  have HR := Aside0.mk (fun j => rot_at j n k (by omega))
  have HD2 := Aside0.mk (odd_t k)
  obtain ⟨r, hr⟩ : ∃ r, k.tmod (n : Int) = r := ⟨_, rfl⟩
  rw [hr] at ht0 ht1 HR
  have hn0 : ¬ (n : Int) = 0 := by omega
  go_enter Tryd.func29, Tryd.ntmps29
  go_wp2
  go_loopg [5, 7] n (fun kq v5 v7 wr => ∃ j : Nat, j ≤ n ∧ kq = n - j ∧ v7 = .int .i64 j ∧ Aside0 (OwnS wr w.heap.size v5 (tl.take j)) ∧ Aside0 (Below w.heap.size w wr))
  case atStart => exact ⟨0, by omega, by omega, rfl, HO, HB⟩
  case round =>
    clear HO HB
    obtain ⟨j, hj, rfl, rfl, HO, HB⟩ := hrel
    by_cases hlt : j < n
    · have hd : decide ((j : Int) < n) = true := decide_eq_true (by omega)
      obtain ⟨m, hm⟩ : ∃ m : Nat, (j + (k % (n : Int)).toNat) % n = m := ⟨_, rfl⟩
      have hmn : m < n := by rw [← hm]; exact Nat.mod_lt _ (by omega)
      have HJ := Aside0.mk (HT.out j hlt)
      have HRJ := HR.out j
      rw [hm] at HJ HRJ
      have hx0 : 0 ≤ (j : Int) + r + (n : Int) := by omega
      have HBs := HB.out.size
      obtain ⟨pl, hpl⟩ : ∃ pl, tl.take j = pl := ⟨_, rfl⟩
      have hll : pl.length ≤ 1000 := by rw [← hpl, List.length_take]; omega
      have ho := HO.out
      rw [hpl] at ho
      clear HO
      have HO := Aside0.mk ho
      clear ho
      clear hm
      by_cases hodd : k % 2 = 0
      · have ht2 : k.tmod 2 = 0 := HD2.out.2 hodd
        have HJ2 := HJ.out
        rw [if_pos hodd] at HJ2
        obtain ⟨x, hx⟩ : ∃ x, ls[m]? = some x := ⟨_, List.getElem?_eq_getElem (by rw [HN.out]; omega)⟩
        rw [hx] at HJ2
        have HX : Aside0 (tl.take (j + 1) = pl ++ [x]) := ⟨by rw [List.take_add_one, HJ2, hpl]; rfl⟩
        have hcl : wr.cell? ⟨g, off + m, none⟩ = some (.string x) := (HB.out.cell (p := ⟨g, off + m, none⟩) hg).trans (HC.out _ _ hx)
        clear hx HJ2 HJ hodd hpl
        go_wp2_with (at_builtin; refine wpList_append_own _ rfl _ _ 45 rfl w.heap.size 9 i0 (.string ⟨#[]⟩) 1 16 Tryd.underlying45 hi hz0 hz1 hz2 rfl (by decide) _ _ _ rfl (HO.out.alloc _) ⟨wr.heap.size, 0, none⟩ 1 1 [.string x] rfl rfl ?c1 ?c2 ?c3 ?c4 ?c5 ?_)
        case c1 =>
          intro i u hi
          match i, hi with
          | 0, hi => simp at hi; subst hi; simp [Addr.add]
        case c2 => intro u hu; simp at hu; subst hu; rfl
        case c3 => unfold maxLen; omega
        case c4 => omega
        case c5 => simp; omega
        intro v' w2 hown' hgrow _
        have HO2 : Aside0 (OwnS w2 w.heap.size v' (tl.take (j + 1))) := ⟨by
          rw [HX.out]
          unfold OwnS
          rw [List.length_append, List.map_append]
          exact hown'⟩
        have HB2 : Aside0 (Below w.heap.size w w2) := ⟨(HB.out.alloc HBs _).grown hgrow (by simp; omega) (fun k hk => (HO.out.lt k hk).1)⟩
        clear hown' hgrow HO HB hcl
        go_wp2
        go_roundg (n - (j + 1))
        case measure => omega
        case rel => exact ⟨j + 1, by omega, rfl, by go_num, HO2, HB2⟩
      · have ht2 : ¬ k.tmod 2 = 0 := fun h => hodd (HD2.out.1 h)
        have HJ2 := HJ.out
        rw [if_neg hodd] at HJ2
        obtain ⟨x, hx⟩ : ∃ x, ls[n - 1 - m]? = some x := ⟨_, List.getElem?_eq_getElem (by rw [HN.out]; omega)⟩
        rw [hx] at HJ2
        have HX : Aside0 (tl.take (j + 1) = pl ++ [x]) := ⟨by rw [List.take_add_one, HJ2, hpl]; rfl⟩
        have hcl : wr.cell? ⟨g, off + (n - 1 - m), none⟩ = some (.string x) := (HB.out.cell (p := ⟨g, off + (n - 1 - m), none⟩) hg).trans (HC.out _ _ hx)
        clear hx HJ2 HJ hodd hpl
        have hq : (n : Int) - 1 - (m : Int) = ((n - 1 - m : Nat) : Int) := by omega
        go_wp2_with (at_builtin; refine wpList_append_own _ rfl _ _ 45 rfl w.heap.size 9 i0 (.string ⟨#[]⟩) 1 16 Tryd.underlying45 hi hz0 hz1 hz2 rfl (by decide) _ _ _ rfl (HO.out.alloc _) ⟨wr.heap.size, 0, none⟩ 1 1 [.string x] rfl rfl ?c1 ?c2 ?c3 ?c4 ?c5 ?_)
        case c1 =>
          intro i u hi
          match i, hi with
          | 0, hi => simp at hi; subst hi; simp [Addr.add]
        case c2 => intro u hu; simp at hu; subst hu; rfl
        case c3 => unfold maxLen; omega
        case c4 => omega
        case c5 => simp; omega
        intro v' w2 hown' hgrow _
        have HO2 : Aside0 (OwnS w2 w.heap.size v' (tl.take (j + 1))) := ⟨by
          rw [HX.out]
          unfold OwnS
          rw [List.length_append, List.map_append]
          exact hown'⟩
        have HB2 : Aside0 (Below w.heap.size w w2) := ⟨(HB.out.alloc HBs _).grown hgrow (by simp; omega) (fun k hk => (HO.out.lt k hk).1)⟩
        clear hown' hgrow HO HB hcl
        go_wp2
        go_roundg (n - (j + 1))
        case measure => omega
        case rel => exact ⟨j + 1, by omega, rfl, by go_num, HO2, HB2⟩
    · have hd : decide ((j : Int) < n) = false := decide_eq_false (by omega)
      have hjn : j = n := by omega
      subst hjn
      have ho := HO.out
      rw [List.take_of_length_le (by rw [HTL.out]; exact Nat.le_refl _)] at ho
      have HO2 := Aside0.mk ho
      clear ho
      go_wp2
      go_ret
      exact ⟨_, rfl, HO2.out, HB.out⟩
theorem turned_n (ls : List ByteArray) (n : Nat) (hl : ls.length = n) (g off c : Nat) (k : Int) (w : World) (hn : 1 ≤ n) (hn2 : n ≤ 1000)
    (hcell : ∀ (j : Nat) (x : ByteArray), ls[j]? = some x → w.cell? ⟨g, off + j, none⟩ = some (.string x)) (hg : g < w.heap.size) :
    Calls Tryd.prog 29 #[.slice (some ⟨g, off, none⟩) n c, .int .i64 k] w fun e w' => ∃ v, e = .returned v ∧ OwnS w' w.heap.size v (turnedL ls k) ∧ Below w.heap.size w w' := by
  subst hl
  exact turned_any ls g off c k w hn hn2 hcell hg
end Go.Proofs.YtfecfgimfjcbdaaDoor.Cf
