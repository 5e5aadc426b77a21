/- plain and back: the laws' own helpers, walked. -/
import Derived.Test.YtfecfgimfjcbdaaDoorMfT
import Derived.Test.YtfecfgimfjcbdaaDoorMuX
namespace Go.Proofs.YtfecfgimfjcbdaaDoor.Cf
open Go.RowKit Go.Proofs.YtfecfgimfjcbdaaDoorW.PrintWords Go.Proofs.YtfecfgimfjcbdaaDoorW.PrintLast Go.Proofs.YtfecfgimfjcbdaaDoorW.PrintMore Go.Proofs.YtfecfgimfjcbdaaDoor.QCParse

/-! ### How long a print is -/
theorem lnK_len (k : Nat → Int) (hk : ∀ i, -9223372036854775808 ≤ k i ∧ k i ≤ 9223372036854775807) (ind : List UInt8) (hind : ind.length ≤ 4) (i : Nat) (hi : i < 16) : (lnK k ind i (tE i)).length ≤ 130 := by
  have h1 := (kTab_small i _ (tE_at i hi)).2.1
  have h2 := shS_le i _ (tE_at i hi) (k i) (hk i)
  unfold lnK
  simp only [List.length_append, List.length_cons, List.length_nil, bl_length]
  omega
theorem join_len (c : Nat) : ∀ ls : List (List UInt8), (∀ l ∈ ls, l.length ≤ c) → (joinN ls).length ≤ (c + 1) * ls.length
  | [], _ => Nat.le_refl _
  | l :: ls, h => by
    have h1 := h l (List.mem_cons_self ..)
    have h2 := join_len c ls (fun x hx => h x (List.mem_cons_of_mem _ hx))
    unfold joinN at h2 ⊢
    rw [List.flatMap_cons, List.length_append, List.length_append, List.length_cons, List.length_nil, List.length_cons, Nat.mul_add]
    omega
theorem join_app (a b : List (List UInt8)) : joinN (a ++ b) = joinN a ++ joinN b := by unfold joinN; rw [List.flatMap_append]
def lnsA (nm : ByteArray) (k : Nat → Int) : List (List UInt8) := [lnR nm, lnK k in2 0 (tE 0), lnH devN, lK k 1, lK k 2, lK k 3, lnC, lnH netN, lK k 4, lK k 5, lK k 6, lK k 7, lK k 8, lK k 9]
def lnsB (k : Nat → Int) : List (List UInt8) := [lK k 10, lK k 11, lK k 12, lnC, lnH synN, lK k 13, lK k 14, lK k 15, lnC, [125]]
theorem lines_AB (nm sc : ByteArray) (k : Nat → Int) : linesP nm sc k = lnsA nm k ++ ([lnS sc] ++ lnsB k) := rfl
theorem print_len (nm sc : ByteArray) (k : Nat → Int) (hk : ∀ i, -9223372036854775808 ≤ k i ∧ k i ≤ 9223372036854775807) (hn : nm.size ≤ 31) (hs : sc.size ≤ 64) : (printL nm sc k).length ≤ 4000 := by
  rw [printL_lines, lines_AB, join_app, join_app]
  have h := fun i hi => lnK_len k hk in4 (by decide) i hi
  have hA : ∀ l ∈ lnsA nm k, l.length ≤ 130 := by
    intro l hl
    simp only [lnsA, List.mem_cons, List.not_mem_nil, or_false] at hl
    rcases hl with rfl | rfl | rfl | rfl | rfl | rfl | rfl | rfl | rfl | rfl | rfl | rfl | rfl | rfl
    · unfold lnR
      simp only [List.length_append, List.length_cons, List.length_nil, bl_length]
      rw [show resB.size = 8 from rfl]
      omega
    · exact lnK_len k hk in2 (by decide) 0 (by decide)
    · decide
    · exact h 1 (by decide)
    · exact h 2 (by decide)
    · exact h 3 (by decide)
    · decide
    · decide
    · exact h 4 (by decide)
    · exact h 5 (by decide)
    · exact h 6 (by decide)
    · exact h 7 (by decide)
    · exact h 8 (by decide)
    · exact h 9 (by decide)
  have hB : ∀ l ∈ lnsB k, l.length ≤ 130 := by
    intro l hl
    simp only [lnsB, List.mem_cons, List.not_mem_nil, or_false] at hl
    rcases hl with rfl | rfl | rfl | rfl | rfl | rfl | rfl | rfl | rfl | rfl
    · exact h 10 (by decide)
    · exact h 11 (by decide)
    · exact h 12 (by decide)
    · decide
    · decide
    · exact h 13 (by decide)
    · exact h 14 (by decide)
    · exact h 15 (by decide)
    · decide
    · decide
  have j1 := join_len 130 _ hA
  have j2 := join_len 130 _ hB
  have hq := quote_le sc
  have e2 : (joinN [lnS sc]).length = 4 + (13 + ((quoteL sc).length + 3)) := by
    unfold joinN lnS
    simp only [List.flatMap_cons, List.flatMap_nil, List.append_nil, List.length_append, List.length_cons, List.length_nil]
    rw [show (bl (⟨#[32, 32, 32, 32]⟩ : ByteArray)).length = 4 from rfl, show (bl (⟨#[115, 104, 97, 114, 101, 100, 45, 115, 101, 99, 114, 101, 116]⟩ : ByteArray)).length = 13 from rfl]
    omega
  rw [show (lnsA nm k).length = 14 from rfl] at j1
  rw [show (lnsB k).length = 10 from rfl] at j2
  rw [List.length_append, List.length_append, e2]
  omega
theorem name_le (nm : ByteArray) (h : nameI nm = true) : nm.size ≤ 31 := by
  unfold nameI at h
  rw [Bool.and_eq_true, Bool.and_eq_true] at h
  exact (of_decide_eq_true h.1.1).2
theorem parseP_long (s : ByteArray) (h : 4096 < s.size) : parseP s = .error (0, 6) := if_pos h
theorem parseP_short (s : ByteArray) (h : ¬ 4096 < s.size) : parseP s = resP s := if_neg h
theorem cfg_same (nm sc : ByteArray) (k k' : Nat → Int) (h : ∀ i, i < 16 → k' i = k i) : cfgC nm sc k' = cfgC nm sc k := by
  unfold cfgC
  rw [h 0 (by decide), h 1 (by decide), h 2 (by decide), h 3 (by decide), h 4 (by decide), h 5 (by decide), h 6 (by decide), h 7 (by decide), h 8 (by decide), h 9 (by decide), h 10 (by decide), h 11 (by decide), h 12 (by decide), h 13 (by decide), h 14 (by decide), h 15 (by decide)]
theorem parseV_same (nm sc : ByteArray) (k k' : Nat → Int) (h : ∀ i, i < 16 → k' i = k i) : parseV (.ok (nm, sc, k')) = .tuple #[.agg (cfgC nm sc k), .int .i64 0, .int .i64 0] := by
  show Value.tuple #[.agg (cfgC nm sc k'), _, _] = _
  rw [cfg_same nm sc k k' h]

/-! ### The walks -/
theorem below_vr {B : Nat} {w w1 w2 : World} {o : Obj} (h : Below B w w1) (hB : B ≤ w1.heap.size) (hg : (w1.alloc o).grownBy w2 (some w1.heap.size)) : Below B w w2 :=
  pw_below_grown (h.alloc hB o) (some w1.heap.size) (Nat.le_trans hB (by simp)) hg (fun q hq => by obtain rfl := Option.some.inj hq; exact hB)
theorem lnum_any (e : Int) (w : World) : Calls Tryd.prog 20 #[.int .i64 e] w fun e' w' => e' = .returned (.int .i64 e) ∧ w = w' := by
  go_enter Tryd.func20, Tryd.ntmps20
  go_wp2
  go_ret
  exact ⟨rfl, rfl⟩
/-- The tables that the calls read lie as they are laid. -/
structure Env (w : World) : Prop where
  utf : Utf w
  db : DB w
  tab : Tab10 w
theorem Env.to {w w' : World} (h : Env w) (hb : Below w.heap.size w w') : Env w' :=
  ⟨fun _ k => h.utf _ (below_then hb hb.size k), fun _ k => h.db _ (below_then hb hb.size k), fun _ k => h.tab _ (below_then hb hb.size k)⟩
/-- A resource that is one. -/
def nmP : ByteArray := (⟨#[114, 48]⟩ : ByteArray)
def scP : ByteArray := (⟨#[111, 112, 101, 110, 32, 115, 101, 115, 97, 109, 101]⟩ : ByteArray)
def kP : Nat → Int := fun i => ([3, 64, 128, 4, 8, 256, 3, 20, 16, 32, 2, 0, 0, 4, 8, 4] : List Int).getD i 0
theorem kP_bd : ∀ i, -9223372036854775808 ≤ kP i ∧ kP i ≤ 9223372036854775807 := by
  intro i
  by_cases h : i < 16
  · have : ∀ i : Fin 16, -9223372036854775808 ≤ kP i.val ∧ kP i.val ≤ 9223372036854775807 := by decide +kernel
    exact this ⟨i, h⟩
  · unfold kP
    rw [List.getD_eq_getElem?_getD, List.getElem?_eq_none (by simp; omega)]
    decide
theorem plain_ok : chkI nmP scP kP = 0 := by decide +kernel
set_option maxRecDepth 100000 in
set_option maxHeartbeats 1000000 in
theorem plain_any (w : World) : Calls Tryd.prog 26 #[] w fun e w' => e = .returned (.agg (cfgC nmP scP kP)) ∧ Below w.heap.size w w' := by
  have hn := blk_new w (.cells cfg0 23)
  go_enter Tryd.func26, Tryd.ntmps26
  go_wp2_with (first | (refine store_whole rfl rfl rfl (g := w.heap.size) rfl (cfgC nmP scP kP) (by rfl) hn (by kernel_rfl) (by rfl) (cfgOne _ _ _) ?_; intro w2 h2 hg2) | fail)
  exact bodyPost_ret (results_c1 rfl _ _ w.heap.size 23 _ _ _ rfl h2 Tryd.underlying23 rfl (by kernel_rfl)) rfl ⟨rfl, below_vr (Below.refl _ _) (Nat.le_refl _) hg2⟩
set_option maxRecDepth 100000 in
set_option maxHeartbeats 4000000 in
theorem back_any (nm sc : ByteArray) (k : Nat → Int) (hk : ∀ i, -9223372036854775808 ≤ k i ∧ k i ≤ 9223372036854775807) (hc : chkI nm sc k = 0) (w : World) (he : Env w) :
    Calls Tryd.prog 25 #[.agg (cfgC nm sc k)] w fun e w' => e = .returned (.bool true) ∧ Below w.heap.size w w' := by
  have HP : Aside0 (∀ W, Env W → Calls Tryd.prog 22 #[.agg (cfgC nm sc k)] W fun e w' => e = .returned (.tuple #[.string ⟨(printL nm sc k).toArray⟩, .int .i64 0]) ∧ Below W.heap.size W w') := ⟨fun W h => by
    have := print_any nm sc k hk W h.utf h.db h.tab
    rw [hc, if_pos rfl] at this
    exact this⟩
  have hF := Fine.of hc
  have hlen := print_len nm sc k hk (name_le nm hF.name) hF.short
  obtain ⟨y, hy⟩ : ∃ y : ByteArray, (⟨(printL nm sc k).toArray⟩ : ByteArray) = y := ⟨_, rfl⟩
  have hbl : bl y = printL nm sc k := by rw [← hy]; rfl
  have hsz : y.size ≤ 4000 := by rw [← bl_length, hbl]; exact hlen
  obtain ⟨k', hr, hk'⟩ := hF.back y hbl
  have HR : Aside0 (∀ W, Calls Tryd.prog 24 #[.string y] W fun e w' => e = .returned (.tuple #[.agg (cfgC nm sc k), .int .i64 0, .int .i64 0]) ∧ Below W.heap.size W w') := ⟨fun W => by
    have := confparse_any y W _ ((parseP_short y (by omega)).trans hr)
    rw [parseV_same nm sc k k' hk'] at this
    exact this⟩
  have hne : ¬ y.toList = [] := by
    rw [toList_blN, hbl, printL_lines]
    unfold joinN linesP lnR
    simp
  rw [hy] at HP
  clear hy hbl hr hk' hF hlen
  have HE := Aside0.mk he
  clear he hc
  have hne2 : y.toList.isEmpty = false := by simpa using hne
  have K1 := Aside0.mk (blk_new w (.cells (cfgC nm sc k) 23))
  have HB1 := Aside0.mk ((Below.refl w.heap.size w).alloc (Nat.le_refl _) (.cells (cfgC nm sc k) 23))
  go_enter Tryd.func25, Tryd.ntmps25
  go_wp2_with ((with_reducible refine gate_dst (N := 11) rfl ?_); refine wpList_load_row rfl 23 _ rfl w.heap.size rfl 23 (cfgC nm sc k) (0, 0) _ K1.out Tryd.underlying23 rfl (by kernel_rfl) ?_)
  generalize w.alloc (.cells (cfgC nm sc k) 23) = w1 at *
  refine (HP.out w1 (HE.out.to HB1.out)).mono ?_
  rintro e w2 ⟨rfl, hB2⟩
  have K2 := Aside0.mk (blk_below K1.out hB2)
  have HB2 := Aside0.mk (below_then HB1.out HB1.out.size hB2)
  clear hB2 K1 HB1
  go_wp2_with fail
  refine (lnum_any _ _).mono ?_
  rintro e w3 ⟨rfl, rfl⟩
  go_wp2_with fail
  refine (HR.out _).mono ?_
  rintro e w4 ⟨rfl, hB4⟩
  have K4 := Aside0.mk (blk_below K2.out hB4)
  have HB4 := Aside0.mk (below_then HB2.out HB2.out.size hB4)
  clear hB4 K2 HB2
  go_wp2_with (first | (refine store_whole rfl rfl rfl (g := w4.heap.size) rfl (cfgC nm sc k) (by rfl) (blk_new w4 _) (by kernel_rfl) (by rfl) (cfgOne nm sc k) ?_; intro w5 h5 hg5) | fail)
  have HB5 := Aside0.mk (below_vr HB4.out HB4.out.size hg5)
  have hlt4 : w.heap.size < w4.heap.size := blk_lt K4.out
  have K5 := Aside0.mk (grown_blk hg5 (blk_alloc K4.out _) (by omega))
  have L5 := Aside0.mk h5
  clear h5 hg5 HB4 K4
  refine (lnum_any _ _).mono ?_
  rintro e w6 ⟨rfl, rfl⟩
  generalize w4.heap.size = b4 at *
  go_wp2_with (first
    | ((with_reducible refine gate_dst (N := 36) rfl ?_); refine wpList_load_g rfl rfl rfl rfl 23 _ rfl b4 rfl 23 (cfgC nm sc k) (0, 0) _ L5.out Tryd.underlying23 rfl (by kernel_rfl) ?_)
    | ((with_reducible refine gate_dst (N := 37) rfl ?_); refine wpList_load_g rfl rfl rfl rfl 23 _ rfl w.heap.size rfl 23 (cfgC nm sc k) (0, 0) _ K5.out Tryd.underlying23 rfl (by kernel_rfl) ?_)
    | ((with_reducible refine gate_dst (N := 38) rfl ?_); refine wpList_cmp_g rfl rfl rfl rfl .neq 23 _ _ _ rfl _ _ rfl rfl false (cfg_neq _ _ nm sc k _) ?_)
    | ((with_reducible refine gate_dst (N := 41) rfl ?_); refine wpList_load_row rfl 23 _ rfl b4 rfl 23 (cfgC nm sc k) (0, 0) _ L5.out Tryd.underlying23 rfl (by kernel_rfl) ?_)
    | fail)
  refine (HP.out w5 (HE.out.to HB5.out)).mono ?_
  rintro e w7 ⟨rfl, hB7⟩
  have HB7 := Aside0.mk (below_then HB5.out HB5.out.size hB7)
  clear hB7 K5 L5 HB5
  go_wp2_with fail
  refine (lnum_any _ _).mono ?_
  rintro e w8 ⟨rfl, rfl⟩
  go_wp2
  go_ret
  exact ⟨rfl, HB7.out⟩
end Go.Proofs.YtfecfgimfjcbdaaDoor.Cf
