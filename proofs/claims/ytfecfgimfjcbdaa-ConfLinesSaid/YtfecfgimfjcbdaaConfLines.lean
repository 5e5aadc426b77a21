/- ConfLines: at any line conf.ParseStatus answers as the document says (the status, the place, the error). No condition.
   The walk of the law out of the two contracts (the program's and the reference's ParseStatus) and the plain law that both read alike. -/
import Derived.Test.YtfecfgimfjcbdaaRows
import Derived.Test.YtfecfgimfjcbdaaConfM
import Derived.ProofKit
import Derived.OpenShut
import Derived.ShutString
import Derived.ChangeOld
import Derived.SizedLaws
namespace Go.Proofs.Ytfecfgimfjcbdaa.confLines
open Go.ChangeShapes Go.WideShapes Go.ChangeAt Go.RowKit Go.Proofs.YtfecfgimfjcbdaaW.PrintWords Go.Proofs.Ytfecfgimfjcbdaa.Cf
open Go.ChangeMaps (open_string shut_string)
set_option linter.unusedVariables false

theorem own : ownKnob Try.prog.godebug = none := by kernel_rfl

theorem ints15 {xs : List Int} (h : xs.length = 15) : ∃ x0 x1 x2 x3 x4 x5 x6 x7 x8 x9 x10 x11 x12 x13 x14, Value.agg (ints xs) = .agg #[.int .i64 x0, .int .i64 x1, .int .i64 x2, .int .i64 x3, .int .i64 x4, .int .i64 x5, .int .i64 x6, .int .i64 x7, .int .i64 x8, .int .i64 x9, .int .i64 x10, .int .i64 x11, .int .i64 x12, .int .i64 x13, .int .i64 x14] := by
  obtain ⟨x0, x1, x2, x3, x4, x5, x6, x7, x8, x9, x10, x11, x12, x13, x14, rfl⟩ := fifteen h
  exact ⟨x0, x1, x2, x3, x4, x5, x6, x7, x8, x9, x10, x11, x12, x13, x14, rfl⟩
theorem runI_length : ∀ (ts : List (ByteArray × Option (List ByteArray) × Int)) (s : List UInt8) (n j : Nat) (fs gs : List Int), (runI s ts n j fs).2 = some gs → gs.length = fs.length
  | [], s, n, j, fs, gs, h => by
    obtain rfl : fs = gs := Option.some.inj h
    rfl
  | t :: ts, s, n, j, fs, gs, h => by
    simp only [runI] at h
    split at h
    · rw [runI_length ts s _ _ _ _ h, List.length_set]
    · cases h
theorem stat_length (s : List UInt8) : (statI s).1.length = 15 := by
  unfold statI
  have h := runI_length cTab s 0 0 (List.replicate 15 0)
  generalize runI s cTab 0 0 (List.replicate 15 0) = r at *
  obtain ⟨n, _ | xs⟩ := r
  · rfl
  · simp only
    split
    · rfl
    · exact h xs rfl

set_option maxRecDepth 100000 in
set_option maxHeartbeats 1000000 in
theorem walk (a0 : ByteArray) (w0 : a0.size ≤ 140737488351232) (w : World) :
    Calls Try.prog 3 #[.string a0] w fun e w' => e = .returned (.bool true) ∧ Below w.heap.size w w' := by
  have hl := stat_length (bl a0)
  have hs := stat_same (bl a0)
  generalize hst : statI (bl a0) = r at hl hs
  obtain ⟨q, p, f⟩ := r
  obtain ⟨x0, x1, x2, x3, x4, x5, x6, x7, x8, x9, x10, x11, x12, x13, x14, hi⟩ := ints15 hl
  have h1 : ∀ w, Calls Try.prog 4 #[.string a0] w fun e w' => e = .returned (.tuple #[.agg #[.int .i64 x0, .int .i64 x1, .int .i64 x2, .int .i64 x3, .int .i64 x4, .int .i64 x5, .int .i64 x6, .int .i64 x7, .int .i64 x8, .int .i64 x9, .int .i64 x10, .int .i64 x11, .int .i64 x12, .int .i64 x13, .int .i64 x14], .int .i64 (p : Int), .int .i64 f]) ∧ Below w.heap.size w w' := fun w => (parse_any a0 w w0).mono (fun e w' h => ⟨by rw [h.1, hst, hi], h.2⟩)
  have h2 : ∀ w, Calls Try.prog 5 #[.string a0] w fun e w' => e = .returned (.tuple #[.agg #[.int .i64 x0, .int .i64 x1, .int .i64 x2, .int .i64 x3, .int .i64 x4, .int .i64 x5, .int .i64 x6, .int .i64 x7, .int .i64 x8, .int .i64 x9, .int .i64 x10, .int .i64 x11, .int .i64 x12, .int .i64 x13, .int .i64 x14], .int .i64 (p : Int), .int .i64 f]) ∧ Below w.heap.size w w' := fun w => (refparse_any a0 w w0).mono (fun e w' h => ⟨by rw [h.1, ← hs, hi], h.2⟩)
  have H1 := Aside0.mk h1
  have H2 := Aside0.mk h2
  clear h1 h2 hi hl hs hst
  go_enter Try.func3, Try.ntmps3
  go_wp2_with fail
  refine (H1.out w).mono ?_
  rintro e w1 ⟨rfl, hB1⟩
  go_wp2_with fail
  refine (H2.out _).mono ?_
  rintro e w2 ⟨rfl, hB2⟩
  have k1 := blk_alloc (blk_below (blk_new w1 _) hB2) (.cells #[.int .i64 x0, .int .i64 x1, .int .i64 x2, .int .i64 x3, .int .i64 x4, .int .i64 x5, .int .i64 x6, .int .i64 x7, .int .i64 x8, .int .i64 x9, .int .i64 x10, .int .i64 x11, .int .i64 x12, .int .i64 x13, .int .i64 x14] 23)
  have k2 := blk_new w2 (.cells #[.int .i64 x0, .int .i64 x1, .int .i64 x2, .int .i64 x3, .int .i64 x4, .int .i64 x5, .int .i64 x6, .int .i64 x7, .int .i64 x8, .int .i64 x9, .int .i64 x10, .int .i64 x11, .int .i64 x12, .int .i64 x13, .int .i64 x14] 23)
  have HB : Below w.heap.size w (w2.alloc (.cells #[.int .i64 x0, .int .i64 x1, .int .i64 x2, .int .i64 x3, .int .i64 x4, .int .i64 x5, .int .i64 x6, .int .i64 x7, .int .i64 x8, .int .i64 x9, .int .i64 x10, .int .i64 x11, .int .i64 x12, .int .i64 x13, .int .i64 x14] 23)) := by
    have h1 : Below w.heap.size w (w1.alloc (.cells #[.int .i64 x0, .int .i64 x1, .int .i64 x2, .int .i64 x3, .int .i64 x4, .int .i64 x5, .int .i64 x6, .int .i64 x7, .int .i64 x8, .int .i64 x9, .int .i64 x10, .int .i64 x11, .int .i64 x12, .int .i64 x13, .int .i64 x14] 23)) := hB1.alloc hB1.size _
    exact (below_then h1 h1.size hB2).alloc (Nat.le_trans h1.size hB2.size) _
  have K1 := Aside0.mk k1
  have K2 := Aside0.mk k2
  clear k1 k2 hB1 hB2 H1 H2
  go_wp2_with (first
    | ((with_reducible refine gate_dst (N := 21) rfl ?_); refine wpList_load_row rfl 23 _ rfl w1.heap.size rfl 23 _ (0, 0) _ K1.out Try.underlying23 rfl (by kernel_rfl) ?_)
    | ((with_reducible refine gate_dst (N := 22) rfl ?_); refine wpList_load_row rfl 23 _ rfl w2.heap.size rfl 23 _ (0, 0) _ K2.out Try.underlying23 rfl (by kernel_rfl) ?_))
  go_ret
  exact ⟨rfl, HB⟩

/-! ### THE ROW's STEP -/
set_option maxRecDepth 100000 in
theorem lifted (os : Os) (started : os.Started) (H : Type) (enc : TypeId × Value → H) :
    ReturnsInHanded {} Try.checked os 3 .any (Rows.confLinesSpec.pre6 enc Try.prog Try.f3 Rows.confLinesRow.domain false) (Rows.confLinesSpec.post enc Try.prog Try.f3 false true false false) := by
  refine returnsInHanded_of_change_sized (C := Try.checked) own started (by kernel_rfl) Try.func3
    (ChangeSpec.witness6 (enc := enc) (C := Try.checked) false ⟨#[], #[.string ByteArray.empty], []⟩ 8 (by kernel_rfl) (by kernel_rfl) (by kernel_rfl) (by kernel_rfl)) ?_
  intro W base args ds gs before hval0 hW hcnd hsz0 _
  have hsz : (DataW.weightsEach Try.prog (Try.f3.params.toList ++ Rows.confLinesSpec.plain.varTypes Try.prog) (ds ++ gs)).all (· ≤ reachBytes) = true := hsz0
  have hval : ∀ (j : Nat) t v, Try.f3.params[j]? = some t → args[j]? = some v → Value.okWide Try.prog W .any base t v := hval0
  have hW' := hW
  obtain ⟨p, q, hA0, hV, rfl, hfz, hnd⟩ := hW
  have hA : DataW.TrodAll enc Try.prog W 0 (fun _ => true) true Try.f3.params.toList args.toList ds p := hA0
  rw [Try.params3] at hA hval hsz
  obtain ⟨v0, d0, rfl, rfl, h0⟩ := trodAll_one hA
  obtain ⟨rfl, rfl⟩ := trodVars_none hV
  obtain ⟨a0, rfl, rfl, rfl, y0⟩ := open_string Try.underlying9 (hval 0 9 v0 rfl rfl) h0
  have w0 : a0.size ≤ 140737488351232 := by
    have z := sized_string hsz (j := 0) (t := 9) rfl rfl
    rw [Array.length_toList] at z
    exact z
  clear hA0 hval0 hsz0 hsz
  simp only [List.append_nil] at hW'
  refine (walk a0 w0 W).mono fun e W' ⟨he, bel⟩ => ?_
  subst he
  exact ⟨_, rfl, _, _, _, [], _, [], hW', trodAll_mk1 (shut_bool Try.underlying4 _), trodAll_mk1 (shut_string Try.underlying9 y0), rfl, bel.frame _, fun h => by cases h⟩

/-- ConfLines holds. -/
theorem proved : Rows.ConfLinesSaid :=
  OpenClaim.holds_of_wide 3 Try.f3 rfl rfl rfl rfl rfl rfl rfl ⟨rfl, rfl, rfl, rfl, rfl⟩ rfl rfl rfl rfl rfl (by kernel_rfl) Try.func3 (by kernel_rfl)
    (of_decide_eq_true (by kernel_rfl)) (by unfold Func.isWrapper; first | (rw [if_pos (by decide +kernel)]; kernel_rfl) | (rw [if_neg (by decide +kernel)]; exact ⟨rfl, rfl⟩))
    (fun os started H enc _ => lifted os started H enc)
#print axioms proved
end Go.Proofs.Ytfecfgimfjcbdaa.confLines
