/- ConfFirst (P1201): the first thing that is wrong gives the error, whatever follows; the law's walk, the row, the tied card. -/
import Derived.Test.YtfecfgimfjcbdaaDoorMfO
import Derived.Test.YtfecfgimfjcbdaaDoorMfP
namespace Go.Proofs.YtfecfgimfjcbdaaDoor.confFirst
open Go.ChangeShapes Go.WideShapes Go.ChangeAt Go.RowKit Go.Proofs.YtfecfgimfjcbdaaDoor.Cf Go.Proofs.YtfecfgimfjcbdaaDoorW.PrintWords
open Go.ChangeMaps (open_string shut_string)

theorem parts_of (o : Except (Nat × Int) (ByteArray × ByteArray × (Nat → Int))) : ∃ nm sc k, ∃ va ve : Int, parseV o = .tuple #[.agg (cfgC nm sc k), .int .i64 va, .int .i64 ve] := by
  cases o with
  | error z => exact ⟨_, _, _, _, _, rfl⟩
  | ok z => exact ⟨_, _, _, _, _, rfl⟩
theorem any_of {y : ByteArray} {o : Except (Nat × Int) (ByteArray × ByteArray × (Nat → Int))} {v : Value} (ho : parseP y = o) (hv : parseV o = v) (W : World) : Calls Tryd.prog 24 #[.string y] W fun e w' => e = .returned v ∧ Below W.heap.size W w' := by
  subst hv
  exact confparse_any y W o ho
theorem walk (s x : ByteArray) (hs : s.size ≤ 140737488351232) (hx : x.size ≤ 140737488351232) (w : World) :
    Calls Tryd.prog 9 #[.string s, .string x] w fun e w' => e = .returned (.bool true) ∧ Below w.heap.size w w' := by
  have hwz : (s ++ (⟨#[10]⟩ : ByteArray) ++ x).size = s.size + 1 + x.size := by rw [ByteArray.size_append, ByteArray.size_append]; rfl
  have hwz2 : (s ++ (⟨#[10, 120]⟩ : ByteArray)).size = s.size + 2 := by rw [ByteArray.size_append]; rfl
  by_cases h1 : 4096 < s.size
  · exact walk_long s x hs hx h1 _ _ _ w (any_of (parse_long s h1) rfl)
  · obtain ⟨o1, ho1⟩ : ∃ o, parseP s = o := ⟨_, rfl⟩
    obtain ⟨o2, ho2⟩ : ∃ o, parseP (s ++ (⟨#[10]⟩ : ByteArray) ++ x) = o := ⟨_, rfl⟩
    obtain ⟨nm, sc, k, va, ve, hv⟩ := parts_of o1
    obtain ⟨nm2, sc2, k2, va2, ve2, hv2⟩ := parts_of o2
    by_cases h2 : 4096 < s.size + 1 + x.size
    · exact walk_over s x hs hx h1 h2 nm sc _ _ k _ va ve w (any_of ho1 hv) (any_of (parse_long _ (by omega)) rfl)
    · have q1 := ho1
      have q2 := ho2
      rw [parse_short s h1] at q1
      rw [parse_short _ (by omega)] at q2
      have hX : Ext s (s ++ (⟨#[10]⟩ : ByteArray) ++ x) (bl x) := by
        show bl _ = _
        rw [bl_two, bl_two, List.append_assoc]
        rfl
      rcases hX.res with e1 | ⟨a, er, ha, hne, e1, e2⟩ | ⟨nm', y, e1, e2, hnm, _, _, _, _⟩
      · obtain rfl : o1 = .error (s.size, 121) := q1.symm.trans e1
        exact walk_end s x h1 h2 _ _ nm2 sc2 _ k2 va2 ve2 w (any_of ho1 rfl) (any_of ho2 hv2)
      · obtain rfl : o1 = .error (a, er) := q1.symm.trans e1
        obtain rfl : o2 = .error (a, er) := q2.symm.trans e2
        exact walk_err s x h1 h2 _ _ _ a er ha hne w (any_of ho1 rfl) (any_of ho2 rfl)
      · obtain rfl : o1 = .ok (nm', y.2.2.1, y.2.2.2.1) := q1.symm.trans e1
        have hne : ¬ nm'.toList = [] := fun e => by
          have hsz : nm'.size = 0 := by
            have := congrArg List.length e
            rw [toList_blN, bl_length] at this
            exact this
          unfold nameI at hnm
          simp [hsz] at hnm
        by_cases h4 : 4096 < s.size + 2
        · obtain ⟨o3, ho3⟩ : ∃ o, parseP (s ++ (⟨#[10, 120]⟩ : ByteArray)) = o := ⟨_, rfl⟩
          obtain ⟨nm3, sc3, k3, va3, ve3, hv3⟩ := parts_of o3
          exact walk_ok_long s x hs h1 h2 _ _ nm2 sc2 hne _ k2 va2 ve2 w (any_of ho1 rfl) (any_of ho2 hv2) nm3 sc3 k3 va3 ve3 h4 (any_of ho3 hv3)
        · have hY : Ext s (s ++ (⟨#[10, 120]⟩ : ByteArray)) [120] := by
            show bl _ = _
            rw [bl_two]
            rfl
          have e3 := res_more s _ hY _ e1
          have ho3 : parseP (s ++ (⟨#[10, 120]⟩ : ByteArray)) = .error (s.size + 1, 121) := (parse_short _ (by omega)).trans e3
          exact walk_ok_short s x hs h1 h2 _ _ nm2 sc2 hne _ k2 va2 ve2 w (any_of ho1 rfl) (any_of ho2 hv2) _ _ _ h4 (any_of ho3 rfl)

/-! ### THE ROW's STEP -/
set_option maxRecDepth 100000 in
theorem lifted (os : Os) (started : os.Started) (H : Type) (enc : TypeId × Value → H) :
    ReturnsInHanded {} Tryd.checked os 9 .any (fun w args => (Rows.confFirstSpec.pre enc Tryd.prog Tryd.f9 Rows.confFirstRow.domain false w args ∧ laidMetH Tryd.prog Rows.confFirstRow.laid w) ∧ sizedMet enc Tryd.prog Tryd.f9 (OpenSpec.ofChange Rows.confFirstSpec) false w args)
      (Rows.confFirstSpec.post enc Tryd.prog Tryd.f9 false true false false) := by
  refine returnsInHanded_of_change_and (C := Tryd.checked) (X := fun w _ => laidMetH Tryd.prog Rows.confFirstRow.laid w) (fun _ _ _ hh h => h.of_heap hh) own started (by kernel_rfl) Tryd.func9
    (ChangeSpec.witness_shaped (enc := enc) (C := Tryd.checked) (os := os) (X := fun w _ => laidMetH Tryd.prog Rows.confFirstRow.laid w) false (World.laidAll Tryd.prog os Rows.confFirstRow.laid) #[.string ByteArray.empty, .string ByteArray.empty] 8 (World.laidAll_os _ _ _)
      (World.shaped_of_ZipB (by kernel_rfl) (by kernel_rfl)) (by kernel_rfl) (by kernel_rfl) (by kernel_rfl)
      (by rw [MakeChecks.laidMetH_plain _ _ _ (by kernel_rfl)]; exact laidMet_laidAll _ (by kernel_rfl) (by kernel_rfl))) ?_
  intro W base args ds gs before hval0 hW hc hsz0 hL _
  rw [MakeChecks.laidMetH_plain _ _ _ (by kernel_rfl)] at hL
  have hval : ∀ (j : Nat) t v, Tryd.f9.params[j]? = some t → args[j]? = some v → Value.okWide Tryd.prog W .any base t v := hval0
  have hW' := hW
  obtain ⟨p, q, hA0, hV, rfl, _, _⟩ := hW
  have hA : DataW.TrodAll enc Tryd.prog W 0 (fun _ => true) true Tryd.f9.params.toList args.toList ds p := hA0
  rw [Tryd.params9] at hA hval
  obtain ⟨v0, v1, d0, d1, p0, p1, rfl, rfl, rfl, h0, h1⟩ := trodAll_two hA
  obtain ⟨rfl, rfl⟩ := trodVars_none hV
  have hsz : (DataW.weightsEach Tryd.prog (Tryd.f9.params.toList ++ Rows.confFirstSpec.plain.varTypes Tryd.prog) ([d0, d1] ++ [])).all (· ≤ reachBytes) = true := hsz0
  rw [Tryd.params9] at hsz
  obtain ⟨a0, rfl, rfl, rfl, y0⟩ := open_string Tryd.underlying9 (hval 0 9 v0 rfl rfl) h0
  obtain ⟨a1, rfl, rfl, rfl, y1⟩ := open_string Tryd.underlying9 (hval 1 9 v1 rfl rfl) h1
  have w0 : a0.size ≤ 140737488351232 := by
    have z := sized_string hsz (j := 0) (t := 9) rfl rfl
    rw [Array.length_toList] at z
    exact z
  have w1 : a1.size ≤ 140737488351232 := by
    have z := sized_string hsz (j := 1) (t := 9) rfl rfl
    rw [Array.length_toList] at z
    exact z
  clear hA0 hval0 hsz0 hsz
  simp only [List.append_nil] at hW'
  refine (walk a0 a1 w0 w1 W).mono fun e W' ⟨he, bel⟩ => ?_
  subst he
  exact ⟨_, rfl, _, _, _, [], _, [], hW', trodAll_mk1 (shut_bool Tryd.underlying4 _), trodAll_mk2 (shut_string Tryd.underlying9 y0) (shut_string Tryd.underlying9 y1), rfl, bel.frame _, fun h => by cases h⟩

theorem row_holds : Rows.ConfFirstSaid :=
  OpenClaim.holds_of_wide 9 Tryd.f9 rfl rfl rfl rfl rfl rfl rfl ⟨rfl, rfl, rfl, rfl, rfl⟩ rfl rfl rfl rfl rfl (by kernel_rfl) Tryd.func9 (by kernel_rfl)
    (of_decide_eq_true (by kernel_rfl)) (by unfold Func.isWrapper; first | (rw [if_pos (by decide +kernel)]; kernel_rfl) | (rw [if_neg (by decide +kernel)]; exact ⟨rfl, rfl⟩))
    (fun os started H enc _ => lifted os started H enc)

/-- The tied card of ConfFirst holds. -/
theorem proved : Rows.ConfFirstCardSaid :=
  Claim7.holds_tied_plain_at .later [] [.data, .data, .data, .sentinel, .sentinel] true (true, "d00b676bce2552af46cfae2229684cff95e92bfc764e18822df88b7b060a56ac") true row_holds (fun _ h => by cases h) (by kernel_rfl) (fun _ h => by cases h) confFirst_row_tie rfl ⟨rfl, rfl⟩ (by kernel_rfl) rfl
    (fun f fn hf hfn => by
      obtain rfl : f = 9 := Option.some.inj ((show Tryd.prog.funcNamed "replica/replicalaw12.ConfFirst" = some 9 by kernel_rfl).symm.trans hf) |>.symm
      obtain rfl : fn = Tryd.f9 := (Option.some.inj (Tryd.func9.symm.trans hfn)).symm
      exact ⟨by kernel_rfl, fun j t ht => by
        rw [Tryd.params9] at ht
        have hm : t ∈ [9, 9] := by simpa using Array.mem_of_getElem? ht
        have hall : ([9, 9].all fun u => !Tryd.prog.wantsStandIn u) = true := by kernel_rfl
        have h8 := List.all_eq_true.1 hall t hm
        have h9 : Tryd.prog.wantsStandIn t = false := by simpa using h8
        exact h9⟩)
    (by kernel_rfl)
#print axioms proved
end Go.Proofs.YtfecfgimfjcbdaaDoor.confFirst
