/- ConfLineBack (P1205, P1206): a status that is written is read back as it was; the law's walk, the row, the tied card. -/
import Derived.Test.YtfecfgimfjcbdaaDoorConfZ
import Derived.Test.YtfecfgimfjcbdaaDoorConfStatuses
namespace Go.Proofs.YtfecfgimfjcbdaaDoor.confLineBack
open Go.ChangeShapes Go.WideShapes Go.ChangeAt Go.RowKit Go.Proofs.YtfecfgimfjcbdaaDoor.Cf Go.Proofs.YtfecfgimfjcbdaaDoorW.PrintWords
open Go.Proofs.YtfecfgimfjcbdaaDoor.confStatuses (own laidOut open_status)

set_option maxRecDepth 100000 in
set_option maxHeartbeats 1000000 in
theorem walk (xs : List Int) (hx : xs.length = 15) (hbd : ∀ x ∈ xs, -9223372036854775808 ≤ x ∧ x ≤ 9223372036854775807) (w : World) (htab : Tab10 w) :
    Calls Tryd.prog 5 #[.agg (ints xs)] w fun e w' => e = .returned (.bool true) ∧ Below w.heap.size w w' := by
  have h15 : (ints xs).size = 15 := by simp [ints, hx]
  have hi15 : (Tryd.prog.info? 28).map (·.size) = some (ints xs).size := by rw [h15]; kernel_rfl
  clear h15
  have HT := Aside0.mk htab
  have HX := Aside0.mk hx
  have HBd := Aside0.mk hbd
  clear htab hx hbd
  have K1 := Aside0.mk (blk_new w (.cells (ints xs) 28))
  have HB1 := Aside0.mk ((Below.refl w.heap.size w).alloc (Nat.le_refl _) (.cells (ints xs) 28))
  go_enter Tryd.func5, Tryd.ntmps5
  go_wp2_with fail
  generalize w.alloc (.cells (ints xs) 28) = w1 at *
  refine (idle_any _).mono ?_
  rintro e w2 ⟨rfl, hB2⟩
  have K2 := Aside0.mk (blk_below K1.out hB2)
  have HB2 := Aside0.mk (below_then HB1.out HB1.out.size hB2)
  clear hB2 K1 HB1
  go_wp2_with fail
  refine (told_any idleXs rfl (by decide) _ idle_line w2 (fun w' hb => HT.out w' (below_then HB2.out HB2.out.size hb))).mono ?_
  rintro e w3 ⟨rfl, hB3⟩
  have K3 := Aside0.mk (blk_below K2.out hB3)
  have HB3 := Aside0.mk (below_then HB2.out HB2.out.size hB3)
  clear hB3 K2 HB2
  go_wp2_with ((with_reducible refine gate_dst (N := 11) rfl ?_); refine wpList_load_row rfl 28 _ rfl w.heap.size rfl 28 _ (0, 0) _ K3.out Tryd.underlying28 rfl hi15 ?_)
  refine (status_any xs HX.out HBd.out w3 (fun w' hb => HT.out w' (below_then HB3.out HB3.out.size hb))).mono ?_
  rintro e w4 ⟨rfl, hB4⟩
  have K4 := Aside0.mk (blk_below K3.out hB4)
  have HB4 := Aside0.mk (below_then HB3.out HB3.out.size hB4)
  clear hB4 K3 HB3
  cases hle : lineI xs with
  | mk l er =>
    have HL := Aside0.mk hle
    clear hle
    by_cases he : er = 0
    · subst he
      go_wp2_with fail
      refine (num_any _ _).mono ?_
      rintro e w5 ⟨rfl, rfl⟩
      go_wp2_with ((with_reducible refine gate_dst (N := 25) rfl ?_); refine wpList_load_row rfl 28 _ rfl w.heap.size rfl 28 _ (0, 0) _ K4.out Tryd.underlying28 rfl hi15 ?_)
      refine (told_any xs HX.out HBd.out l HL.out w4 (fun w' hb => HT.out w' (below_then HB4.out HB4.out.size hb))).mono ?_
      rintro e w5 ⟨rfl, hB5⟩
      have HB5 := Aside0.mk (below_then HB4.out HB4.out.size hB5)
      go_wp2
      go_ret
      exact ⟨rfl, HB5.out⟩
    · obtain ⟨rfl, rfl⟩ := line_no HL.out he
      go_wp2
      go_ret
      exact ⟨rfl, HB4.out⟩

/-! ### THE ROW's STEP -/
theorem tab_of {W : World} (h : laidMet Tryd.prog Rows.confLineBackRow.laid W) : Tab10 W := confStatuses.tab_of h
set_option maxRecDepth 100000 in
theorem lifted (os : Os) (started : os.Started) (H : Type) (enc : TypeId × Value → H) :
    ReturnsInHanded {} Tryd.checked os 5 .any (fun w args => (Rows.confLineBackSpec.pre enc Tryd.prog Tryd.f5 Rows.confLineBackRow.domain false w args ∧ laidMetH Tryd.prog Rows.confLineBackRow.laid w) ∧ sizedMet enc Tryd.prog Tryd.f5 (OpenSpec.ofChange Rows.confLineBackSpec) false w args)
      (Rows.confLineBackSpec.post enc Tryd.prog Tryd.f5 false true false false) := by
  refine returnsInHanded_of_change_and (C := Tryd.checked) (X := fun w _ => laidMetH Tryd.prog Rows.confLineBackRow.laid w) (fun _ _ _ hh h => h.of_heap hh) own started (by kernel_rfl) Tryd.func5
    (ChangeSpec.witness_shaped (enc := enc) (C := Tryd.checked) (os := os) (X := fun w _ => laidMetH Tryd.prog Rows.confLineBackRow.laid w) false (World.laidAll Tryd.prog os Rows.confLineBackRow.laid) #[.agg (ints (List.replicate 15 0))] 8 (World.laidAll_os _ _ _)
      (World.shaped_of_ZipB (by kernel_rfl) (by kernel_rfl)) (by kernel_rfl) (by kernel_rfl) (by kernel_rfl)
      (by rw [MakeChecks.laidMetH_plain _ _ _ (by kernel_rfl)]; exact laidMet_laidAll _ (by kernel_rfl) (by kernel_rfl))) ?_
  intro W base args ds gs before hval0 hW hc _ hL _
  rw [MakeChecks.laidMetH_plain _ _ _ (by kernel_rfl)] at hL
  have hval : ∀ (j : Nat) t v, Tryd.f5.params[j]? = some t → args[j]? = some v → Value.okWide Tryd.prog W .any base t v := hval0
  have hW' := hW
  obtain ⟨p, q, hA0, hV, rfl, _, _⟩ := hW
  have hA : DataW.TrodAll enc Tryd.prog W 0 (fun _ => true) true Tryd.f5.params.toList args.toList ds p := hA0
  rw [Tryd.params5] at hA hval
  obtain ⟨v0, d0, rfl, rfl, h0⟩ := trodAll_one hA
  obtain ⟨rfl, rfl⟩ := trodVars_none hV
  obtain ⟨xs, rfl, hx, hbd⟩ := open_status (hval 0 28 v0 rfl rfl)
  clear hA0 hval0
  simp only [List.append_nil] at hW'
  have hlt : ∀ x ∈ p, x.block < W.heap.size := fun x hx => by simpa using hW'.lt x hx
  refine (walk xs hx hbd W (tab_of hL)).mono fun e W' ⟨he, bel⟩ => ?_
  subst he
  exact ⟨_, rfl, _, _, _, [], _, [], hW', trodAll_mk1 (shut_bool Tryd.underlying4 _), trodAll_mk1 (Below.trod laidOut (by kernel_rfl) (of_decide_eq_true (by kernel_rfl)) h0 bel hlt), rfl, bel.frame _, fun h => by cases h⟩

theorem row_holds : Rows.ConfLineBackSaid :=
  OpenClaim.holds_of_wide 5 Tryd.f5 rfl rfl rfl rfl rfl rfl rfl ⟨rfl, rfl, rfl, rfl, rfl⟩ rfl rfl rfl rfl rfl (by kernel_rfl) Tryd.func5 (by kernel_rfl)
    (of_decide_eq_true (by kernel_rfl)) (by unfold Func.isWrapper; first | (rw [if_pos (by decide +kernel)]; kernel_rfl) | (rw [if_neg (by decide +kernel)]; exact ⟨rfl, rfl⟩))
    (fun os started H enc _ => lifted os started H enc)

/-- The tied card of ConfLineBack holds. -/
theorem proved : Rows.ConfLineBackCardSaid :=
  Claim7.holds_tied_plain_at .later [] [.data, .data, .data] true (true, "d00b676bce2552af46cfae2229684cff95e92bfc764e18822df88b7b060a56ac") true row_holds (fun _ h => by cases h) (by kernel_rfl) (fun _ h => by cases h) confLineBack_row_tie rfl ⟨rfl, rfl⟩ (by kernel_rfl) rfl
    (fun f fn hf hfn => by
      obtain rfl : f = 5 := Option.some.inj ((show Tryd.prog.funcNamed "replica/replicalaw12.ConfLineBack" = some 5 by kernel_rfl).symm.trans hf) |>.symm
      obtain rfl : fn = Tryd.f5 := (Option.some.inj (Tryd.func5.symm.trans hfn)).symm
      exact ⟨by kernel_rfl, fun j t ht => by
        rw [Tryd.params5] at ht
        have hm : t ∈ [28] := by simpa using Array.mem_of_getElem? ht
        have h3 : t = 28 := by simpa using hm
        subst h3
        exact (show Tryd.prog.wantsStandIn 28 = false by kernel_rfl)⟩)
    (by kernel_rfl)
#print axioms proved
end Go.Proofs.YtfecfgimfjcbdaaDoor.confLineBack
