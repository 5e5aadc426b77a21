/- ConfBack (P1202, P1203, P1204): what Check takes is printed and read back as it was, what it does not take is not printed; the law's walk, the row, the tied card. -/
import Derived.Test.YtfecfgimfjcbdaaDoorMuP
namespace Go.Proofs.YtfecfgimfjcbdaaDoor.confBack
open Go.ChangeShapes Go.WideShapes Go.ChangeAt Go.RowKit Go.Proofs.YtfecfgimfjcbdaaDoor.Cf Go.Proofs.YtfecfgimfjcbdaaDoorW.PrintWords

set_option maxRecDepth 100000 in
set_option maxHeartbeats 1000000 in
theorem walk (nm sc : ByteArray) (k : Nat → Int) (hk : ∀ i, -9223372036854775808 ≤ k i ∧ k i ≤ 9223372036854775807) (w : World) (he : Env w) :
    Calls Tryd.prog 10 #[.agg (cfgC nm sc k)] w fun e w' => e = .returned (.bool true) ∧ Below w.heap.size w w' := by
  have HE := Aside0.mk he
  clear he
  have K1 := Aside0.mk (blk_new w (.cells (cfgC nm sc k) 23))
  have HB1 := Aside0.mk ((Below.refl w.heap.size w).alloc (Nat.le_refl _) (.cells (cfgC nm sc k) 23))
  have hck := chk_two nm sc k
  go_enter Tryd.func10, Tryd.ntmps10
  go_wp2_with fail
  generalize w.alloc (.cells (cfgC nm sc k) 23) = w1 at *
  refine (plain_any w1).mono ?_
  rintro e w2 ⟨rfl, hB2⟩
  have K2 := Aside0.mk (blk_below K1.out hB2)
  have HB2 := Aside0.mk (below_then HB1.out HB1.out.size hB2)
  clear hB2 K1 HB1
  go_wp2_with fail
  refine (back_any nmP scP kP kP_bd plain_ok w2 (HE.out.to HB2.out)).mono ?_
  rintro e w3 ⟨rfl, hB3⟩
  have K3 := Aside0.mk (blk_below K2.out hB3)
  have HB3 := Aside0.mk (below_then HB2.out HB2.out.size hB3)
  clear hB3 K2 HB2
  go_wp2_with ((with_reducible refine gate_dst (N := 11) rfl ?_); refine wpList_load_row rfl 23 _ rfl w.heap.size rfl 23 (cfgC nm sc k) (0, 0) _ K3.out Tryd.underlying23 rfl (by kernel_rfl) ?_)
  refine (check_any nm sc k hk w3 (HE.out.to HB3.out).utf).mono ?_
  rintro e w4 ⟨rfl, hB4⟩
  have K4 := Aside0.mk (blk_below K3.out hB4)
  have HB4 := Aside0.mk (below_then HB3.out HB3.out.size hB4)
  clear hB4 K3 HB3
  rcases hck with hc | hc
  · have HK := Aside0.mk (back_any nm sc k hk hc)
    rw [hc]
    clear hc
    go_wp2_with fail
    refine (lnum_any _ _).mono ?_
    rintro e w5 ⟨rfl, rfl⟩
    go_wp2_with ((with_reducible refine gate_dst (N := 28) rfl ?_); refine wpList_load_row rfl 23 _ rfl w.heap.size rfl 23 (cfgC nm sc k) (0, 0) _ K4.out Tryd.underlying23 rfl (by kernel_rfl) ?_)
    refine (HK.out w4 (HE.out.to HB4.out)).mono ?_
    rintro e w6 ⟨rfl, hB6⟩
    have HB6 := Aside0.mk (below_then HB4.out HB4.out.size hB6)
    clear hB6 K4 HB4
    go_wp2
    go_ret
    exact ⟨rfl, HB6.out⟩
  · have HP : Aside0 (∀ W, Env W → Calls Tryd.prog 22 #[.agg (cfgC nm sc k)] W fun e w' => e = .returned (.tuple #[.string (⟨#[]⟩ : ByteArray), .int .i64 124]) ∧ Below W.heap.size W w') := ⟨fun W h => by
      have := print_any nm sc k hk W h.utf h.db h.tab
      rw [hc, if_neg (by decide)] at this
      exact this⟩
    rw [hc]
    clear hc
    go_wp2_with fail
    refine (lnum_any _ _).mono ?_
    rintro e w5 ⟨rfl, rfl⟩
    go_wp2_with ((with_reducible refine gate_dst (N := 17) rfl ?_); refine wpList_load_row rfl 23 _ rfl w.heap.size rfl 23 (cfgC nm sc k) (0, 0) _ K4.out Tryd.underlying23 rfl (by kernel_rfl) ?_)
    refine (HP.out w4 (HE.out.to HB4.out)).mono ?_
    rintro e w6 ⟨rfl, hB6⟩
    have HB6 := Aside0.mk (below_then HB4.out HB4.out.size hB6)
    clear hB6 K4 HB4
    go_wp2
    go_ret
    exact ⟨rfl, HB6.out⟩

/-! ### THE ROW's STEP -/
theorem gT : Tryd.prog.globalNamed "internal/strconv.uint64pow10" = some 2 := by kernel_rfl
theorem tab_of {W : World} (h : laidMet Tryd.prog Rows.confBackRow.laid W) : Tab10 W := by
  have h1 := h.filter fun x => x.1 == "internal/strconv.uint64pow10"
  have e : (Rows.confBackRow.laid.filter fun x => x.1 == "internal/strconv.uint64pow10") = [("internal/strconv.uint64pow10", Lib.tabData .u64 Lib.pow10Tab)] := by kernel_rfl
  rw [e] at h1
  exact Lib.tabBelow_of_tabIs (Lib.tabIs_of_head gT (t := 148) (e := 131) (n := 20) (by kernel_rfl) Tryd.underlying148 Tryd.underlying131 (by kernel_rfl) (by kernel_rfl) h1)
def dbTab : List Int := [0, 1, 56, 2, 57, 49, 28, 3, 61, 58, 42, 50, 38, 29, 17, 4, 62, 47, 59, 36, 45, 43, 51, 22, 53, 39, 33, 30, 24, 18, 12, 5, 63, 55, 48, 27, 60, 41, 37, 16, 46, 35, 44, 21, 52, 32, 23, 11, 54, 26, 40, 15, 34, 20, 31, 10, 25, 14, 19, 9, 13, 8, 7, 6]
theorem gD : Tryd.prog.globalNamed "math/bits.deBruijn64tab" = some 4 := by kernel_rfl
theorem db_of {W : World} (h : laidMet Tryd.prog Rows.confBackRow.laid W) : DB W := by
  have h1 := h.filter fun x => x.1 == "math/bits.deBruijn64tab"
  have e : (Rows.confBackRow.laid.filter fun x => x.1 == "math/bits.deBruijn64tab") = [("math/bits.deBruijn64tab", Lib.tabData .u8 dbTab)] := by kernel_rfl
  rw [e] at h1
  have hT := Lib.tabBelow_of_tabIs (Lib.tabIs_of_head gD (t := 156) (e := 5) (n := 64) (by kernel_rfl) Tryd.underlying156 Tryd.underlying5 (by kernel_rfl) (by kernel_rfl) h1)
  exact fun w' hb => Lib.TabIs.cell (hT w' hb) gD 15 (by decide)
theorem env_of {W : World} (h : laidMet Tryd.prog Rows.confBackRow.laid W) : Env W := ⟨utf_of h (by kernel_rfl) (by kernel_rfl), db_of h, tab_of h⟩
set_option maxRecDepth 100000 in
theorem lifted (os : Os) (started : os.Started) (H : Type) (enc : TypeId × Value → H) :
    ReturnsInHanded {} Tryd.checked os 10 .any (fun w args => (Rows.confBackSpec.pre enc Tryd.prog Tryd.f10 Rows.confBackRow.domain false w args ∧ laidMetH Tryd.prog Rows.confBackRow.laid w) ∧ sizedMet enc Tryd.prog Tryd.f10 (OpenSpec.ofChange Rows.confBackSpec) false w args)
      (Rows.confBackSpec.post enc Tryd.prog Tryd.f10 false true false false) := by
  refine returnsInHanded_of_change_and (C := Tryd.checked) (X := fun w _ => laidMetH Tryd.prog Rows.confBackRow.laid w) (fun _ _ _ hh h => h.of_heap hh) ownC started (by kernel_rfl) Tryd.func10
    (ChangeSpec.witness_shaped (enc := enc) (C := Tryd.checked) (os := os) (X := fun w _ => laidMetH Tryd.prog Rows.confBackRow.laid w) false (World.laidAll Tryd.prog os Rows.confBackRow.laid) #[.agg (cfgC ByteArray.empty ByteArray.empty fun _ => 0)] 8 (World.laidAll_os _ _ _)
      (World.shaped_of_ZipB (by kernel_rfl) (by kernel_rfl)) (by kernel_rfl) (by kernel_rfl) (by kernel_rfl)
      (by rw [MakeChecks.laidMetH_plain _ _ _ (by kernel_rfl)]; exact laidMet_laidAll _ (by kernel_rfl) (by kernel_rfl))) ?_
  intro W base args ds gs before hval0 hW hc hsz0 hL _
  rw [MakeChecks.laidMetH_plain _ _ _ (by kernel_rfl)] at hL
  have hval : ∀ (j : Nat) t v, Tryd.f10.params[j]? = some t → args[j]? = some v → Value.okWide Tryd.prog W .any base t v := hval0
  have hW' := hW
  obtain ⟨p, q, hA0, hV, rfl, _, _⟩ := hW
  have hA : DataW.TrodAll enc Tryd.prog W 0 (fun _ => true) true Tryd.f10.params.toList args.toList ds p := hA0
  rw [Tryd.params10] at hA hval
  obtain ⟨v0, d0, rfl, rfl, h0⟩ := trodAll_one hA
  obtain ⟨rfl, rfl⟩ := trodVars_none hV
  obtain ⟨nm, sc, k, rfl, hk⟩ := open_config (hval 0 23 v0 rfl rfl)
  clear hA0 hval0 hsz0
  simp only [List.append_nil] at hW'
  have hlt : ∀ x ∈ p, x.block < W.heap.size := fun x hx => by simpa using hW'.lt x hx
  refine (walk nm sc k hk W (env_of hL)).mono fun e W' ⟨he, bel⟩ => ?_
  subst he
  exact ⟨_, rfl, _, _, _, [], _, [], hW', trodAll_mk1 (shut_bool Tryd.underlying4 _), trodAll_mk1 (Below.trod laidC (by kernel_rfl) (of_decide_eq_true (by kernel_rfl)) h0 bel hlt), rfl, bel.frame _, fun h => by cases h⟩

theorem row_holds : Rows.ConfBackSaid :=
  OpenClaim.holds_of_wide 10 Tryd.f10 rfl rfl rfl rfl rfl rfl rfl ⟨rfl, rfl, rfl, rfl, rfl⟩ rfl rfl rfl rfl rfl (by kernel_rfl) Tryd.func10 (by kernel_rfl)
    (of_decide_eq_true (by kernel_rfl)) (by unfold Func.isWrapper; first | (rw [if_pos (by decide +kernel)]; kernel_rfl) | (rw [if_neg (by decide +kernel)]; exact ⟨rfl, rfl⟩))
    (fun os started H enc _ => lifted os started H enc)

/-- The tied card of ConfBack holds. -/
theorem proved : Rows.ConfBackCardSaid :=
  Claim7.holds_tied_plain_at .later [] [.data, .data, .data, .data, .sentinel, .sentinel, .pinned] true (true, "d00b676bce2552af46cfae2229684cff95e92bfc764e18822df88b7b060a56ac") true row_holds (fun _ h => by cases h) (by kernel_rfl) (fun _ h => by cases h) confBack_row_tie rfl ⟨rfl, rfl⟩ (by kernel_rfl) rfl
    (fun f fn hf hfn => by
      obtain rfl : f = 10 := Option.some.inj ((show Tryd.prog.funcNamed "replica/replicalaw12.ConfBack" = some 10 by kernel_rfl).symm.trans hf) |>.symm
      obtain rfl : fn = Tryd.f10 := (Option.some.inj (Tryd.func10.symm.trans hfn)).symm
      exact ⟨by kernel_rfl, fun j t ht => by
        rw [Tryd.params10] at ht
        have hm : t ∈ [23] := by simpa using Array.mem_of_getElem? ht
        have hall : ([23].all fun u => !Tryd.prog.wantsStandIn u) = true := by kernel_rfl
        have h8 := List.all_eq_true.1 hall t hm
        have h9 : Tryd.prog.wantsStandIn t = false := by simpa using h8
        exact h9⟩)
    (by kernel_rfl)
#print axioms proved
end Go.Proofs.YtfecfgimfjcbdaaDoor.confBack
