/- ConfPrints (P1203): Print answers as the document says, byte for byte; the law's walk, the row, the tied card. -/
import Derived.Test.YtfecfgimfjcbdaaDoorMgG
import Derived.Lib.SmallJoins
import Derived.Lib.AppendIntMem
namespace Go.Proofs.YtfecfgimfjcbdaaDoor.confPrints
open Go.ChangeShapes Go.WideShapes Go.ChangeAt Go.RowKit Go.Proofs.YtfecfgimfjcbdaaDoor.Cf Go.Proofs.YtfecfgimfjcbdaaDoorW.PrintWords

theorem own : ownKnob Tryd.prog.godebug = none := by kernel_rfl
theorem laidOut : laidOutB Tryd.prog = true := by kernel_rfl

set_option maxRecDepth 100000 in
set_option maxHeartbeats 1000000 in
theorem walk (nm sc : ByteArray) (k : Nat → Int) (hk : ∀ i, -9223372036854775808 ≤ k i ∧ k i ≤ 9223372036854775807) (w : World) (hu : Utf w) (hd : DB w) (htab : Tab10 w) :
    Calls Tryd.prog 8 #[.agg (cfgC nm sc k)] w fun e w' => e = .returned (.bool true) ∧ Below w.heap.size w w' := by
  have HU := Aside0.mk hu
  have HD := Aside0.mk hd
  have HT := Aside0.mk htab
  clear hu hd htab
  have K1 := Aside0.mk (blk_new w (.cells (cfgC nm sc k) 23))
  have HB1 := Aside0.mk ((Below.refl w.heap.size w).alloc (Nat.le_refl _) (.cells (cfgC nm sc k) 23))
  go_enter Tryd.func8, Tryd.ntmps8
  go_wp2_with ((with_reducible refine gate_dst (N := 8) rfl ?_); refine wpList_load_row rfl 23 _ rfl w.heap.size rfl 23 (cfgC nm sc k) (0, 0) _ K1.out Tryd.underlying23 rfl (by kernel_rfl) ?_)
  generalize w.alloc (.cells (cfgC nm sc k) 23) = w1 at *
  refine (print_any nm sc k hk w1 (fun w' hb => HU.out w' (below_then HB1.out HB1.out.size hb)) (fun w' hb => HD.out w' (below_then HB1.out HB1.out.size hb)) (fun w' hb => HT.out w' (below_then HB1.out HB1.out.size hb))).mono ?_
  rintro e w2 ⟨rfl, hB2⟩
  have K2 := Aside0.mk (blk_below K1.out hB2)
  have HB2 := Aside0.mk (below_then HB1.out HB1.out.size hB2)
  clear hB2 K1 HB1
  obtain ⟨y, hy⟩ : ∃ y, (if chkI nm sc k = 0 then (⟨(printL nm sc k).toArray⟩ : ByteArray) else (⟨#[]⟩ : ByteArray)) = y := ⟨_, rfl⟩
  obtain ⟨er, her⟩ : ∃ er, chkI nm sc k = er := ⟨_, rfl⟩
  have HR := Aside0.mk (refprint_same nm sc k hk w2)
  rw [hy, her] at HR
  rw [hy, her]
  clear hy her
  go_wp2_with ((with_reducible refine gate_dst (N := 13) rfl ?_); refine wpList_load_row rfl 23 _ rfl w.heap.size rfl 23 (cfgC nm sc k) (0, 0) _ K2.out Tryd.underlying23 rfl (by kernel_rfl) ?_)
  refine HR.out.mono ?_
  rintro e w3 ⟨rfl, hB3⟩
  have HB3 := Aside0.mk (below_then HB2.out HB2.out.size hB3)
  clear hB3 K2 HB2 HR
  go_wp2
  go_ret
  exact ⟨by simp, HB3.out⟩

/-! ### THE ROW's STEP -/
theorem gT : Tryd.prog.globalNamed "internal/strconv.uint64pow10" = some 2 := by kernel_rfl
theorem tab_of {W : World} (h : laidMet Tryd.prog Rows.confPrintsRow.laid W) : Tab10 W := by
  have h1 := h.filter fun x => x.1 == "internal/strconv.uint64pow10"
  have e : (Rows.confPrintsRow.laid.filter fun x => x.1 == "internal/strconv.uint64pow10") = [("internal/strconv.uint64pow10", Lib.tabData .u64 Lib.pow10Tab)] := by kernel_rfl
  rw [e] at h1
  exact Lib.tabBelow_of_tabIs (Lib.tabIs_of_head gT (t := 148) (e := 131) (n := 20) (by kernel_rfl) Tryd.underlying148 Tryd.underlying131 (by kernel_rfl) (by kernel_rfl) h1)
def dbTab : List Int := [0, 1, 56, 2, 57, 49, 28, 3, 61, 58, 42, 50, 38, 29, 17, 4, 62, 47, 59, 36, 45, 43, 51, 22, 53, 39, 33, 30, 24, 18, 12, 5, 63, 55, 48, 27, 60, 41, 37, 16, 46, 35, 44, 21, 52, 32, 23, 11, 54, 26, 40, 15, 34, 20, 31, 10, 25, 14, 19, 9, 13, 8, 7, 6]
theorem gD : Tryd.prog.globalNamed "math/bits.deBruijn64tab" = some 4 := by kernel_rfl
theorem db_of {W : World} (h : laidMet Tryd.prog Rows.confPrintsRow.laid W) : DB W := by
  have h1 := h.filter fun x => x.1 == "math/bits.deBruijn64tab"
  have e : (Rows.confPrintsRow.laid.filter fun x => x.1 == "math/bits.deBruijn64tab") = [("math/bits.deBruijn64tab", Lib.tabData .u8 dbTab)] := by kernel_rfl
  rw [e] at h1
  have hT := Lib.tabBelow_of_tabIs (Lib.tabIs_of_head gD (t := 156) (e := 5) (n := 64) (by kernel_rfl) Tryd.underlying156 Tryd.underlying5 (by kernel_rfl) (by kernel_rfl) h1)
  exact fun w' hb => Lib.TabIs.cell (hT w' hb) gD 15 (by decide)
theorem utf {W : World} (h : laidMet Tryd.prog Rows.confPrintsRow.laid W) : Utf W := utf_of h (by kernel_rfl) (by kernel_rfl)
set_option maxRecDepth 100000 in
theorem lifted (os : Os) (started : os.Started) (H : Type) (enc : TypeId × Value → H) :
    ReturnsInHanded {} Tryd.checked os 8 .any (fun w args => (Rows.confPrintsSpec.pre enc Tryd.prog Tryd.f8 Rows.confPrintsRow.domain false w args ∧ laidMetH Tryd.prog Rows.confPrintsRow.laid w) ∧ sizedMet enc Tryd.prog Tryd.f8 (OpenSpec.ofChange Rows.confPrintsSpec) false w args)
      (Rows.confPrintsSpec.post enc Tryd.prog Tryd.f8 false true false false) := by
  refine returnsInHanded_of_change_and (C := Tryd.checked) (X := fun w _ => laidMetH Tryd.prog Rows.confPrintsRow.laid w) (fun _ _ _ hh h => h.of_heap hh) own started (by kernel_rfl) Tryd.func8
    (ChangeSpec.witness_shaped (enc := enc) (C := Tryd.checked) (os := os) (X := fun w _ => laidMetH Tryd.prog Rows.confPrintsRow.laid w) false (World.laidAll Tryd.prog os Rows.confPrintsRow.laid) #[.agg (cfgC ByteArray.empty ByteArray.empty fun _ => 0)] 8 (World.laidAll_os _ _ _)
      (World.shaped_of_ZipB (by kernel_rfl) (by kernel_rfl)) (by kernel_rfl) (by kernel_rfl) (by kernel_rfl)
      (by rw [MakeChecks.laidMetH_plain _ _ _ (by kernel_rfl)]; exact laidMet_laidAll _ (by kernel_rfl) (by kernel_rfl))) ?_
  intro W base args ds gs before hval0 hW hc _ hL _
  rw [MakeChecks.laidMetH_plain _ _ _ (by kernel_rfl)] at hL
  have hval : ∀ (j : Nat) t v, Tryd.f8.params[j]? = some t → args[j]? = some v → Value.okWide Tryd.prog W .any base t v := hval0
  have hW' := hW
  obtain ⟨p, q, hA0, hV, rfl, _, _⟩ := hW
  have hA : DataW.TrodAll enc Tryd.prog W 0 (fun _ => true) true Tryd.f8.params.toList args.toList ds p := hA0
  rw [Tryd.params8] at hA hval
  obtain ⟨v0, d0, rfl, rfl, h0⟩ := trodAll_one hA
  obtain ⟨rfl, rfl⟩ := trodVars_none hV
  obtain ⟨nm, sc, k, rfl, hk⟩ := open_config (hval 0 23 v0 rfl rfl)
  clear hA0 hval0
  simp only [List.append_nil] at hW'
  have hlt : ∀ x ∈ p, x.block < W.heap.size := fun x hx => by simpa using hW'.lt x hx
  refine (walk nm sc k hk W (utf hL) (db_of hL) (tab_of hL)).mono fun e W' ⟨he, bel⟩ => ?_
  subst he
  exact ⟨_, rfl, _, _, _, [], _, [], hW', trodAll_mk1 (shut_bool Tryd.underlying4 _), trodAll_mk1 (Below.trod laidOut (by kernel_rfl) (of_decide_eq_true (by kernel_rfl)) h0 bel hlt), rfl, bel.frame _, fun h => by cases h⟩

theorem row_holds : Rows.ConfPrintsSaid :=
  OpenClaim.holds_of_wide 8 Tryd.f8 rfl rfl rfl rfl rfl rfl rfl ⟨rfl, rfl, rfl, rfl, rfl⟩ rfl rfl rfl rfl rfl (by kernel_rfl) Tryd.func8 (by kernel_rfl)
    (of_decide_eq_true (by kernel_rfl)) (by unfold Func.isWrapper; first | (rw [if_pos (by decide +kernel)]; kernel_rfl) | (rw [if_neg (by decide +kernel)]; exact ⟨rfl, rfl⟩))
    (fun os started H enc _ => lifted os started H enc)

/-- The tied card of ConfPrints holds. -/
theorem proved : Rows.ConfPrintsCardSaid :=
  Claim7.holds_tied_plain_at .later [] [.data, .data, .data, .data, .pinned] true (true, "d00b676bce2552af46cfae2229684cff95e92bfc764e18822df88b7b060a56ac") true row_holds (fun _ h => by cases h) (by kernel_rfl) (fun _ h => by cases h) confPrints_row_tie rfl ⟨rfl, rfl⟩ (by kernel_rfl) rfl
    (fun f fn hf hfn => by
      obtain rfl : f = 8 := Option.some.inj ((show Tryd.prog.funcNamed "replica/replicalaw12.ConfPrints" = some 8 by kernel_rfl).symm.trans hf) |>.symm
      obtain rfl : fn = Tryd.f8 := (Option.some.inj (Tryd.func8.symm.trans hfn)).symm
      exact ⟨by kernel_rfl, fun j t ht => by
        rw [Tryd.params8] at ht
        have hm : t ∈ [23] := by simpa using Array.mem_of_getElem? ht
        have h3 : t = 23 := by simpa using hm
        subst h3
        exact (show Tryd.prog.wantsStandIn 23 = false by kernel_rfl)⟩)
    (by kernel_rfl)
#print axioms proved
end Go.Proofs.YtfecfgimfjcbdaaDoor.confPrints
