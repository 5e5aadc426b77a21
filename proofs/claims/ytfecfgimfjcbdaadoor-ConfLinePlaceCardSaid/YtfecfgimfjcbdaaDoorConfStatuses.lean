/- ConfStatuses (P1205): the law's walk; the row; the tied card. -/
import Derived.Test.YtfecfgimfjcbdaaDoorConfV
import Derived.Test.YtfecfgimfjcbdaaDoorCards
import Derived.Test.YtfecfgimfjcbdaaDoorTie
import Derived.ProofKit
import Derived.SizedLaws
import Derived.Carry
import Derived.Lay
import Derived.LaidMore
import Derived.LaidSub
import Derived.Lib.SmallJoins
import Derived.Lib.AppendIntMem
import Derived.SevenTiedAt
import Derived.Stop.Joined
namespace Go.Proofs.YtfecfgimfjcbdaaDoor.confStatuses
open Go.ChangeShapes Go.WideShapes Go.ChangeAt Go.RowKit Go.Proofs.YtfecfgimfjcbdaaDoor.Cf Go.Proofs.YtfecfgimfjcbdaaDoorW.PrintWords

theorem own : ownKnob Tryd.prog.godebug = none := by kernel_rfl
theorem laidOut : laidOutB Tryd.prog = true := by kernel_rfl

theorem status_cells : Tryd.prog.cellTypes Tryd.prog.depth 28 = some (List.replicate 15 3) := by kernel_rfl
set_option maxRecDepth 100000 in
/-- A status that came in: fifteen ints. -/
theorem open_status {W : World} {base : Nat} {v : Value} (h : Value.okWide Tryd.prog W .any base 28 v) : ∃ xs : List Int, v = .agg (ints xs) ∧ xs.length = 15 ∧ ∀ x ∈ xs, -9223372036854775808 ≤ x ∧ x ≤ 9223372036854775807 := by
  unfold Value.okWide at h
  rw [Tryd.underlying28] at h
  obtain ⟨cs, rfl, hsz, ts, hts, _, hc⟩ := h
  obtain rfl := Option.some.inj (status_cells.symm.trans hts)
  have h15 : cs.size = 15 := hsz.trans (by kernel_rfl)
  have hcell : ∀ (i : Nat) (v : Value), cs[i]? = some v → ∃ n, v = .int .i64 n ∧ -9223372036854775808 ≤ n ∧ n ≤ 9223372036854775807 := by
    intro i v hv
    obtain ⟨u, hu, ho⟩ := hc i v hv
    have hu' : u = 3 := by
      have := List.mem_of_getElem? hu
      exact (List.mem_replicate.1 this).2
    subst hu'
    unfold Cell.okWide at ho
    rw [Tryd.underlying3] at ho
    have ho' : Cell.ok Tryd.prog W .any base 3 v := ho
    unfold Cell.ok at ho'
    rw [Tryd.underlying3] at ho'
    cases v <;> simp only at ho'
    rename_i k n
    obtain ⟨rfl, hk⟩ := ho'
    exact ⟨n, rfl, hk⟩
  refine ⟨cs.toList.map fun v => match v with | .int _ n => n | _ => 0, ?_, by simp [h15], ?_⟩
  · congr 1
    apply Array.ext'
    simp only [ints, List.map_map]
    refine (List.map_id cs.toList).symm.trans (List.map_congr_left fun v hv => ?_)
    obtain ⟨i, hi⟩ := List.mem_iff_getElem?.1 hv
    obtain ⟨n, rfl, _⟩ := hcell i v (by simpa using hi)
    rfl
  · intro x hx
    obtain ⟨v, hv, rfl⟩ := List.mem_map.1 hx
    obtain ⟨i, hi⟩ := List.mem_iff_getElem?.1 hv
    obtain ⟨n, rfl, hb⟩ := hcell i v (by simpa using hi)
    exact hb

set_option maxRecDepth 100000 in
set_option maxHeartbeats 1000000 in
theorem walk (xs : List Int) (hx : xs.length = 15) (hbd : ∀ x ∈ xs, -9223372036854775808 ≤ x ∧ x ≤ 9223372036854775807) (w : World) (htab : Tab10 w) :
    Calls Tryd.prog 4 #[.agg (ints xs)] w fun e w' => e = .returned (.bool true) ∧ Below w.heap.size w w' := by
  have HT := Aside0.mk htab
  have HX := Aside0.mk hx
  have HBd := Aside0.mk hbd
  clear htab hx hbd
  go_enter Tryd.func4, Tryd.ntmps4
  have h15 : (ints xs).size = 15 := by simp [ints, HX.out]
  have hi15 : (Tryd.prog.info? 28).map (·.size) = some (ints xs).size := by rw [h15]; kernel_rfl
  clear h15
  have K1 := Aside0.mk (blk_new w (.cells (ints xs) 28))
  have HB1 := Aside0.mk ((Below.refl w.heap.size w).alloc (Nat.le_refl _) (.cells (ints xs) 28))
  go_wp2_with ((with_reducible refine gate_dst (N := 8) rfl ?_); refine wpList_load_row rfl 28 _ rfl w.heap.size rfl 28 _ (0, 0) _ K1.out Tryd.underlying28 rfl hi15 ?_)
  generalize w.alloc (.cells (ints xs) 28) = w1 at *
  refine (status_any xs HX.out HBd.out _ (fun w' hb' => HT.out w' (below_then HB1.out HB1.out.size hb'))).mono ?_
  rintro e w2 ⟨rfl, hB2⟩
  have K2 := Aside0.mk (blk_below K1.out hB2)
  have HB2 := Aside0.mk (below_then HB1.out HB1.out.size hB2)
  clear hB2 K1 HB1
  rw [line_same xs HX.out]
  go_wp2_with ((with_reducible refine gate_dst (N := 13) rfl ?_); refine wpList_load_row rfl 28 _ rfl w.heap.size rfl 28 _ (0, 0) _ K2.out Tryd.underlying28 rfl hi15 ?_)
  refine (refstatus_any xs HX.out HBd.out _).mono ?_
  rintro e w3 ⟨rfl, hB3⟩
  have HB3 := Aside0.mk (below_then HB2.out HB2.out.size hB3)
  clear hB3 K2 HB2
  generalize (lineR xs).1 = l at *
  generalize (lineR xs).2 = er at *
  go_wp2
  go_ret
  exact ⟨by simp, HB3.out⟩

/-! ### THE ROW's STEP -/
theorem gT : Tryd.prog.globalNamed "internal/strconv.uint64pow10" = some 2 := by kernel_rfl
theorem tab_of {W : World} (h : laidMet Tryd.prog Rows.confStatusesRow.laid W) : Tab10 W := by
  have h1 := h.filter fun x => x.1 == "internal/strconv.uint64pow10"
  have e : (Rows.confStatusesRow.laid.filter fun x => x.1 == "internal/strconv.uint64pow10") = [("internal/strconv.uint64pow10", Lib.tabData .u64 Lib.pow10Tab)] := by kernel_rfl
  rw [e] at h1
  exact Lib.tabBelow_of_tabIs (Lib.tabIs_of_head gT (t := 148) (e := 131) (n := 20) (by kernel_rfl) Tryd.underlying148 Tryd.underlying131 (by kernel_rfl) (by kernel_rfl) h1)

set_option maxRecDepth 100000 in
theorem lifted (os : Os) (started : os.Started) (H : Type) (enc : TypeId × Value → H) :
    ReturnsInHanded {} Tryd.checked os 4 .any (fun w args => (Rows.confStatusesSpec.pre enc Tryd.prog Tryd.f4 Rows.confStatusesRow.domain false w args ∧ laidMetH Tryd.prog Rows.confStatusesRow.laid w) ∧ sizedMet enc Tryd.prog Tryd.f4 (OpenSpec.ofChange Rows.confStatusesSpec) false w args)
      (Rows.confStatusesSpec.post enc Tryd.prog Tryd.f4 false true false false) := by
  refine returnsInHanded_of_change_and (C := Tryd.checked) (X := fun w _ => laidMetH Tryd.prog Rows.confStatusesRow.laid w) (fun _ _ _ hh h => h.of_heap hh) own started (by kernel_rfl) Tryd.func4
    (ChangeSpec.witness_shaped (enc := enc) (C := Tryd.checked) (os := os) (X := fun w _ => laidMetH Tryd.prog Rows.confStatusesRow.laid w) false (World.laidAll Tryd.prog os Rows.confStatusesRow.laid) #[.agg (ints (List.replicate 15 0))] 8 (World.laidAll_os _ _ _)
      (World.shaped_of_ZipB (by kernel_rfl) (by kernel_rfl)) (by kernel_rfl) (by kernel_rfl) (by kernel_rfl)
      (by rw [MakeChecks.laidMetH_plain _ _ _ (by kernel_rfl)]; exact laidMet_laidAll _ (by kernel_rfl) (by kernel_rfl))) ?_
  intro W base args ds gs before hval0 hW hc _ hL _
  rw [MakeChecks.laidMetH_plain _ _ _ (by kernel_rfl)] at hL
  have hval : ∀ (j : Nat) t v, Tryd.f4.params[j]? = some t → args[j]? = some v → Value.okWide Tryd.prog W .any base t v := hval0
  have hW' := hW
  obtain ⟨p, q, hA0, hV, rfl, _, _⟩ := hW
  have hA : DataW.TrodAll enc Tryd.prog W 0 (fun _ => true) true Tryd.f4.params.toList args.toList ds p := hA0
  rw [Tryd.params4] at hA hval
  obtain ⟨v0, d0, rfl, rfl, h0⟩ := trodAll_one hA
  obtain ⟨rfl, rfl⟩ := trodVars_none hV
  obtain ⟨xs, rfl, hx, hbd⟩ := open_status (hval 0 28 v0 rfl rfl)
  clear hA0 hval0
  simp only [List.append_nil] at hW'
  have hlt : ∀ x ∈ p, x.block < W.heap.size := fun x hx => by simpa using hW'.lt x hx
  refine (walk xs hx hbd W (tab_of hL)).mono fun e W' ⟨he, bel⟩ => ?_
  subst he
  exact ⟨_, rfl, _, _, _, [], _, [], hW', trodAll_mk1 (shut_bool Tryd.underlying4 _), trodAll_mk1 (Below.trod laidOut (by kernel_rfl) (of_decide_eq_true (by kernel_rfl)) h0 bel hlt), rfl, bel.frame _, fun h => by cases h⟩

theorem row_holds : Rows.ConfStatusesSaid :=
  OpenClaim.holds_of_wide 4 Tryd.f4 rfl rfl rfl rfl rfl rfl rfl ⟨rfl, rfl, rfl, rfl, rfl⟩ rfl rfl rfl rfl rfl (by kernel_rfl) Tryd.func4 (by kernel_rfl)
    (of_decide_eq_true (by kernel_rfl)) (by unfold Func.isWrapper; first | (rw [if_pos (by decide +kernel)]; kernel_rfl) | (rw [if_neg (by decide +kernel)]; exact ⟨rfl, rfl⟩))
    (fun os started H enc _ => lifted os started H enc)

/-- The tied card of ConfStatuses holds. -/
theorem proved : Rows.ConfStatusesCardSaid :=
  Claim7.holds_tied_plain_at .later [] [.data, .data, .data] true (true, "d00b676bce2552af46cfae2229684cff95e92bfc764e18822df88b7b060a56ac") true row_holds (fun _ h => by cases h) (by kernel_rfl) (fun _ h => by cases h) confStatuses_row_tie rfl ⟨rfl, rfl⟩ (by kernel_rfl) rfl
    (fun f fn hf hfn => by
      obtain rfl : f = 4 := Option.some.inj ((show Tryd.prog.funcNamed "replica/replicalaw12.ConfStatuses" = some 4 by kernel_rfl).symm.trans hf) |>.symm
      obtain rfl : fn = Tryd.f4 := (Option.some.inj (Tryd.func4.symm.trans hfn)).symm
      exact ⟨by kernel_rfl, fun j t ht => by
        rw [Tryd.params4] at ht
        have hm : t ∈ [28] := by simpa using Array.mem_of_getElem? ht
        have h3 : t = 28 := by simpa using hm
        subst h3
        exact (show Tryd.prog.wantsStandIn 28 = false by kernel_rfl)⟩)
    (by kernel_rfl)
#print axioms proved
end Go.Proofs.YtfecfgimfjcbdaaDoor.confStatuses
