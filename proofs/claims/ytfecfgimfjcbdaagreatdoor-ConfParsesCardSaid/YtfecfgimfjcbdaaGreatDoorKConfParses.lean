/- ConfParses (P1201): Parse answers as the document says: the Config, the place and the error, at any text; the law's walk, the row, the tied card. -/
import Derived.Test.YtfecfgimfjcbdaaGreatDoorKConfYq
import Derived.Test.YtfecfgimfjcbdaaGreatDoorKConfYx
import Derived.Test.YtfecfgimfjcbdaaGreatDoorCards
import Derived.Test.YtfecfgimfjcbdaaGreatDoorTie
import Derived.ProofKit
import Derived.SizedLaws
import Derived.Carry
import Derived.Lay
import Derived.LaidMore
import Derived.LaidSub
import Derived.Lib.LaidU8T
import Derived.SevenTiedAt
import Derived.Stop.Joined
namespace Go.Proofs.YtfecfgimfjcbdaaGreatDoor.confParses
open Go.ChangeShapes Go.WideShapes Go.ChangeAt Go.RowKit Go.Proofs.YtfecfgimfjcbdaaGreatDoor.Cf Go.Proofs.YtfecfgimfjcbdaaGreatDoorW.PrintWords
open Go.ChangeMaps (open_string shut_string)

theorem own : ownKnob Tryz.prog.godebug = none := by kernel_rfl
theorem parts_of (o : Except (Nat × Int) (ByteArray × ByteArray × (Nat → Int))) : ∃ nm sc k, ∃ va ve : Int, parseV o = .tuple #[.agg (cfgC nm sc k), .int .i64 va, .int .i64 ve] := by
  cases o with
  | error z => exact ⟨_, _, _, _, _, rfl⟩
  | ok z => exact ⟨_, _, _, _, _, rfl⟩
theorem below_var {B : Nat} {w w1 w2 : World} {o : Obj} (h : Below B w w1) (hB : B ≤ w1.heap.size) (hg : (w1.alloc o).grownBy w2 (some w1.heap.size)) : Below B w w2 :=
  pw_below_grown (h.alloc hB o) (some w1.heap.size) (Nat.le_trans hB (by simp)) hg (fun q hq => by obtain rfl := Option.some.inj hq; exact hB)
set_option maxRecDepth 100000 in
set_option maxHeartbeats 1000000 in
theorem walk (s : ByteArray) (w : World) :
    Calls Tryz.prog 3 #[.string s] w fun e w' => e = .returned (.bool true) ∧ Below w.heap.size w w' := by
  obtain ⟨nm, sc, k, va, ve, hv⟩ := parts_of (parseP s)
  have H1 : Aside0 (∀ W, Calls Tryz.prog 4 #[.string s] W fun e w' => e = .returned (.tuple #[.agg (cfgC nm sc k), .int .i64 va, .int .i64 ve]) ∧ Below W.heap.size W w') := ⟨fun W => by rw [← hv]; exact confparse_any s W _ rfl⟩
  have H2 : Aside0 (∀ W, Calls Tryz.prog 5 #[.string s] W fun e w' => e = .returned (.tuple #[.agg (cfgC nm sc k), .int .i64 va, .int .i64 ve]) ∧ Below W.heap.size W w') := ⟨fun W => by rw [← hv]; exact rparse_any s W _ rfl⟩
  clear hv
  go_enter Tryz.func3, Tryz.ntmps3
  go_wp2_with fail
  refine (H1.out w).mono ?_
  rintro e w1 ⟨rfl, hb1⟩
  go_wp2_with (first | (refine store_whole rfl rfl rfl (g := w1.heap.size) rfl (cfgC nm sc k) (by rfl) (blk_new w1 _) (by kernel_rfl) (by rfl) (cfgOne' nm sc k) ?_; intro w2 h2 hg2) | fail)
  have HB2 := Aside0.mk (below_var hb1 hb1.size hg2)
  have HC2 := Aside0.mk h2
  clear hb1 hg2 H1 h2
  refine (H2.out _).mono ?_
  rintro e w3 ⟨rfl, hb3⟩
  have HB3 := Aside0.mk (below_then HB2.out HB2.out.size hb3)
  have HC3 := Aside0.mk (blk_below HC2.out hb3)
  clear hb3 HB2 H2 HC2
  go_upto_region 3 with (first | (refine store_whole rfl rfl rfl (g := w3.heap.size) rfl (cfgC nm sc k) (by rfl) (blk_new w3 _) (by kernel_rfl) (by rfl) (cfgOne' nm sc k) ?_; intro w4 h4 hg4) | fail)
  have HB4 := Aside0.mk (below_var HB3.out HB3.out.size hg4)
  have HC4 := Aside0.mk (grown_blk hg4 (blk_alloc HC3.out _) (by have := blk_lt HC3.out; omega))
  have HD4 := Aside0.mk h4
  clear h4 hg4 HB3 HC3
  generalize w1.heap.size = b1 at *
  generalize w3.heap.size = b3 at *
  go_wp2_with (first
    | ((with_reducible refine gate_dst (N := 21) rfl ?_); refine wpList_load_row rfl 23 _ rfl b1 rfl 23 (cfgC nm sc k) (0, 0) _ HC4.out Tryz.underlying23 rfl (by kernel_rfl) ?_)
    | ((with_reducible refine gate_dst (N := 22) rfl ?_); refine wpList_load_row rfl 23 _ rfl b3 rfl 23 (cfgC nm sc k) (0, 0) _ HD4.out Tryz.underlying23 rfl (by kernel_rfl) ?_)
    | ((with_reducible refine gate_dst (N := 23) rfl ?_); refine wpList_cmp rfl .eql 23 23 _ _ rfl _ _ rfl rfl true (cfg_eql _ _ nm sc k _) ?_)
    | fail)
  go_ret
  exact ⟨rfl, HB4.out⟩

set_option maxRecDepth 100000 in
theorem lifted (os : Os) (started : os.Started) (H : Type) (enc : TypeId × Value → H) :
    ReturnsInHanded {} Tryz.checked os 3 .any (fun w args => (Rows.confParsesSpec.pre enc Tryz.prog Tryz.f3 Rows.confParsesRow.domain false w args ∧ laidMetH Tryz.prog Rows.confParsesRow.laid w) ∧ sizedMet enc Tryz.prog Tryz.f3 (OpenSpec.ofChange Rows.confParsesSpec) false w args)
      (Rows.confParsesSpec.post enc Tryz.prog Tryz.f3 false true false false) := by
  refine returnsInHanded_of_change_and (C := Tryz.checked) (X := fun w _ => laidMetH Tryz.prog Rows.confParsesRow.laid w) (fun _ _ _ hh h => h.of_heap hh) own started (by kernel_rfl) Tryz.func3
    (ChangeSpec.witness_shaped (enc := enc) (C := Tryz.checked) (os := os) (X := fun w _ => laidMetH Tryz.prog Rows.confParsesRow.laid w) false (World.laidAll Tryz.prog os Rows.confParsesRow.laid) #[.string ByteArray.empty] 8 (World.laidAll_os _ _ _)
      (World.shaped_of_ZipB (by kernel_rfl) (by kernel_rfl)) (by kernel_rfl) (by kernel_rfl) (by kernel_rfl)
      (by rw [MakeChecks.laidMetH_plain _ _ _ (by kernel_rfl)]; exact laidMet_laidAll _ (by kernel_rfl) (by kernel_rfl))) ?_
  intro W base args ds gs before hval0 hW hc hsz0 hL _
  rw [MakeChecks.laidMetH_plain _ _ _ (by kernel_rfl)] at hL
  have hval : ∀ (j : Nat) t v, Tryz.f3.params[j]? = some t → args[j]? = some v → Value.okWide Tryz.prog W .any base t v := hval0
  have hW' := hW
  obtain ⟨p, q, hA0, hV, rfl, _, _⟩ := hW
  have hA : DataW.TrodAll enc Tryz.prog W 0 (fun _ => true) true Tryz.f3.params.toList args.toList ds p := hA0
  rw [Tryz.params3] at hA hval
  obtain ⟨v0, d0, rfl, rfl, h0⟩ := trodAll_one hA
  obtain ⟨rfl, rfl⟩ := trodVars_none hV
  obtain ⟨a0, rfl, rfl, rfl, y0⟩ := open_string Tryz.underlying9 (hval 0 9 v0 rfl rfl) h0
  clear hA0 hval0 hsz0
  simp only [List.append_nil] at hW'
  refine (walk a0 W).mono fun e W' ⟨he, bel⟩ => ?_
  subst he
  exact ⟨_, rfl, _, _, _, [], _, [], hW', trodAll_mk1 (shut_bool Tryz.underlying4 _), trodAll_mk1 (shut_string Tryz.underlying9 y0), rfl, bel.frame _, fun h => by cases h⟩

theorem row_holds : Rows.ConfParsesSaid :=
  OpenClaim.holds_of_wide 3 Tryz.f3 rfl rfl rfl rfl rfl rfl rfl ⟨rfl, rfl, rfl, rfl, rfl⟩ rfl rfl rfl rfl rfl (by kernel_rfl) Tryz.func3 (by kernel_rfl)
    (of_decide_eq_true (by kernel_rfl)) (by unfold Func.isWrapper; first | (rw [if_pos (by decide +kernel)]; kernel_rfl) | (rw [if_neg (by decide +kernel)]; exact ⟨rfl, rfl⟩))
    (fun os started H enc _ => lifted os started H enc)

/-- The tied card of ConfParses holds. -/
theorem proved : Rows.ConfParsesCardSaid :=
  Claim7.holds_tied_plain_at .later [] [.data, .data, .data, .sentinel, .sentinel] true (true, "be3e987f8579ce758b7715cc003f7ade51b5e5f67737403e9cef504e5bf1a305") true row_holds (fun _ h => by cases h) (by kernel_rfl) (fun _ h => by cases h) confParses_row_tie rfl ⟨rfl, rfl⟩ (by kernel_rfl) rfl
    (fun f fn hf hfn => by
      obtain rfl : f = 3 := Option.some.inj ((show Tryz.prog.funcNamed "replica/replicalaw12.ConfParses" = some 3 by kernel_rfl).symm.trans hf) |>.symm
      obtain rfl : fn = Tryz.f3 := (Option.some.inj (Tryz.func3.symm.trans hfn)).symm
      exact ⟨by kernel_rfl, fun j t ht => by
        rw [Tryz.params3] at ht
        have hm : t ∈ [9] := by simpa using Array.mem_of_getElem? ht
        have hall : ([9].all fun u => !Tryz.prog.wantsStandIn u) = true := by kernel_rfl
        have h8 := List.all_eq_true.1 hall t hm
        have h9 : Tryz.prog.wantsStandIn t = false := by simpa using h8
        exact h9⟩)
    (by kernel_rfl)
#print axioms proved
end Go.Proofs.YtfecfgimfjcbdaaGreatDoor.confParses
