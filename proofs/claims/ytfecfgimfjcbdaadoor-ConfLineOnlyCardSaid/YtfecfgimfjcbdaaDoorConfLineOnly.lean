/- ConfLineOnly (P1206): what ParseStatus takes, Status writes, byte for byte; nothing may stand behind a line; the law's walk, the row, the tied card. -/
import Derived.Test.YtfecfgimfjcbdaaDoorConfLineBack
import Derived.Test.YtfecfgimfjcbdaaDoorConfW
namespace Go.Proofs.YtfecfgimfjcbdaaDoor.confLineOnly
open Go.ChangeShapes Go.WideShapes Go.ChangeAt Go.RowKit Go.Proofs.YtfecfgimfjcbdaaDoor.Cf Go.Proofs.YtfecfgimfjcbdaaDoorW.PrintWords
open Go.Proofs.YtfecfgimfjcbdaaDoor.confStatuses (own laidOut)
open Go.ChangeMaps (open_string shut_string)

set_option maxRecDepth 100000 in
set_option maxHeartbeats 1000000 in
theorem walk (s : ByteArray) (hs : s.size ≤ 140737488351232) (b : UInt8) (w : World) (htab : Tab10 w) :
    Calls Tryd.prog 6 #[.string s, .int .u8 (b.toNat : Int)] w fun e w' => e = .returned (.bool true) ∧ Below w.heap.size w w' := by
  have HT := Aside0.mk htab
  clear htab
  go_enter Tryd.func6, Tryd.ntmps6
  go_wp2_with fail
  refine (idle_any _).mono ?_
  rintro e w2 ⟨rfl, hB2⟩
  go_wp2_with fail
  refine (told_any idleXs rfl (by decide) _ idle_line w2 (fun w' hb => HT.out w' (below_then hB2 hB2.size hb))).mono ?_
  rintro e w3 ⟨rfl, hB3⟩
  have HB3 := Aside0.mk (below_then hB2 hB2.size hB3)
  clear hB2 hB3
  go_wp2_with fail
  refine (idle_any _).mono ?_
  rintro e w4 ⟨rfl, hB4⟩
  have HB4 := Aside0.mk (below_then HB3.out HB3.out.size hB4)
  clear hB4 HB3
  go_wp2_with fail
  refine (status_any idleXs rfl (by decide) w4 (fun w' hb => HT.out w' (below_then HB4.out HB4.out.size hb))).mono ?_
  rintro e w5 ⟨rfl, hB5⟩
  have HB5 := Aside0.mk (below_then HB4.out HB4.out.size hB5)
  clear hB5 HB4
  rw [idle_line]
  have ho : (w5.alloc (.cells #[.int .u8 (b.toNat : Int)] 5)).ownsRow w5.heap.size 5 1 (.slice (some ⟨w5.heap.size, 0, none⟩) 1 1) [(b.toNat : Int)].length (nums .u8 [(b.toNat : Int)]) := ⟨rfl, .inr ⟨_, 1, _, rfl, Nat.le_refl _, blk_new w5 _, Nat.le_refl _, by decide, rfl, rfl⟩⟩
  have hcv := own_string (P := Tryd.prog) Tryd.underlying36 Tryd.underlying5 Tryd.underlying9 ho
  have hB6 : Aside0 (Below w.heap.size w (w5.alloc (.cells #[.int .u8 (b.toNat : Int)] 5))) := ⟨HB5.out.alloc HB5.out.size _⟩
  have hsb : strOfNums [(b.toNat : Int)] = ⟨#[b]⟩ := by
    show (⟨#[UInt8.ofNat ((b.toNat : Int)).toNat]⟩ : ByteArray) = _
    rw [Int.toNat_natCast]
    simp
  rw [hsb] at hcv
  clear ho HB5
  have hz : bl ((⟨idleL.toArray⟩ : ByteArray) ++ ⟨#[b]⟩) = idleL ++ [b] := by rw [bl_app]; simp [bl]
  have hlen : idleL.length = 103 := by decide +kernel
  have hsz : (⟨idleL.toArray⟩ : ByteArray).size = 103 := hlen
  have hx := idle_more b
  rw [← hz, hlen] at hx
  have hxs : ((⟨idleL.toArray⟩ : ByteArray) ++ ⟨#[b]⟩).size ≤ 140737488351232 := by rw [ByteArray.size_append, hsz]; show 103 + 1 ≤ _; omega
  have h1 := fun W => parse_any ((⟨idleL.toArray⟩ : ByteArray) ++ ⟨#[b]⟩) W hxs
  rw [hx, show ints (List.replicate 15 0) = #[.int .i64 0, .int .i64 0, .int .i64 0, .int .i64 0, .int .i64 0, .int .i64 0, .int .i64 0, .int .i64 0, .int .i64 0, .int .i64 0, .int .i64 0, .int .i64 0, .int .i64 0, .int .i64 0, .int .i64 0] from rfl] at h1
  have H1 := Aside0.mk h1
  clear h1 hx hxs hz hsb
  have hob : (⟨#[b]⟩ : ByteArray).size = 1 := rfl
  generalize (⟨idleL.toArray⟩ : ByteArray) = ow at *
  generalize (⟨#[b]⟩ : ByteArray) = ob at *
  clear hlen
  go_wp2_with fail
  refine (H1.out _).mono ?_
  rintro e w7 ⟨rfl, hB7⟩
  have HB7 := Aside0.mk (below_then hB6.out hB6.out.size hB7)
  clear hB7 hB6 hcv
  obtain ⟨hl15, hin, hat⟩ := stat_in (bl s)
  rw [bl_length] at hat
  have h2 := fun W => parse_any s W hs
  cases hst : statI (bl s) with
  | mk fs r =>
  obtain ⟨p, er⟩ := r
  rw [hst] at hl15 hin hat h2
  simp only at hl15 hin hat h2
  obtain ⟨x0, x1, x2, x3, x4, x5, x6, x7, x8, x9, x10, x11, x12, x13, x14, hi⟩ := ints15 hl15
  rw [hi] at h2
  have H2 := Aside0.mk h2
  have HST := Aside0.mk hst
  have HIN := Aside0.mk hin
  have HI := Aside0.mk hi
  have HL := Aside0.mk hl15
  clear h2 hst hin hi hl15 H1
  go_wp2_with fail
  refine (num_any _ _).mono ?_
  rintro e w8 ⟨rfl, rfl⟩
  go_wp2_with fail
  refine (H2.out _).mono ?_
  rintro e w9 ⟨rfl, hB9⟩
  have HB9 := Aside0.mk (below_then (HB7.out.alloc HB7.out.size (.cells #[.int .i64 0, .int .i64 0, .int .i64 0, .int .i64 0, .int .i64 0, .int .i64 0, .int .i64 0, .int .i64 0, .int .i64 0, .int .i64 0, .int .i64 0, .int .i64 0, .int .i64 0, .int .i64 0, .int .i64 0] 28)) (HB7.out.alloc HB7.out.size _).size hB9)
  go_wp2_with fail
  have HB10 := Aside0.mk (HB9.out.alloc HB9.out.size (.cells #[.int .i64 x0, .int .i64 x1, .int .i64 x2, .int .i64 x3, .int .i64 x4, .int .i64 x5, .int .i64 x6, .int .i64 x7, .int .i64 x8, .int .i64 x9, .int .i64 x10, .int .i64 x11, .int .i64 x12, .int .i64 x13, .int .i64 x14] 28))
  refine (num_any _ _).mono ?_
  rintro e w10 ⟨rfl, rfl⟩
  by_cases he : er = 0
  · subst he
    obtain ⟨rfl, hline⟩ := line_of_stat HST.out
    have h3 : ∀ w', Below w.heap.size w w' → Calls Tryd.prog 16 #[.agg #[.int .i64 x0, .int .i64 x1, .int .i64 x2, .int .i64 x3, .int .i64 x4, .int .i64 x5, .int .i64 x6, .int .i64 x7, .int .i64 x8, .int .i64 x9, .int .i64 x10, .int .i64 x11, .int .i64 x12, .int .i64 x13, .int .i64 x14]] w' fun e w2 => e = .returned (.tuple #[.string s, .int .i64 0]) ∧ Below w'.heap.size w' w2 := fun w' hb => by
      have h := status_any fs HL.out (fun x hx => ⟨by have := (HIN.out x hx).1; omega, (HIN.out x hx).2⟩) w' (fun w2 hb2 => HT.out w2 (below_then hb hb.size hb2))
      rw [hline, HI.out] at h
      exact h
    have H3 := Aside0.mk h3
    clear h3 hline H2 HST HIN HI HL HB9
    go_wp2_with fail
    refine (H3.out _ HB10.out).mono ?_
    rintro e w11 ⟨rfl, hB11⟩
    have HB11 := Aside0.mk (below_then HB10.out HB10.out.size hB11)
    go_wp2
    go_ret
    exact ⟨rfl, HB11.out⟩
  · obtain ⟨rfl, rfl⟩ := stat_no HST.out he
    have e0 := Value.agg.inj HI.out
    have e1 : (#[.int .i64 x0, .int .i64 x1, .int .i64 x2, .int .i64 x3, .int .i64 x4, .int .i64 x5, .int .i64 x6, .int .i64 x7, .int .i64 x8, .int .i64 x9, .int .i64 x10, .int .i64 x11, .int .i64 x12, .int .i64 x13, .int .i64 x14] : Array Value) = #[.int .i64 0, .int .i64 0, .int .i64 0, .int .i64 0, .int .i64 0, .int .i64 0, .int .i64 0, .int .i64 0, .int .i64 0, .int .i64 0, .int .i64 0, .int .i64 0, .int .i64 0, .int .i64 0, .int .i64 0] := e0.symm
    simp only [Array.mk.injEq, List.cons.injEq, Value.int.injEq, true_and, and_true] at e1
    obtain ⟨rfl, rfl, rfl, rfl, rfl, rfl, rfl, rfl, rfl, rfl, rfl, rfl, rfl, rfl, rfl⟩ := e1
    have hp0 : (0 : Int) ≤ (p : Int) := by omega
    have hp1 : (p : Int) ≤ (s.size : Int) := by omega
    clear e0 H2 HST HIN HI HL HB9 he
    go_wp2
    go_ret
    exact ⟨rfl, HB10.out⟩

/-! ### THE ROW's STEP -/
theorem tab_of {W : World} (h : laidMet Tryd.prog Rows.confLineOnlyRow.laid W) : Tab10 W := confStatuses.tab_of h
set_option maxRecDepth 100000 in
theorem lifted (os : Os) (started : os.Started) (H : Type) (enc : TypeId × Value → H) :
    ReturnsInHanded {} Tryd.checked os 6 .any (fun w args => (Rows.confLineOnlySpec.pre enc Tryd.prog Tryd.f6 Rows.confLineOnlyRow.domain false w args ∧ laidMetH Tryd.prog Rows.confLineOnlyRow.laid w) ∧ sizedMet enc Tryd.prog Tryd.f6 (OpenSpec.ofChange Rows.confLineOnlySpec) false w args)
      (Rows.confLineOnlySpec.post enc Tryd.prog Tryd.f6 false true false false) := by
  refine returnsInHanded_of_change_and (C := Tryd.checked) (X := fun w _ => laidMetH Tryd.prog Rows.confLineOnlyRow.laid w) (fun _ _ _ hh h => h.of_heap hh) own started (by kernel_rfl) Tryd.func6
    (ChangeSpec.witness_shaped (enc := enc) (C := Tryd.checked) (os := os) (X := fun w _ => laidMetH Tryd.prog Rows.confLineOnlyRow.laid w) false (World.laidAll Tryd.prog os Rows.confLineOnlyRow.laid) #[.string ByteArray.empty, .int .u8 0] 8 (World.laidAll_os _ _ _)
      (World.shaped_of_ZipB (by kernel_rfl) (by kernel_rfl)) (by kernel_rfl) (by kernel_rfl) (by kernel_rfl)
      (by rw [MakeChecks.laidMetH_plain _ _ _ (by kernel_rfl)]; exact laidMet_laidAll _ (by kernel_rfl) (by kernel_rfl))) ?_
  intro W base args ds gs before hval0 hW hc hsz0 hL _
  rw [MakeChecks.laidMetH_plain _ _ _ (by kernel_rfl)] at hL
  have hval : ∀ (j : Nat) t v, Tryd.f6.params[j]? = some t → args[j]? = some v → Value.okWide Tryd.prog W .any base t v := hval0
  have hW' := hW
  obtain ⟨p, q, hA0, hV, rfl, _, _⟩ := hW
  have hA : DataW.TrodAll enc Tryd.prog W 0 (fun _ => true) true Tryd.f6.params.toList args.toList ds p := hA0
  rw [Tryd.params6] at hA hval
  obtain ⟨v0, v1, d0, d1, p0, p1, rfl, rfl, rfl, h0, h1⟩ := trodAll_two hA
  obtain ⟨rfl, rfl⟩ := trodVars_none hV
  have hsz : (DataW.weightsEach Tryd.prog (Tryd.f6.params.toList ++ Rows.confLineOnlySpec.plain.varTypes Tryd.prog) ([d0, d1] ++ [])).all (· ≤ reachBytes) = true := hsz0
  rw [Tryd.params6] at hsz
  obtain ⟨a0, rfl, rfl, rfl, y0⟩ := open_string Tryd.underlying9 (hval 0 9 v0 rfl rfl) h0
  obtain ⟨b, rfl, rfl, rfl, wb⟩ := open_int Tryd.underlying5 (hval 1 5 v1 rfl rfl) h1
  have w0 : a0.size ≤ 140737488351232 := by
    have z := sized_string hsz (j := 0) (t := 9) rfl rfl
    rw [Array.length_toList] at z
    exact z
  clear hA0 hval0 hsz0 hsz
  simp only [List.append_nil] at hW'
  obtain ⟨b8, rfl⟩ : ∃ b8 : UInt8, b = (b8.toNat : Int) := by
    have h1 : 0 ≤ b ∧ b ≤ 255 := by
      have h2 : (decide ((0 : Int) ≤ b) && decide (b ≤ (255 : Int))) = true := wb
      simpa using h2
    exact ⟨UInt8.ofNat b.toNat, by simp; omega⟩
  refine (walk a0 w0 b8 W (tab_of hL)).mono fun e W' ⟨he, bel⟩ => ?_
  subst he
  exact ⟨_, rfl, _, _, _, [], _, [], hW', trodAll_mk1 (shut_bool Tryd.underlying4 _), trodAll_mk2 (shut_string Tryd.underlying9 y0) (shut_int Tryd.underlying5 wb), rfl, bel.frame _, fun h => by cases h⟩

theorem row_holds : Rows.ConfLineOnlySaid :=
  OpenClaim.holds_of_wide 6 Tryd.f6 rfl rfl rfl rfl rfl rfl rfl ⟨rfl, rfl, rfl, rfl, rfl⟩ rfl rfl rfl rfl rfl (by kernel_rfl) Tryd.func6 (by kernel_rfl)
    (of_decide_eq_true (by kernel_rfl)) (by unfold Func.isWrapper; first | (rw [if_pos (by decide +kernel)]; kernel_rfl) | (rw [if_neg (by decide +kernel)]; exact ⟨rfl, rfl⟩))
    (fun os started H enc _ => lifted os started H enc)

/-- The tied card of ConfLineOnly holds. -/
theorem proved : Rows.ConfLineOnlyCardSaid :=
  Claim7.holds_tied_plain_at .later [] [.data, .data, .data] true (true, "d00b676bce2552af46cfae2229684cff95e92bfc764e18822df88b7b060a56ac") true row_holds (fun _ h => by cases h) (by kernel_rfl) (fun _ h => by cases h) confLineOnly_row_tie rfl ⟨rfl, rfl⟩ (by kernel_rfl) rfl
    (fun f fn hf hfn => by
      obtain rfl : f = 6 := Option.some.inj ((show Tryd.prog.funcNamed "replica/replicalaw12.ConfLineOnly" = some 6 by kernel_rfl).symm.trans hf) |>.symm
      obtain rfl : fn = Tryd.f6 := (Option.some.inj (Tryd.func6.symm.trans hfn)).symm
      exact ⟨by kernel_rfl, fun j t ht => by
        rw [Tryd.params6] at ht
        have hm : t ∈ [9, 5] := by simpa using Array.mem_of_getElem? ht
        have hall : ([9, 5].all fun u => !Tryd.prog.wantsStandIn u) = true := by kernel_rfl
        have h8 := List.all_eq_true.1 hall t hm
        have h9 : Tryd.prog.wantsStandIn t = false := by simpa using h8
        exact h9⟩)
    (by kernel_rfl)
#print axioms proved
end Go.Proofs.YtfecfgimfjcbdaaDoor.confLineOnly
