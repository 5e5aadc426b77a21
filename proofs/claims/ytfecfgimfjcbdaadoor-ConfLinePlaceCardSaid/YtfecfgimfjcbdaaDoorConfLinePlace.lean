/- ConfLinePlace (P1206): the place is the first byte that cannot stand there; the law's walk, the row, the tied card. -/
import Derived.Test.YtfecfgimfjcbdaaDoorConfZ
import Derived.Test.YtfecfgimfjcbdaaDoorConfPl
import Derived.Test.YtfecfgimfjcbdaaDoorConfW
import Derived.Test.YtfecfgimfjcbdaaDoorConfStatuses
namespace Go.Proofs.YtfecfgimfjcbdaaDoor.confLinePlace
open Go.ChangeShapes Go.WideShapes Go.ChangeAt Go.RowKit Go.Proofs.YtfecfgimfjcbdaaDoor.Cf Go.Proofs.YtfecfgimfjcbdaaDoorW.PrintWords
open Go.Proofs.YtfecfgimfjcbdaaDoor.confStatuses (own laidOut open_status)
open Go.ChangeMaps (open_string shut_string)

set_option maxRecDepth 100000 in
set_option maxHeartbeats 1000000 in
theorem walk (xs : List Int) (hx : xs.length = 15) (hbd : ∀ x ∈ xs, -9223372036854775808 ≤ x ∧ x ≤ 9223372036854775807) (wh : Int) (b : UInt8) (tl : ByteArray) (htl : tl.size ≤ 140737488351232) (w : World) (htab : Tab10 w) :
    Calls Tryd.prog 7 #[.agg (ints xs), .int .i64 wh, .int .u8 (b.toNat : Int), .string tl] w fun e w' => e = .returned (.bool true) ∧ Below w.heap.size w w' := by
  have h15 : (ints xs).size = 15 := by simp [ints, hx]
  have hi15 : (Tryd.prog.info? 28).map (·.size) = some (ints xs).size := by rw [h15]; kernel_rfl
  clear h15
  have HT := Aside0.mk htab
  have HX := Aside0.mk hx
  have HBd := Aside0.mk hbd
  clear htab hx hbd
  have K1 := Aside0.mk (blk_new w (.cells (ints xs) 28))
  have HB1 := Aside0.mk ((Below.refl w.heap.size w).alloc (Nat.le_refl _) (.cells (ints xs) 28))
  go_enter Tryd.func7, Tryd.ntmps7
  go_wp2_with ((with_reducible refine gate_dst (N := 20) rfl ?_); refine wpList_load_row rfl 28 _ rfl w.heap.size rfl 28 _ (0, 0) _ K1.out Tryd.underlying28 rfl hi15 ?_)
  generalize w.alloc (.cells (ints xs) 28) = w1 at *
  refine (status_any xs HX.out HBd.out w1 (fun w' hb => HT.out w' (below_then HB1.out HB1.out.size hb))).mono ?_
  rintro e v ⟨rfl, hB2⟩
  have HBv := Aside0.mk (below_then HB1.out HB1.out.size hB2)
  clear hB2 K1 HB1 hi15
  cases hle : lineI xs with
  | mk l er =>
    by_cases he : er = 0
    case' pos =>
      subst he
      have hpos : 0 < l.length := List.length_pos_iff.2 (line_some HX.out hle)
      have hemp : l.isEmpty = false := by simpa using line_some HX.out hle
      have hshort := line_short (fun x hx => (HBd.out x hx).2) hle
      have HST := Aside0.mk (stat_of_line HX.out (fun x hx => (HBd.out x hx).2) hle)
      clear HX HBd hle
      go_wp2_with fail
      refine (num_any _ _).mono ?_
      rintro e w5 ⟨rfl, rfl⟩
      go_wp2_with fail
      refine (num_any _ _).mono ?_
      rintro e w5 ⟨rfl, rfl⟩
    case' neg =>
      obtain ⟨rfl, rfl⟩ := line_no hle he
      clear hle he HX HBd
      go_wp2_with fail
      refine (num_any _ _).mono ?_
      rintro e w5 ⟨rfl, rfl⟩
      go_wp2_with fail
      refine (idle_any _).mono ?_
      rintro e w3 ⟨rfl, hB3⟩
      have HB3 := Aside0.mk (below_then HBv.out HBv.out.size hB3)
      clear hB3 HBv
      go_wp2_with fail
      refine (status_any idleXs rfl (by decide) w3 (fun w' hb => HT.out w' (below_then HB3.out HB3.out.size hb))).mono ?_
      clear v
      rintro e v ⟨rfl, hB4⟩
      have HBv := Aside0.mk (below_then HB3.out HB3.out.size hB4)
      clear hB4 HB3
      rw [idle_line]
      have hpos : 0 < idleL.length := by decide +kernel
      have hemp : idleL.isEmpty = false := by decide +kernel
      have hshort : idleL.length ≤ 15000 := by decide +kernel
      have HST := Aside0.mk (stat_of_line (xs := idleXs) rfl (by decide) idle_line)
      generalize idleL = l at *
      generalize idleXs = xs at *
      go_wp2_with fail
      refine (num_any _ _).mono ?_
      rintro e w5 ⟨rfl, rfl⟩
    all_goals
      have hm : -(l.length : Int) < wh.tmod (l.length : Int) ∧ wh.tmod (l.length : Int) < (l.length : Int) := by
        have h := Int.tmod_lt_of_pos wh (b := (l.length : Int)) (by omega)
        have h' := Int.lt_tmod_of_pos wh (b := (l.length : Int)) (by omega)
        exact ⟨h', h⟩
      obtain ⟨m, hmq⟩ : ∃ m, wh.tmod (l.length : Int) = m := ⟨_, rfl⟩
      rw [hmq] at hm
      have hi : ∃ i : Nat, i < l.length ∧ (m < 0 ∧ m + (l.length : Int) = (i : Int) ∨ ¬ m < 0 ∧ m = (i : Int)) := by
        by_cases h : m < 0
        · exact ⟨(m + l.length).toNat, by omega, .inl ⟨h, by omega⟩⟩
        · exact ⟨m.toNat, by omega, .inr ⟨h, by omega⟩⟩
      clear hm
      obtain ⟨i, hil, ⟨hm0, hmi⟩ | ⟨hm0, hmi⟩⟩ := hi
      case' inr => subst hmi
      all_goals
        have hsz : (⟨l.toArray⟩ : ByteArray).size = l.length := rfl
        have hbl : bl (⟨l.toArray⟩ : ByteArray) = l := by simp [bl]
        have ho : (v.alloc (.cells #[.int .u8 (b.toNat : Int)] 5)).ownsRow v.heap.size 5 1 (.slice (some ⟨v.heap.size, 0, none⟩) 1 1) [(b.toNat : Int)].length (nums .u8 [(b.toNat : Int)]) := ⟨rfl, .inr ⟨_, 1, _, rfl, Nat.le_refl _, blk_new v _, Nat.le_refl _, by decide, rfl, rfl⟩⟩
        have hcv := own_string (P := Tryd.prog) Tryd.underlying36 Tryd.underlying5 Tryd.underlying9 ho
        have hB6 : Aside0 (Below w.heap.size w (v.alloc (.cells #[.int .u8 (b.toNat : Int)] 5))) := ⟨HBv.out.alloc HBv.out.size _⟩
        have hsb : strOfNums [(b.toNat : Int)] = ⟨#[b]⟩ := by
          show (⟨#[UInt8.ofNat ((b.toNat : Int)).toNat]⟩ : ByteArray) = _
          rw [Int.toNat_natCast]
          simp
        rw [hsb] at hcv
        have ho' : (v.alloc (.cells #[.int .u8 (b.toNat : Int)] 5)).drew.ownsRow v.heap.size 5 1 (.slice (some ⟨v.heap.size, 0, none⟩) 1 1) [(b.toNat : Int)].length (nums .u8 [(b.toNat : Int)]) := ⟨rfl, .inr ⟨_, 1, _, rfl, Nat.le_refl _, blk_new v _, Nat.le_refl _, by decide, rfl, rfl⟩⟩
        have hcv' := own_string (P := Tryd.prog) Tryd.underlying36 Tryd.underlying5 Tryd.underlying9 ho'
        rw [hsb] at hcv'
        clear ho ho' HBv hsb
        have hi0 : (0 : Int) ≤ (i : Int) := by omega
        have hi1 : (i : Int) ≤ (l.length : Int) := by omega
        have hi2 : (i : Int) + 1 ≤ (l.length : Int) := by omega
        go_upto_region 9 with fail
        go_region
        have hB7 : Aside0 (Below w.heap.size w (v.alloc (.cells #[.int .u8 (b.toNat : Int)] 5)).drew) := ⟨hB6.out.drew⟩
        generalize (v.alloc (.cells #[.int .u8 (b.toNat : Int)] 5)).drew = v2 at *
        clear hB6 hcv hcv'
        generalize hXq : (⟨l.toArray⟩ : ByteArray).extract 0 i ++ ⟨#[b]⟩ ++ (⟨l.toArray⟩ : ByteArray).extract (i + 1) l.length = X
        have hXb : bl X = l.take i ++ b :: l.drop (i + 1) := by
          rw [← hXq, bl_app, bl_app, bl_cut, bl_cut, hbl, List.drop_zero, Nat.sub_zero, List.append_assoc, List.take_of_length_le (l := l.drop (i + 1)) (by rw [List.length_drop]; omega)]
          rfl
        have hXs : X.size = l.length := by
          rw [← bl_length, hXb, List.length_append, List.length_cons, List.length_take, List.length_drop]
          omega
        clear hXq
        cases hst : statI (bl X) with
        | mk fs r =>
        obtain ⟨p, er⟩ := r
        obtain ⟨hl15, hin, hp⟩ := stat_in (bl X)
        rw [hst] at hl15 hin
        rw [hst, bl_length] at hp
        simp only at hp hl15 hin
        have h1 := fun W => parse_any X W (by omega)
        obtain ⟨x0, x1, x2, x3, x4, x5, x6, x7, x8, x9, x10, x11, x12, x13, x14, hi⟩ := ints15 hl15
        rw [hst, hi] at h1
        have H1 := Aside0.mk h1
        have HSX := Aside0.mk hst
        clear h1 hst hl15 hin hi
        go_wp2_with fail
        refine (H1.out _).mono ?_
        rintro e v3 ⟨rfl, hB8⟩
        have hB8 := below_then hB7.out hB7.out.size hB8
        have HB8 := Aside0.mk (hB8.alloc hB8.size (.cells #[.int .i64 x0, .int .i64 x1, .int .i64 x2, .int .i64 x3, .int .i64 x4, .int .i64 x5, .int .i64 x6, .int .i64 x7, .int .i64 x8, .int .i64 x9, .int .i64 x10, .int .i64 x11, .int .i64 x12, .int .i64 x13, .int .i64 x14] 28))
        clear hB8 hB7 H1
        go_wp2_with fail
        refine (num_any _ _).mono ?_
        rintro e v4 ⟨rfl, rfl⟩
        generalize v3.alloc (.cells #[.int .i64 x0, .int .i64 x1, .int .i64 x2, .int .i64 x3, .int .i64 x4, .int .i64 x5, .int .i64 x6, .int .i64 x7, .int .i64 x8, .int .i64 x9, .int .i64 x10, .int .i64 x11, .int .i64 x12, .int .i64 x13, .int .i64 x14] 28) = v5 at *
        by_cases he : er = 0
        · subst he
          obtain ⟨rfl, _⟩ := line_of_stat HSX.out
          go_wp2
          go_ret
          exact ⟨rfl, HB8.out⟩
        · obtain ⟨_, rfl⟩ := stat_no HSX.out he
          have hip : i ≤ p := place_change (l := l) (by rw [HST.out]) i hil b (by rw [← hXb, HSX.out])
          have hd1 : decide ((p : Int) < (i : Int)) = false := decide_eq_false (by omega)
          have hd2 : decide ((X.size : Int) < (p : Int)) = false := decide_eq_false (by omega)
          clear he
          go_wp2_with fail
          refine (num_any _ _).mono ?_
          rintro e v6 ⟨rfl, rfl⟩
          have hYb : bl (X.extract 0 p) = (bl X).take p := by rw [bl_cut, List.drop_zero, Nat.sub_zero]
          have hYs : (X.extract 0 p).size = p := by rw [← bl_length, hYb, List.length_take, bl_length]; omega
          have hpt := place_take (s := bl X) (p := p) (by rw [HSX.out]) (by rw [bl_length]; exact hp)
          rw [bl_length] at hpt
          cases hst2 : statI ((bl X).take p) with
          | mk fs2 r2 =>
          obtain ⟨q, er2⟩ := r2
          obtain ⟨hl15, hin, hq⟩ := stat_in ((bl X).take p)
          rw [hst2] at hl15 hpt
          simp only at hl15 hpt
          clear hin hq
          have h2 := fun W => parse_any (X.extract 0 p) W (by omega)
          obtain ⟨y0, y1, y2, y3, y4, y5, y6, y7, y8, y9, y10, y11, y12, y13, y14, hi⟩ := ints15 hl15
          rw [hYb, hst2, hi] at h2
          have H2 := Aside0.mk h2
          clear h2 hst2 hl15 hi hYb hYs
          have hp0 : (0 : Int) ≤ (p : Int) := by omega
          have hp1 : (p : Int) ≤ (X.size : Int) := by omega
          go_wp2_with fail
          refine (H2.out _).mono ?_
          rintro e v7 ⟨rfl, hB9⟩
          have hB9 := below_then HB8.out HB8.out.size hB9
          have HB9 := Aside0.mk (hB9.alloc hB9.size (.cells #[.int .i64 y0, .int .i64 y1, .int .i64 y2, .int .i64 y3, .int .i64 y4, .int .i64 y5, .int .i64 y6, .int .i64 y7, .int .i64 y8, .int .i64 y9, .int .i64 y10, .int .i64 y11, .int .i64 y12, .int .i64 y13, .int .i64 y14] 28))
          clear hB9 HB8 H2
          go_wp2_with fail
          refine (num_any _ _).mono ?_
          rintro e v8 ⟨rfl, rfl⟩
          generalize v7.alloc (.cells #[.int .i64 y0, .int .i64 y1, .int .i64 y2, .int .i64 y3, .int .i64 y4, .int .i64 y5, .int .i64 y6, .int .i64 y7, .int .i64 y8, .int .i64 y9, .int .i64 y10, .int .i64 y11, .int .i64 y12, .int .i64 y13, .int .i64 y14] 28) = v9 at *
          by_cases he2 : er2 = 0
          · subst he2
            have hlt : p < X.size := by
              rcases hpt with h | h
              · exact absurd (Prod.mk.inj h).2 (by decide)
              · exact h.2
            have hd3 : decide (p < l.length) = true := decide_eq_true (by omega)
            go_wp2
            go_ret
            exact ⟨rfl, HB9.out⟩
          · have h126 : q = p ∧ er2 = 126 := by
              rcases hpt with h | h
              · exact Prod.mk.inj h
              · exact absurd h.1 he2
            obtain ⟨rfl, rfl⟩ := h126
            clear he2 hpt
            go_wp2_with fail
            refine (num_any _ _).mono ?_
            rintro e v10 ⟨rfl, rfl⟩
            by_cases hpe : q = X.size
            · subst hpe
              go_wp2
              go_ret
              exact ⟨rfl, HB9.out⟩
            · have hd4 : ((q : Int) == (X.size : Int)) = false := by simp; omega
              have hq1 : (q : Int) + 1 ≤ (X.size : Int) := by omega
              have hZb : bl (X.extract 0 (q + 1) ++ tl) = (bl X).take (q + 1) ++ bl tl := by rw [bl_app, bl_cut, List.drop_zero, Nat.sub_zero]
              have hZ := place_tail (s := bl X) (p := q) (by rw [HSX.out]) (by rw [bl_length]; omega) (bl tl)
              cases hst3 : statI ((bl X).take (q + 1) ++ bl tl) with
              | mk fs3 r3 =>
              rw [hst3] at hZ
              simp only at hZ
              subst hZ
              have hYs : (X.extract 0 (q + 1)).size = q + 1 := by rw [← bl_length, bl_cut, List.drop_zero, Nat.sub_zero, List.length_take, bl_length]; omega
              have h3 := fun W => parse_big (X.extract 0 (q + 1) ++ tl) W (by rw [ByteArray.size_append]; omega)
              rw [hZb, hst3] at h3
              have H3 := Aside0.mk h3
              clear h3 hst3 hZb
              go_wp2_with fail
              refine (H3.out _).mono ?_
              rintro e v11 ⟨rfl, hB10⟩
              have HB10 := Aside0.mk (below_then HB9.out HB9.out.size hB10)
              clear hB10 HB9 H3
              go_wp2_with fail
              refine (num_any _ _).mono ?_
              rintro e v12 ⟨rfl, rfl⟩
              go_wp2
              go_ret
              exact ⟨rfl, HB10.out⟩

/-! ### THE ROW's STEP -/
theorem tab_of {W : World} (h : laidMet Tryd.prog Rows.confLinePlaceRow.laid W) : Tab10 W := confStatuses.tab_of h
set_option maxRecDepth 100000 in
theorem lifted (os : Os) (started : os.Started) (H : Type) (enc : TypeId × Value → H) :
    ReturnsInHanded {} Tryd.checked os 7 .any (fun w args => (Rows.confLinePlaceSpec.pre enc Tryd.prog Tryd.f7 Rows.confLinePlaceRow.domain false w args ∧ laidMetH Tryd.prog Rows.confLinePlaceRow.laid w) ∧ sizedMet enc Tryd.prog Tryd.f7 (OpenSpec.ofChange Rows.confLinePlaceSpec) false w args)
      (Rows.confLinePlaceSpec.post enc Tryd.prog Tryd.f7 false true false false) := by
  refine returnsInHanded_of_change_and (C := Tryd.checked) (X := fun w _ => laidMetH Tryd.prog Rows.confLinePlaceRow.laid w) (fun _ _ _ hh h => h.of_heap hh) own started (by kernel_rfl) Tryd.func7
    (ChangeSpec.witness_shaped (enc := enc) (C := Tryd.checked) (os := os) (X := fun w _ => laidMetH Tryd.prog Rows.confLinePlaceRow.laid w) false (World.laidAll Tryd.prog os Rows.confLinePlaceRow.laid) #[.agg (ints (List.replicate 15 0)), .int .i64 0, .int .u8 0, .string ByteArray.empty] 8 (World.laidAll_os _ _ _)
      (World.shaped_of_ZipB (by kernel_rfl) (by kernel_rfl)) (by kernel_rfl) (by kernel_rfl) (by kernel_rfl)
      (by rw [MakeChecks.laidMetH_plain _ _ _ (by kernel_rfl)]; exact laidMet_laidAll _ (by kernel_rfl) (by kernel_rfl))) ?_
  intro W base args ds gs before hval0 hW hc hsz0 hL _
  rw [MakeChecks.laidMetH_plain _ _ _ (by kernel_rfl)] at hL
  have hval : ∀ (j : Nat) t v, Tryd.f7.params[j]? = some t → args[j]? = some v → Value.okWide Tryd.prog W .any base t v := hval0
  have hW' := hW
  obtain ⟨p, q, hA0, hV, rfl, _, _⟩ := hW
  have hA : DataW.TrodAll enc Tryd.prog W 0 (fun _ => true) true Tryd.f7.params.toList args.toList ds p := hA0
  rw [Tryd.params7] at hA hval
  obtain ⟨v0, v1, v2, v3, d0, d1, d2, d3, p0, p1, p2, p3, rfl, rfl, rfl, h0, h1, h2, h3⟩ := trodAll_four hA
  obtain ⟨rfl, rfl⟩ := trodVars_none hV
  have hsz : (DataW.weightsEach Tryd.prog (Tryd.f7.params.toList ++ Rows.confLinePlaceSpec.plain.varTypes Tryd.prog) ([d0, d1, d2, d3] ++ [])).all (· ≤ reachBytes) = true := hsz0
  rw [Tryd.params7] at hsz
  obtain ⟨xs, rfl, hx, hbd⟩ := open_status (hval 0 28 v0 rfl rfl)
  obtain ⟨wh, rfl, rfl, rfl, wwh⟩ := open_int Tryd.underlying3 (hval 1 3 v1 rfl rfl) h1
  obtain ⟨b, rfl, rfl, rfl, wb⟩ := open_int Tryd.underlying5 (hval 2 5 v2 rfl rfl) h2
  obtain ⟨a3, rfl, rfl, rfl, y3⟩ := open_string Tryd.underlying9 (hval 3 9 v3 rfl rfl) h3
  have w3 : a3.size ≤ 140737488351232 := by
    have z := sized_string hsz (j := 3) (t := 9) rfl rfl
    rw [Array.length_toList] at z
    exact z
  clear hA0 hval0 hsz0 hsz
  simp only [List.append_nil] at hW'
  obtain ⟨b8, rfl⟩ : ∃ b8 : UInt8, b = (b8.toNat : Int) := by
    have h1 : 0 ≤ b ∧ b ≤ 255 := by
      have h2 : (decide ((0 : Int) ≤ b) && decide (b ≤ (255 : Int))) = true := wb
      simpa using h2
    exact ⟨UInt8.ofNat b.toNat, by simp; omega⟩
  have hlt : ∀ x ∈ p0, x.block < W.heap.size := fun x hx => by simpa using hW'.lt x (by simpa using hx)
  refine (walk xs hx hbd wh b8 a3 w3 W (tab_of hL)).mono fun e W' ⟨he, bel⟩ => ?_
  subst he
  exact ⟨_, rfl, _, _, _, [], _, [], hW', trodAll_mk1 (shut_bool Tryd.underlying4 _), trodAll_mk4 (Below.trod laidOut (by kernel_rfl) (of_decide_eq_true (by kernel_rfl)) h0 bel hlt) (shut_int Tryd.underlying3 wwh) (shut_int Tryd.underlying5 wb) (shut_string Tryd.underlying9 y3), rfl, bel.frame _, fun h => by cases h⟩

theorem row_holds : Rows.ConfLinePlaceSaid :=
  OpenClaim.holds_of_wide 7 Tryd.f7 rfl rfl rfl rfl rfl rfl rfl ⟨rfl, rfl, rfl, rfl, rfl⟩ rfl rfl rfl rfl rfl (by kernel_rfl) Tryd.func7 (by kernel_rfl)
    (of_decide_eq_true (by kernel_rfl)) (by unfold Func.isWrapper; first | (rw [if_pos (by decide +kernel)]; kernel_rfl) | (rw [if_neg (by decide +kernel)]; exact ⟨rfl, rfl⟩))
    (fun os started H enc _ => lifted os started H enc)

/-- The tied card of ConfLinePlace holds. -/
theorem proved : Rows.ConfLinePlaceCardSaid :=
  Claim7.holds_tied_plain_at .later [] [.data, .data, .data] true (true, "d00b676bce2552af46cfae2229684cff95e92bfc764e18822df88b7b060a56ac") true row_holds (fun _ h => by cases h) (by kernel_rfl) (fun _ h => by cases h) confLinePlace_row_tie rfl ⟨rfl, rfl⟩ (by kernel_rfl) rfl
    (fun f fn hf hfn => by
      obtain rfl : f = 7 := Option.some.inj ((show Tryd.prog.funcNamed "replica/replicalaw12.ConfLinePlace" = some 7 by kernel_rfl).symm.trans hf) |>.symm
      obtain rfl : fn = Tryd.f7 := (Option.some.inj (Tryd.func7.symm.trans hfn)).symm
      exact ⟨by kernel_rfl, fun j t ht => by
        rw [Tryd.params7] at ht
        have hm : t ∈ [28, 3, 5, 9] := by simpa using Array.mem_of_getElem? ht
        have hall : ([28, 3, 5, 9].all fun u => !Tryd.prog.wantsStandIn u) = true := by kernel_rfl
        have h8 := List.all_eq_true.1 hall t hm
        have h9 : Tryd.prog.wantsStandIn t = false := by simpa using h8
        exact h9⟩)
    (by kernel_rfl)
#print axioms proved
end Go.Proofs.YtfecfgimfjcbdaaDoor.confLinePlace
