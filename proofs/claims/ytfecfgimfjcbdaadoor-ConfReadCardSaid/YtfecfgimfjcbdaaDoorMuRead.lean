/- ConfRead (P1201, P1204): what Parse takes, Check takes, and it is printed and read back as it was; what Parse refuses has a place in the text, and no fields; the law's walk, the row, the tied card. -/
import Derived.Test.YtfecfgimfjcbdaaDoorMuP
namespace Go.Proofs.YtfecfgimfjcbdaaDoor.confRead
open Go.ChangeShapes Go.WideShapes Go.ChangeAt Go.RowKit Go.Proofs.YtfecfgimfjcbdaaDoor.Cf Go.Proofs.YtfecfgimfjcbdaaDoorW.PrintWords
open Go.ChangeMaps (open_string shut_string)

def kc (k : Nat → Int) : Nat → Int := fun i => if i < 16 then k i else 0
theorem kc_same (k : Nat → Int) : ∀ i, i < 16 → kc k i = k i := fun _ hi => if_pos hi
theorem okFrom_same (k k' : Nat → Int) (h : ∀ i, i < 16 → k' i = k i) : ∀ (n j : Nat), j + n ≤ 16 → okFrom k' n j = okFrom k n j
  | 0, _, _ => rfl
  | n + 1, j, hj => by
    simp only [okFrom]
    rw [h j (by omega), okFrom_same k k' h n (j + 1) (by omega)]
theorem chk_same (nm sc : ByteArray) (k k' : Nat → Int) (h : ∀ i, i < 16 → k' i = k i) : chkI nm sc k' = chkI nm sc k := by
  have ht : togI k' = togI k := by
    unfold togI
    rw [h 5 (by omega), h 6 (by omega), h 7 (by omega), h 8 (by omega), h 9 (by omega), h 15 (by omega)]
  unfold chkI restI okK
  rw [okFrom_same k k' h 16 0 (by omega), ht]
theorem tk_num (t : KeyT) (n : Int) (ht : t.2.2.2.2.2 = none) (h0 : 0 ≤ t.2.2.1) (h1 : t.2.2.2.1 < 10000) (h : tk t n = true) : -9223372036854775808 ≤ n ∧ n ≤ 9223372036854775807 := by
  unfold tk at h
  rw [ht] at h
  simp only at h
  split at h
  · cases h
  · split at h
    · cases h
    · exact ⟨by omega, by omega⟩
theorem tk_bd (i : Nat) (hi : i < 16) (n : Int) (h : tk (tE i) n = true) : -9223372036854775808 ≤ n ∧ n ≤ 9223372036854775807 := by
  rcases i with _ | _ | _ | _ | _ | _ | _ | _ | _ | _ | _ | _ | _ | _ | _ | _ | i
  case succ.succ.succ.succ.succ.succ.succ.succ.succ.succ.succ.succ.succ.succ.succ.succ => omega
  all_goals first
    | exact tk_num _ n rfl (by decide) (by decide) h
    | (have h' : ([_, _, _, _, _] : List Int).any (fun x => x == n) = true := h
       simp only [List.any_cons, List.any_nil, Bool.or_false, Bool.or_eq_true, beq_iff_eq] at h'
       omega)
    | (have h' : ([_, _, _] : List Int).any (fun x => x == n) = true := h
       simp only [List.any_cons, List.any_nil, Bool.or_false, Bool.or_eq_true, beq_iff_eq] at h'
       omega)
    | (have h' : ([_] : List Int).any (fun x => x == n) = true := h
       simp only [List.any_cons, List.any_nil, Bool.or_false, beq_iff_eq] at h'
       omega)
theorem kc_bd (nm sc : ByteArray) (k : Nat → Int) (h : chkI nm sc k = 0) : ∀ i, -9223372036854775808 ≤ kc k i ∧ kc k i ≤ 9223372036854775807 := by
  intro i
  unfold kc
  split
  · rename_i hi
    exact tk_bd i hi _ ((Fine.of h).keys i hi)
  · decide
/-- What Parse answers. -/
theorem parse_cases (s : ByteArray) : (∃ a er : Int, 0 ≤ a ∧ a ≤ s.size ∧ er ≠ 0 ∧ (er = 6 → a = 0) ∧ ∀ W, Calls Tryd.prog 24 #[.string s] W fun e w' => e = .returned (.tuple #[.agg (cfgC ⟨#[]⟩ ⟨#[]⟩ fun _ => 0), .int .i64 a, .int .i64 er]) ∧ Below W.heap.size W w') ∨
    (s.size ≤ 4096 ∧ ∃ nm sc k, chkI nm sc k = 0 ∧ (∀ i, -9223372036854775808 ≤ k i ∧ k i ≤ 9223372036854775807) ∧ ∀ W, Calls Tryd.prog 24 #[.string s] W fun e w' => e = .returned (.tuple #[.agg (cfgC nm sc k), .int .i64 0, .int .i64 0]) ∧ Below W.heap.size W w') := by
  have hp := fun W => confparse_any s W _ rfl
  by_cases hl : 4096 < s.size
  · rw [parseP_long s hl] at hp
    exact .inl ⟨0, 6, by omega, by omega, by omega, fun _ => rfl, hp⟩
  · rw [parseP_short s hl] at hp
    have hX : Ext s (s ++ (⟨#[10]⟩ : ByteArray)) [] := by
      show bl _ = _
      rw [bl_app]
      rfl
    rcases hX.res with e1 | ⟨a, er, ha, hne, e1, _⟩ | ⟨nm', y, e1, _, _, _, _, _, _⟩
    · rw [e1] at hp
      exact .inl ⟨(s.size : Int), 121, by omega, by omega, by omega, fun h => by omega, hp⟩
    · rw [e1] at hp
      have h6 := res_er s _ e1
      exact .inl ⟨(a : Int), er, by omega, by omega, hne, fun h => absurd h h6, hp⟩
    · rw [e1] at hp
      have hc := res_chk s _ _ _ e1
      refine .inr ⟨by omega, nm', y.2.2.1, kc y.2.2.2.1, (chk_same _ _ _ _ (kc_same _)).trans hc, kc_bd _ _ _ hc, fun W => ?_⟩
      have := hp W
      rw [show parseV (.ok (nm', y.2.2.1, y.2.2.2.1)) = .tuple #[.agg (cfgC nm' y.2.2.1 (kc y.2.2.2.1)), .int .i64 0, .int .i64 0] by rw [cfg_same nm' y.2.2.1 y.2.2.2.1 _ (kc_same _)]; rfl] at this
      exact this

set_option maxRecDepth 100000 in
set_option maxHeartbeats 1000000 in
theorem walk (s : ByteArray) (hs : s.size ≤ 140737488351232) (w : World) (he : Env w) :
    Calls Tryd.prog 11 #[.string s] w fun e w' => e = .returned (.bool true) ∧ Below w.heap.size w w' := by
  have HE := Aside0.mk he
  clear he
  have hcs := parse_cases s
  go_enter Tryd.func11, Tryd.ntmps11
  go_wp2_with fail
  refine (plain_any w).mono ?_
  rintro e w2 ⟨rfl, hB2⟩
  have HB2 := Aside0.mk hB2
  clear hB2
  go_wp2_with fail
  refine (back_any nmP scP kP kP_bd plain_ok w2 (HE.out.to HB2.out)).mono ?_
  rintro e w3 ⟨rfl, hB3⟩
  have HB3 := Aside0.mk (below_then HB2.out HB2.out.size hB3)
  clear hB3 HB2
  go_wp2_with fail
  rcases hcs with ⟨a, er, ha0, ha1, hne, h6, hp⟩ | ⟨hl, nm, sc, k, hc, hk, hp⟩
  · refine (hp w3).mono ?_
    rintro e w4 ⟨rfl, hB4⟩
    have HB4 := Aside0.mk (below_then HB3.out HB3.out.size hB4)
    clear hB4 HB3 hp
    have hd1 : decide (0 ≤ a) = true := decide_eq_true ha0
    have hd2 : decide (a ≤ (s.size : Int)) = true := decide_eq_true ha1
    have hb0 : (er != 0) = true := bne_iff_ne.2 hne
    have h6b : (er != 6) = true ∨ ((er != 6) = false ∧ (a == 0) = true) := by
      by_cases e6 : er = 6
      · exact .inr ⟨by rw [e6]; rfl, by rw [h6 e6]; rfl⟩
      · exact .inl (bne_iff_ne.2 e6)
    clear h6 hne
    go_wp2_with (first | (refine store_whole rfl rfl rfl (g := w4.heap.size) rfl (cfgC ⟨#[]⟩ ⟨#[]⟩ fun _ => 0) (by rfl) (blk_new w4 _) (by kernel_rfl) (by rfl) (cfgOne _ _ _) ?_; intro w5 h5 hg5) | fail)
    have HB5 := Aside0.mk (below_vr HB4.out HB4.out.size hg5)
    have L5 := Aside0.mk h5
    clear h5 hg5 HB4
    refine (lnum_any _ _).mono ?_
    rintro e w6 ⟨rfl, rfl⟩
    go_wp2_with (first
      | ((with_reducible refine gate_dst (N := 20) rfl ?_); refine wpList_load_row rfl 23 _ rfl w4.heap.size rfl 23 (cfgC ⟨#[]⟩ ⟨#[]⟩ fun _ => 0) (0, 0) _ L5.out Tryd.underlying23 rfl (by kernel_rfl) ?_)
      | ((with_reducible refine gate_dst (N := 22) rfl ?_); refine wpList_cmp rfl .eql 23 _ _ _ rfl (.agg (cfgC ⟨#[]⟩ ⟨#[]⟩ fun _ => 0)) (.agg (cfgC ⟨#[]⟩ ⟨#[]⟩ fun _ => 0)) rfl rfl true (cfg_eql _ _ _ _ _ _) ?_)
      | fail)
    refine (lnum_any _ _).mono ?_
    rintro e w7 ⟨rfl, rfl⟩
    rcases h6b with h6b | ⟨h6b, ha⟩
    · go_wp2
      go_ret
      exact ⟨rfl, HB5.out⟩
    · go_wp2
      go_ret
      exact ⟨rfl, HB5.out⟩
  · refine (hp w3).mono ?_
    rintro e w4 ⟨rfl, hB4⟩
    have HB4 := Aside0.mk (below_then HB3.out HB3.out.size hB4)
    clear hB4 HB3 hp
    have hd : decide ((4096 : Int) < (s.size : Int)) = false := decide_eq_false (by omega)
    have HK := Aside0.mk (back_any nm sc k hk hc)
    have HC : Aside0 (∀ W, Utf W → Calls Tryd.prog 14 #[.agg (cfgC nm sc k)] W fun e w' => e = .returned (.int .i64 0) ∧ Below W.heap.size W w') := ⟨fun W h => by
      have := check_any nm sc k hk W h
      rwa [hc] at this⟩
    clear hc hk
    go_wp2_with (first | (refine store_whole rfl rfl rfl (g := w4.heap.size) rfl (cfgC nm sc k) (by rfl) (blk_new w4 _) (by kernel_rfl) (by rfl) (cfgOne _ _ _) ?_; intro w5 h5 hg5) | fail)
    have HB5 := Aside0.mk (below_vr HB4.out HB4.out.size hg5)
    have L5 := Aside0.mk h5
    clear h5 hg5 HB4
    refine (lnum_any _ _).mono ?_
    rintro e w6 ⟨rfl, rfl⟩
    generalize w4.heap.size = b4 at *
    go_wp2_with (first
      | ((with_reducible refine gate_dst (N := 50) rfl ?_); refine wpList_load_g rfl rfl rfl rfl 23 _ rfl b4 rfl 23 (cfgC nm sc k) (0, 0) _ L5.out Tryd.underlying23 rfl (by kernel_rfl) ?_)
      | fail)
    refine (HC.out _ (HE.out.to HB5.out).utf).mono ?_
    rintro e w7 ⟨rfl, hB7⟩
    have L7 := Aside0.mk (blk_below L5.out hB7)
    have HB7 := Aside0.mk (below_then HB5.out HB5.out.size hB7)
    clear hB7 L5 HB5
    go_wp2_with fail
    refine (lnum_any _ _).mono ?_
    rintro e w8 ⟨rfl, rfl⟩
    go_wp2_with ((with_reducible refine gate_dst (N := 55) rfl ?_); refine wpList_load_row rfl 23 _ rfl b4 rfl 23 (cfgC nm sc k) (0, 0) _ L7.out Tryd.underlying23 rfl (by kernel_rfl) ?_)
    refine (HK.out _ (HE.out.to HB7.out)).mono ?_
    rintro e w9 ⟨rfl, hB9⟩
    have HB9 := Aside0.mk (below_then HB7.out HB7.out.size hB9)
    clear hB9 L7 HB7
    go_wp2
    go_ret
    exact ⟨rfl, HB9.out⟩

/-! ### THE ROW's STEP -/
theorem gT : Tryd.prog.globalNamed "internal/strconv.uint64pow10" = some 2 := by kernel_rfl
theorem tab_of {W : World} (h : laidMet Tryd.prog Rows.confReadRow.laid W) : Tab10 W := by
  have h1 := h.filter fun x => x.1 == "internal/strconv.uint64pow10"
  have e : (Rows.confReadRow.laid.filter fun x => x.1 == "internal/strconv.uint64pow10") = [("internal/strconv.uint64pow10", Lib.tabData .u64 Lib.pow10Tab)] := by kernel_rfl
  rw [e] at h1
  exact Lib.tabBelow_of_tabIs (Lib.tabIs_of_head gT (t := 148) (e := 131) (n := 20) (by kernel_rfl) Tryd.underlying148 Tryd.underlying131 (by kernel_rfl) (by kernel_rfl) h1)
def dbTab : List Int := [0, 1, 56, 2, 57, 49, 28, 3, 61, 58, 42, 50, 38, 29, 17, 4, 62, 47, 59, 36, 45, 43, 51, 22, 53, 39, 33, 30, 24, 18, 12, 5, 63, 55, 48, 27, 60, 41, 37, 16, 46, 35, 44, 21, 52, 32, 23, 11, 54, 26, 40, 15, 34, 20, 31, 10, 25, 14, 19, 9, 13, 8, 7, 6]
theorem gD : Tryd.prog.globalNamed "math/bits.deBruijn64tab" = some 4 := by kernel_rfl
theorem db_of {W : World} (h : laidMet Tryd.prog Rows.confReadRow.laid W) : DB W := by
  have h1 := h.filter fun x => x.1 == "math/bits.deBruijn64tab"
  have e : (Rows.confReadRow.laid.filter fun x => x.1 == "math/bits.deBruijn64tab") = [("math/bits.deBruijn64tab", Lib.tabData .u8 dbTab)] := by kernel_rfl
  rw [e] at h1
  have hT := Lib.tabBelow_of_tabIs (Lib.tabIs_of_head gD (t := 156) (e := 5) (n := 64) (by kernel_rfl) Tryd.underlying156 Tryd.underlying5 (by kernel_rfl) (by kernel_rfl) h1)
  exact fun w' hb => Lib.TabIs.cell (hT w' hb) gD 15 (by decide)
theorem env_of {W : World} (h : laidMet Tryd.prog Rows.confReadRow.laid W) : Env W := ⟨utf_of h (by kernel_rfl) (by kernel_rfl), db_of h, tab_of h⟩
set_option maxRecDepth 100000 in
theorem lifted (os : Os) (started : os.Started) (H : Type) (enc : TypeId × Value → H) :
    ReturnsInHanded {} Tryd.checked os 11 .any (fun w args => (Rows.confReadSpec.pre enc Tryd.prog Tryd.f11 Rows.confReadRow.domain false w args ∧ laidMetH Tryd.prog Rows.confReadRow.laid w) ∧ sizedMet enc Tryd.prog Tryd.f11 (OpenSpec.ofChange Rows.confReadSpec) false w args)
      (Rows.confReadSpec.post enc Tryd.prog Tryd.f11 false true false false) := by
  refine returnsInHanded_of_change_and (C := Tryd.checked) (X := fun w _ => laidMetH Tryd.prog Rows.confReadRow.laid w) (fun _ _ _ hh h => h.of_heap hh) ownC started (by kernel_rfl) Tryd.func11
    (ChangeSpec.witness_shaped (enc := enc) (C := Tryd.checked) (os := os) (X := fun w _ => laidMetH Tryd.prog Rows.confReadRow.laid w) false (World.laidAll Tryd.prog os Rows.confReadRow.laid) #[.string ByteArray.empty] 8 (World.laidAll_os _ _ _)
      (World.shaped_of_ZipB (by kernel_rfl) (by kernel_rfl)) (by kernel_rfl) (by kernel_rfl) (by kernel_rfl)
      (by rw [MakeChecks.laidMetH_plain _ _ _ (by kernel_rfl)]; exact laidMet_laidAll _ (by kernel_rfl) (by kernel_rfl))) ?_
  intro W base args ds gs before hval0 hW hc hsz0 hL _
  rw [MakeChecks.laidMetH_plain _ _ _ (by kernel_rfl)] at hL
  have hval : ∀ (j : Nat) t v, Tryd.f11.params[j]? = some t → args[j]? = some v → Value.okWide Tryd.prog W .any base t v := hval0
  have hW' := hW
  obtain ⟨p, q, hA0, hV, rfl, _, _⟩ := hW
  have hA : DataW.TrodAll enc Tryd.prog W 0 (fun _ => true) true Tryd.f11.params.toList args.toList ds p := hA0
  rw [Tryd.params11] at hA hval
  obtain ⟨v0, d0, rfl, rfl, h0⟩ := trodAll_one hA
  obtain ⟨rfl, rfl⟩ := trodVars_none hV
  have hsz : (DataW.weightsEach Tryd.prog (Tryd.f11.params.toList ++ Rows.confReadSpec.plain.varTypes Tryd.prog) ([d0] ++ [])).all (· ≤ reachBytes) = true := hsz0
  rw [Tryd.params11] at hsz
  obtain ⟨a0, rfl, rfl, rfl, y0⟩ := open_string Tryd.underlying9 (hval 0 9 v0 rfl rfl) h0
  have w0 : a0.size ≤ 140737488351232 := by
    have z := sized_string hsz (j := 0) (t := 9) rfl rfl
    rw [Array.length_toList] at z
    exact z
  clear hA0 hval0 hsz0 hsz
  simp only [List.append_nil] at hW'
  refine (walk a0 w0 W (env_of hL)).mono fun e W' ⟨he, bel⟩ => ?_
  subst he
  exact ⟨_, rfl, _, _, _, [], _, [], hW', trodAll_mk1 (shut_bool Tryd.underlying4 _), trodAll_mk1 (shut_string Tryd.underlying9 y0), rfl, bel.frame _, fun h => by cases h⟩

theorem row_holds : Rows.ConfReadSaid :=
  OpenClaim.holds_of_wide 11 Tryd.f11 rfl rfl rfl rfl rfl rfl rfl ⟨rfl, rfl, rfl, rfl, rfl⟩ rfl rfl rfl rfl rfl (by kernel_rfl) Tryd.func11 (by kernel_rfl)
    (of_decide_eq_true (by kernel_rfl)) (by unfold Func.isWrapper; first | (rw [if_pos (by decide +kernel)]; kernel_rfl) | (rw [if_neg (by decide +kernel)]; exact ⟨rfl, rfl⟩))
    (fun os started H enc _ => lifted os started H enc)

/-- The tied card of ConfRead holds. -/
theorem proved : Rows.ConfReadCardSaid :=
  Claim7.holds_tied_plain_at .later [] [.data, .data, .data, .data, .sentinel, .sentinel, .pinned] true (true, "d00b676bce2552af46cfae2229684cff95e92bfc764e18822df88b7b060a56ac") true row_holds (fun _ h => by cases h) (by kernel_rfl) (fun _ h => by cases h) confRead_row_tie rfl ⟨rfl, rfl⟩ (by kernel_rfl) rfl
    (fun f fn hf hfn => by
      obtain rfl : f = 11 := Option.some.inj ((show Tryd.prog.funcNamed "replica/replicalaw12.ConfRead" = some 11 by kernel_rfl).symm.trans hf) |>.symm
      obtain rfl : fn = Tryd.f11 := (Option.some.inj (Tryd.func11.symm.trans hfn)).symm
      exact ⟨by kernel_rfl, fun j t ht => by
        rw [Tryd.params11] at ht
        have hm : t ∈ [9] := by simpa using Array.mem_of_getElem? ht
        have hall : ([9].all fun u => !Tryd.prog.wantsStandIn u) = true := by kernel_rfl
        have h8 := List.all_eq_true.1 hall t hm
        have h9 : Tryd.prog.wantsStandIn t = false := by simpa using h8
        exact h9⟩)
    (by kernel_rfl)
#print axioms proved
end Go.Proofs.YtfecfgimfjcbdaaDoor.confRead
