/- ConfLoose (P1201): blanks and comments between tokens mean nothing: a printed resource with some of them ahead of each line and behind it is read back as it was; the law's walk, the row, the tied card. -/
import Derived.Test.YtfecfgimfjcbdaaDoorMuQ
import Derived.Deep.CutRange
namespace Go.Proofs.YtfecfgimfjcbdaaDoor.confLoose
open Go.ChangeShapes Go.WideShapes Go.ChangeAt Go.RowKit Go.Proofs.YtfecfgimfjcbdaaDoor.Cf Go.Proofs.YtfecfgimfjcbdaaDoorW.PrintWords
open Go.ChangeMaps (open_string shut_string)

theorem mem_len {ls : List (List UInt8)} {l : List UInt8} (h : l ∈ ls) : l.length ≤ (joinN ls).length := by
  obtain ⟨a, b, rfl⟩ := List.append_of_mem h
  rw [join_app, List.length_append]
  unfold joinN
  rw [List.flatMap_cons, List.length_append, List.length_append]
  omega
/-- The lines with gaps around each, the first j. -/
def gapped (g : List UInt8) (ls : List ByteArray) (j : Nat) : List UInt8 := (ls.take j).flatMap fun x => g ++ bl x ++ (32 :: g)
theorem gapped_all (g : List UInt8) (ls : List ByteArray) (j : Nat) (h : ls.length ≤ j) : gapped g ls j = (ls.map bl).flatMap fun x => g ++ x ++ (32 :: g) := by
  unfold gapped
  rw [List.take_of_length_le h, List.flatMap_map]
theorem gapped_on (g : List UInt8) (ls : List ByteArray) (j : Nat) (x : ByteArray) (h : ls[j]? = some x) : gapped g ls (j + 1) = gapped g ls j ++ (g ++ bl x ++ (32 :: g)) := by
  unfold gapped
  rw [List.take_add_one, h, List.flatMap_append]
  simp
def gapP : ByteArray := (⟨#[35, 123, 13, 10, 9]⟩ : ByteArray)

set_option maxRecDepth 100000 in
set_option maxHeartbeats 2000000 in
theorem walk (nm0 sc0 : ByteArray) (k0 : Nat → Int) (hk0 : ∀ i, -9223372036854775808 ≤ k0 i ∧ k0 i ≤ 9223372036854775807) (g0 : ByteArray) (hg0 : g0.size ≤ 140737488351232) (w : World) (he : Env w) :
    Calls Tryd.prog 12 #[.agg (cfgC nm0 sc0 k0), .string g0] w fun e w' => e = .returned (.bool true) ∧ Below w.heap.size w w' := by
  have HE := Aside0.mk he
  clear he
  have K1 := Aside0.mk (blk_new w (.cells (cfgC nm0 sc0 k0) 23))
  have HB1 := Aside0.mk ((Below.refl w.heap.size w).alloc (Nat.le_refl _) (.cells (cfgC nm0 sc0 k0) 23))
  have hck := chk_two nm0 sc0 k0
  go_enter Tryd.func12, Tryd.ntmps12
  go_wp2_with fail
  generalize w.alloc (.cells (cfgC nm0 sc0 k0) 23) = w1 at *
  refine (loose_any g0 (by omega) w1).mono ?_
  rintro e w2 ⟨rfl, hD⟩
  have K2 := Aside0.mk (blk_below K1.out hD.below)
  have HB2 := Aside0.mk (below_then HB1.out HB1.out.size hD.below)
  clear hD K1 HB1
  obtain ⟨lo, hlo⟩ : ∃ lo, looseL (bl g0) false = lo := ⟨_, rfl⟩
  rw [hlo]
  have HLO := Aside0.mk hlo
  clear hlo
  go_upto_region 2 with fail
  go_cut [23] from 14 to 84 (fun v23 wx => ∃ bb : Bool, v23 = .bool bb ∧ (bb = false → lo = true ∧ chkI nm0 sc0 k0 = 0) ∧ Aside0 (wx.heap[w.heap.size]? = some (.cells (cfgC nm0 sc0 k0) 23 (0, 0))) ∧ Aside0 (Below w.heap.size w wx))
  case first =>
    cases lo with
    | false =>
      go_wp2_with fail
      go_meet
      exact ⟨true, rfl, (fun h => by cases h), K2, HB2⟩
    | true =>
      go_wp2_with (first | ((with_reducible refine gate_dst (N := 19) rfl ?_); refine wpList_load_g rfl rfl rfl rfl 23 _ rfl w.heap.size rfl 23 (cfgC nm0 sc0 k0) (0, 0) _ K2.out Tryd.underlying23 rfl (by kernel_rfl) ?_) | fail)
      refine (check_any nm0 sc0 k0 hk0 w2 (HE.out.to HB2.out).utf).mono ?_
      rintro e w3 ⟨rfl, hB3⟩
      have K3 := Aside0.mk (blk_below K2.out hB3)
      have HB3 := Aside0.mk (below_then HB2.out HB2.out.size hB3)
      clear hB3 K2 HB2
      go_wp2_with fail
      refine (lnum_any _ _).mono ?_
      rintro e w4 ⟨rfl, rfl⟩
      rcases hck with hc | hc
      · have HCK := Aside0.mk hc
        rw [hc]
        clear hc
        go_wp2_with fail
        go_meet
        exact ⟨false, rfl, fun _ => ⟨trivial, HCK.out⟩, K3, HB3⟩
      · rw [hc]
        clear hc
        go_wp2_with fail
        go_meet
        exact ⟨true, rfl, (fun h => by cases h), K3, HB3⟩
  case rest =>
  obtain ⟨bb, rfl, hbb, KA, BA⟩ := hcut
  obtain ⟨wA, rfl⟩ : ∃ wA : World, wA = wc := ⟨_, rfl⟩
  clear K2 HB2
  have HBB := Aside0.mk hbb
  clear hbb
  go_upto_if 23 with fail
  go_cut [1] from 14 to 84 (fun v1 wx => ∃ (g nm sc : ByteArray) (k : Nat → Int), v1 = .string g ∧ g.size ≤ 140737488351232 ∧ Aside0 (looseL (bl g) false = true) ∧ Aside0 (chkI nm sc k = 0) ∧ Aside0 (∀ i, -9223372036854775808 ≤ k i ∧ k i ≤ 9223372036854775807) ∧ Aside0 (wx.heap[w.heap.size]? = some (.cells (cfgC nm sc k) 23 (0, 0))) ∧ Aside0 (Below w.heap.size w wx))
  case first =>
    cases bb with
    | false =>
      obtain ⟨rfl, hc⟩ := HBB.out rfl
      have HC := Aside0.mk hc
      have HK := Aside0.mk hk0
      clear hc hk0
      go_wp2_with fail
      go_meet
      exact ⟨g0, nm0, sc0, k0, rfl, hg0, HLO, HC, HK, KA, BA⟩
    | true =>
      go_wp2_with fail
      refine (plain_any wA).mono ?_
      rintro e w3 ⟨rfl, hB3⟩
      have K3 := Aside0.mk (blk_below KA.out hB3)
      have HB3 := Aside0.mk (below_then BA.out BA.out.size hB3)
      clear hB3 KA BA
      go_wp2_with (first | (refine store_whole rfl rfl rfl (g := w.heap.size) rfl (cfgC nmP scP kP) (by rfl) K3.out (by kernel_rfl) (by rfl) (cfgOne nmP scP kP) ?_; intro w5 h5 hg5) | fail)
      have K5 := Aside0.mk h5
      have HB5 : Aside0 (Below w.heap.size w w5) := ⟨pw_below_grown HB3.out (some w.heap.size) HB3.out.size hg5 (fun q hq => by obtain rfl := Option.some.inj hq; exact Nat.le_refl _)⟩
      clear h5 hg5 K3 HB3
      go_meet
      exact ⟨gapP, nmP, scP, kP, rfl, by decide, ⟨by decide⟩, ⟨plain_ok⟩, ⟨kP_bd⟩, K5, HB5⟩
  case rest =>
    obtain ⟨g, nm, sc, k, rfl, hg, HL, HC, HK, KB, BB⟩ := hcut
    obtain ⟨wB, rfl⟩ : ∃ wB : World, wB = wc := ⟨_, rfl⟩
    clear KA BA HBB HLO
    have hF := Fine.of HC.out
    have hlen := print_len nm sc k HK.out (name_le nm hF.name) hF.short
    have HP : Aside0 (∀ W, Env W → Calls Tryd.prog 22 #[.agg (cfgC nm sc k)] W fun e w' => e = .returned (.tuple #[.string ⟨(printL nm sc k).toArray⟩, .int .i64 0]) ∧ Below W.heap.size W w') := ⟨fun W h => by
      have := print_any nm sc k HK.out W h.utf h.db h.tab
      rw [HC.out, if_pos rfl] at this
      exact this⟩
    have HLN := Aside0.mk hF.lines
    have hmem : ∀ l ∈ linesP nm sc k, l.length ≤ 4000 := fun l hl => by
      have := mem_len hl
      rw [← printL_lines] at this
      omega
    obtain ⟨y, hy⟩ : ∃ y : ByteArray, (⟨(printL nm sc k).toArray⟩ : ByteArray) = y := ⟨_, rfl⟩
    have hbl : bl y = printL nm sc k := by rw [← hy]; rfl
    have hsz : y.size ≤ 4000 := by rw [← bl_length, hbl]; exact hlen
    rw [hy] at HP
    rw [← hbl] at HLN
    have HMEM := Aside0.mk hmem
    have HF := Aside0.mk hF
    clear hy hbl hlen hmem hF
    go_wp2_with ((with_reducible refine gate_dst (N := 26) rfl ?_); refine wpList_load_row rfl 23 _ rfl w.heap.size rfl 23 (cfgC nm sc k) (0, 0) _ KB.out Tryd.underlying23 rfl (by kernel_rfl) ?_)
    refine (HP.out wB (HE.out.to BB.out)).mono ?_
    rintro e w3 ⟨rfl, hB3⟩
    have K3 := Aside0.mk (blk_below KB.out hB3)
    have HB3 := Aside0.mk (below_then BB.out BB.out.size hB3)
    clear hB3 KB BB HP
    go_wp2_with fail
    refine (lines_any y (by omega) w3).mono ?_
    rintro e w4 ⟨v, ls, rfl, hls, hown, hB4⟩
    have K4 := Aside0.mk (blk_below K3.out hB4)
    have HB4 := Aside0.mk (below_then HB3.out HB3.out.size hB4)
    rw [HLN.out] at hls
    have hl25 : ls.length = 25 := by
      have := congrArg List.length hls
      rw [List.length_map] at this
      exact this
    obtain ⟨gs, c, rfl, hgs, hc1, hc2, cur, hcur, hcells⟩ := hown.cell (fun e => by rw [e] at hl25; cases hl25)
    rw [hl25]
    have HCELL : Aside0 (∀ (j : Nat) (x : ByteArray), ls[j]? = some x → w4.cell? ⟨gs, j, none⟩ = some (.string x)) := ⟨fun j x hj => (blk_cell hcur j).trans (hcells j x hj)⟩
    have hgl : gs < w4.heap.size := blk_lt hcur
    have HMEM2 : Aside0 (∀ (j : Nat) (x : ByteArray), ls[j]? = some x → x.size ≤ 4000) := ⟨fun j x hj => by
      have hm : bl x ∈ ls.map bl := List.mem_map_of_mem (List.mem_of_getElem? hj)
      rw [hls] at hm
      have := HMEM.out _ hm
      rwa [bl_length] at this⟩
    have HLS := Aside0.mk hls
    have H25 := Aside0.mk hl25
    clear hB4 hls hl25 hown hcells hcur hgs K3 HB3 HLN HMEM
    go_wp2_with fail
    refine (lnum_any _ _).mono ?_
    rintro e w5 ⟨rfl, rfl⟩
    have HBr := Aside0.mk (Below.refl w4.heap.size w4)
    go_wp2
    go_loopg [9, 10] 25 (fun kq v9 v10 wr => ∃ (j : Nat) (z : ByteArray), j ≤ 25 ∧ kq = 25 - j ∧ v9 = .string z ∧ v10 = .int .i64 j ∧ z.size ≤ j * 281474976714656 ∧ Aside0 (bl z = gapped (bl g) ls j) ∧ Aside0 (Below w4.heap.size w4 wr))
    case atStart => exact ⟨0, (⟨#[]⟩ : ByteArray), by omega, rfl, rfl, rfl, Nat.zero_le _, ⟨rfl⟩, HBr⟩
    case round =>
      clear HBr
      obtain ⟨j, z, hj, rfl, rfl, rfl, hz, HZ, HW⟩ := hrel
      by_cases hlt : j < 25
      · have hd : decide ((j : Int) < 25) = true := decide_eq_true (by omega)
        obtain ⟨x, hx⟩ : ∃ x, ls[j]? = some x := ⟨_, List.getElem?_eq_getElem (by rw [H25.out]; exact hlt)⟩
        have hxs := HMEM2.out j x hx
        have hcl : wr.cell? ⟨gs, j, none⟩ = some (.string x) := (HW.out.cell (p := ⟨gs, j, none⟩) hgl).trans (HCELL.out _ _ hx)
        have HZ2 : Aside0 (bl (z ++ g ++ x ++ (⟨#[32]⟩ : ByteArray) ++ g) = gapped (bl g) ls (j + 1)) := ⟨by
          rw [gapped_on _ _ _ x hx, ← HZ.out]
          simp only [bl_app, List.append_assoc]
          rfl⟩
        have hzs : (z ++ g ++ x ++ (⟨#[32]⟩ : ByteArray) ++ g).size ≤ (j + 1) * 281474976714656 := by
          simp only [ByteArray.size_append]
          show z.size + g.size + x.size + 1 + g.size ≤ _
          omega
        clear hx
        go_wp2
        go_roundg (25 - (j + 1))
        case measure => omega
        case rel => exact ⟨j + 1, _, by omega, rfl, rfl, by go_num, hzs, HZ2, HW⟩
      · have hd : decide ((j : Int) < 25) = false := decide_eq_false (by omega)
        obtain rfl : j = 25 := by omega
        have K5 := Aside0.mk (blk_below K4.out HW.out)
        have HB5 := Aside0.mk (below_then HB4.out HB4.out.size HW.out)
        have hzt : bl z = (linesP nm sc k).flatMap fun x => bl g ++ x ++ (32 :: bl g) := by
          rw [HZ.out, gapped_all _ _ _ (by rw [H25.out]; exact Nat.le_refl _), HLS.out]
        have hr := HF.out.gaps (Chunk.loose HL.out) ((Chunk.blank (c := 32) (by decide)).app (Chunk.loose HL.out)) z hzt
        have hlt5 : w.heap.size < wr.heap.size := blk_lt K5.out
        clear hzt HW K4 HB4
        by_cases hl : 4096 < z.size
        · have HR : Aside0 (∀ W, Calls Tryd.prog 24 #[.string z] W fun e w' => e = .returned (.tuple #[.agg (cfgC ⟨#[]⟩ ⟨#[]⟩ fun _ => 0), .int .i64 0, .int .i64 6]) ∧ Below W.heap.size W w') := ⟨fun W => confparse_any z W _ (parseP_long z hl)⟩
          have hd2 : decide ((4096 : Int) < (z.size : Int)) = true := decide_eq_true (by omega)
          clear hr
          go_wp2_with fail
          refine (HR.out wr).mono ?_
          rintro e w6 ⟨rfl, hB6⟩
          have HB6 := Aside0.mk (below_then HB5.out HB5.out.size hB6)
          clear hB6 HB5
          go_wp2_with (first | (refine store_whole rfl rfl rfl (g := w6.heap.size) rfl (cfgC ⟨#[]⟩ ⟨#[]⟩ fun _ => 0) (by rfl) (blk_new w6 _) (by kernel_rfl) (by rfl) (cfgOne _ _ _) ?_; intro w7 h7 hg7) | fail)
          have HB7 := Aside0.mk (below_vr HB6.out HB6.out.size hg7)
          clear hg7 HB6 h7
          refine (lnum_any _ _).mono ?_
          rintro e w8 ⟨rfl, rfl⟩
          go_wp2
          go_ret
          exact ⟨rfl, HB7.out⟩
        · obtain ⟨k', hr, hk'⟩ := hr
          have HR : Aside0 (∀ W, Calls Tryd.prog 24 #[.string z] W fun e w' => e = .returned (.tuple #[.agg (cfgC nm sc k), .int .i64 0, .int .i64 0]) ∧ Below W.heap.size W w') := ⟨fun W => by
            have := confparse_any z W _ ((parseP_short z hl).trans hr)
            rw [parseV_same nm sc k k' hk'] at this
            exact this⟩
          have hd2 : decide ((4096 : Int) < (z.size : Int)) = false := decide_eq_false (by omega)
          clear hr hk'
          go_wp2_with fail
          refine (HR.out wr).mono ?_
          rintro e w6 ⟨rfl, hB6⟩
          have K6 := Aside0.mk (blk_below K5.out hB6)
          have HB6 := Aside0.mk (below_then HB5.out HB5.out.size hB6)
          have hlt6 : w.heap.size < w6.heap.size := blk_lt K6.out
          clear hB6 HB5 K5
          go_wp2_with (first | (refine store_whole rfl rfl rfl (g := w6.heap.size) rfl (cfgC nm sc k) (by rfl) (blk_new w6 _) (by kernel_rfl) (by rfl) (cfgOne _ _ _) ?_; intro w7 h7 hg7) | fail)
          have HB7 := Aside0.mk (below_vr HB6.out HB6.out.size hg7)
          have K7 := Aside0.mk (grown_blk hg7 (blk_alloc K6.out _) (by omega))
          have L7 := Aside0.mk h7
          clear hg7 HB6 h7 K6
          refine (lnum_any _ _).mono ?_
          rintro e w8 ⟨rfl, rfl⟩
          generalize w6.heap.size = b6 at *
          go_wp2_with (first
            | ((with_reducible refine gate_dst (N := 81) rfl ?_); refine wpList_load_g rfl rfl rfl rfl 23 _ rfl b6 rfl 23 (cfgC nm sc k) (0, 0) _ L7.out Tryd.underlying23 rfl (by kernel_rfl) ?_)
            | ((with_reducible refine gate_dst (N := 82) rfl ?_); refine wpList_load_g rfl rfl rfl rfl 23 _ rfl w.heap.size rfl 23 (cfgC nm sc k) (0, 0) _ K7.out Tryd.underlying23 rfl (by kernel_rfl) ?_)
            | ((with_reducible refine gate_dst (N := 83) rfl ?_); refine wpList_cmp_g rfl rfl rfl rfl .eql 23 _ _ _ rfl _ _ rfl rfl true (cfg_eql _ _ nm sc k _) ?_)
            | fail)
          go_ret
          exact ⟨rfl, HB7.out⟩

/-! ### THE ROW's STEP -/
theorem gT : Tryd.prog.globalNamed "internal/strconv.uint64pow10" = some 2 := by kernel_rfl
theorem tab_of {W : World} (h : laidMet Tryd.prog Rows.confLooseRow.laid W) : Tab10 W := by
  have h1 := h.filter fun x => x.1 == "internal/strconv.uint64pow10"
  have e : (Rows.confLooseRow.laid.filter fun x => x.1 == "internal/strconv.uint64pow10") = [("internal/strconv.uint64pow10", Lib.tabData .u64 Lib.pow10Tab)] := by kernel_rfl
  rw [e] at h1
  exact Lib.tabBelow_of_tabIs (Lib.tabIs_of_head gT (t := 148) (e := 131) (n := 20) (by kernel_rfl) Tryd.underlying148 Tryd.underlying131 (by kernel_rfl) (by kernel_rfl) h1)
def dbTab : List Int := [0, 1, 56, 2, 57, 49, 28, 3, 61, 58, 42, 50, 38, 29, 17, 4, 62, 47, 59, 36, 45, 43, 51, 22, 53, 39, 33, 30, 24, 18, 12, 5, 63, 55, 48, 27, 60, 41, 37, 16, 46, 35, 44, 21, 52, 32, 23, 11, 54, 26, 40, 15, 34, 20, 31, 10, 25, 14, 19, 9, 13, 8, 7, 6]
theorem gD : Tryd.prog.globalNamed "math/bits.deBruijn64tab" = some 4 := by kernel_rfl
theorem db_of {W : World} (h : laidMet Tryd.prog Rows.confLooseRow.laid W) : DB W := by
  have h1 := h.filter fun x => x.1 == "math/bits.deBruijn64tab"
  have e : (Rows.confLooseRow.laid.filter fun x => x.1 == "math/bits.deBruijn64tab") = [("math/bits.deBruijn64tab", Lib.tabData .u8 dbTab)] := by kernel_rfl
  rw [e] at h1
  have hT := Lib.tabBelow_of_tabIs (Lib.tabIs_of_head gD (t := 156) (e := 5) (n := 64) (by kernel_rfl) Tryd.underlying156 Tryd.underlying5 (by kernel_rfl) (by kernel_rfl) h1)
  exact fun w' hb => Lib.TabIs.cell (hT w' hb) gD 15 (by decide)
theorem env_of {W : World} (h : laidMet Tryd.prog Rows.confLooseRow.laid W) : Env W := ⟨utf_of h (by kernel_rfl) (by kernel_rfl), db_of h, tab_of h⟩
set_option maxRecDepth 100000 in
theorem lifted (os : Os) (started : os.Started) (H : Type) (enc : TypeId × Value → H) :
    ReturnsInHanded {} Tryd.checked os 12 .any (fun w args => (Rows.confLooseSpec.pre enc Tryd.prog Tryd.f12 Rows.confLooseRow.domain false w args ∧ laidMetH Tryd.prog Rows.confLooseRow.laid w) ∧ sizedMet enc Tryd.prog Tryd.f12 (OpenSpec.ofChange Rows.confLooseSpec) false w args)
      (Rows.confLooseSpec.post enc Tryd.prog Tryd.f12 false true false false) := by
  refine returnsInHanded_of_change_and (C := Tryd.checked) (X := fun w _ => laidMetH Tryd.prog Rows.confLooseRow.laid w) (fun _ _ _ hh h => h.of_heap hh) ownC started (by kernel_rfl) Tryd.func12
    (ChangeSpec.witness_shaped (enc := enc) (C := Tryd.checked) (os := os) (X := fun w _ => laidMetH Tryd.prog Rows.confLooseRow.laid w) false (World.laidAll Tryd.prog os Rows.confLooseRow.laid) #[.agg (cfgC ByteArray.empty ByteArray.empty fun _ => 0), .string ByteArray.empty] 8 (World.laidAll_os _ _ _)
      (World.shaped_of_ZipB (by kernel_rfl) (by kernel_rfl)) (by kernel_rfl) (by kernel_rfl) (by kernel_rfl)
      (by rw [MakeChecks.laidMetH_plain _ _ _ (by kernel_rfl)]; exact laidMet_laidAll _ (by kernel_rfl) (by kernel_rfl))) ?_
  intro W base args ds gs before hval0 hW hc hsz0 hL _
  rw [MakeChecks.laidMetH_plain _ _ _ (by kernel_rfl)] at hL
  have hval : ∀ (j : Nat) t v, Tryd.f12.params[j]? = some t → args[j]? = some v → Value.okWide Tryd.prog W .any base t v := hval0
  have hW' := hW
  obtain ⟨p, q, hA0, hV, rfl, _, _⟩ := hW
  have hA : DataW.TrodAll enc Tryd.prog W 0 (fun _ => true) true Tryd.f12.params.toList args.toList ds p := hA0
  rw [Tryd.params12] at hA hval
  obtain ⟨v0, v1, d0, d1, p0, p1, rfl, rfl, rfl, h0, h1⟩ := trodAll_two hA
  obtain ⟨rfl, rfl⟩ := trodVars_none hV
  have hsz : (DataW.weightsEach Tryd.prog (Tryd.f12.params.toList ++ Rows.confLooseSpec.plain.varTypes Tryd.prog) ([d0, d1] ++ [])).all (· ≤ reachBytes) = true := hsz0
  rw [Tryd.params12] at hsz
  obtain ⟨nm, sc, k, rfl, hk⟩ := open_config (hval 0 23 v0 rfl rfl)
  obtain ⟨a1, rfl, rfl, rfl, y1⟩ := open_string Tryd.underlying9 (hval 1 9 v1 rfl rfl) h1
  have w1 : a1.size ≤ 140737488351232 := by
    have z := sized_string hsz (j := 1) (t := 9) rfl rfl
    rw [Array.length_toList] at z
    exact z
  clear hA0 hval0 hsz0 hsz
  simp only [List.append_nil] at hW'
  have hlt : ∀ x ∈ p0, x.block < W.heap.size := fun x hx => by simpa using hW'.lt x (by simp [hx])
  refine (walk nm sc k hk a1 w1 W (env_of hL)).mono fun e W' ⟨he, bel⟩ => ?_
  subst he
  exact ⟨_, rfl, _, _, _, [], _, [], hW', trodAll_mk1 (shut_bool Tryd.underlying4 _), trodAll_mk2 (Below.trod laidC (by kernel_rfl) (of_decide_eq_true (by kernel_rfl)) h0 bel hlt) (shut_string Tryd.underlying9 y1), rfl, bel.frame _, fun h => by cases h⟩

theorem row_holds : Rows.ConfLooseSaid :=
  OpenClaim.holds_of_wide 12 Tryd.f12 rfl rfl rfl rfl rfl rfl rfl ⟨rfl, rfl, rfl, rfl, rfl⟩ rfl rfl rfl rfl rfl (by kernel_rfl) Tryd.func12 (by kernel_rfl)
    (of_decide_eq_true (by kernel_rfl)) (by unfold Func.isWrapper; first | (rw [if_pos (by decide +kernel)]; kernel_rfl) | (rw [if_neg (by decide +kernel)]; exact ⟨rfl, rfl⟩))
    (fun os started H enc _ => lifted os started H enc)

/-- The tied card of ConfLoose holds. -/
theorem proved : Rows.ConfLooseCardSaid :=
  Claim7.holds_tied_plain_at .later [] [.data, .data, .data, .data, .sentinel, .sentinel, .pinned] true (true, "d00b676bce2552af46cfae2229684cff95e92bfc764e18822df88b7b060a56ac") true row_holds (fun _ h => by cases h) (by kernel_rfl) (fun _ h => by cases h) confLoose_row_tie rfl ⟨rfl, rfl⟩ (by kernel_rfl) rfl
    (fun f fn hf hfn => by
      obtain rfl : f = 12 := Option.some.inj ((show Tryd.prog.funcNamed "replica/replicalaw12.ConfLoose" = some 12 by kernel_rfl).symm.trans hf) |>.symm
      obtain rfl : fn = Tryd.f12 := (Option.some.inj (Tryd.func12.symm.trans hfn)).symm
      exact ⟨by kernel_rfl, fun j t ht => by
        rw [Tryd.params12] at ht
        have hm : t ∈ [23, 9] := by simpa using Array.mem_of_getElem? ht
        have hall : ([23, 9].all fun u => !Tryd.prog.wantsStandIn u) = true := by kernel_rfl
        have h8 := List.all_eq_true.1 hall t hm
        have h9 : Tryd.prog.wantsStandIn t = false := by simpa using h8
        exact h9⟩)
    (by kernel_rfl)
#print axioms proved
end Go.Proofs.YtfecfgimfjcbdaaDoor.confLoose
