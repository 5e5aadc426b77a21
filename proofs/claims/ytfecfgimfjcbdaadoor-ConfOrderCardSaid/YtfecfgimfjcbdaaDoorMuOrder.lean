/- ConfOrder (P1201): the parts of a resource and the keys of a section may come in any order: a printed resource, whose sections' lines and whose parts are turned about, is read back as it was; the law's walk, the row, the tied card. -/
import Derived.Test.YtfecfgimfjcbdaaDoorMuQ
import Derived.Test.YtfecfgimfjcbdaaDoorMuY
import Derived.Deep.CutRange
namespace Go.Proofs.YtfecfgimfjcbdaaDoor.confOrder
open Go.ChangeShapes Go.WideShapes Go.ChangeAt Go.RowKit Go.Proofs.YtfecfgimfjcbdaaDoor.Cf Go.Proofs.YtfecfgimfjcbdaaDoorW.PrintWords

set_option maxRecDepth 100000 in
set_option maxHeartbeats 4000000 in
theorem walk (nm0 sc0 : ByteArray) (k0 : Nat → Int) (hk0 : ∀ i, -9223372036854775808 ≤ k0 i ∧ k0 i ≤ 9223372036854775807) (q : Int) (hq : -9223372036854775808 ≤ q ∧ q ≤ 9223372036854775807) (w : World) (he : Env w) :
    Calls Tryd.prog 13 #[.agg (cfgC nm0 sc0 k0), .int .i64 q] w fun e w' => e = .returned (.bool true) ∧ Below w.heap.size w w' := by
  have HE := Aside0.mk he
  have HQ := Aside0.mk hq
  clear he hq
  have K1 := Aside0.mk (blk_new w (.cells (cfgC nm0 sc0 k0) 23))
  have HB1 := Aside0.mk ((Below.refl w.heap.size w).alloc (Nat.le_refl _) (.cells (cfgC nm0 sc0 k0) 23))
  have HCK := Aside0.mk (chk_two nm0 sc0 k0)
  obtain ⟨i0, hi, hz0, hz1, hz2⟩ := info_parts info_str
  go_enter Tryd.func13, Tryd.ntmps13
  go_wp2_with ((with_reducible refine gate_dst (N := 19) rfl ?_); refine wpList_load_row rfl 23 _ rfl w.heap.size rfl 23 (cfgC nm0 sc0 k0) (0, 0) _ K1.out Tryd.underlying23 rfl (by kernel_rfl) ?_)
  generalize w.alloc (.cells (cfgC nm0 sc0 k0) 23) = w1 at *
  refine (check_any nm0 sc0 k0 hk0 w1 (HE.out.to HB1.out).utf).mono ?_
  rintro e w2 ⟨rfl, hB2⟩
  have K2 := Aside0.mk (blk_below K1.out hB2)
  have HB2 := Aside0.mk (below_then HB1.out HB1.out.size hB2)
  clear hB2 K1 HB1
  obtain ⟨er, her⟩ : ∃ er, chkI nm0 sc0 k0 = er := ⟨_, rfl⟩
  rw [her]
  have HER := Aside0.mk her
  clear her
  go_wp2_with fail
  refine (lnum_any _ _).mono ?_
  rintro e w3 ⟨rfl, rfl⟩
  go_upto_if 22 with fail
  go_cut [] from 19 to 146 (fun wx => ∃ (nm sc : ByteArray) (k : Nat → Int), Aside0 (chkI nm sc k = 0) ∧ Aside0 (∀ i, -9223372036854775808 ≤ k i ∧ k i ≤ 9223372036854775807) ∧ Aside0 (wx.heap[w.heap.size]? = some (.cells (cfgC nm sc k) 23 (0, 0))) ∧ Aside0 (Below w.heap.size w wx))
  case first =>
    by_cases h0 : er = 0
    · have HC : Aside0 (chkI nm0 sc0 k0 = 0) := ⟨HER.out.trans h0⟩
      have HK := Aside0.mk hk0
      subst h0
      clear hk0
      go_wp2_with fail
      go_meet
      exact ⟨nm0, sc0, k0, HC, HK, K2, HB2⟩
    · have hb : (er != 0) = true := bne_iff_ne.2 h0
      go_wp2_with fail
      refine (plain_any w2).mono ?_
      rintro e w3 ⟨rfl, hB3⟩
      have K3 := Aside0.mk (blk_below K2.out hB3)
      have HB3 := Aside0.mk (below_then HB2.out HB2.out.size hB3)
      clear hB3 K2 HB2
      go_wp2_with (first | (refine store_whole rfl rfl rfl (g := w.heap.size) rfl (cfgC nmP scP kP) (by rfl) K3.out (by kernel_rfl) (by rfl) (cfgOne nmP scP kP) ?_; intro w5 h5 hg5) | fail)
      have K5 := Aside0.mk h5
      have HB5 : Aside0 (Below w.heap.size w w5) := ⟨pw_below_grown HB3.out (some w.heap.size) HB3.out.size hg5 (fun q hq => by obtain rfl := Option.some.inj hq; exact Nat.le_refl _)⟩
      clear h5 hg5 K3 HB3
      go_meet
      exact ⟨nmP, scP, kP, ⟨plain_ok⟩, ⟨kP_bd⟩, K5, HB5⟩
  case rest =>
  obtain ⟨nm, sc, k, HC, HK, KB, BB⟩ := hcut
  obtain ⟨wB, rfl⟩ : ∃ wB : World, wB = wc := ⟨_, rfl⟩
  clear K2 HB2 HER HCK
  have hF := Fine.of HC.out
  have hlen := print_len nm sc k HK.out (name_le nm hF.name) hF.short
  have HP : Aside0 (∀ W, Env W → Calls Tryd.prog 22 #[.agg (cfgC nm sc k)] W fun e w' => e = .returned (.tuple #[.string ⟨(printL nm sc k).toArray⟩, .int .i64 0]) ∧ Below W.heap.size W w') := ⟨fun W h => by
    have := print_any nm sc k HK.out W h.utf h.db h.tab
    rw [HC.out, if_pos rfl] at this
    exact this⟩
  have HLN := Aside0.mk hF.lines
  have HLEN := Aside0.mk hlen
  have HMEM := Aside0.mk (line_le nm sc k hlen)
  obtain ⟨y, hy⟩ : ∃ y : ByteArray, (⟨(printL nm sc k).toArray⟩ : ByteArray) = y := ⟨_, rfl⟩
  have hbl : bl y = printL nm sc k := by rw [← hy]; rfl
  have hsz : y.size ≤ 4000 := by rw [← bl_length, hbl]; exact hlen
  rw [hy] at HP
  rw [← hbl] at HLN
  have HF := Aside0.mk hF
  clear hy hbl hlen hF
  go_wp2_with ((with_reducible refine gate_dst (N := 25) rfl ?_); refine wpList_load_row rfl 23 _ rfl w.heap.size rfl 23 (cfgC nm sc k) (0, 0) _ KB.out Tryd.underlying23 rfl (by kernel_rfl) ?_)
  refine (HP.out wB (HE.out.to BB.out)).mono ?_
  rintro e w3 ⟨rfl, hB3⟩
  have K3 := Aside0.mk (blk_below KB.out hB3)
  have HB3 := Aside0.mk (below_then BB.out BB.out.size hB3)
  clear hB3 KB BB HP
  go_wp2_with fail
  refine (lines_any y (by omega) w3).mono ?_
  rintro e w4 ⟨v, ls, rfl, hls, hown, hB4⟩
  have K4 := Aside0.mk (blk_below K3.out hB4)
  have HB4 := Aside0.mk (below_then HB3.out HB3.out.size hB4)
  rw [HLN.out] at hls
  have hl25 : ls.length = 25 := by
    have := congrArg List.length hls
    rw [List.length_map] at this
    exact this
  obtain ⟨gs, c, rfl, hgs, hc1, hc2, cur, hcur, hcells⟩ := hown.cell (fun e => by rw [e] at hl25; cases hl25)
  rw [hl25] at hc1 ⊢
  have HCELL : Aside0 (∀ (j : Nat) (x : ByteArray), ls[j]? = some x → w4.cell? ⟨gs, j, none⟩ = some (.string x)) := ⟨fun j x hj => (blk_cell hcur j).trans (hcells j x hj)⟩
  have hgl : gs < w4.heap.size := blk_lt hcur
  have HLS := Aside0.mk hls
  have H25 := Aside0.mk hl25
  obtain ⟨x0, hx0, hb0⟩ := at_of ls _ hls 0 _ rfl
  obtain ⟨x1, hx1, hb1⟩ := at_of ls _ hls 1 _ rfl
  have hc0 : w4.cell? ⟨gs, 0, none⟩ = some (.string x0) := HCELL.out 0 _ hx0
  have hcc1 : w4.cell? ⟨gs, 1, none⟩ = some (.string x1) := HCELL.out 1 _ hx1
  have HX0 := Aside0.mk hb0
  have HX1 := Aside0.mk hb1
  have hl0 : x0.size ≤ 100 := by
    have := HF.out.name
    have := name_le nm this
    rw [← bl_length, hb0]
    unfold lnR
    simp only [List.length_append, List.length_cons, List.length_nil, bl_length]
    rw [show resB.size = 8 from rfl]
    omega
  clear hB4 hls hl25 hown hcells hcur hgs K3 HB3 HLN hx0 hx1 hb0 hb1
  unfold maxLen at hc2
  go_wp2_with fail
  refine (lnum_any _ _).mono ?_
  rintro e w5 ⟨rfl, rfl⟩
  have HO0 : Aside0 (OwnS w4 w4.heap.size (.slice none 0 0) []) := ⟨World.ownsRow_nil _ _ _ _⟩
  have HBr := Aside0.mk (Below.refl w4.heap.size w4)
  go_wp2_with (at_builtin; refine wpList_append_own _ rfl _ _ 45 rfl w4.heap.size 9 i0 (.string ⟨#[]⟩) 1 16 Tryd.underlying45 hi hz0 hz1 hz2 rfl (by decide) _ _ _ rfl (HO0.out.alloc _) ⟨w4.heap.size, 0, none⟩ 1 1 [.string x1] rfl rfl ?c1 ?c2 ?c3 ?c4 ?c5 ?_)
  case c1 =>
    intro i u hi
    match i, hi with
    | 0, hi => simp at hi; subst hi; simp [Addr.add]
  case c2 => intro u hu; simp at hu; subst hu; rfl
  case c3 => unfold maxLen; simp
  case c4 => simp
  case c5 => simp
  intro v' w6 hown' hgrow _
  have HO6 : Aside0 (∃ ps : List ByteArray, OwnS w6 w4.heap.size v' ps ∧ ps.map bl = (partTx sc k q).take 1) := ⟨⟨[x1], hown', by rw [List.map_cons, List.map_nil, HX1.out]; rfl⟩⟩
  have HB6 : Aside0 (Below w4.heap.size w4 w6) := ⟨(HBr.out.alloc (Nat.le_refl _) _).grown hgrow (by simp) (fun k hk => (HO0.out.lt k hk).1)⟩
  clear hown' hgrow HO0 HBr hcc1
  go_wp2
  go_loopg [8, 9] 3 (fun kq v8 v9 wr => ∃ r : Nat, r ≤ 3 ∧ kq = 3 - r ∧ v9 = .int .i64 (sI r : Nat) ∧ Aside0 (∃ ps : List ByteArray, OwnS wr w4.heap.size v8 ps ∧ ps.map bl = (partTx sc k q).take (r + 1)) ∧ Aside0 (Below w4.heap.size w4 wr))
  case atStart => exact ⟨0, by omega, by omega, rfl, HO6, HB6⟩
  case round =>
    clear HO6 HB6
    obtain ⟨r, hr, rfl, rfl, HO, HB⟩ := hrel
    by_cases hr3 : r < 3
    · obtain ⟨S, hnx, h24, hn10, hsn6⟩ := sec_at nm sc k ls HLS.out r hr3
      have hstep := part_step sc k q r hr3
      obtain ⟨i, hiE⟩ : ∃ i, sI r = i := ⟨_, rfl⟩
      obtain ⟨nx, hnxE⟩ : ∃ nx, sI (r + 1) = nx := ⟨_, rfl⟩
      obtain ⟨sn, hsnE⟩ : ∃ sn, sN r = sn := ⟨_, rfl⟩
      obtain ⟨body, hbE⟩ : ∃ body, sB sc k r = body := ⟨_, rfl⟩
      rw [hiE, hsnE, hbE] at S
      rw [hiE, hnxE, hbE] at hnx
      rw [hnxE] at h24
      rw [hbE] at hn10
      rw [hsnE, hbE] at hstep
      rw [hsnE] at hsn6
      rw [hiE]
      have HSTEP := Aside0.mk hstep
      have HSE := Aside0.mk hnxE
      clear hiE hnxE hsnE hbE hstep
      obtain ⟨xh, hxh, hbh⟩ := S.head
      have hch : wr.cell? ⟨gs, i, none⟩ = some (.string xh) := (HB.out.cell (p := ⟨gs, i, none⟩) hgl).trans (HCELL.out _ _ hxh)
      have hb1 := S.some
      have HS := Aside0.mk S
      have HXH := Aside0.mk hbh
      have hxs : xh.size ≤ 100 := by
        rw [← bl_length, hbh]
        unfold lnH
        simp only [List.length_append, List.length_cons, List.length_nil, bl_length]
        rw [show ((⟨#[32, 32]⟩ : ByteArray)).size = 2 from rfl]
        omega
      have hov : ¬ 9223372036854775807 < xh.size + 1 := by omega
      obtain ⟨n, hn⟩ : ∃ n, body.length = n := ⟨_, rfl⟩
      rw [hn] at hb1 hnx hn10
      have HN := Aside0.mk hn
      obtain ⟨e, he⟩ : ∃ e, i + 1 + n = e := ⟨_, rfl⟩
      have he1 : i + 1 + n ≤ e := by omega
      have he2 : e ≤ i + 1 + n := by omega
      have hnx1 : nx ≤ e + 1 := by omega
      have hnx2 : e + 1 ≤ nx := by omega
      have hd : decide ((i : Int) < 24) = true := decide_eq_true (by omega)
      obtain ⟨wo, rfl⟩ : ∃ wo : World, wo = wr := ⟨_, rfl⟩
      clear S hxh hbh hn he hnx
      go_wp2_with fail
      go_loopg [10] (e - (i + 1)) (fun kq v10 wr' => ∃ p : Nat, i + 1 ≤ p ∧ p ≤ e ∧ kq = e - p ∧ v10 = .int .i64 p ∧ wo = wr')
      case atStart => exact ⟨i + 1, by omega, by omega, rfl, by go_num, rfl⟩
      case round =>
        obtain ⟨p, hp1, hp2, rfl, rfl, rfl⟩ := hrel
        by_cases hlt : p < e
        · obtain ⟨x, hx, _, hne⟩ := HS.out.line (p - i - 1) (by rw [HN.out]; omega)
          rw [show i + 1 + (p - i - 1) = p by omega] at hx
          have hcp : wo.cell? ⟨gs, p, none⟩ = some (.string x) := (HB.out.cell (p := ⟨gs, p, none⟩) hgl).trans (HCELL.out _ _ hx)
          have hd1 : decide ((p : Int) < 25) = true := decide_eq_true (by omega)
          have ht : (x.toList == [32, 32, 125]) = false := beq_eq_false_iff_ne.2 (fun e => hne (by rw [← toList_blN, e]; rfl))
          clear hx hne
          go_wp2
          go_roundg (e - (p + 1))
          case measure => omega
          case rel => exact ⟨p + 1, by omega, by omega, rfl, by go_num, rfl⟩
        · have hpe : p = e := by omega
          subst hpe
          obtain ⟨x, hx, hbx⟩ := HS.out.last
          rw [HN.out, show i + 1 + n = p by omega] at hx
          have hcp : wo.cell? ⟨gs, p, none⟩ = some (.string x) := (HB.out.cell (p := ⟨gs, p, none⟩) hgl).trans (HCELL.out _ _ hx)
          have hd1 : decide ((p : Int) < 25) = true := decide_eq_true (by omega)
          have hd2 : decide ((25 : Int) ≤ (p : Int)) = false := decide_eq_false (by omega)
          have hd3 : ((p : Int) == (i : Int) + 1) = false := beq_eq_false_iff_ne.2 (by omega)
          have ht : (x.toList == [32, 32, 125]) = true := beq_iff_eq.2 (by rw [toList_blN, hbx]; rfl)
          clear hx hbx
          go_wp2_with fail
          have hsubl : ((ls.drop (i + 1)).take n).length = p - (i + 1) := by
            rw [List.length_take, List.length_drop, H25.out]
            omega
          have hmapS : (((ls.drop (i + 1)).take n)).map bl = body := by
            have := HS.out.sub
            rw [HN.out] at this
            exact this
          obtain ⟨sub, hsubE⟩ : ∃ sub, (ls.drop (i + 1)).take n = sub := ⟨_, rfl⟩
          refine (turned_n sub (p - (i + 1)) (by rw [← hsubE]; exact hsubl) gs (i + 1) (c - (i + 1)) q wo (by omega) (by omega) (fun j x hj => (HB.out.cell (p := ⟨gs, i + 1 + j, none⟩) hgl).trans (HCELL.out _ _ (by
            rw [← hsubE] at hj
            have hjl : j < ((ls.drop (i + 1)).take n).length := (List.getElem?_eq_some_iff.1 hj).1
            rw [hsubl] at hjl
            rw [List.getElem?_take, if_pos (by omega), List.getElem?_drop] at hj
            exact hj))) (by have := HB.out.size; omega)).mono ?_
          rintro e w7 ⟨v12, rfl, hown, hB7⟩
          have HB7 := Aside0.mk (below_then HB.out HB.out.size hB7)
          have hil : (turnedL sub q).length = n := by rw [turned_length, ← hsubE, hsubl]; omega
          have HIM : Aside0 ((turnedL sub q).map bl = turnedL body q) := ⟨by rw [turned_map, ← hsubE, hmapS]⟩
          have HO7 : Aside0 (∃ ps : List ByteArray, OwnS w7 w4.heap.size _ ps ∧ ps.map bl = (partTx sc k q).take (r + 1)) := ⟨by
            obtain ⟨ps, h1, h2⟩ := HO.out
            exact ⟨ps, pw_own_below h1 hB7, h2⟩⟩
          generalize turnedL sub q = il at *
          obtain ⟨g12, c12, rfl, _, hc12, hc12m, cur, hcur, hcells⟩ := hown.cell (fun e => by rw [e] at hil; simp at hil; omega)
          rw [hil] at hc12 ⊢
          have HC12 : Aside0 (∀ (j : Nat) (x : ByteArray), il[j]? = some x → w7.cell? ⟨g12, j, none⟩ = some (.string x)) := ⟨fun j x hj => (blk_cell hcur j).trans (hcells j x hj)⟩
          have HIL := Aside0.mk hil
          have HIS : Aside0 (∀ (j : Nat) (x : ByteArray), il[j]? = some x → x.size ≤ 4000) := ⟨fun j x hj => by
            have hm : bl x ∈ il.map bl := List.mem_map_of_mem (List.mem_of_getElem? hj)
            rw [HIM.out] at hm
            have hm2 := HS.out.mem _ ((turned_perm _ q).mem_iff.1 hm)
            rw [HLS.out] at hm2
            have := HMEM.out _ hm2
            rwa [bl_length] at this⟩
          unfold maxLen at hc12m
          have hz0 : bl (xh ++ (⟨#[10]⟩ : ByteArray)) = lnH sn ++ [10] := by rw [bl_app, HXH.out]; rfl
          have hzs0 : (xh ++ (⟨#[10]⟩ : ByteArray)).size ≤ 200 := by rw [ByteArray.size_append]; show xh.size + 1 ≤ _; omega
          obtain ⟨zh, hzh⟩ : ∃ zh, xh ++ (⟨#[10]⟩ : ByteArray) = zh := ⟨_, rfl⟩
          rw [hzh] at hz0 hzs0
          have HZH := Aside0.mk hzh
          have HZ0 := Aside0.mk hz0
          clear hown hB7 hil hcur hcells hsubl hmapS hsubE hz0 hzh hcp hch HO HB
          go_wp2_with fail
          go_loopg [11, 13] n (fun kq v11 v13 wr' => ∃ (t : Nat) (z : ByteArray), t ≤ n ∧ kq = n - t ∧ v11 = .string z ∧ v13 = .int .i64 t ∧ z.size ≤ 200 + 5000 * t ∧ Aside0 (bl z = lnH sn ++ [10] ++ joinN ((turnedL body q).take t)) ∧ w7 = wr')
          case atStart => exact ⟨0, xh ++ (⟨#[10]⟩ : ByteArray), by omega, by omega, rfl, rfl, by rw [HZH.out]; omega, ⟨by rw [HZH.out, HZ0.out]; simp [joinN]⟩, rfl⟩
          case round =>
            obtain ⟨t, z, ht1, rfl, rfl, rfl, hzs, HZ, rfl⟩ := hrel
            by_cases hlt : t < n
            · have hd5 : decide ((t : Int) < n) = true := decide_eq_true (by omega)
              obtain ⟨x, hx⟩ : ∃ x, il[t]? = some x := ⟨_, List.getElem?_eq_getElem (by rw [HIL.out]; exact hlt)⟩
              have hxs5 := HIS.out t x hx
              have hcx := HC12.out t x hx
              have hZ2 : bl (z ++ x ++ (⟨#[10]⟩ : ByteArray)) = lnH sn ++ [10] ++ joinN ((turnedL body q).take (t + 1)) := by
                have hbx : (turnedL body q)[t]? = some (bl x) := by rw [← HIM.out, List.getElem?_map, hx]; rfl
                rw [join_take _ _ _ hbx, bl_app, bl_app, HZ.out]
                simp only [List.append_assoc]
                rfl
              have HZ2 := Aside0.mk hZ2
              have hzs2 : (z ++ x ++ (⟨#[10]⟩ : ByteArray)).size ≤ 200 + 5000 * (t + 1) := by
                rw [ByteArray.size_append, ByteArray.size_append]
                show z.size + x.size + 1 ≤ _
                omega
              have hov1 : ¬ 9223372036854775807 < z.size + x.size := by omega
              have hov2 : ¬ 9223372036854775807 < z.size + x.size + 1 := by omega
              clear hx hZ2 HZ
              go_wp2
              go_roundg (n - (t + 1))
              case measure => omega
              case rel => exact ⟨t + 1, _, by omega, rfl, rfl, by go_num, hzs2, HZ2, rfl⟩
            · have hd5 : decide ((t : Int) < n) = false := decide_eq_false (by omega)
              have htn : t = n := by omega
              subst htn
              have HZ3 : Aside0 (bl (z ++ (⟨#[125]⟩ : ByteArray)) = secTx sn (turnedL body q)) := ⟨by
                have := HZ.out
                rw [List.take_of_length_le (by rw [turned_length, HN.out]; exact Nat.le_refl _)] at this
                rw [bl_app, this]
                rfl⟩
              have hov3 : ¬ 9223372036854775807 < z.size + 1 := by omega
              have HBs := HB7.out.size
              obtain ⟨ps, hps, hpm⟩ := HO7.out
              have HPS := Aside0.mk hps
              have HPM := Aside0.mk hpm
              have hpl : ps.length ≤ 4 := by
                have := congrArg List.length hpm
                rw [List.length_map, List.length_take] at this
                omega
              clear hps hpm HO7 HZ
              go_wp2_with (at_builtin; refine wpList_append_own _ rfl _ _ 45 rfl w4.heap.size 9 i0 (.string ⟨#[]⟩) 1 16 Tryd.underlying45 hi hz0 hz1 hz2 rfl (by decide) _ _ _ rfl (HPS.out.alloc _) ⟨w7.heap.size, 0, none⟩ 1 1 [.string (z ++ (⟨#[125]⟩ : ByteArray))] rfl rfl ?c1 ?c2 ?c3 ?c4 ?c5 ?_)
              case c1 =>
                intro i u hi
                match i, hi with
                | 0, hi => simp at hi; subst hi; simp [Addr.add]
              case c2 => intro u hu; simp at hu; subst hu; rfl
              case c3 => unfold maxLen; omega
              case c4 => omega
              case c5 => simp; omega
              intro v8 w8 hown' hgrow _
              have HO8 : Aside0 (∃ ps : List ByteArray, OwnS w8 w4.heap.size v8 ps ∧ ps.map bl = (partTx sc k q).take (r + 1 + 1)) := ⟨⟨ps ++ [z ++ (⟨#[125]⟩ : ByteArray)], by
                unfold OwnS
                rw [List.length_append, List.map_append]
                exact hown', by
                rw [List.map_append, HPM.out, List.map_cons, List.map_nil, HZ3.out]
                exact HSTEP.out.symm⟩⟩
              have HB8 : Aside0 (Below w4.heap.size w4 w8) := ⟨(HB7.out.alloc HBs _).grown hgrow (by simp; omega) (fun k hk => (HPS.out.lt k hk).1)⟩
              clear hown' hgrow HPS HB7
              have hnxe : ((t : Int) + 1 = t + 1) := rfl
              clear hnxe
              go_wp2
              go_roundg (3 - (r + 1))
              case measure => omega
              case rel =>
                refine ⟨r + 1, by omega, rfl, ?_, HO8, HB8⟩
                rw [HSE.out]
                congr 1
                omega
    · have hr3e : r = 3 := by omega
      subst hr3e
      rw [show sI 3 = 24 from rfl]
      obtain ⟨ps, hps, hpm⟩ := HO.out
      have hp4 : ps.length = 4 := by
        have := congrArg List.length hpm
        rw [List.length_map] at this
        exact this
      have hpm' : ps.map bl = partTx sc k q := hpm
      obtain ⟨g8, c8, rfl, _, hc8, hc8m, cur, hcur, hcells⟩ := hps.cell (fun e => by rw [e] at hp4; cases hp4)
      rw [hp4] at hc8 ⊢
      have HC8 : Aside0 (∀ (j : Nat) (x : ByteArray), ps[j]? = some x → wr.cell? ⟨g8, j, none⟩ = some (.string x)) := ⟨fun j x hj => (blk_cell hcur j).trans (hcells j x hj)⟩
      have hg8 : g8 < wr.heap.size := blk_lt hcur
      have hcx0 : wr.cell? ⟨gs, 0, none⟩ = some (.string x0) := (HB.out.cell (p := ⟨gs, 0, none⟩) hgl).trans hc0
      have hov0 : ¬ 9223372036854775807 < x0.size + 1 := by omega
      have HP4 := Aside0.mk hp4
      have HPM := Aside0.mk hpm'
      have K5 := Aside0.mk (blk_below K4.out HB.out)
      have HB5 := Aside0.mk (below_then HB4.out HB4.out.size HB.out)
      unfold maxLen at hc8m
      clear hps hpm hpm' hp4 hcur hcells HO HB K4 HB4
      go_wp2_with fail
      obtain ⟨q7, hq7⟩ : ∃ q7, wrap64 (q.tdiv 7) = q7 := ⟨_, rfl⟩
      rw [hq7]
      clear hq7
      refine (turned_n ps 4 HP4.out g8 0 c8 q7 wr (by omega) (by omega) (fun j x hj => by rw [Nat.zero_add]; exact HC8.out j x hj) hg8).mono ?_
      rintro e w7 ⟨v12, rfl, hown, hB7⟩
      have HB7 := Aside0.mk (below_then HB5.out HB5.out.size hB7)
      have K7 := Aside0.mk (blk_below K5.out hB7)
      have hil : (turnedL ps q7).length = 4 := by rw [turned_length, HP4.out]
      have HIM : Aside0 ((turnedL ps q7).map bl = turnedL (partTx sc k q) q7) := ⟨by rw [turned_map, HPM.out]⟩
      generalize turnedL ps q7 = il at *
      obtain ⟨g12, c12, rfl, _, hc12, hc12m, cur, hcur, hcells⟩ := hown.cell (fun e => by rw [e] at hil; simp at hil)
      rw [hil] at hc12 ⊢
      have HC12 : Aside0 (∀ (j : Nat) (x : ByteArray), il[j]? = some x → w7.cell? ⟨g12, j, none⟩ = some (.string x)) := ⟨fun j x hj => (blk_cell hcur j).trans (hcells j x hj)⟩
      have HIL := Aside0.mk hil
      have HOL := Aside0.mk (order_len nm sc k q q7)
      have HIS : Aside0 (∀ (j : Nat) (x : ByteArray), il[j]? = some x → x.size ≤ 4000) := ⟨fun j x hj => by
        have hm : bl x ∈ il.map bl := List.mem_map_of_mem (List.mem_of_getElem? hj)
        rw [HIM.out] at hm
        have h1 : (bl x).length ≤ (orderL nm sc k q q7).length := by
          unfold orderL
          obtain ⟨a, b, e⟩ := List.append_of_mem hm
          rw [e]
          unfold joinN
          simp only [List.length_append, List.flatMap_append, List.flatMap_cons]
          omega
        have h2 := HOL.out
        have h3 := HLEN.out
        rw [bl_length] at h1
        omega⟩
      unfold maxLen at hc12m
      have hz0 : bl (x0 ++ (⟨#[10]⟩ : ByteArray)) = lnR nm ++ [10] := by rw [bl_app, HX0.out]; rfl
      have hzs0 : (x0 ++ (⟨#[10]⟩ : ByteArray)).size ≤ 200 := by rw [ByteArray.size_append]; show x0.size + 1 ≤ _; omega
      have HZ0 := Aside0.mk hz0
      have HZS0 := Aside0.mk hzs0
      clear hown hB7 hil hcur hcells hz0 hzs0 hcx0 hc0 HC8 HPM HP4 K5 HB5
      go_wp2_with fail
      go_loopg [14, 15] 4 (fun kq v14 v15 wr' => ∃ (t : Nat) (z : ByteArray), t ≤ 4 ∧ kq = 4 - t ∧ v14 = .string z ∧ v15 = .int .i64 t ∧ z.size ≤ 200 + 5000 * t ∧ Aside0 (bl z = lnR nm ++ [10] ++ joinN ((turnedL (partTx sc k q) q7).take t)) ∧ w7 = wr')
      case atStart => exact ⟨0, x0 ++ (⟨#[10]⟩ : ByteArray), by omega, by omega, rfl, rfl, HZS0.out, ⟨by rw [HZ0.out]; simp [joinN]⟩, rfl⟩
      case round =>
        obtain ⟨t, z, ht1, rfl, rfl, rfl, hzs, HZ, rfl⟩ := hrel
        by_cases hlt : t < 4
        · have hd5 : decide ((t : Int) < 4) = true := decide_eq_true (by omega)
          obtain ⟨x, hx⟩ : ∃ x, il[t]? = some x := ⟨_, List.getElem?_eq_getElem (by rw [HIL.out]; exact hlt)⟩
          have hxs5 := HIS.out t x hx
          have hcx := HC12.out t x hx
          have hZ2 : bl (z ++ x ++ (⟨#[10]⟩ : ByteArray)) = lnR nm ++ [10] ++ joinN ((turnedL (partTx sc k q) q7).take (t + 1)) := by
            have hbx : (turnedL (partTx sc k q) q7)[t]? = some (bl x) := by rw [← HIM.out, List.getElem?_map, hx]; rfl
            rw [join_take _ _ _ hbx, bl_app, bl_app, HZ.out]
            simp only [List.append_assoc]
            rfl
          have HZ2 := Aside0.mk hZ2
          have hzs2 : (z ++ x ++ (⟨#[10]⟩ : ByteArray)).size ≤ 200 + 5000 * (t + 1) := by
            rw [ByteArray.size_append, ByteArray.size_append]
            show z.size + x.size + 1 ≤ _
            omega
          have hov1 : ¬ 9223372036854775807 < z.size + x.size := by omega
          have hov2 : ¬ 9223372036854775807 < z.size + x.size + 1 := by omega
          clear hx hZ2 HZ
          go_wp2
          go_roundg (4 - (t + 1))
          case measure => omega
          case rel => exact ⟨t + 1, _, by omega, rfl, rfl, by go_num, hzs2, HZ2, rfl⟩
        · have ht4 : t = 4 := by omega
          subst ht4
          have hbz : bl (z ++ (⟨#[125]⟩ : ByteArray)) = orderL nm sc k q q7 := by
            have := HZ.out
            rw [List.take_of_length_le (by rw [turned_length]; exact Nat.le_refl 4)] at this
            rw [bl_app, this]
            rfl
          have hsz2 : (z ++ (⟨#[125]⟩ : ByteArray)).size ≤ 4000 := by
            rw [← bl_length, hbz]
            have h2 := HOL.out
            have h3 := HLEN.out
            omega
          obtain ⟨k', hr, hk'⟩ := HF.out.order q q7 _ hbz
          have HR : Aside0 (∀ W, Calls Tryd.prog 24 #[.string (z ++ (⟨#[125]⟩ : ByteArray))] W fun e w' => e = .returned (.tuple #[.agg (cfgC nm sc k), .int .i64 0, .int .i64 0]) ∧ Below W.heap.size W w') := ⟨fun W => by
            have := confparse_any _ W _ ((parseP_short _ (by omega)).trans hr)
            rw [parseV_same nm sc k k' hk'] at this
            exact this⟩
          have hov3 : ¬ 9223372036854775807 < z.size + 1 := by omega
          have hlt7 : w.heap.size < w7.heap.size := blk_lt K7.out
          clear hr hk' hbz hsz2 HZ
          go_wp2_with fail
          refine (HR.out w7).mono ?_
          rintro e w8 ⟨rfl, hB8⟩
          have K8 := Aside0.mk (blk_below K7.out hB8)
          have HB8 := Aside0.mk (below_then HB7.out HB7.out.size hB8)
          have hlt8 : w.heap.size < w8.heap.size := blk_lt K8.out
          clear hB8 HB7 K7
          go_wp2_with (first | (refine store_whole rfl rfl rfl (g := w8.heap.size) rfl (cfgC nm sc k) (by rfl) (blk_new w8 _) (by kernel_rfl) (by rfl) (cfgOne _ _ _) ?_; intro w9 h9 hg9) | fail)
          have HB9 := Aside0.mk (below_vr HB8.out HB8.out.size hg9)
          have K9 := Aside0.mk (grown_blk hg9 (blk_alloc K8.out _) (by omega))
          have L9 := Aside0.mk h9
          clear hg9 HB8 h9 K8
          refine (lnum_any _ _).mono ?_
          rintro e w10 ⟨rfl, rfl⟩
          generalize w8.heap.size = b8 at *
          go_wp2_with (first
            | ((with_reducible refine gate_dst (N := 143) rfl ?_); refine wpList_load_g rfl rfl rfl rfl 23 _ rfl b8 rfl 23 (cfgC nm sc k) (0, 0) _ L9.out Tryd.underlying23 rfl (by kernel_rfl) ?_)
            | ((with_reducible refine gate_dst (N := 144) rfl ?_); refine wpList_load_g rfl rfl rfl rfl 23 _ rfl w.heap.size rfl 23 (cfgC nm sc k) (0, 0) _ K9.out Tryd.underlying23 rfl (by kernel_rfl) ?_)
            | ((with_reducible refine gate_dst (N := 145) rfl ?_); refine wpList_cmp_g rfl rfl rfl rfl .eql 23 _ _ _ rfl _ _ rfl rfl true (cfg_eql _ _ nm sc k _) ?_)
            | fail)
          go_ret
          exact ⟨rfl, HB9.out⟩

/-! ### THE ROW's STEP -/
theorem gT : Tryd.prog.globalNamed "internal/strconv.uint64pow10" = some 2 := by kernel_rfl
theorem tab_of {W : World} (h : laidMet Tryd.prog Rows.confOrderRow.laid W) : Tab10 W := by
  have h1 := h.filter fun x => x.1 == "internal/strconv.uint64pow10"
  have e : (Rows.confOrderRow.laid.filter fun x => x.1 == "internal/strconv.uint64pow10") = [("internal/strconv.uint64pow10", Lib.tabData .u64 Lib.pow10Tab)] := by kernel_rfl
  rw [e] at h1
  exact Lib.tabBelow_of_tabIs (Lib.tabIs_of_head gT (t := 148) (e := 131) (n := 20) (by kernel_rfl) Tryd.underlying148 Tryd.underlying131 (by kernel_rfl) (by kernel_rfl) h1)
def dbTab : List Int := [0, 1, 56, 2, 57, 49, 28, 3, 61, 58, 42, 50, 38, 29, 17, 4, 62, 47, 59, 36, 45, 43, 51, 22, 53, 39, 33, 30, 24, 18, 12, 5, 63, 55, 48, 27, 60, 41, 37, 16, 46, 35, 44, 21, 52, 32, 23, 11, 54, 26, 40, 15, 34, 20, 31, 10, 25, 14, 19, 9, 13, 8, 7, 6]
theorem gD : Tryd.prog.globalNamed "math/bits.deBruijn64tab" = some 4 := by kernel_rfl
theorem db_of {W : World} (h : laidMet Tryd.prog Rows.confOrderRow.laid W) : DB W := by
  have h1 := h.filter fun x => x.1 == "math/bits.deBruijn64tab"
  have e : (Rows.confOrderRow.laid.filter fun x => x.1 == "math/bits.deBruijn64tab") = [("math/bits.deBruijn64tab", Lib.tabData .u8 dbTab)] := by kernel_rfl
  rw [e] at h1
  have hT := Lib.tabBelow_of_tabIs (Lib.tabIs_of_head gD (t := 156) (e := 5) (n := 64) (by kernel_rfl) Tryd.underlying156 Tryd.underlying5 (by kernel_rfl) (by kernel_rfl) h1)
  exact fun w' hb => Lib.TabIs.cell (hT w' hb) gD 15 (by decide)
theorem env_of {W : World} (h : laidMet Tryd.prog Rows.confOrderRow.laid W) : Env W := ⟨utf_of h (by kernel_rfl) (by kernel_rfl), db_of h, tab_of h⟩
set_option maxRecDepth 100000 in
theorem lifted (os : Os) (started : os.Started) (H : Type) (enc : TypeId × Value → H) :
    ReturnsInHanded {} Tryd.checked os 13 .any (fun w args => (Rows.confOrderSpec.pre enc Tryd.prog Tryd.f13 Rows.confOrderRow.domain false w args ∧ laidMetH Tryd.prog Rows.confOrderRow.laid w) ∧ sizedMet enc Tryd.prog Tryd.f13 (OpenSpec.ofChange Rows.confOrderSpec) false w args)
      (Rows.confOrderSpec.post enc Tryd.prog Tryd.f13 false true false false) := by
  refine returnsInHanded_of_change_and (C := Tryd.checked) (X := fun w _ => laidMetH Tryd.prog Rows.confOrderRow.laid w) (fun _ _ _ hh h => h.of_heap hh) ownC started (by kernel_rfl) Tryd.func13
    (ChangeSpec.witness_shaped (enc := enc) (C := Tryd.checked) (os := os) (X := fun w _ => laidMetH Tryd.prog Rows.confOrderRow.laid w) false (World.laidAll Tryd.prog os Rows.confOrderRow.laid) #[.agg (cfgC ByteArray.empty ByteArray.empty fun _ => 0), .int .i64 0] 8 (World.laidAll_os _ _ _)
      (World.shaped_of_ZipB (by kernel_rfl) (by kernel_rfl)) (by kernel_rfl) (by kernel_rfl) (by kernel_rfl)
      (by rw [MakeChecks.laidMetH_plain _ _ _ (by kernel_rfl)]; exact laidMet_laidAll _ (by kernel_rfl) (by kernel_rfl))) ?_
  intro W base args ds gs before hval0 hW hc hsz0 hL _
  rw [MakeChecks.laidMetH_plain _ _ _ (by kernel_rfl)] at hL
  have hval : ∀ (j : Nat) t v, Tryd.f13.params[j]? = some t → args[j]? = some v → Value.okWide Tryd.prog W .any base t v := hval0
  have hW' := hW
  obtain ⟨p, q, hA0, hV, rfl, _, _⟩ := hW
  have hA : DataW.TrodAll enc Tryd.prog W 0 (fun _ => true) true Tryd.f13.params.toList args.toList ds p := hA0
  rw [Tryd.params13] at hA hval
  obtain ⟨v0, v1, d0, d1, p0, p1, rfl, rfl, rfl, h0, h1⟩ := trodAll_two hA
  obtain ⟨rfl, rfl⟩ := trodVars_none hV
  obtain ⟨nm, sc, k, rfl, hk⟩ := open_config (hval 0 23 v0 rfl rfl)
  obtain ⟨n1, rfl, rfl, rfl, y1⟩ := open_int Tryd.underlying3 (hval 1 3 v1 rfl rfl) h1
  have b1 : -9223372036854775808 ≤ n1 ∧ n1 ≤ 9223372036854775807 := by
    have h2 : (decide ((-9223372036854775808 : Int) ≤ n1) && decide (n1 ≤ (9223372036854775807 : Int))) = true := y1
    simpa using h2
  clear hA0 hval0 hsz0
  simp only [List.append_nil] at hW'
  have hlt : ∀ x ∈ p0, x.block < W.heap.size := fun x hx => by simpa using hW'.lt x (by simp [hx])
  refine (walk nm sc k hk n1 b1 W (env_of hL)).mono fun e W' ⟨he, bel⟩ => ?_
  subst he
  exact ⟨_, rfl, _, _, _, [], _, [], hW', trodAll_mk1 (shut_bool Tryd.underlying4 _), trodAll_mk2 (Below.trod laidC (by kernel_rfl) (of_decide_eq_true (by kernel_rfl)) h0 bel hlt) (shut_int Tryd.underlying3 y1), rfl, bel.frame _, fun h => by cases h⟩

theorem row_holds : Rows.ConfOrderSaid :=
  OpenClaim.holds_of_wide 13 Tryd.f13 rfl rfl rfl rfl rfl rfl rfl ⟨rfl, rfl, rfl, rfl, rfl⟩ rfl rfl rfl rfl rfl (by kernel_rfl) Tryd.func13 (by kernel_rfl)
    (of_decide_eq_true (by kernel_rfl)) (by unfold Func.isWrapper; first | (rw [if_pos (by decide +kernel)]; kernel_rfl) | (rw [if_neg (by decide +kernel)]; exact ⟨rfl, rfl⟩))
    (fun os started H enc _ => lifted os started H enc)

/-- The tied card of ConfOrder holds. -/
theorem proved : Rows.ConfOrderCardSaid :=
  Claim7.holds_tied_plain_at .later [] [.data, .data, .data, .data, .sentinel, .sentinel, .pinned] true (true, "d00b676bce2552af46cfae2229684cff95e92bfc764e18822df88b7b060a56ac") true row_holds (fun _ h => by cases h) (by kernel_rfl) (fun _ h => by cases h) confOrder_row_tie rfl ⟨rfl, rfl⟩ (by kernel_rfl) rfl
    (fun f fn hf hfn => by
      obtain rfl : f = 13 := Option.some.inj ((show Tryd.prog.funcNamed "replica/replicalaw12.ConfOrder" = some 13 by kernel_rfl).symm.trans hf) |>.symm
      obtain rfl : fn = Tryd.f13 := (Option.some.inj (Tryd.func13.symm.trans hfn)).symm
      exact ⟨by kernel_rfl, fun j t ht => by
        rw [Tryd.params13] at ht
        have hm : t ∈ [23, 3] := by simpa using Array.mem_of_getElem? ht
        have hall : ([23, 3].all fun u => !Tryd.prog.wantsStandIn u) = true := by kernel_rfl
        have h8 := List.all_eq_true.1 hall t hm
        have h9 : Tryd.prog.wantsStandIn t = false := by simpa using h8
        exact h9⟩)
    (by kernel_rfl)
#print axioms proved
end Go.Proofs.YtfecfgimfjcbdaaDoor.confOrder
