/- The reference's file: walked. -/
import Derived.Test.YtfecfgimfjcbdaaGreatDoorKConfYo
namespace Go.Proofs.YtfecfgimfjcbdaaGreatDoor.Cf
open Go.RowKit Go.Proofs.YtfecfgimfjcbdaaGreatDoorW.PrintWords Go.Proofs.YtfecfgimfjcbdaaGreatDoorW.PrintLast Go.Proofs.YtfecfgimfjcbdaaGreatDoorW.PrintMore Go.Proofs.YtfecfgimfjcbdaaGreatDoor.QRParse

def FlPost (g : Nat) (w : World) (o : Except (Nat × Int) (ByteArray × ByteArray × (Nat → Int))) (e : Ending) (w' : World) : Prop :=
  match o with
  | .ok (nm, sc, k) => e = .returned (.bool true) ∧ (∃ lv v bad pos, FileAt w' g lv v bad pos ∧ v.nm = nm ∧ v.sc = sc ∧ ∀ i, i < 16 → confK v i = k i) ∧ Ch [g] w w'
  | .error (a, er) => e = .returned (.bool false) ∧ FaultAt w' g er a ∧ Ch [g] w w'
theorem res_list : resB.toList = [114, 101, 115, 111, 117, 114, 99, 101] := by rw [toList_blN]; rfl
set_option maxRecDepth 100000 in
set_option maxHeartbeats 2000000 in
theorem rfile_any {w : World} {g : Nat} {lv : Value} {T : List TkT} {s : ByteArray} (hs : s.size ≤ 1000000) {v0 : FV} (h : RF w g lv T s v0 0) (hv1 : v0.sc = ⟨#[]⟩) (hv2 : v0.th = fun _ => false) (hv3 : v0.st = false)
    {out : Except (Nat × Int) (ByteArray × ByteArray × (Nat → Int))} (hout : resP s = out) :
    Calls Tryz.prog 10 #[.pointer (some ⟨g, 0, none⟩)] w (FlPost g w out) := by
  have HQ := Aside0.mk hout
  have H0 := Aside0.mk h
  have hg := h.lt
  have hlow := Aside0.mk h.low
  have HV := Aside0.mk (And.intro hv1 (And.intro hv2 hv3))
  clear hout h hv1 hv2 hv3
  unfold resP at HQ
  rw [wantP] at HQ
  go_enter Tryz.func10, Tryz.ntmps10
  go_wp2_with fail
  cases hn : nextP s 0 with
  | error a =>
    rw [hn] at HQ
    obtain rfl : out = .error (a, 121) := HQ.out.symm
    refine (rnext_any H0.out hn).mono ?_
    rintro e w1 ⟨⟨t, rfl⟩, f1, c1⟩
    dsimp only [tkC]
    clear HQ H0 HV hn
    go_wp2_with fail
    go_ret
    exact ⟨rfl, f1.alloc _, c1.alloc _⟩
  | ok y =>
    obtain ⟨kd, a, x, q⟩ := y
    rw [hn] at HQ
    dsimp only at HQ
    refine (rnext_any H0.out hn).mono ?_
    rintro e w1 ⟨rfl, r1, c1⟩
    dsimp only [tkC]
    have R1 := Aside0.mk r1
    have C1 := Aside0.mk c1
    clear r1 c1 hn
    by_cases hc : kd = 0 ∧ x.toList = resB.toList
    · rw [if_pos hc] at HQ
      dsimp only at HQ
      obtain ⟨rfl, hx⟩ := hc
      have hxb : (x.toList == [114, 101, 115, 111, 117, 114, 99, 101]) = true := beq_iff_eq.2 (hx.trans res_list)
      clear hx
      go_wp2_with fail
      have T1 := Aside0.mk (blk_new w1 (.cells #[.int .i64 2, .int .i64 (a : Int), .string x] 63))
      have R2 := Aside0.mk (R1.out.alloc (.cells #[.int .i64 2, .int .i64 (a : Int), .string x] 63))
      have C2 := Aside0.mk (C1.out.alloc (.cells #[.int .i64 2, .int .i64 (a : Int), .string x] 63))
      have hw1 := C1.out.size
      clear R1 C1
      generalize w1.alloc (.cells #[.int .i64 2, .int .i64 (a : Int), .string x] 63) = w2 at *
      generalize w1.heap.size = tb at *
      have htg : tb ≠ g := by omega
      cases hn : nextP s q with
      | error a2 =>
        rw [hn] at HQ
        obtain rfl : out = .error (a2, 121) := HQ.out.symm
        refine (rnext_any R2.out hn).mono ?_
        rintro e w3 ⟨⟨t, rfl⟩, f1, c1⟩
        have T3 := c1.blk T1.out (by simpa using htg)
        obtain ⟨k0, k1, k2, y0, y1, y2⟩ := row3 T3
        dsimp only [tkC]
        clear HQ H0 HV hn T1 R2 T3
        go_wp2_with fail
        go_ret
        have hl := f1
        exact ⟨rfl, f1.res (by omega) (Ch.set3 tb _ _ _) (by obtain ⟨_, _, hf⟩ := f1; exact blk_lt hf), (C2.out.trans c1).high (Ch.set3 tb _ _ _) (by simp; omega)⟩
      | ok y =>
        obtain ⟨kd2, a2, x2, q2⟩ := y
        rw [hn] at HQ
        dsimp only at HQ
        refine (rnext_any R2.out hn).mono ?_
        rintro e w3 ⟨rfl, r3, c3⟩
        have T3 := Aside0.mk (c3.blk T1.out (by simpa using htg))
        obtain ⟨k0, k1, k2, y0, y1, y2⟩ := row3 T3.out
        have R3 := Aside0.mk r3
        have C3 := Aside0.mk (C2.out.trans c3)
        dsimp only [tkC]
        clear T1 R2 C2 hn r3 c3
        by_cases hk2 : kd2 = 0
        · subst hk2
          rw [if_neg (by simp)] at HQ
          have R4 := Aside0.mk (R3.out.high (Ch.set3 (w := w3) tb (.int .i64 2) (.int .i64 (a2 : Int)) (.string x2)) (B := tb) (by simp) (by omega) (fun b n c e => by have := hlow.out b n c e; omega))
          have C4 := Aside0.mk (C3.out.high (Ch.set3 (w := w3) tb (.int .i64 2) (.int .i64 (a2 : Int)) (.string x2)) (by simp; omega))
          have T4 := Aside0.mk (put3 T3.out (.int .i64 2) (.int .i64 (a2 : Int)) (.string x2))
          clear R3 C3 T3
          go_wp2_with fail
          generalize (((w3.setCell ⟨tb, 0, none⟩ (.int .i64 2)).setCell ⟨tb, 1, none⟩ (.int .i64 (a2 : Int))).setCell ⟨tb, 2, none⟩ (.string x2)) = w4 at *
          refine (rname_any x2 w4).mono ?_
          rintro e w5 ⟨rfl, hB⟩
          have T5 := blk_below T4.out hB
          have R5 := Aside0.mk (R4.out.keep (Ch.of_below hB []))
          have C5 := Aside0.mk (C4.out.then hB)
          obtain ⟨t0, t1, t2, _, _, _⟩ := row3 T5
          have T5' := Aside0.mk T5
          clear T4 R4 C4 hB T5 k0 k1 k2 y0 y1 y2
          cases hnm : nameI x2 with
          | false =>
            rw [if_pos hnm] at HQ
            obtain rfl : out = .error (a2, 124) := HQ.out.symm
            clear HQ
            go_wp2_with (first | (go_at_call 26; refine (rfail_any R5.out _ _).mono ?_; rintro e w9 ⟨rfl, f9, c9⟩))
            go_ret
            exact ⟨rfl, f9, C5.out.trans c9⟩
          | true =>
            rw [if_neg (by rw [hnm]; simp)] at HQ
            obtain ⟨bd, ps, hf⟩ := R5.out.fl
            have c2 : w5.cell? ⟨g, 2, none⟩ = some (.string v0.nx.nx.nm) := blk_cell hf 2
            have f2 : w5.frozen? ⟨g, 2, none⟩ = false := blk_frozen hf 2
            clear hf
            go_wp2_with fail
            have R6 := Aside0.mk (R5.out.putN x2)
            have C6 := Aside0.mk (C5.out.set (r := g) (by simp) 2 (.string x2))
            have T6 := Aside0.mk (blk_far T5'.out (p := ⟨g, 2, none⟩) htg (.string x2))
            clear R5 C5 T5' c2 f2 t0 t1 t2
            generalize w5.setCell ⟨g, 2, none⟩ (.string x2) = w6 at *
            cases hw : wantP s q2 1 openB with
            | error ae =>
              obtain ⟨a3, er⟩ := ae
              rw [hw] at HQ
              obtain rfl : out = .error (a3, er) := HQ.out.symm
              refine (rmark_any R6.out openB hw).mono ?_
              rintro e w7 ⟨rfl, f7, c7⟩
              clear HQ hw
              go_wp2_with fail
              go_ret
              exact ⟨rfl, f7, C6.out.trans c7⟩
            | ok aq =>
              obtain ⟨a3, q3⟩ := aq
              rw [hw] at HQ
              dsimp only at HQ
              have hq3 := (wantP_le s q2 1 openB a3 q3 R6.out.ps.1 hw).2
              refine (rmark_any R6.out openB hw).mono ?_
              rintro e w7 ⟨rfl, r7, c7⟩
              have R7 := Aside0.mk r7
              have C7 := Aside0.mk (C6.out.trans c7)
              clear R6 C6 T6 hw r7 c7
              go_wp2_with fail
              have hV := v00_vals ((v0.nx.nx.putN x2).nx) HV.out.1 HV.out.2.1
              have hP := v00_pinv ((v0.nx.nx.putN x2).nx) HV.out.2.2 HV.out.2.1
              cases hp : partsP s (s.size + 1) q3 [] [] ⟨#[]⟩ kU with
              | error ae =>
                obtain ⟨a4, er⟩ := ae
                rw [hp] at HQ
                obtain rfl : out = .error (a4, er) := HQ.out.symm
                refine (rresource_any hs R7.out _ _ hV hP hp).mono ?_
                rintro e w8 ⟨⟨n, rfl⟩, f8, c8⟩
                clear HQ hp hV hP
                go_wp2_with fail
                go_ret
                exact ⟨rfl, f8, C7.out.trans c8⟩
              | ok y =>
                obtain ⟨a4, D, sc, k, q4⟩ := y
                rw [hp] at HQ
                dsimp only at HQ
                refine (rresource_any hs R7.out _ _ hV hP hp).mono ?_
                rintro e w8 ⟨rfl, ⟨v, r8, hVv, hnmv, hb1, hb2⟩, c8⟩
                have hq4 : (a4, D, sc, k, q4).2.2.2.2 ≤ s.size := r8.ps.1
                rw [endP_last s x2 _ hq4] at HQ
                dsimp only at HQ
                clear hq4
                have R8 := Aside0.mk r8
                have C8 := Aside0.mk (C7.out.trans c8)
                have HVv := Aside0.mk hVv
                have HNM : Aside0 (v.nm = x2) := ⟨hnmv⟩
                have HB1 := Aside0.mk hb1
                have HB2 := Aside0.mk hb2
                clear R7 C7 hp hV hP r8 c8 hVv hnmv hb1 hb2
                obtain ⟨bd, ps, hf⟩ := R8.out.fl
                have HF := Aside0.mk hf
                have c21 : w8.cell? ⟨g, 21, none⟩ = some (.bool (v.th 1)) := blk_cell hf 21
                have c22 : w8.cell? ⟨g, 22, none⟩ = some (.bool (v.th 2)) := blk_cell hf 22
                clear hf
                cases hth1 : v.th 1 with
                | false =>
                  rw [hth1] at c21
                  have hm : (seen D blkB && seen D sizB) = false := by rw [← HB1.out, hth1]; rfl
                  rw [if_pos hm] at HQ
                  obtain rfl : out = .error (a4, 125) := HQ.out.symm
                  clear HQ hm
                  go_wp2_with (first | (go_at_call 26; refine (rfail_any R8.out _ _).mono ?_; rintro e w9 ⟨rfl, f9, c9⟩))
                  go_ret
                  exact ⟨rfl, f9, C8.out.trans c9⟩
                | true =>
                  rw [hth1] at c21
                  cases hth2 : v.th 2 with
                  | false =>
                    rw [hth2] at c22
                    have hm : (seen D blkB && seen D sizB) = false := by rw [← HB2.out, hth2, Bool.and_false]
                    rw [if_pos hm] at HQ
                    obtain rfl : out = .error (a4, 125) := HQ.out.symm
                    clear HQ hm
                    go_wp2_with (first | (go_at_call 26; refine (rfail_any R8.out _ _).mono ?_; rintro e w9 ⟨rfl, f9, c9⟩))
                    go_ret
                    exact ⟨rfl, f9, C8.out.trans c9⟩
                  | true =>
                    rw [hth2] at c22
                    rw [if_neg (by rw [← HB1.out, ← HB2.out, hth1, hth2]; simp)] at HQ
                    have HCF := Aside0.mk (HVv.out.conf hth1 hth2)
                    have hrg := file_range HF.out
                    clear HB1 HB2
                    go_wp2_with ((with_reducible refine gate_dst (N := 90) rfl ?_); refine wpList_load_mid rfl 40 _ rfl g 2 rfl _ _ hrg Tryz.underlying40 rfl (by kernel_rfl) ?_)
                    refine (rconfig_any v w8).mono ?_
                    rintro e w9 ⟨rfl, hB9⟩
                    rw [cfgC_cong v.nm v.sc HCF.out, HNM.out, HVv.out.sc]
                    have hn := blk_new w9 (.cells #[.string ⟨#[]⟩, .int .i64 0, .int .i64 0, .int .i64 0, .int .i64 0, .int .i64 0, .int .i64 0, .int .i64 0, .int .i64 0, .int .i64 0, .int .i64 0, .string ⟨#[]⟩, .int .i64 0, .int .i64 0, .int .i64 0, .int .i64 0, .int .i64 0, .int .i64 0] 23)
                    have R9 := Aside0.mk (R8.out.keep ((Ch.of_below hB9 []).alloc (.cells #[.string ⟨#[]⟩, .int .i64 0, .int .i64 0, .int .i64 0, .int .i64 0, .int .i64 0, .int .i64 0, .int .i64 0, .int .i64 0, .int .i64 0, .int .i64 0, .string ⟨#[]⟩, .int .i64 0, .int .i64 0, .int .i64 0, .int .i64 0, .int .i64 0, .int .i64 0] 23)))
                    have C9 := Aside0.mk ((C8.out.then hB9).alloc (.cells #[.string ⟨#[]⟩, .int .i64 0, .int .i64 0, .int .i64 0, .int .i64 0, .int .i64 0, .int .i64 0, .int .i64 0, .int .i64 0, .int .i64 0, .int .i64 0, .string ⟨#[]⟩, .int .i64 0, .int .i64 0, .int .i64 0, .int .i64 0, .int .i64 0, .int .i64 0] 23))
                    have F9 := Aside0.mk (blk_alloc (blk_below HF.out hB9) (.cells #[.string ⟨#[]⟩, .int .i64 0, .int .i64 0, .int .i64 0, .int .i64 0, .int .i64 0, .int .i64 0, .int .i64 0, .int .i64 0, .int .i64 0, .int .i64 0, .string ⟨#[]⟩, .int .i64 0, .int .i64 0, .int .i64 0, .int .i64 0, .int .i64 0, .int .i64 0] 23))
                    have hw8 := C8.out.size
                    have hw9 := hB9.size
                    clear R8 C8 HF hrg hB9 c21 c22
                    go_upto_region 24 with (refine store_whole rfl rfl rfl (g := w9.heap.size) rfl (cfgC x2 sc k) rfl hn (by kernel_rfl) (by rfl) (cfgOne' _ _ _) ?_; intro wa ha hga)
                    have CA := Aside0.mk (C9.out.grown hga (.inr (by omega)))
                    have hcA : Ch [w9.heap.size] (w9.alloc (.cells #[.string ⟨#[]⟩, .int .i64 0, .int .i64 0, .int .i64 0, .int .i64 0, .int .i64 0, .int .i64 0, .int .i64 0, .int .i64 0, .int .i64 0, .int .i64 0, .string ⟨#[]⟩, .int .i64 0, .int .i64 0, .int .i64 0, .int .i64 0, .int .i64 0, .int .i64 0] 23)) wa := ⟨hga.os, hga.tape, hga.output, hga.size, fun i hi hne => hga.block i hi (by simpa using hne)⟩
                    have RA := Aside0.mk (R9.out.high hcA (B := w9.heap.size) (by simp) (by omega) (fun b n c e => by have := hlow.out b n c e; omega))
                    clear R9 C9 F9 hn hga hcA
                    go_wp2_with ((with_reducible refine gate_dst (N := 92) rfl ?_); refine wpList_load_row rfl 23 _ rfl w9.heap.size rfl 23 (cfgC x2 sc k) (0, 0) _ ha Tryz.underlying23 rfl (by kernel_rfl) ?_)
                    refine (rtog_any x2 sc k wa).mono ?_
                    rintro e wb ⟨rfl, hBb⟩
                    have RB := Aside0.mk (RA.out.keep (Ch.of_below hBb []))
                    have CB := Aside0.mk (CA.out.then hBb)
                    clear RA CA ha hBb
                    cases htg : togI k with
                    | false =>
                      rw [if_pos htg] at HQ
                      obtain rfl : out = .error (a4, 124) := HQ.out.symm
                      clear HQ
                      go_wp2_with (first | (go_at_call 26; refine (rfail_any RB.out _ _).mono ?_; rintro e wz ⟨rfl, f9, c9⟩))
                      go_ret
                      exact ⟨rfl, f9, CB.out.trans c9⟩
                    | true =>
                      rw [if_neg (by rw [htg]; simp)] at HQ
                      obtain ⟨bd2, ps2, hf2⟩ := RB.out.fl
                      obtain ⟨⟨b, c, hlv, hcc, hb, hbg, hcells⟩, hTl⟩ := RB.out.tk
                      obtain ⟨t, ht, hat, hlast⟩ := RB.out.ps.last
                      obtain ⟨t0, t1, t2⟩ := hcells _ _ ht
                      have HF2 := Aside0.mk hf2
                      have hgb := blk_lt hf2
                      have d0 : wb.cell? ⟨g, 0, none⟩ = some (.slice (some ⟨b, 0, none⟩) T.length c) := by rw [← hlv]; exact blk_cell hf2 0
                      have d1 : wb.cell? ⟨g, 1, none⟩ = some (.int .i64 (v.at_ : Int)) := blk_cell hf2 1
                      have hat2 : (v.at_ : Int) < (T.length : Int) := by omega
                      have HFIN : Aside0 (v.nm = x2 ∧ v.sc = sc ∧ ∀ i, i < 16 → confK v i = k i) := ⟨HNM.out, HVv.out.sc, HCF.out⟩
                      clear hf2 hcells ht hlv HNM HVv HCF
                      cases hl : lastP s q4 with
                      | some a5 =>
                        rw [hl] at HQ hlast
                        obtain rfl : out = .error (a5, 121) := HQ.out.symm
                        have hz : (t.f0 != 0) = true := bne_iff_ne.2 hlast.1
                        have hla := Aside0.mk hlast.2
                        clear HQ hlast
                        rw [hla.out] at t1
                        go_wp2_with fail
                        go_region
                        go_wp2_with (first | (go_at_call 26; refine (rfail_any ((RB.out.alloc _).keep (Ch.refl [] _).drew) _ _).mono ?_; rintro e wz ⟨rfl, f9, c9⟩))
                        go_ret
                        exact ⟨rfl, f9, ((CB.out.alloc _).drew).trans c9⟩
                      | none =>
                        rw [hl] at HQ hlast
                        obtain rfl : out = .ok (x2, sc, k) := HQ.out.symm
                        have hz : (t.f0 != 0) = false := bne_eq_false_iff_eq.2 hlast
                        clear HQ hlast
                        go_wp2_with fail
                        go_region
                        go_wp2_with fail
                        go_ret
                        exact ⟨rfl, ⟨lv, v, bd2, ps2, blk_drew (blk_alloc HF2.out _), HFIN.out⟩, (CB.out.alloc _).drew⟩
        · rw [if_pos hk2] at HQ
          obtain rfl : out = .error (a2, 121) := HQ.out.symm
          have hk3 : ((kd2 : Int) + 2 != 2) = true := by simp; omega
          have R4 := Aside0.mk (R3.out.high (Ch.set3 (w := w3) tb (.int .i64 ((kd2 : Int) + 2)) (.int .i64 (a2 : Int)) (.string x2)) (B := tb) (by simp) (by omega) (fun b n c e => by have := hlow.out b n c e; omega))
          have C4 := Aside0.mk (C3.out.high (Ch.set3 (w := w3) tb (.int .i64 ((kd2 : Int) + 2)) (.int .i64 (a2 : Int)) (.string x2)) (by simp; omega))
          have T4 := Aside0.mk (put3 T3.out (.int .i64 ((kd2 : Int) + 2)) (.int .i64 (a2 : Int)) (.string x2))
          clear HQ hk2
          go_wp2_with (first | (go_at_call 26; refine (rfail_any R4.out _ _).mono ?_; rintro e w9 ⟨rfl, f9, c9⟩))
          go_ret
          exact ⟨rfl, f9, C4.out.trans c9⟩
    · rw [if_neg hc] at HQ
      obtain rfl : out = .error (a, 121) := HQ.out.symm
      by_cases hk : kd = 0
      · subst hk
        have hxb : (x.toList == [114, 101, 115, 111, 117, 114, 99, 101]) = false := beq_eq_false_iff_ne.2 (fun e => hc ⟨rfl, e.trans res_list.symm⟩)
        clear hc HQ
        have R2 := Aside0.mk (R1.out.alloc (.cells #[.int .i64 2, .int .i64 (a : Int), .string x] 63))
        go_wp2_with (first | (go_at_call 26; refine (rfail_any R2.out _ _).mono ?_; rintro e w9 ⟨rfl, f9, c9⟩))
        go_ret
        exact ⟨rfl, f9, (C1.out.alloc _).trans c9⟩
      · have hk3 : ((kd : Int) + 2 != 2) = true := by simp; omega
        clear hc HQ hk
        have R2 := Aside0.mk (R1.out.alloc (.cells #[.int .i64 ((kd : Int) + 2), .int .i64 (a : Int), .string x] 63))
        go_wp2_with (first | (go_at_call 26; refine (rfail_any R2.out _ _).mono ?_; rintro e w9 ⟨rfl, f9, c9⟩))
        go_ret
        exact ⟨rfl, f9, (C1.out.alloc _).trans c9⟩
end Go.Proofs.YtfecfgimfjcbdaaGreatDoor.Cf
