/- replicaref12.Check, walked. -/
import Derived.Test.YtfecfgimfjcbdaaDoorConfKf
namespace Go.Proofs.YtfecfgimfjcbdaaDoor.Cf
open Go.RowKit Go.Proofs.YtfecfgimfjcbdaaDoorW.PrintWords Go.Proofs.YtfecfgimfjcbdaaDoorW.PrintLast Go.Proofs.YtfecfgimfjcbdaaDoorW.PrintMore Go.Proofs.YtfecfgimfjcbdaaDoor.QRCheck

theorem num_one (k : Nat → Int) : ∀ q ∈ (numC k).toList, q.oneCell' = true := by
  intro q hq
  simp only [numC, List.mem_cons, List.not_mem_nil, or_false] at hq
  rcases hq with rfl | rfl | rfl | rfl | rfl | rfl | rfl | rfl | rfl | rfl | rfl | rfl | rfl | rfl | rfl | rfl <;> rfl
set_option maxRecDepth 100000 in
set_option maxHeartbeats 1000000 in
theorem refcheck_any (nm sc : ByteArray) (k : Nat → Int) (w : World) :
    Calls Tryd.prog 15 #[.agg (cfgC nm sc k)] w fun e w' => e = .returned (.int .i64 (chkI nm sc k)) ∧ Below w.heap.size w w' := by
  have K1 := Aside0.mk (blk_new w (.cells (cfgC nm sc k) 23))
  have HB1 := Aside0.mk ((Below.refl w.heap.size w).alloc (Nat.le_refl _) (.cells (cfgC nm sc k) 23))
  go_enter Tryd.func15, Tryd.ntmps15
  go_wp2_with fail
  generalize w.alloc (.cells (cfgC nm sc k) 23) = w1 at *
  generalize hb : w.heap.size = b at *
  refine (table_any w1).mono ?_
  rintro e w2 ⟨rfl, hB2⟩
  have hw1 : b + 1 ≤ w1.heap.size := blk_lt K1.out
  have K2 := Aside0.mk (blk_below K1.out hB2)
  have HB2 := Aside0.mk (below_then HB1.out (by omega) hB2)
  clear hB2 K1 HB1
  have hw2 : b + 1 ≤ w2.heap.size := blk_lt K2.out
  have hn := blk_new w2 (.cells Tryd.zeroCells61 61)
  have K3 := Aside0.mk (blk_alloc K2.out (.cells Tryd.zeroCells61 61))
  have HB3 := Aside0.mk (HB2.out.alloc (by omega) (.cells Tryd.zeroCells61 61))
  clear K2 HB2
  go_upto_region 2 with (refine store_whole rfl rfl rfl (g := w2.heap.size) rfl rTabC rfl hn (by kernel_rfl) (by kernel_rfl) (by decide +kernel) ?_; intro w3 h3 hg3)
  have K4 := Aside0.mk (grown_blk hg3 K3.out (by omega))
  have HB4 := Aside0.mk (pw_below_grown HB3.out (some w2.heap.size) (by have := HB3.out.size; omega) hg3 (fun q hq => by obtain rfl := Option.some.inj hq; omega))
  have HL := Aside0.mk h3
  clear K3 HB3 hg3 h3 hn
  go_wp2_with ((with_reducible refine gate_dst (N := 13) rfl ?_); refine wpList_load_row rfl 23 _ rfl b rfl 23 (cfgC nm sc k) (0, 0) _ K4.out Tryd.underlying23 rfl (by kernel_rfl) ?_)
  refine (numbers_any nm sc k w3).mono ?_
  rintro e w4 ⟨rfl, hB5⟩
  have hw3 : b + 1 ≤ w3.heap.size := blk_lt K4.out
  have hl3 : w2.heap.size < w3.heap.size := blk_lt HL.out
  have K5 := Aside0.mk (blk_below K4.out hB5)
  have HL5 := Aside0.mk (blk_below HL.out hB5)
  have HB5 := Aside0.mk (below_then HB4.out (by omega) hB5)
  clear hB5 K4 HL HB4
  have hw4 : b + 1 ≤ w4.heap.size := blk_lt K5.out
  have hl4 : w2.heap.size < w4.heap.size := blk_lt HL5.out
  have hn := blk_new w4 (.cells #[.int .i64 0, .int .i64 0, .int .i64 0, .int .i64 0, .int .i64 0, .int .i64 0, .int .i64 0, .int .i64 0, .int .i64 0, .int .i64 0, .int .i64 0, .int .i64 0, .int .i64 0, .int .i64 0, .int .i64 0, .int .i64 0] 63)
  have K6 := Aside0.mk (blk_alloc K5.out (.cells #[.int .i64 0, .int .i64 0, .int .i64 0, .int .i64 0, .int .i64 0, .int .i64 0, .int .i64 0, .int .i64 0, .int .i64 0, .int .i64 0, .int .i64 0, .int .i64 0, .int .i64 0, .int .i64 0, .int .i64 0, .int .i64 0] 63))
  have HL6 := Aside0.mk (blk_alloc HL5.out (.cells #[.int .i64 0, .int .i64 0, .int .i64 0, .int .i64 0, .int .i64 0, .int .i64 0, .int .i64 0, .int .i64 0, .int .i64 0, .int .i64 0, .int .i64 0, .int .i64 0, .int .i64 0, .int .i64 0, .int .i64 0, .int .i64 0] 63))
  have HB6 := Aside0.mk (HB5.out.alloc (by omega) (.cells #[.int .i64 0, .int .i64 0, .int .i64 0, .int .i64 0, .int .i64 0, .int .i64 0, .int .i64 0, .int .i64 0, .int .i64 0, .int .i64 0, .int .i64 0, .int .i64 0, .int .i64 0, .int .i64 0, .int .i64 0, .int .i64 0] 63))
  clear K5 HL5 HB5
  go_upto_region 3 with (refine store_whole rfl rfl rfl (g := w4.heap.size) rfl (numC k) rfl hn (by kernel_rfl) (by rfl) (num_one k) ?_; intro w5 h5 hg5)
  have K7 := Aside0.mk (grown_blk hg5 K6.out (by omega))
  have HL7 := Aside0.mk (grown_blk hg5 HL6.out (by omega))
  have HB7 := Aside0.mk (pw_below_grown HB6.out (some w4.heap.size) (by have := HB6.out.size; omega) hg5 (fun q hq => by obtain rfl := Option.some.inj hq; omega))
  have HN7 := Aside0.mk h5
  clear K6 HL6 HB6 hg5 h5 hn
  generalize w2.heap.size = gl at *
  generalize w4.heap.size = gn at *
  go_wp2
  have HW := Aside0.mk (Below.refl w5.heap.size w5)
  go_loopg [5] 16 (fun kq v5 wr => ∃ j : Nat, j ≤ 16 ∧ kq = 16 - j ∧ v5 = .int .i64 j ∧ Aside0 (okFrom k (16 - j) j = okK k) ∧ Aside0 (Below w5.heap.size w5 wr))
  case atStart => exact ⟨0, by omega, rfl, rfl, ⟨rfl⟩, HW⟩
  case round =>
    clear HW
    obtain ⟨j, hj, rfl, rfl, HO, HW⟩ := hrel
    have KB := Aside0.mk (blk_below K7.out HW.out)
    have KL := Aside0.mk (blk_below HL7.out HW.out)
    have KN := Aside0.mk (blk_below HN7.out HW.out)
    by_cases hlt : j < 16
    · have hd : decide ((j : Int) < 16) = true := decide_eq_true (by omega)
      have hjl : (j : Int) < 16 := by omega
      obtain ⟨t, ht⟩ : ∃ t, kTab[j]? = some t := ⟨_, List.getElem?_eq_getElem hlt⟩
      obtain ⟨els, e0, e1, e2, e3, e4⟩ := rTab_key j t ht
      have l0 : wr.cell? ⟨gl, j * 5, none⟩ = some (.string t.2.1) := (blk_cell KL.out _).trans e0
      have l1 : wr.cell? ⟨gl, j * 5 + 1, none⟩ = some (.string t.1) := (blk_cell KL.out _).trans e1
      have l2 : wr.cell? ⟨gl, j * 5 + 2, none⟩ = some (.int .i64 t.2.2.1) := (blk_cell KL.out _).trans e2
      have l3 : wr.cell? ⟨gl, j * 5 + 3, none⟩ = some (.int .i64 t.2.2.2.1) := (blk_cell KL.out _).trans e3
      have l4 : wr.cell? ⟨gl, j * 5 + 4, none⟩ = some (.int .i64 els) := (blk_cell KL.out _).trans e4
      have n0 : wr.cell? ⟨gn, j, none⟩ = some (.int .i64 (k j)) := (blk_cell KN.out _).trans (num_key k j hlt)
      have cT := fun W => replicaref12_fits.calls 40 t.2.1 t.1 t.2.2.1 t.2.2.2.1 els (k j) _ W (fits_f j t ht els (k j))
      have HO' : okFrom k (16 - j) j = (tk t (k j) && okFrom k (16 - (j + 1)) (j + 1)) := by
        obtain ⟨q, hq⟩ : ∃ q, 16 - j = q + 1 := ⟨15 - j, by omega⟩
        rw [hq, show 16 - (j + 1) = q by omega]
        simp only [okFrom, ht]
      rw [HO'] at HO
      have CT := Aside0.mk cT
      clear HO' e0 e1 e2 e3 e4 cT ht
      go_upto_region 6 with fail
      refine wp_region_still_tail 6 (by kernel_rfl) (by kernel_rfl) ?_
      simp only [List.take_succ_cons, List.take_zero, List.drop_succ_cons, List.drop_zero]
      repeat still_step
      refine wpStill_nil ?_
      change wpList _ _ _ _ _ wr.drew
      have HWd := Aside0.mk (below_drew HW.out)
      clear l0 l1 l2 l3 l4 n0 HW KB KL KN
      generalize wr.drew = wd at *
      go_wp2_with fail
      refine (CT.out _).mono ?_
      rintro e w8 ⟨rfl, hB8⟩
      have HW8 := Aside0.mk (below_then HWd.out HWd.out.size hB8)
      clear HWd hB8 CT
      cases htk : tk t (k j) with
      | false =>
        rw [htk, Bool.false_and] at HO
        have HC : Aside0 (chkI nm sc k = 124) := ⟨by unfold chkI; rw [← HO.out]; rfl⟩
        go_wp2
        go_ret
        exact ⟨by rw [HC.out]; rfl, by rw [hb]; exact below_then HB7.out (by have := HB7.out.size; omega) HW8.out⟩
      | true =>
        rw [htk, Bool.true_and] at HO
        go_wp2
        go_roundg (16 - (j + 1))
        case measure => omega
        case rel => exact ⟨j + 1, by omega, rfl, by go_num, HO, HW8⟩
    · have hd : decide ((j : Int) < 16) = false := decide_eq_false (by omega)
      obtain rfl : j = 16 := by omega
      have HOK : Aside0 (okK k = true) := ⟨HO.out.symm⟩
      have hw5 : b + 1 ≤ w5.heap.size := blk_lt K7.out
      have HB8 := Aside0.mk (below_then HB7.out (by omega) HW.out)
      have hwr : b + 1 ≤ wr.heap.size := blk_lt KB.out
      clear HO HW KL KN HL7 HN7 K7 HB7
      have c0 : wr.cell? ⟨b, 0, none⟩ = some (.string nm) := (blk_cell KB.out 0).trans rfl
      go_wp2_with fail
      refine (replicaref12_name.calls (nm.size + 4) nm _ wr (name_f nm)).mono ?_
      rintro e w9 ⟨rfl, hD⟩
      have K9 := Aside0.mk (blk_below KB.out hD.below)
      have HB9 := Aside0.mk (below_then HB8.out (by omega) hD.below)
      clear hD KB HB8 c0
      have hw9 : b + 1 ≤ w9.heap.size := blk_lt K9.out
      go_wp2_with ((with_reducible refine gate_dst (N := 31) rfl ?_); refine wpList_load_row rfl 23 _ rfl b rfl 23 (cfgC nm sc k) (0, 0) _ K9.out Tryd.underlying23 rfl (by kernel_rfl) ?_)
      refine (replicaref12_together.calls nm (k 1) (k 2) (k 3) (k 0) (k 4) (k 5) (k 6) (k 7) (k 8) (k 9) sc (k 10) (k 11) (k 12) (k 13) (k 14) (k 15) _ w9 (rtog_f nm sc k)).mono ?_
      rintro e w10 ⟨rfl, hB⟩
      have KA := Aside0.mk (blk_below K9.out hB)
      have HBA := Aside0.mk (below_then HB9.out (by omega) hB)
      clear hB K9 HB9
      have hwA : b + 1 ≤ w10.heap.size := blk_lt KA.out
      have c11 : w10.cell? ⟨b, 11, none⟩ = some (.string sc) := (blk_cell KA.out 11).trans rfl
      cases hn : nameI nm with
      | false =>
        have HC : Aside0 (chkI nm sc k = 124) := ⟨by unfold chkI restI; rw [HOK.out, hn]; rfl⟩
        go_wp2
        go_ret
        exact ⟨by rw [HC.out]; rfl, by rw [hb]; exact HBA.out⟩
      | true =>
        cases htg : togI k with
        | false =>
          have HC : Aside0 (chkI nm sc k = 124) := ⟨by unfold chkI restI; rw [HOK.out, hn, htg, Bool.and_false]; rfl⟩
          go_wp2
          go_ret
          exact ⟨by rw [HC.out]; rfl, by rw [hb]; exact HBA.out⟩
        | true =>
          by_cases hs : 64 < sc.size
          · have hsd : decide ((64 : Int) < (sc.size : Int)) = true := decide_eq_true (by omega)
            have HC : Aside0 (chkI nm sc k = 124) := ⟨by unfold chkI restI; rw [HOK.out, hn, decide_eq_false (by omega : ¬ sc.size ≤ 64)]; rfl⟩
            go_wp2
            go_ret
            exact ⟨by rw [HC.out]; rfl, by rw [hb]; exact HBA.out⟩
          · have hsd : decide ((64 : Int) < (sc.size : Int)) = false := decide_eq_false (by omega)
            have HC : Aside0 (chkI nm sc k = if Lib.validD (bl sc) = true then 0 else 124) := ⟨by unfold chkI restI; rw [HOK.out, hn, htg, decide_eq_true (by omega : sc.size ≤ 64), Bool.and_true]; rfl⟩
            go_wp2
            have HV := Aside0.mk (Below.refl w10.heap.size w10)
            go_loopg [9] sc.size (fun kq v9 wr => ∃ i : Nat, i ≤ sc.size ∧ kq = sc.size - i ∧ v9 = .int .i64 i ∧ Aside0 (Lib.validD ((bl sc).drop i) = Lib.validD (bl sc)) ∧ Aside0 (Below w10.heap.size w10 wr))
            case atStart => exact ⟨0, by omega, rfl, rfl, ⟨rfl⟩, HV⟩
            case round =>
              clear HV c11
              obtain ⟨i, hi, rfl, rfl, HO, HW⟩ := hrel
              have c11 : wr.cell? ⟨b, 11, none⟩ = some (.string sc) := (blk_cell (blk_below KA.out HW.out) 11).trans rfl
              have HBW := Aside0.mk (below_then HBA.out (by omega) HW.out)
              by_cases hlt : i < sc.size
              · have hd : decide ((i : Int) < (sc.size : Int)) = true := decide_eq_true (by omega)
                have hne : (bl sc).drop i ≠ [] := fun e => by
                  have := congrArg List.length e
                  rw [List.length_drop, bl_length, List.length_nil] at this
                  omega
                have HV1 := Aside0.mk (valid_on _ hne)
                have hle := wd_le _ hne
                rw [List.length_drop, bl_length] at hle
                have CW := Aside0.mk (fun W => replicaref12_wide.calls 30 sc (i : Int) _ _ W (wide_spec sc (by omega) i hlt))
                obtain ⟨m, hm⟩ : ∃ m, (wdL ((bl sc).drop i)).1 = m := ⟨_, rfl⟩
                obtain ⟨r, hr⟩ : ∃ r, (wdL ((bl sc).drop i)).2 = r := ⟨_, rfl⟩
                rw [hm] at HV1 hle CW
                rw [hr] at CW
                rw [List.drop_drop] at HV1
                clear hm hr hne
                go_wp2_with fail
                refine (CW.out _).mono ?_
                rintro e w11 ⟨rfl, hB⟩
                have HW2 := Aside0.mk (below_then HW.out HW.out.size hB)
                clear hB HW HBW CW
                by_cases hm0 : m = 0
                · subst hm0
                  have HC' : Aside0 (chkI nm sc k = 124) := ⟨by rw [HC.out, ← HO.out, HV1.out]; rfl⟩
                  go_wp2
                  go_ret
                  exact ⟨by rw [HC'.out]; rfl, by rw [hb]; exact below_then HBA.out (by omega) HW2.out⟩
                · have hmb : ((m : Int) == 0) = false := by simp; omega
                  have HV2 : Aside0 (Lib.validD ((bl sc).drop (i + m)) = Lib.validD (bl sc)) := ⟨by rw [← HO.out, HV1.out, if_neg hm0]⟩
                  go_wp2
                  go_roundg (sc.size - (i + m))
                  case measure => omega
                  case rel => exact ⟨i + m, by omega, rfl, by go_num, HV2, HW2⟩
              · have hd : decide ((i : Int) < (sc.size : Int)) = false := decide_eq_false (by omega)
                obtain rfl : i = sc.size := by omega
                have HC' : Aside0 (chkI nm sc k = 0) := ⟨by rw [HC.out, ← HO.out, List.drop_eq_nil_of_le (by rw [bl_length]; omega)]; rfl⟩
                go_wp2
                go_ret
                exact ⟨by rw [HC'.out]; rfl, by rw [hb]; exact HBW.out⟩
end Go.Proofs.YtfecfgimfjcbdaaDoor.Cf
