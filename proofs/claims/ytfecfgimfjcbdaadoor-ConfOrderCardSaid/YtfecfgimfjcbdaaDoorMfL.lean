/- resource, walked. -/
import Derived.Test.YtfecfgimfjcbdaaDoorMfK
namespace Go.Proofs.YtfecfgimfjcbdaaDoor.Cf
open Go.RowKit Go.Proofs.YtfecfgimfjcbdaaDoorW.PrintWords Go.Proofs.YtfecfgimfjcbdaaDoorW.PrintLast Go.Proofs.YtfecfgimfjcbdaaDoorW.PrintMore Go.Proofs.YtfecfgimfjcbdaaDoor.QCParse
open Go.WideMaps (keyOf_string_mk)

set_option maxRecDepth 100000 in
theorem field_tok (x y z : Value) (w : World) : (Instr.field 121 (.agg #[x, y, z]) 1).run Tryd.prog w = .ok y w := by kernel_rfl
theorem cfgOne (nm sc : ByteArray) (k : Nat → Int) : ∀ q ∈ (cfgC nm sc k).toList, q.oneCell' = true := by
  intro q hq
  simp only [cfgC, List.mem_cons, List.not_mem_nil, or_false] at hq
  rcases hq with rfl | rfl | rfl | rfl | rfl | rfl | rfl | rfl | rfl | rfl | rfl | rfl | rfl | rfl | rfl | rfl | rfl | rfl <;> rfl
theorem CfgAt.setN {w : World} {c : Nat} {nm sc : ByteArray} {k : Nat → Int} (h : CfgAt w c nm sc k) (v : ByteArray) : CfgAt (w.setCell ⟨c, 0, none⟩ (.string v)) c v sc k := blk_put h 0 _ rfl

set_option maxRecDepth 100000 in
theorem look_run {w : World} {b : Nat} {L : List ByteArray} (h : Stood w b L) (x : ByteArray) (hx : x.size ≤ maxLen) : (Instr.lookup 125 (.map (some b)) (.string x) false).run Tryd.prog w = .ok (.int .i64 (if seen L x = true then 1 else 0)) w := by
  obtain ⟨n, D, hown, _, hD⟩ := h
  obtain ⟨c, hrun, hat, _⟩ := World.ownsMap.lookup_int hown keyLaw Tryd.underlying125 Tryd.underlying3 (zeroE w) (keyOf_string_mk Tryd.underlying9 hx)
  rw [hD x] at hat
  simp only [DataW.lit.injEq, Lit.int.injEq, true_and] at hat
  rw [hrun, hat]

set_option maxRecDepth 100000 in
set_option maxHeartbeats 2000000 in
theorem resource_any (s : ByteArray) (hs : s.size ≤ 1000000) (r : Nat) (w : World) (hr : Rd w r s 0) (out : Except (Nat × Int) (ByteArray × ByteArray × (Nat → Int))) (hout : resP s = out) :
    Calls Tryd.prog 57 #[.pointer (some ⟨r, 0, none⟩)] w (ResPost r w out) := by
  have HOUT := Aside0.mk hout
  have hrw : r < w.heap.size := blk_lt hr
  have KG := Aside0.mk (blk_new w (.cells #[.string ⟨#[]⟩, .int .i64 0, .int .i64 0, .int .i64 0, .int .i64 0, .int .i64 0, .int .i64 0, .int .i64 0, .int .i64 0, .int .i64 0, .int .i64 0, .string ⟨#[]⟩, .int .i64 0, .int .i64 0, .int .i64 0, .int .i64 0, .int .i64 0, .int .i64 0] 23))
  have HR0 : Aside0 (Rd (w.alloc (.cells #[.string ⟨#[]⟩, .int .i64 0, .int .i64 0, .int .i64 0, .int .i64 0, .int .i64 0, .int .i64 0, .int .i64 0, .int .i64 0, .int .i64 0, .int .i64 0, .string ⟨#[]⟩, .int .i64 0, .int .i64 0, .int .i64 0, .int .i64 0, .int .i64 0, .int .i64 0] 23)) r s 0) := ⟨blk_alloc hr _⟩
  have HC0 := Aside0.mk ((Ch.refl [r] w).alloc (.cells #[.string ⟨#[]⟩, .int .i64 0, .int .i64 0, .int .i64 0, .int .i64 0, .int .i64 0, .int .i64 0, .int .i64 0, .int .i64 0, .int .i64 0, .int .i64 0, .string ⟨#[]⟩, .int .i64 0, .int .i64 0, .int .i64 0, .int .i64 0, .int .i64 0, .int .i64 0] 23))
  clear hout hr
  unfold resP at HOUT
  go_enter Tryd.func57, Tryd.ntmps57
  go_wp2_with fail
  go_step3
  go_wp2_with fail
  generalize w.alloc (.cells #[.string ⟨#[]⟩, .int .i64 0, .int .i64 0, .int .i64 0, .int .i64 0, .int .i64 0, .int .i64 0, .int .i64 0, .int .i64 0, .int .i64 0, .int .i64 0, .string ⟨#[]⟩, .int .i64 0, .int .i64 0, .int .i64 0, .int .i64 0, .int .i64 0, .int .i64 0] 23) = w0 at *
  have hg0 : w.heap.size < w0.heap.size := blk_lt KG.out
  refine (usual_any w0).mono ?_
  rintro e w1 ⟨rfl, hB1⟩
  have hw1 : w0.heap.size ≤ w1.heap.size := hB1.size
  have hn := blk_new w1 (.cells #[.string ⟨#[]⟩, .int .i64 0, .int .i64 0, .int .i64 0, .int .i64 0, .int .i64 0, .int .i64 0, .int .i64 0, .int .i64 0, .int .i64 0, .int .i64 0, .string ⟨#[]⟩, .int .i64 0, .int .i64 0, .int .i64 0, .int .i64 0, .int .i64 0, .int .i64 0] 23)
  have KG2 := Aside0.mk (blk_alloc (blk_below KG.out hB1) (.cells #[.string ⟨#[]⟩, .int .i64 0, .int .i64 0, .int .i64 0, .int .i64 0, .int .i64 0, .int .i64 0, .int .i64 0, .int .i64 0, .int .i64 0, .int .i64 0, .string ⟨#[]⟩, .int .i64 0, .int .i64 0, .int .i64 0, .int .i64 0, .int .i64 0, .int .i64 0] 23))
  have HR2 : Aside0 (Rd (w1.alloc (.cells #[.string ⟨#[]⟩, .int .i64 0, .int .i64 0, .int .i64 0, .int .i64 0, .int .i64 0, .int .i64 0, .int .i64 0, .int .i64 0, .int .i64 0, .int .i64 0, .string ⟨#[]⟩, .int .i64 0, .int .i64 0, .int .i64 0, .int .i64 0, .int .i64 0, .int .i64 0] 23)) r s 0) := ⟨blk_alloc (blk_below HR0.out hB1) _⟩
  have HC2 := Aside0.mk ((HC0.out.then hB1).alloc (.cells #[.string ⟨#[]⟩, .int .i64 0, .int .i64 0, .int .i64 0, .int .i64 0, .int .i64 0, .int .i64 0, .int .i64 0, .int .i64 0, .int .i64 0, .int .i64 0, .string ⟨#[]⟩, .int .i64 0, .int .i64 0, .int .i64 0, .int .i64 0, .int .i64 0, .int .i64 0] 23))
  clear hB1 KG HR0 HC0
  go_upto_region 2 with (refine store_whole rfl rfl rfl (g := w1.heap.size) rfl (cfgC ⟨#[]⟩ ⟨#[]⟩ kU) rfl hn (by kernel_rfl) (by rfl) (cfgOne _ _ _) ?_; intro w3 h3 hg3)
  have HF3 : Aside0 (CfgAt w3 w1.heap.size ⟨#[]⟩ ⟨#[]⟩ kU) := ⟨h3⟩
  have KG3 := Aside0.mk (grown_blk hg3 KG2.out (by omega))
  have HR3 : Aside0 (Rd w3 r s 0) := ⟨grown_blk hg3 HR2.out (by omega)⟩
  have HC3 := Aside0.mk (HC2.out.stepG hg3 (by omega))
  have hcw : w1.heap.size < w3.heap.size := blk_lt h3
  clear hg3 h3 hn KG2 HR2 HC2
  generalize hcc : w1.heap.size = c at *
  have hcg : w.heap.size < c := by omega
  clear hcc hw1
  have HW1 := Aside0.mk (want_any s hs r 0 (Nat.zero_le _) 0 resB w3 HR3.out)
  have HWL := Aside0.mk (fun a q h => wantP_le s 0 0 resB a q (Nat.zero_le _) h)
  go_wp2_with fail
  cases hwn : wantP s 0 0 resB with
  | error ae =>
    obtain ⟨ea, er⟩ := ae
    rw [hwn] at HOUT HW1
    obtain rfl : out = .error (ea, er) := HOUT.out.symm
    clear HOUT hwn
    refine HW1.out.mono ?_
    rintro e w4 ⟨rfl, hc4⟩
    have HC4 := Aside0.mk (HC3.out.trans hc4)
    clear hc4 HW1
    go_wp2
    exact ⟨rfl, rfl, HC4.out⟩
  | ok aq =>
    obtain ⟨wa, q0⟩ := aq
    rw [hwn] at HOUT HW1 HWL
    have hq0 := (HWL.out _ _ rfl).2
    simp only at HOUT
    clear hwn HWL
    refine HW1.out.mono ?_
    rintro e w4 ⟨rfl, hr4, hc4⟩
    have HR4 := Aside0.mk hr4
    have HC4 := Aside0.mk (HC3.out.trans hc4)
    have HF4 : Aside0 (CfgAt w4 c ⟨#[]⟩ ⟨#[]⟩ kU) := ⟨hc4.blk HF3.out (by simp; omega)⟩
    have KG4 := Aside0.mk (hc4.blk KG3.out (by simp; omega))
    have hcw4 : c < w4.heap.size := blk_lt HF4.out
    clear hr4 hc4 HW1 HR3 HC3 HF3 KG3
    have HN := Aside0.mk (next_any s hs r q0 hq0 w4 HR4.out)
    go_wp2_with fail
    cases hn : nextP s q0 with
    | error a =>
      rw [hn] at HOUT HN
      obtain rfl : out = .error (a, 121) := HOUT.out.symm
      clear HOUT hn
      refine HN.out.mono ?_
      rintro e w5 ⟨rfl, hc5⟩
      have HC5 := Aside0.mk (HC4.out.trans hc5)
      clear hc5 HN
      go_wp2
      exact ⟨rfl, rfl, HC5.out⟩
    | ok tk =>
      obtain ⟨kd, a, v, q⟩ := tk
      rw [hn] at HOUT HN
      simp only at HOUT
      have hpq := nextP_le s q0 kd a v q hq0 hn
      clear hn
      refine HN.out.mono ?_
      rintro e w5 ⟨rfl, hr5, hc5⟩
      have hw5 : w4.heap.size ≤ w5.heap.size := hc5.size
      have hn := blk_new w5 (.cells #[.int .i64 0, .int .i64 0, .string ⟨#[]⟩] 121)
      have HR6 : Aside0 (Rd (w5.alloc (.cells #[.int .i64 0, .int .i64 0, .string ⟨#[]⟩] 121)) r s q) := ⟨blk_alloc hr5 _⟩
      have HC6 := Aside0.mk ((HC4.out.trans hc5).alloc (.cells #[.int .i64 0, .int .i64 0, .string ⟨#[]⟩] 121))
      have HF6 : Aside0 (CfgAt (w5.alloc (.cells #[.int .i64 0, .int .i64 0, .string ⟨#[]⟩] 121)) c ⟨#[]⟩ ⟨#[]⟩ kU) := ⟨blk_alloc (hc5.blk HF4.out (by simp; omega)) _⟩
      have KG6 := Aside0.mk (blk_alloc (hc5.blk KG4.out (by simp; omega)) (.cells #[.int .i64 0, .int .i64 0, .string ⟨#[]⟩] 121))
      clear hr5 hc5 HN HR4 HC4 HF4 KG4
      go_upto_region 4 with (refine store_whole rfl rfl rfl (g := w5.heap.size) rfl (tokC kd a v) rfl hn (by kernel_rfl) (by rfl) (tokOne kd a v) ?_; intro w7 h7 hg7)
      have KT := Aside0.mk h7
      have HR7 : Aside0 (Rd w7 r s q) := ⟨grown_blk hg7 HR6.out (by omega)⟩
      have HC7 := Aside0.mk (HC6.out.stepG hg7 (by omega))
      have HF7 : Aside0 (CfgAt w7 c ⟨#[]⟩ ⟨#[]⟩ kU) := ⟨grown_blk hg7 HF6.out (by omega)⟩
      have KG7 := Aside0.mk (grown_blk hg7 KG6.out (by omega))
      have htw : w5.heap.size < w7.heap.size := blk_lt h7
      clear hg7 h7 hn HR6 HC6 HF6 KG6
      have hct : c < w5.heap.size := by omega
      generalize hTT : w5.heap.size = T at *
      clear hTT hw5
      have t0 : w7.cell? ⟨T, 0, none⟩ = some (.int .i64 (kd : Int)) := (blk_cell KT.out 0).trans rfl
      have t1 : w7.cell? ⟨T, 1, none⟩ = some (.int .i64 (a : Int)) := (blk_cell KT.out 1).trans rfl
      have t2 : w7.cell? ⟨T, 2, none⟩ = some (.string v) := (blk_cell KT.out 2).trans rfl
      by_cases hk0 : kd = 0
      case neg =>
        rw [if_pos hk0] at HOUT
        obtain rfl : out = .error (a, 121) := HOUT.out.symm
        have hk0n : ((kd : Int) != 0) = true := by simp; omega
        have hk0b : ((kd : Int) == 0) = false := by simp; omega
        clear HOUT hk0
        go_wp2_with fail
        refine (give_any a 121 w7).mono ?_
        rintro e w' ⟨rfl, rfl⟩
        go_wp2
        exact ⟨rfl, rfl, HC7.out⟩
      case pos =>
        subst hk0
        rw [if_neg (by simp)] at HOUT
        go_wp2_with fail
        refine (Go.Proofs.YtfecfgimfjcbdaaDoor.QCCheck.conf_isName.calls (v.size + 4) v _ w7 (isName_f v)).mono ?_
        rintro e w8 ⟨rfl, hD⟩
        have KT8 := Aside0.mk (blk_below KT.out hD.below)
        have HR8 : Aside0 (Rd w8 r s q) := ⟨blk_below HR7.out hD.below⟩
        have HC8 := Aside0.mk (HC7.out.then hD.below)
        have HF8 : Aside0 (CfgAt w8 c ⟨#[]⟩ ⟨#[]⟩ kU) := ⟨blk_below HF7.out hD.below⟩
        have KG8 := Aside0.mk (blk_below KG7.out hD.below)
        clear hD KT HR7 HC7 HF7 KG7 t0 t1 t2
        have t1 : w8.cell? ⟨T, 1, none⟩ = some (.int .i64 (a : Int)) := (blk_cell KT8.out 1).trans rfl
        have t2 : w8.cell? ⟨T, 2, none⟩ = some (.string v) := (blk_cell KT8.out 2).trans rfl
        cases hnm : nameI v with
        | false =>
          rw [hnm, if_pos rfl] at HOUT
          obtain rfl : out = .error (a, 124) := HOUT.out.symm
          clear HOUT
          go_wp2_with fail
          refine (give_any a 124 w8).mono ?_
          rintro e w' ⟨rfl, rfl⟩
          go_wp2
          exact ⟨rfl, rfl, HC8.out⟩
        | true =>
          rw [hnm, if_neg (by simp)] at HOUT
          clear hnm
          have o0 : w8.cell? ⟨c, 0, none⟩ = some (.string ⟨#[]⟩) := (blk_cell HF8.out 0).trans rfl
          have f0 : w8.frozen? ⟨c, 0, none⟩ = false := blk_frozen HF8.out 0
          have HF9 : Aside0 (CfgAt (w8.setCell ⟨c, 0, none⟩ (.string v)) c v ⟨#[]⟩ kU) := ⟨HF8.out.setN v⟩
          have HR9 : Aside0 (Rd (w8.setCell ⟨c, 0, none⟩ (.string v)) r s q) := ⟨blk_far HR8.out (by show r ≠ c; omega) _⟩
          have HC9 : Aside0 (Ch [r] w (w8.setCell ⟨c, 0, none⟩ (.string v))) := ⟨HC8.out.step ((Ch.refl [r, c] w8).set (by simp) 0 _) (by omega)⟩
          have KT9 : Aside0 ((w8.setCell ⟨c, 0, none⟩ (.string v)).heap[T]? = some (.cells (tokC 0 a v) 121 (0, 0))) := ⟨blk_far KT8.out (by show T ≠ c; omega) _⟩
          have KG9 : Aside0 ((w8.setCell ⟨c, 0, none⟩ (.string v)).heap[w.heap.size]? = some (.cells #[.string ⟨#[]⟩, .int .i64 0, .int .i64 0, .int .i64 0, .int .i64 0, .int .i64 0, .int .i64 0, .int .i64 0, .int .i64 0, .int .i64 0, .int .i64 0, .string ⟨#[]⟩, .int .i64 0, .int .i64 0, .int .i64 0, .int .i64 0, .int .i64 0, .int .i64 0] 23 (0, 0))) := ⟨blk_far KG8.out (by show w.heap.size ≠ c; omega) _⟩
          clear HF8 HR8 HC8 KT8 KG8 t1
          go_wp2_with fail
          clear o0 f0 t2
          generalize w8.setCell ⟨c, 0, none⟩ (.string v) = w9 at *
          have HW2 := Aside0.mk (want_any s hs r q hpq.2.2 1 openB w9 HR9.out)
          have HWL := Aside0.mk (fun a' q' h => wantP_le s q 1 openB a' q' hpq.2.2 h)
          cases hwn : wantP s q 1 openB with
          | error ae =>
            obtain ⟨ea, er⟩ := ae
            rw [hwn] at HOUT HW2
            obtain rfl : out = .error (ea, er) := HOUT.out.symm
            clear HOUT hwn
            refine HW2.out.mono ?_
            rintro e wA ⟨rfl, hcA⟩
            have HCA := Aside0.mk (HC9.out.trans hcA)
            clear hcA HW2
            go_wp2
            exact ⟨rfl, rfl, HCA.out⟩
          | ok aq =>
            obtain ⟨wa1, q1⟩ := aq
            rw [hwn] at HOUT HW2 HWL
            have hq1 := (HWL.out _ _ rfl).2
            simp only at HOUT
            clear hwn HWL
            refine HW2.out.mono ?_
            rintro e wA ⟨rfl, hrA, hcA⟩
            have HRA := Aside0.mk hrA
            have HCA := Aside0.mk (HC9.out.trans hcA)
            have HFA : Aside0 (CfgAt wA c v ⟨#[]⟩ kU) := ⟨hcA.blk HF9.out (by simp; omega)⟩
            have KTA := Aside0.mk (hcA.blk KT9.out (by simp; omega))
            have KGA := Aside0.mk (hcA.blk KG9.out (by simp; omega))
            clear hrA hcA HW2 HR9 HC9 HF9 KT9 KG9
            have hmm := @run_makeMap Tryd.prog
            have HS5 : Aside0 (Stood ((wA.alloc (.map #[] 0)).alloc (.map #[] 0)) wA.heap.size []) := ⟨(Stood.new wA).ch ((Ch.refl [] _).alloc _) (by simp)⟩
            have HS6 : Aside0 (Stood ((wA.alloc (.map #[] 0)).alloc (.map #[] 0)) (wA.heap.size + 1) []) := ⟨by have := Stood.new (wA.alloc (.map #[] 0)); rwa [World.size_alloc] at this⟩
            have HRB : Aside0 (Rd ((wA.alloc (.map #[] 0)).alloc (.map #[] 0)) r s q1) := ⟨blk_alloc (blk_alloc HRA.out _) _⟩
            have HFB : Aside0 (CfgAt ((wA.alloc (.map #[] 0)).alloc (.map #[] 0)) c v ⟨#[]⟩ kU) := ⟨blk_alloc (blk_alloc HFA.out _) _⟩
            have HCB := Aside0.mk ((HCA.out.alloc (.map #[] 0)).alloc (.map #[] 0))
            have KTB := Aside0.mk (blk_alloc (blk_alloc KTA.out (.map #[] 0)) (.map #[] 0))
            have KGB := Aside0.mk (blk_alloc (blk_alloc KGA.out (.map #[] 0)) (.map #[] 0))
            have hTA : T < wA.heap.size := blk_lt KTA.out
            clear HRA HCA HFA KTA KGA
            go_wp2
            go_step3
            go_upto_region 12 with fail
            clear hmm
            generalize (wA.alloc (.map #[] 0)).alloc (.map #[] 0) = wB at *
            generalize wA.heap.size = b5 at *
            have hrT : r < T := by omega
            have hgT : w.heap.size < T := by omega
            clear htw hcw hcw4 hpq hq0 hg0
            go_loopg [6] (s.size + 1) (fun kq v6 wr => ∃ (p bd : Nat) (L D : List ByteArray) (sc : ByteArray) (k : Nat → Int) (tk ta : Nat) (tv : ByteArray), p ≤ s.size ∧ s.size - p < kq ∧ L.length ≤ p ∧ v6 = .map (some bd) ∧ b5 < bd ∧ Aside0 (Rd wr r s p) ∧ Aside0 (CfgAt wr c v sc k) ∧ Aside0 (Ch [r] w wr) ∧ Aside0 (Stood wr b5 L) ∧ Aside0 (Stood wr bd D) ∧ Aside0 (wr.heap[T]? = some (.cells (tokC tk ta tv) 121 (0, 0))) ∧ Aside0 (wr.heap[w.heap.size]? = some (.cells #[.string ⟨#[]⟩, .int .i64 0, .int .i64 0, .int .i64 0, .int .i64 0, .int .i64 0, .int .i64 0, .int .i64 0, .int .i64 0, .int .i64 0, .int .i64 0, .string ⟨#[]⟩, .int .i64 0, .int .i64 0, .int .i64 0, .int .i64 0, .int .i64 0, .int .i64 0] 23 (0, 0))) ∧ Aside0 ((match partsP s kq p L D sc k with | .error e => .error e | .ok y => endP s v y) = out))
            case atStart => exact ⟨q1, b5 + 1, [], [], ⟨#[]⟩, kU, 0, a, v, hq1, by omega, by simp, rfl, by omega, HRB, HFB, HCB, HS5, HS6, KTB, KGB, HOUT⟩
            case round =>
              clear HRB HFB HCB HS5 HS6 KTB KGB HOUT
              obtain ⟨p, bd, L, D, sc, k, tk, ta, tv, hp, hk, hL, rfl, hbd, HR, HF, HC, HS5, HS6, KT, KG, HQ⟩ := hrel
              obtain ⟨f, rfl⟩ : ∃ f, gk = f + 1 := ⟨gk - 1, by omega⟩
              simp only [partsP] at HQ
              have hb5 : b5 < wr.heap.size := HS5.out.lt
              have hbw : bd < wr.heap.size := HS6.out.lt
              have HN := Aside0.mk (next_any s hs r p hp wr HR.out)
              go_wp2_with fail
              cases hn : nextP s p with
              | error a =>
                rw [hn] at HQ HN
                obtain rfl : out = .error (a, 121) := HQ.out.symm
                clear HQ hn
                refine HN.out.mono ?_
                rintro e w2 ⟨rfl, hc2⟩
                have HC2 := Aside0.mk (HC.out.trans hc2)
                clear hc2 HN
                go_wp2
                exact ⟨rfl, rfl, HC2.out⟩
              | ok tok =>
                obtain ⟨kd, a, tv', q⟩ := tok
                rw [hn] at HQ HN
                simp only at HQ
                have hpq := nextP_le s p kd a tv' q hp hn
                have HVS : Aside0 (kd = 0 → tv'.size ≤ 1000000) := ⟨fun h0 => by subst h0; exact nextP_size s hs p a tv' q hn⟩
                clear hn
                refine HN.out.mono ?_
                rintro e w2 ⟨rfl, hr2, hc2⟩
                have hw2 : wr.heap.size ≤ w2.heap.size := hc2.size
                have HR3 : Aside0 (Rd w2 r s q) := ⟨hr2⟩
                have HC3 := Aside0.mk (HC.out.trans hc2)
                have HF3 : Aside0 (CfgAt w2 c v sc k) := ⟨hc2.blk HF.out (by simp; omega)⟩
                have HS53 := Aside0.mk (HS5.out.ch hc2 (by simp; omega))
                have HS63 := Aside0.mk (HS6.out.ch hc2 (by simp; omega))
                have KT3 := hc2.blk KT.out (by simp; omega)
                have KG3 := Aside0.mk (hc2.blk KG.out (by simp; omega))
                clear hr2 hc2 HN HR HF HC HS5 HS6 KT KG
                go_upto_region 13 with (refine store_whole rfl rfl rfl (g := T) rfl (tokC kd a tv') rfl KT3 (by kernel_rfl) (by rfl) (tokOne kd a tv') ?_; intro w3 h3 hg3)
                have HB := Aside0.mk h3
                have HR4 : Aside0 (Rd w3 r s q) := ⟨grown_blk hg3 HR3.out (by omega)⟩
                have HC4 := Aside0.mk (HC3.out.stepG hg3 (by omega))
                have HF4 : Aside0 (CfgAt w3 c v sc k) := ⟨grown_blk hg3 HF3.out (by omega)⟩
                have HS54 : Aside0 (Stood w3 b5 L) := ⟨HS53.out.keep (hg3.block _ HS53.out.lt (by simp; omega))⟩
                have HS64 : Aside0 (Stood w3 bd D) := ⟨HS63.out.keep (hg3.block _ HS63.out.lt (by simp; omega))⟩
                have KG4 := Aside0.mk (grown_blk hg3 KG3.out (by omega))
                clear hg3 h3 KT3 HR3 HC3 HF3 HS53 HS63 KG3
                have t0 : w3.cell? ⟨T, 0, none⟩ = some (.int .i64 (kd : Int)) := (blk_cell HB.out 0).trans rfl
                have t1 : w3.cell? ⟨T, 1, none⟩ = some (.int .i64 (a : Int)) := (blk_cell HB.out 1).trans rfl
                have t2 : w3.cell? ⟨T, 2, none⟩ = some (.string tv') := (blk_cell HB.out 2).trans rfl
                by_cases hend : kd = 1 ∧ tv'.toList = [125]
                · rw [if_pos hend] at HQ
                  obtain ⟨rfl, he⟩ := hend
                  have heb : (tv'.toList == [125]) = true := beq_iff_eq.2 he
                  simp only [endP] at HQ
                  clear he HVS HS54
                  have rb := look_run HS64.out (⟨#[98, 108, 111, 99, 107, 115]⟩ : ByteArray) (by decide)
                  have rs := look_run HS64.out (⟨#[98, 108, 111, 99, 107, 45, 115, 105, 122, 101]⟩ : ByteArray) (by decide)
                  cases hsb : seen D blkB with
                  | false =>
                    rw [hsb, Bool.false_and, if_pos rfl] at HQ
                    obtain rfl : out = .error (a, 125) := HQ.out.symm
                    rw [show seen D (⟨#[98, 108, 111, 99, 107, 115]⟩ : ByteArray) = false from hsb, if_neg (by decide)] at rb
                    clear HQ rs hsb
                    go_wp2_with fail
                    refine (give_any a 125 w3).mono ?_
                    rintro e w' ⟨rfl, rfl⟩
                    go_wp2
                    exact ⟨rfl, rfl, HC4.out⟩
                  | true =>
                    rw [show seen D (⟨#[98, 108, 111, 99, 107, 115]⟩ : ByteArray) = true from hsb, if_pos rfl] at rb
                    cases hss : seen D sizB with
                    | false =>
                      rw [hsb, hss, Bool.true_and, if_pos rfl] at HQ
                      obtain rfl : out = .error (a, 125) := HQ.out.symm
                      rw [show seen D (⟨#[98, 108, 111, 99, 107, 45, 115, 105, 122, 101]⟩ : ByteArray) = false from hss, if_neg (by decide)] at rs
                      clear HQ hsb hss
                      go_wp2_with fail
                      refine (give_any a 125 w3).mono ?_
                      rintro e w' ⟨rfl, rfl⟩
                      go_wp2
                      exact ⟨rfl, rfl, HC4.out⟩
                    | true =>
                      rw [hsb, hss, Bool.true_and, if_neg (by simp)] at HQ
                      rw [show seen D (⟨#[98, 108, 111, 99, 107, 45, 115, 105, 122, 101]⟩ : ByteArray) = true from hss, if_pos rfl] at rs
                      clear hsb hss
                      go_upto_region 30 with fail
                      clear rb rs HS64
                      have hqs := hpq.2.2
                      clear t0 t2
                      go_wp2_with ((with_reducible refine gate_dst (N := 122) rfl ?_); refine wpList_load_row rfl 23 _ rfl c rfl 23 (cfgC v sc k) (0, 0) _ HF4.out Tryd.underlying23 rfl (by kernel_rfl) ?_)
                      refine (Go.Proofs.YtfecfgimfjcbdaaDoor.QCCheck.conf_together.calls v (k 1) (k 2) (k 3) (k 0) (k 4) (k 5) (k 6) (k 7) (k 8) (k 9) sc (k 10) (k 11) (k 12) (k 13) (k 14) (k 15) _ w3 (tog_f v sc k)).mono ?_
                      rintro e w5 ⟨rfl, hB5⟩
                      have HB5 := Aside0.mk (blk_below HB.out hB5)
                      have HR5 : Aside0 (Rd w5 r s q) := ⟨blk_below HR4.out hB5⟩
                      have HF5 : Aside0 (CfgAt w5 c v sc k) := ⟨blk_below HF4.out hB5⟩
                      have HC5 := Aside0.mk (HC4.out.then hB5)
                      have KG5 := Aside0.mk (blk_below KG4.out hB5)
                      clear hB5 HB HR4 HF4 HC4 KG4 t1
                      have t1 : w5.cell? ⟨T, 1, none⟩ = some (.int .i64 (a : Int)) := (blk_cell HB5.out 1).trans rfl
                      cases htg : togI k with
                      | false =>
                        rw [htg, if_pos rfl] at HQ
                        obtain rfl : out = .error (a, 124) := HQ.out.symm
                        clear HQ htg
                        go_wp2_with fail
                        refine (give_any a 124 w5).mono ?_
                        rintro e w' ⟨rfl, rfl⟩
                        go_wp2
                        exact ⟨rfl, rfl, HC5.out⟩
                      | true =>
                        rw [htg, if_neg (by simp)] at HQ
                        clear htg
                        go_wp2_with fail
                        refine (more_any s hs r q hqs w5 HR5.out).mono ?_
                        rintro e w6 ⟨rfl, hr6, hc6⟩
                        have HR6 := Aside0.mk hr6
                        have HC6 := Aside0.mk (HC5.out.trans hc6)
                        have HF6 : Aside0 (CfgAt w6 c v sc k) := ⟨hc6.blk HF5.out (by simp; omega)⟩
                        have KG6 := Aside0.mk (hc6.blk KG5.out (by simp; omega))
                        clear hr6 hc6 HB5 HR5 HF5 HC5 KG5 t1
                        have hsl := skp_le s q hqs
                        obtain ⟨qe, hqe⟩ : ∃ qe, skp s q = qe := ⟨_, rfl⟩
                        rw [hqe] at HQ HR6 hsl
                        rw [hqe]
                        clear hqe
                        by_cases hmore : qe < s.size
                        · rw [if_pos hmore] at HQ
                          have dm : decide (qe < s.size) = true := decide_eq_true hmore
                          have HN6 := Aside0.mk (next_any s hs r qe hsl w6 HR6.out)
                          go_wp2_with fail
                          cases hn6 : nextP s qe with
                          | error ea =>
                            rw [hn6] at HQ HN6
                            obtain rfl : out = .error (ea, 121) := HQ.out.symm
                            clear HQ hn6
                            refine HN6.out.mono ?_
                            rintro e w7 ⟨rfl, hc7⟩
                            have HC7 := Aside0.mk (HC6.out.trans hc7)
                            clear hc7 HN6
                            go_wp2
                            exact ⟨rfl, rfl, HC7.out⟩
                          | ok te =>
                            obtain ⟨ekd, ea, ev, eq⟩ := te
                            rw [hn6] at HQ HN6
                            obtain rfl : out = .error (ea, 121) := HQ.out.symm
                            clear HQ hn6
                            refine HN6.out.mono ?_
                            rintro e w7 ⟨rfl, _, hc7⟩
                            have HC7 := Aside0.mk (HC6.out.trans hc7)
                            clear hc7 HN6
                            simp only [tokC]
                            have hfd := field_tok (.int .i64 (ekd : Int)) (.int .i64 (ea : Int)) (.string ev) w7
                            go_wp2_with fail
                            refine (give_any ea 121 w7).mono ?_
                            rintro e w' ⟨rfl, rfl⟩
                            go_wp2
                            exact ⟨rfl, rfl, HC7.out⟩
                        · rw [if_neg hmore] at HQ
                          have dm : decide (qe < s.size) = false := decide_eq_false hmore
                          obtain rfl : out = .ok (v, sc, k) := HQ.out.symm
                          clear HQ hmore
                          go_wp2_with (first | ((with_reducible refine gate_dst (N := 134) rfl ?_); refine wpList_load_row rfl 23 _ rfl c rfl 23 (cfgC v sc k) (0, 0) _ HF6.out Tryd.underlying23 rfl (by kernel_rfl) ?_) | (refine store_whole rfl rfl rfl (g := w.heap.size) rfl (cfgC v sc k) rfl KG6.out (by kernel_rfl) (by rfl) (cfgOne _ _ _) ?_; intro w7 h7 hg7))
                          rw [Exit.noGoto_ret]
                          refine bodyPost_ret (results_c1 rfl _ _ w.heap.size 23 (cfgC v sc k) (0, 0) _ rfl h7 Tryd.underlying23 rfl (by kernel_rfl)) rfl ?_
                          exact ⟨rfl, HC6.out.stepG hg7 (Nat.le_refl _)⟩
                · rw [if_neg hend] at HQ
                  by_cases hk0 : kd = 0
                  case neg =>
                    rw [if_pos hk0] at HQ
                    obtain rfl : out = .error (a, 121) := HQ.out.symm
                    have hk0n : ((kd : Int) != 0) = true := by simp; omega
                    have hk0b : ((kd : Int) == 0) = false := by simp; omega
                    clear HQ HVS hk0
                    by_cases hk1 : kd = 1
                    · subst hk1
                      have heb : (tv'.toList == [125]) = false := beq_eq_false_iff_ne.2 (fun e => hend ⟨rfl, e⟩)
                      clear hend
                      go_wp2_with fail
                      refine (give_any a 121 w3).mono ?_
                      rintro e w' ⟨rfl, rfl⟩
                      go_wp2
                      exact ⟨rfl, rfl, HC4.out⟩
                    · have hk1b : ((kd : Int) == 1) = false := by simp; omega
                      clear hend hk1
                      go_wp2_with fail
                      refine (give_any a 121 w3).mono ?_
                      rintro e w' ⟨rfl, rfl⟩
                      go_wp2
                      exact ⟨rfl, rfl, HC4.out⟩
                  case pos =>
                    subst hk0
                    rw [if_neg (by simp)] at HQ
                    have hvs := HVS.out rfl
                    clear hend HVS
                    go_upto_region 16 with fail
                    go_cut [53] from 35 to 108 (fun v53 wx => v53 = .bool (!isPart tv') ∧ w3 = wx)
                    case first =>
                      by_cases e1 : tv'.toList = protB
                      · have d1 : (tv'.toList == [112, 114, 111, 116, 111, 99, 111, 108]) = true := beq_iff_eq.2 e1
                        have hpv : isPart tv' = true := by unfold isPart; rw [beq_iff_eq.2 e1]; rfl
                        clear e1
                        go_wp2_with fail
                        go_meet
                        exact ⟨by rw [hpv]; rfl, rfl⟩
                      · have d1 : (tv'.toList == [112, 114, 111, 116, 111, 99, 111, 108]) = false := beq_eq_false_iff_ne.2 e1
                        by_cases e2 : tv'.toList = devB
                        · have d2 : (tv'.toList == [100, 101, 118, 105, 99, 101]) = true := beq_iff_eq.2 e2
                          have hpv : isPart tv' = true := by unfold isPart; rw [beq_iff_eq.2 e2]; simp
                          clear e1 e2
                          go_wp2_with fail
                          go_meet
                          exact ⟨by rw [hpv]; rfl, rfl⟩
                        · have d2 : (tv'.toList == [100, 101, 118, 105, 99, 101]) = false := beq_eq_false_iff_ne.2 e2
                          by_cases e3 : tv'.toList = netB
                          · have d3 : (tv'.toList == [110, 101, 116]) = true := beq_iff_eq.2 e3
                            have hpv : isPart tv' = true := by unfold isPart; rw [beq_iff_eq.2 e3]; simp
                            clear e1 e2 e3
                            go_wp2_with fail
                            go_meet
                            exact ⟨by rw [hpv]; rfl, rfl⟩
                          · have d3 : (tv'.toList == [110, 101, 116]) = false := beq_eq_false_iff_ne.2 e3
                            by_cases e4 : tv'.toList = synB
                            · have d4 : (tv'.toList == [115, 121, 110, 99, 101, 114]) = true := beq_iff_eq.2 e4
                              have hpv : isPart tv' = true := by unfold isPart; rw [beq_iff_eq.2 e4]; simp
                              clear e1 e2 e3 e4
                              go_wp2_with fail
                              go_meet
                              exact ⟨by rw [hpv]; rfl, rfl⟩
                            · have d4 : (tv'.toList == [115, 121, 110, 99, 101, 114]) = false := beq_eq_false_iff_ne.2 e4
                              have hpv : isPart tv' = false := by
                                unfold isPart
                                rw [beq_eq_false_iff_ne.2 e1, beq_eq_false_iff_ne.2 e2, beq_eq_false_iff_ne.2 e3, beq_eq_false_iff_ne.2 e4]
                                rfl
                              clear e1 e2 e3 e4
                              go_wp2_with fail
                              go_meet
                              exact ⟨by rw [hpv]; rfl, rfl⟩
                    case rest =>
                    obtain ⟨rfl, rfl⟩ := hcut
                    cases hpt : isPart tv' with
                    | false =>
                      rw [hpt, if_pos rfl] at HQ
                      obtain rfl : out = .error (a, 122) := HQ.out.symm
                      clear HQ hpt
                      go_wp2_with fail
                      refine (give_any a 122 w3).mono ?_
                      rintro e w' ⟨rfl, rfl⟩
                      go_wp2
                      exact ⟨rfl, rfl, HC4.out⟩
                    | true =>
                      rw [hpt, if_neg (by simp)] at HQ
                      clear hpt
                      have rl := look_run HS54.out tv' (by unfold maxLen; omega)
                      by_cases hseen : seen L tv' = true
                      · rw [if_pos hseen] at HQ rl
                        obtain rfl : out = .error (a, 123) := HQ.out.symm
                        clear HQ hseen
                        go_wp2_with fail
                        refine (give_any a 123 w3).mono ?_
                        rintro e w' ⟨rfl, rfl⟩
                        go_wp2
                        exact ⟨rfl, rfl, HC4.out⟩
                      · rw [if_neg hseen] at HQ rl
                        clear hseen
                        obtain ⟨n, DD, hown, hnL, hD⟩ := HS54.out
                        have HKV := Aside0.mk (keyOf_string_mk (s := tv') Tryd.underlying9 (by unfold maxLen; omega))
                        have hn1 : n < maxLen := by unfold maxLen; omega
                        have HOW := Aside0.mk hown
                        have HDD := Aside0.mk hD
                        clear hown hD
                        go_upto_region 21 with (at_mapUpdate; refine wpList_mapUpdate_own _ rfl _ _ _ 125 rfl 9 3 keyLaw Tryd.underlying125 _ b5 n DD rfl HOW.out hn1 _ _ _ rfl rfl HKV.out _ [] (plainElem_int Tryd.underlying3 (by decide)) ?_; intro w6 hown6 hg6)
                        have HS56 := Aside0.mk (Stood.put HOW.out hnL HDD.out hown6)
                        have HR6 : Aside0 (Rd w6 r s q) := ⟨grown_blk hg6 HR4.out (by omega)⟩
                        have HF6 : Aside0 (CfgAt w6 c v sc k) := ⟨grown_blk hg6 HF4.out (by omega)⟩
                        have HC6 := Aside0.mk (HC4.out.stepG hg6 (by omega))
                        have HS66 : Aside0 (Stood w6 bd D) := ⟨HS64.out.keep (hg6.block _ HS64.out.lt (by simp; omega))⟩
                        have KG6 := Aside0.mk (grown_blk hg6 KG4.out (by omega))
                        have HB6 := Aside0.mk (grown_blk hg6 HB.out (by omega))
                        clear hown6 hg6 HDD HOW HKV HS54 HR4 HF4 HC4 HS64 KG4 HB t0 t1 t2 rl
                        have t2 : w6.cell? ⟨T, 2, none⟩ = some (.string tv') := (blk_cell HB6.out 2).trans rfl
                        obtain ⟨fo, hfo⟩ : ∃ fo, findP ⟨#[]⟩ tv' = fo := ⟨_, rfl⟩
                        rw [hfo] at HQ
                        have HFI := Aside0.mk (find_any ⟨#[]⟩ tv' w6 fo hfo)
                        clear hfo
                        go_wp2_with fail
                        refine HFI.out.mono ?_
                        rintro e w7 hf7
                        have hB7 := hf7.1
                        have hw7 : w6.heap.size ≤ w7.heap.size := hB7.size
                        have HS57 : Aside0 (Stood w7 b5 (tv' :: L)) := ⟨HS56.out.keep (hB7.block _ HS56.out.lt)⟩
                        have HS67 : Aside0 (Stood w7 bd D) := ⟨HS66.out.keep (hB7.block _ HS66.out.lt)⟩
                        have HR7 : Aside0 (Rd w7 r s q) := ⟨blk_below HR6.out hB7⟩
                        have HF7 : Aside0 (CfgAt w7 c v sc k) := ⟨blk_below HF6.out hB7⟩
                        have HC7 := Aside0.mk (HC6.out.then hB7)
                        have HB7 := Aside0.mk (blk_below HB6.out hB7)
                        have KG7 := Aside0.mk (blk_below KG6.out hB7)
                        have h6b : b5 < w6.heap.size ∧ bd < w6.heap.size := ⟨HS56.out.lt, HS66.out.lt⟩
                        clear hB7 HFI HS56 HS66 HR6 HF6 HC6 HB6 KG6 t2
                        have t2 : w7.cell? ⟨T, 2, none⟩ = some (.string tv') := (blk_cell HB7.out 2).trans rfl
                        cases fo with
                        | some key =>
                          simp only at HQ
                          obtain ⟨kp, rfl, hkp⟩ := KeyPtr.of_find hf7 (Ch.refl [] w7) (by simp)
                          have HKP := Aside0.mk hkp
                          clear hf7 hkp
                          obtain ⟨vo, hvo⟩ : ∃ vo, valueP s q key sc k = vo := ⟨_, rfl⟩
                          have HVA := Aside0.mk (value_any s hs r c q w6.heap.size (by omega) (by omega) hpq.2.2 v sc k key kp w7 HR7.out HF7.out HKP.out vo hvo)
                          have HVL := Aside0.mk (fun y hy => valueP_le s q key sc k y hpq.2.2 hy)
                          rw [hvo] at HQ HVL
                          clear hvo HKP
                          go_wp2_with fail
                          refine HVA.out.mono ?_
                          rintro e w8 hp8
                          clear HVA
                          cases vo with
                          | error ae =>
                            obtain ⟨ea, er⟩ := ae
                            simp only at HQ
                            obtain rfl : out = .error (ea, er) := HQ.out.symm
                            obtain ⟨rfl, hc8⟩ := hp8
                            have HC8 := Aside0.mk (HC7.out.step hc8 (by omega))
                            clear hc8 HQ HVL
                            go_wp2
                            exact ⟨rfl, rfl, HC8.out⟩
                          | ok y =>
                            obtain ⟨sc', k', q'⟩ := y
                            simp only at HQ
                            have hq' := HVL.out _ rfl
                            obtain ⟨rfl, hr8, hf8, hc8⟩ := hp8
                            have HC8 := Aside0.mk (HC7.out.step hc8 (by omega))
                            have HR8 := Aside0.mk hr8
                            have HF8 := Aside0.mk hf8
                            have HS58 := Aside0.mk (HS57.out.ch hc8 (by simp; omega))
                            have HS68 := Aside0.mk (HS67.out.ch hc8 (by simp; omega))
                            have HB8 := Aside0.mk (hc8.blk HB7.out (by simp; omega))
                            have KG8 := Aside0.mk (hc8.blk KG7.out (by simp; omega))
                            simp only at hq'
                            clear hr8 hf8 hc8 HVL HS57 HS67 HR7 HF7 HC7 HB7 KG7 t2
                            go_wp2
                            go_roundg f
                            case measure => omega
                            case rel => exact ⟨q', bd, tv' :: L, D, sc', k', 0, a, tv', by omega, by omega, by simp; omega, rfl, hbd, HR8, HF8, HC8, HS58, HS68, HB8, KG8, HQ⟩
                        | none =>
                          simp only at HQ
                          obtain rfl := hf7.2
                          clear hf7
                          have HW7 := Aside0.mk (want_any s hs r q hpq.2.2 1 openB w7 HR7.out)
                          have HWL := Aside0.mk (fun a' q' h => wantP_le s q 1 openB a' q' hpq.2.2 h)
                          go_wp2_with fail
                          cases hwn : wantP s q 1 openB with
                          | error ae =>
                            obtain ⟨ea, er⟩ := ae
                            rw [hwn] at HQ HW7
                            obtain rfl : out = .error (ea, er) := HQ.out.symm
                            clear HQ hwn
                            refine HW7.out.mono ?_
                            rintro e w8 ⟨rfl, hc8⟩
                            have HC8 := Aside0.mk (HC7.out.trans hc8)
                            clear hc8 HW7
                            go_wp2
                            exact ⟨rfl, rfl, HC8.out⟩
                          | ok aq =>
                            obtain ⟨wa2, q2⟩ := aq
                            rw [hwn] at HQ HW7 HWL
                            have hq2 := HWL.out _ _ rfl
                            simp only at HQ
                            clear hwn HWL
                            refine HW7.out.mono ?_
                            rintro e w8 ⟨rfl, hr8, hc8⟩
                            have hw8 : w7.heap.size ≤ w8.heap.size := hc8.size
                            have HR8 := Aside0.mk hr8
                            have HC8 := Aside0.mk (HC7.out.trans hc8)
                            have HF8 : Aside0 (CfgAt w8 c v sc k) := ⟨hc8.blk HF7.out (by simp; omega)⟩
                            have HS58 := Aside0.mk (HS57.out.ch hc8 (by simp; omega))
                            have HS68 := Aside0.mk (HS67.out.ch hc8 (by simp; omega))
                            have HB8 := Aside0.mk (hc8.blk HB7.out (by simp; omega))
                            have KG8 := Aside0.mk (hc8.blk KG7.out (by simp; omega))
                            clear hr8 hc8 HW7 HS57 HS67 HR7 HF7 HC7 HB7 KG7 t2
                            have t2 : w8.cell? ⟨T, 2, none⟩ = some (.string tv') := (blk_cell HB8.out 2).trans rfl
                            obtain ⟨so, hso⟩ : ∃ so, sectP s tv' (s.size + 1) q2 [] sc k = so := ⟨_, rfl⟩
                            have HSE := Aside0.mk (section_any s hs r c q2 (by omega) hq2.2 v sc tv' k w8 HR8.out HF8.out so hso)
                            have HSL := Aside0.mk (fun y hy => sectP_le s tv' (s.size + 1) q2 [] sc k y hq2.2 hy)
                            rw [hso] at HQ HSL
                            clear hso
                            go_wp2_with fail
                            refine HSE.out.mono ?_
                            rintro e w9' hp9
                            clear HSE
                            cases so with
                            | error ae =>
                              obtain ⟨ea, er⟩ := ae
                              simp only at HQ
                              obtain rfl : out = .error (ea, er) := HQ.out.symm
                              obtain ⟨rfl, hc9⟩ := hp9
                              have HC9 := Aside0.mk (HC8.out.step hc9 (by omega))
                              clear hc9 HQ HSL
                              go_wp2
                              exact ⟨rfl, rfl, HC9.out⟩
                            | ok y =>
                              obtain ⟨L2, sc', k', q'⟩ := y
                              simp only at HQ
                              have hq' := HSL.out _ rfl
                              simp only at hq'
                              obtain ⟨⟨b2, rfl, hb2, hs2⟩, hr9, hf9, hc9⟩ := hp9
                              have HC9 := Aside0.mk (HC8.out.step hc9 (by omega))
                              have HR9 := Aside0.mk hr9
                              have HF9 := Aside0.mk hf9
                              have HS29 := Aside0.mk hs2
                              have HS59 := Aside0.mk (HS58.out.ch hc9 (by simp; omega))
                              have HS69 := Aside0.mk (HS68.out.ch hc9 (by simp; omega))
                              have HB9 := Aside0.mk (hc9.blk HB8.out (by simp; omega))
                              have KG9 := Aside0.mk (hc9.blk KG8.out (by simp; omega))
                              clear hr9 hf9 hs2 hc9 HSL HS58 HS68 HR8 HF8 HC8 HB8 KG8 t2
                              have t2 : w9'.cell? ⟨T, 2, none⟩ = some (.string tv') := (blk_cell HB9.out 2).trans rfl
                              cases hdv : (tv'.toList == devB) with
                              | true =>
                                rw [hdv, if_pos rfl] at HQ
                                have hdv2 : (tv'.toList == [100, 101, 118, 105, 99, 101]) = true := hdv
                                clear hdv
                                go_wp2
                                go_roundg f
                                case measure => omega
                                case rel => exact ⟨q', b2, tv' :: L, L2, sc', k', 0, a, tv', by omega, by omega, by simp; omega, rfl, by omega, HR9, HF9, HC9, HS59, HS29, HB9, KG9, HQ⟩
                              | false =>
                                rw [hdv, if_neg (by simp)] at HQ
                                have hdv2 : (tv'.toList == [100, 101, 118, 105, 99, 101]) = false := hdv
                                clear hdv
                                go_wp2
                                go_roundg f
                                case measure => omega
                                case rel => exact ⟨q', bd, tv' :: L, D, sc', k', 0, a, tv', by omega, by omega, by simp; omega, rfl, hbd, HR9, HF9, HC9, HS59, HS69, HB9, KG9, HQ⟩
end Go.Proofs.YtfecfgimfjcbdaaDoor.Cf
