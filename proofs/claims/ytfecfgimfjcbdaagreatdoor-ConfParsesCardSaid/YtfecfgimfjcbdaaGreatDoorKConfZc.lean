/- conf.Parse, walked: of the texts ConfA .. ConfNn what it leans on. -/
import Derived.Test.YtfecfgimfjcbdaaGreatDoorKConfZb
import Derived.StillTailTactics
import Derived.Lib.Atoi
import Derived.Lib.AtoiErrMem
import Derived.Deep.Cut
namespace Go.Proofs.YtfecfgimfjcbdaaGreatDoor.Cf
open Go.RowKit Go.Proofs.YtfecfgimfjcbdaaGreatDoorW.PrintWords Go.Proofs.YtfecfgimfjcbdaaGreatDoorW.PrintLast Go.Proofs.YtfecfgimfjcbdaaGreatDoorW.PrintMore Go.Proofs.YtfecfgimfjcbdaaGreatDoor.QCParse

def inW (c : Nat) : Bool := decide (((65 ≤ c ∧ c ≤ 90) ∨ (97 ≤ c ∧ c ≤ 122)) ∨ (48 ≤ c ∧ c ≤ 57) ∨ c = 45 ∨ c = 95 ∨ c = 46)
theorem inW_f : ∀ c : Fin 256, conf_inWord.f (c.val : Int) = some (inW c.val) := by decide +kernel
theorem inword_any (c : Nat) (hc : c < 256) (w : World) : Calls Tryz.prog 32 #[.int .u8 (c : Int)] w fun e w' => e = .returned (.bool (inW c)) ∧ Drawn0 w w' :=
  conf_inWord.calls (c : Int) _ w (inW_f ⟨c, hc⟩)
/-- Where the word that begins at a place ends. -/
def wEnd (s : ByteArray) (a : Nat) : Nat := a + (((bl s).drop a).takeWhile fun c => inW c.toNat).length
theorem wEnd_le (s : ByteArray) (a : Nat) (h : a ≤ s.size) : wEnd s a ≤ s.size := by
  unfold wEnd
  have := (List.takeWhile_prefix (fun c : UInt8 => inW c.toNat) (l := (bl s).drop a)).length_le
  rw [List.length_drop, bl_length] at this
  omega
theorem wEnd_go (s : ByteArray) (a : Nat) (h : a < s.size) (hc : inW (cA s a) = true) : wEnd s a = wEnd s (a + 1) := by
  unfold wEnd
  obtain ⟨b, e, _⟩ := bl_drop s a h
  have hb : b.toNat = cA s a := by
    have := cA_drop s a 0
    rw [e] at this
    exact this
  rw [e, List.takeWhile_cons, hb, hc]
  simp
  omega
theorem wEnd_at (s : ByteArray) (a : Nat) (hc : a < s.size → inW (cA s a) = false) : wEnd s a = a := by
  unfold wEnd
  by_cases h : a < s.size
  · obtain ⟨b, e, _⟩ := bl_drop s a h
    have hb : b.toNat = cA s a := by
      have := cA_drop s a 0
      rw [e] at this
      exact this
    rw [e, List.takeWhile_cons, hb, hc h]
    simp
  · rw [List.drop_eq_nil_of_le (by rw [bl_length]; omega)]
    simp
/-- A token: its kind, place and value, and the place behind it; or the place of what is wrong. -/
def nextP (s : ByteArray) (p : Nat) : Except Nat (Nat × Nat × ByteArray × Nat) :=
  if s.size ≤ skp s p then .error s.size
  else if inW (cA s (skp s p)) = true then .ok (0, skp s p, s.extract (skp s p) (wEnd s (skp s p)), wEnd s (skp s p))
  else if cA s (skp s p) = 123 ∨ cA s (skp s p) = 125 ∨ cA s (skp s p) = 59 then .ok (1, skp s p, s.extract (skp s p) (skp s p + 1), skp s p + 1)
  else if cA s (skp s p) = 34 then match qS s (s.size + 1) (skp s p + 1) [] with
    | .ok (l, q) => .ok (2, skp s p, ⟨l.toArray⟩, q)
    | .error e => .error e
  else .error (skp s p)
def tokC (kd a : Nat) (v : ByteArray) : Array Value := #[.int .i64 (kd : Int), .int .i64 (a : Int), .string v]
def NPost (r : Nat) (s : ByteArray) (w : World) (o : Except Nat (Nat × Nat × ByteArray × Nat)) (e : Ending) (w' : World) : Prop :=
  match o with
  | .ok (kd, a, v, q) => e = .returned (.agg (tokC kd a v)) ∧ Rd w' r s q ∧ Ch [r] w w'
  | .error a => Faults e a 121 ∧ Ch [r] w w'

set_option maxRecDepth 100000 in
set_option maxHeartbeats 1000000 in
theorem next_out (s : ByteArray) (hs : s.size ≤ 1000000) (r p : Nat) (hp : p ≤ s.size) (w : World) (hr : Rd w r s p) (out : Except Nat (Nat × Nat × ByteArray × Nat)) (hout : nextP s p = out) :
    Calls Tryz.prog 14 #[.pointer (some ⟨r, 0, none⟩)] w (NPost r s w out) := by
  have HOUT := Aside0.mk hout
  have HR := Aside0.mk hr
  have hrw : r < w.heap.size := blk_lt hr
  clear hout hr
  unfold nextP at HOUT
  have hal := skp_le s p hp
  have KT0 := Aside0.mk (blk_new w (.cells #[.int .i64 0, .int .i64 0, .string ⟨#[]⟩] 49))
  have HR0 : Aside0 (Rd (w.alloc (.cells #[.int .i64 0, .int .i64 0, .string ⟨#[]⟩] 49)) r s p) := ⟨blk_alloc HR.out _⟩
  have HC0 := Aside0.mk ((Ch.refl [r] w).alloc (.cells #[.int .i64 0, .int .i64 0, .string ⟨#[]⟩] 49))
  clear HR
  go_enter Tryz.func14, Tryz.ntmps14
  go_wp2_with fail
  generalize w.alloc (.cells #[.int .i64 0, .int .i64 0, .string ⟨#[]⟩] 49) = w0 at *
  refine (more_any s hs r p hp w0 HR0.out).mono ?_
  rintro e w1 ⟨rfl, hr1, hc1⟩
  have KT := Aside0.mk (hc1.blk KT0.out (by simp; omega))
  have HR := Aside0.mk hr1
  have HC := Aside0.mk (HC0.out.trans hc1)
  have hgt : w.heap.size < w1.heap.size := blk_lt KT.out
  clear hr1 hc1 KT0 HR0 HC0
  obtain ⟨a, ha⟩ : ∃ a, skp s p = a := ⟨_, rfl⟩
  rw [ha] at HOUT hal HR
  rw [ha]
  clear ha
  have hone : ∀ (kd : Int) (av : Int) (v : ByteArray), ∀ q ∈ (#[.int .i64 kd, .int .i64 av, .string v] : Array Value).toList, q.oneCell' = true := by
    intro kd av v q hq
    simp only [List.mem_cons, List.not_mem_nil, or_false] at hq
    rcases hq with rfl | rfl | rfl <;> rfl
  by_cases hend : s.size ≤ a
  · rw [if_pos hend] at HOUT
    obtain rfl : out = .error s.size := HOUT.out.symm
    have dm : decide (a < s.size) = false := decide_eq_false (by omega)
    have c0 := HR.out.c0
    clear HOUT
    go_wp2_with fail
    refine (give_any s.size 121 w1).mono ?_
    rintro e w' ⟨rfl, rfl⟩
    go_wp2
    exact ⟨rfl, rfl, HC.out⟩
  · have dm : decide (a < s.size) = true := decide_eq_true (by omega)
    have halt : a < s.size := by omega
    rw [if_neg hend] at HOUT
    have c0 := HR.out.c0
    have c1 := HR.out.c1
    have hcA := cA_at s a halt
    have hcl := cA_lt s a
    obtain ⟨c, hc⟩ : ∃ c, cA s a = c := ⟨_, rfl⟩
    rw [hc] at HOUT hcA hcl
    have HCA : Aside0 ((s[a]'halt).toNat = c) := ⟨hcA.symm⟩
    have HCC := Aside0.mk hc
    clear hcA hc hend
    go_wp2_with fail
    rw [HCA.out]
    refine (inword_any c hcl w1).mono ?_
    rintro e w2 ⟨rfl, hD⟩
    have KT2 := Aside0.mk (blk_below KT.out hD.below)
    have HR2 : Aside0 (Rd w2 r s a) := ⟨blk_below HR.out hD.below⟩
    have HC2 := Aside0.mk (HC.out.then hD.below)
    clear hD KT HR HC c0 c1
    by_cases hw : inW c = true
    · rw [if_pos hw] at HOUT
      obtain rfl := HOUT.out
      rw [hw]
      have HE0 := Aside0.mk (wEnd_go s a halt (by rw [HCC.out]; exact hw))
      have hel := wEnd_le s a (by omega)
      have hHR : Aside0 (wEnd s a = wEnd s a) := ⟨rfl⟩
      obtain ⟨en, hen⟩ : ∃ en, wEnd s a = en := ⟨_, rfl⟩
      rw [hen] at hel
      have HEN := Aside0.mk hen
      rw [hen]
      clear HOUT hHR HE0 hen
      go_wp2_with fail
      go_loopg [] (s.size - a) (fun kq wr => ∃ q : Nat, a ≤ q ∧ q ≤ s.size ∧ kq = s.size - q ∧ Aside0 (wEnd s q = en) ∧ Aside0 (wr.heap[w.heap.size]? = some (.cells #[.int .i64 0, .int .i64 0, .string ⟨#[]⟩] 49 (0, 0))) ∧ Aside0 (Rd wr r s q) ∧ Aside0 (Ch [r] w wr))
      case atStart => exact ⟨a, by omega, by omega, rfl, HEN, KT2, HR2, HC2⟩
      case round =>
        clear KT2 HR2 HC2
        obtain ⟨q, haq, hq, rfl, HQ, KT, HR, HC⟩ := hrel
        have c0 := HR.out.c0
        have c1 := HR.out.c1
        by_cases hlt : q < s.size
        · have dq : decide ((q : Int) < (s.size : Int)) = true := decide_eq_true (by omega)
          have hcq := cA_at s q hlt
          have hcql := cA_lt s q
          obtain ⟨cq, hc⟩ : ∃ cq, cA s q = cq := ⟨_, rfl⟩
          rw [hc] at hcq hcql
          have HCQ : Aside0 ((s[q]'hlt).toNat = cq) := ⟨hcq.symm⟩
          have HQQ := Aside0.mk hc
          clear hcq hc
          go_upto_region 6 with fail
          refine wp_region_still_tail 20 (by kernel_rfl) (by kernel_rfl) ?_
          simp only [List.take_succ_cons, List.take_zero, List.drop_succ_cons, List.drop_zero]
          repeat still_step
          refine wpStill_nil ?_
          change wpList _ _ _ _ _ wr.drew
          have KTd : Aside0 (wr.drew.heap[w.heap.size]? = some (.cells #[.int .i64 0, .int .i64 0, .string ⟨#[]⟩] 49 (0, 0))) := ⟨KT.out⟩
          have HRd : Aside0 (Rd wr.drew r s q) := ⟨HR.out⟩
          have HCd := Aside0.mk HC.out.drew
          clear c0 c1 KT HR HC
          generalize wr.drew = wd at *
          go_wp2_with fail
          rw [HCQ.out]
          refine (inword_any cq hcql wd).mono ?_
          rintro e w3 ⟨rfl, hD⟩
          have KT3 := Aside0.mk (blk_below KTd.out hD.below)
          have HR3 : Aside0 (Rd w3 r s q) := ⟨blk_below HRd.out hD.below⟩
          have HC3 := Aside0.mk (HCd.out.then hD.below)
          clear hD KTd HRd HCd
          have c0 := HR3.out.c0
          have c1 := HR3.out.c1
          have f1 := HR3.out.f 1
          cases hwq : inW cq with
          | true =>
            have HQ2 : Aside0 (wEnd s (q + 1) = en) := ⟨by rw [← HQ.out]; exact (wEnd_go s q hlt (by rw [HQQ.out]; exact hwq)).symm⟩
            go_wp2
            go_roundg (s.size - (q + 1))
            case measure => omega
            case rel =>
              have hst := HR3.out.set (q + 1)
              rw [show ((q + 1 : Nat) : Int) = (q : Int) + 1 by omega] at hst
              exact ⟨q + 1, by omega, by omega, rfl, HQ2, ⟨blk_far KT3.out (by show w.heap.size ≠ r; omega) _⟩, ⟨by rw [show ((q : Int) + 1) = ((q + 1 : Nat) : Int) by omega] at hst ⊢; exact hst⟩, ⟨HC3.out.set (by simp) 1 _⟩⟩
          | false =>
            have HQ2 : Aside0 (q = en) := ⟨by rw [← HQ.out]; exact (wEnd_at s q (fun _ => by rw [HQQ.out]; exact hwq)).symm⟩
            clear f1
            have haq1 : (a : Int) ≤ (q : Int) := by omega
            have hqs1 : (q : Int) ≤ (s.size : Int) := by omega
            go_upto_region 8 with fail
            refine wp_region_still_tail 12 (by kernel_rfl) (by kernel_rfl) ?_
            simp only [List.take_succ_cons, List.take_zero, List.drop_succ_cons, List.drop_zero]
            repeat still_step
            refine wpStill_nil ?_
            change wpList _ _ _ _ _ w3.drew
            have KT4 : Aside0 (w3.drew.heap[w.heap.size]? = some (.cells #[.int .i64 0, .int .i64 0, .string ⟨#[]⟩] 49 (0, 0))) := ⟨KT3.out⟩
            have HR4 : Aside0 (Rd w3.drew r s q) := ⟨HR3.out⟩
            have HC4 := Aside0.mk HC3.out.drew
            clear c0 c1 KT3 HR3 HC3
            generalize w3.drew = w4 at *
            go_wp2_with (refine store_whole rfl rfl rfl (g := w.heap.size) rfl (tokC 0 a (s.extract a q)) rfl KT4.out (by kernel_rfl) (by rfl) (hone _ _ _) ?_; intro w5 h5 hg5)
            refine bodyPost_ret (results_c1 rfl _ _ w.heap.size 49 (tokC 0 a (s.extract a q)) (0, 0) _ rfl h5 Tryz.underlying49 rfl (by kernel_rfl)) rfl ?_
            rw [HEN.out, ← HQ2.out]
            exact ⟨rfl, grown_blk hg5 HR4.out (by omega), HC4.out.grown hg5 (.inr (Nat.le_refl _))⟩
        · have dq : decide ((q : Int) < (s.size : Int)) = false := decide_eq_false (by omega)
          have HQ2 : Aside0 (q = en) := ⟨by rw [← HQ.out]; exact (wEnd_at s q (fun h => by omega)).symm⟩
          go_upto_region 6 with fail
          refine wp_region_still_tail 20 (by kernel_rfl) (by kernel_rfl) ?_
          simp only [List.take_succ_cons, List.take_zero, List.drop_succ_cons, List.drop_zero]
          repeat (with_reducible refine wpStill_step (fun K hK => ?_); go_simp; with_reducible refine hK _ ?_; clear hK K)
          with_reducible refine wpStill_nil ?_
          change wpList _ _ _ _ _ wr.drew
          have KT3 : Aside0 (wr.drew.heap[w.heap.size]? = some (.cells #[.int .i64 0, .int .i64 0, .string ⟨#[]⟩] 49 (0, 0))) := ⟨KT.out⟩
          have HR3 : Aside0 (Rd wr.drew r s q) := ⟨HR.out⟩
          have HC3 := Aside0.mk HC.out.drew
          clear c0 c1 KT HR HC
          generalize wr.drew = w3 at *
          have c0 := HR3.out.c0
          have c1 := HR3.out.c1
          have haq1 : (a : Int) ≤ (q : Int) := by omega
          have hqs1 : (q : Int) ≤ (s.size : Int) := by omega
          go_upto_region 8 with fail
          refine wp_region_still_tail 12 (by kernel_rfl) (by kernel_rfl) ?_
          simp only [List.take_succ_cons, List.take_zero, List.drop_succ_cons, List.drop_zero]
          repeat still_step
          refine wpStill_nil ?_
          change wpList _ _ _ _ _ w3.drew
          have KT4 : Aside0 (w3.drew.heap[w.heap.size]? = some (.cells #[.int .i64 0, .int .i64 0, .string ⟨#[]⟩] 49 (0, 0))) := ⟨KT3.out⟩
          have HR4 : Aside0 (Rd w3.drew r s q) := ⟨HR3.out⟩
          have HC4 := Aside0.mk HC3.out.drew
          clear c0 c1 KT3 HR3 HC3
          generalize w3.drew = w4 at *
          go_wp2_with (refine store_whole rfl rfl rfl (g := w.heap.size) rfl (tokC 0 a (s.extract a q)) rfl KT4.out (by kernel_rfl) (by rfl) (hone _ _ _) ?_; intro w5 h5 hg5)
          refine bodyPost_ret (results_c1 rfl _ _ w.heap.size 49 (tokC 0 a (s.extract a q)) (0, 0) _ rfl h5 Tryz.underlying49 rfl (by kernel_rfl)) rfl ?_
          rw [HEN.out, ← HQ2.out]
          exact ⟨rfl, grown_blk hg5 HR4.out (by omega), HC4.out.grown hg5 (.inr (Nat.le_refl _))⟩
    · have hwf : inW c = false := by simpa using hw
      rw [if_neg hw] at HOUT
      rw [hwf]
      clear hw hwf
      have c1 := HR2.out.c1
      have f1 := HR2.out.f 1
      by_cases hm : c = 123 ∨ c = 125 ∨ c = 59
      · rw [if_pos hm] at HOUT
        obtain rfl : out = .ok (1, a, s.extract a (a + 1), a + 1) := HOUT.out.symm
        clear HOUT
        have KT3 : Aside0 ((w2.setCell ⟨r, 1, none⟩ (.int .i64 ((a : Int) + 1))).heap[w.heap.size]? = some (.cells #[.int .i64 0, .int .i64 0, .string ⟨#[]⟩] 49 (0, 0))) := ⟨blk_far KT2.out (by show w.heap.size ≠ r; omega) _⟩
        have HR3 : Aside0 (Rd (w2.setCell ⟨r, 1, none⟩ (.int .i64 ((a : Int) + 1))) r s (a + 1)) := ⟨by
          have hst := HR2.out.set (a + 1)
          rw [show ((a + 1 : Nat) : Int) = (a : Int) + 1 by omega] at hst
          exact hst⟩
        have HC3 : Aside0 (Ch [r] w (w2.setCell ⟨r, 1, none⟩ (.int .i64 ((a : Int) + 1)))) := ⟨HC2.out.set (by simp) 1 _⟩
        clear KT2 HR2 HC2
        have fin : ∀ W, W.heap[w.heap.size]? = some (.cells #[.int .i64 0, .int .i64 0, .string ⟨#[]⟩] 49 (0, 0)) → Rd W r s (a + 1) → Ch [r] w W → True := fun _ _ _ _ => trivial
        clear fin
        rcases hm with rfl | rfl | rfl
        all_goals
          go_upto_region 11 with fail
          clear c1 f1
          generalize w2.setCell ⟨r, 1, none⟩ (.int .i64 ((a : Int) + 1)) = w3 at *
          have c0 := HR3.out.c0
          have c1 : w3.cell? ⟨r, 1, none⟩ = some (.int .i64 ((a : Int) + 1)) := by
            have := HR3.out.c1
            rwa [show ((a + 1 : Nat) : Int) = (a : Int) + 1 by omega] at this
          have e2 : ((a : Int) + 1).toNat = a + 1 := by omega
          have e3 : (a : Int) ≤ (a : Int) + 1 := by omega
          have e4 : (a : Int) + 1 ≤ (s.size : Int) := by omega
          refine wp_region_still_tail 12 (by kernel_rfl) (by kernel_rfl) ?_
          simp only [List.take_succ_cons, List.take_zero, List.drop_succ_cons, List.drop_zero]
          repeat still_step
          refine wpStill_nil ?_
          change wpList _ _ _ _ _ w3.drew
          have KT4 : Aside0 (w3.drew.heap[w.heap.size]? = some (.cells #[.int .i64 0, .int .i64 0, .string ⟨#[]⟩] 49 (0, 0))) := ⟨KT3.out⟩
          have HR4 : Aside0 (Rd w3.drew r s (a + 1)) := ⟨HR3.out⟩
          have HC4 := Aside0.mk HC3.out.drew
          clear c0 c1 KT3 HR3 HC3 e2 e3 e4
          generalize w3.drew = w4 at *
          go_wp2_with (refine store_whole rfl rfl rfl (g := w.heap.size) rfl (tokC 1 a (s.extract a (a + 1))) rfl KT4.out (by kernel_rfl) (by rfl) (hone _ _ _) ?_; intro w5 h5 hg5)
          refine bodyPost_ret (results_c1 rfl _ _ w.heap.size 49 (tokC 1 a (s.extract a (a + 1))) (0, 0) _ rfl h5 Tryz.underlying49 rfl (by kernel_rfl)) rfl ?_
          exact ⟨rfl, grown_blk hg5 HR4.out (by omega), HC4.out.grown hg5 (.inr (Nat.le_refl _))⟩
      · rw [if_neg hm] at HOUT
        have n1 : ((c : Int) == 123) = false := by simp; omega
        have n2 : ((c : Int) == 125) = false := by simp; omega
        have n3 : ((c : Int) == 59) = false := by simp; omega
        clear hm c1 f1
        by_cases hq : c = 34
        · subst hq
          rw [if_pos rfl] at HOUT
          have HQ := Aside0.mk (quoted_any s hs r a halt w2 HR2.out)
          cases ho : qS s (s.size + 1) (a + 1) [] with
          | error ea =>
            rw [ho] at HOUT HQ
            obtain rfl : out = .error ea := HOUT.out.symm
            clear HOUT ho
            go_wp2_with fail
            refine HQ.out.mono ?_
            rintro e w3 ⟨rfl, hc3⟩
            have HC3 := Aside0.mk (HC2.out.trans hc3)
            clear hc3 HQ
            go_wp2
            exact ⟨rfl, rfl, HC3.out⟩
          | ok lq =>
            obtain ⟨l, q⟩ := lq
            rw [ho] at HOUT HQ
            obtain rfl : out = .ok (2, a, ⟨l.toArray⟩, q) := HOUT.out.symm
            clear HOUT ho
            go_wp2_with fail
            refine HQ.out.mono ?_
            rintro e w3 ⟨rfl, hr3, hc3⟩
            have HC3 := Aside0.mk (HC2.out.trans hc3)
            have HR3 := Aside0.mk hr3
            have KT3 := Aside0.mk (hc3.blk KT2.out (by simp; omega))
            clear hc3 hr3 HQ KT2 HR2 HC2
            go_wp2_with (refine store_whole rfl rfl rfl (g := w.heap.size) rfl (tokC 2 a ⟨l.toArray⟩) rfl KT3.out (by kernel_rfl) (by rfl) (hone _ _ _) ?_; intro w5 h5 hg5)
            refine bodyPost_ret (results_c1 rfl _ _ w.heap.size 49 (tokC 2 a ⟨l.toArray⟩) (0, 0) _ rfl h5 Tryz.underlying49 rfl (by kernel_rfl)) rfl ?_
            exact ⟨rfl, grown_blk hg5 HR3.out (by omega), HC3.out.grown hg5 (.inr (Nat.le_refl _))⟩
        · rw [if_neg hq] at HOUT
          have n4 : ((c : Int) == 34) = false := by simp; omega
          obtain rfl : out = .error a := HOUT.out.symm
          clear HOUT hq
          go_wp2_with fail
          refine (give_any a 121 w2).mono ?_
          rintro e w' ⟨rfl, rfl⟩
          go_wp2
          exact ⟨rfl, rfl, HC2.out⟩
theorem next_any (s : ByteArray) (hs : s.size ≤ 1000000) (r p : Nat) (hp : p ≤ s.size) (w : World) (hr : Rd w r s p) :
    Calls Tryz.prog 14 #[.pointer (some ⟨r, 0, none⟩)] w (NPost r s w (nextP s p)) := next_out s hs r p hp w hr _ rfl
end Go.Proofs.YtfecfgimfjcbdaaGreatDoor.Cf

namespace Go.Proofs.YtfecfgimfjcbdaaGreatDoor.Cf
open Go.RowKit Go.Proofs.YtfecfgimfjcbdaaGreatDoorW.PrintWords Go.Proofs.YtfecfgimfjcbdaaGreatDoorW.PrintLast Go.Proofs.YtfecfgimfjcbdaaGreatDoorW.PrintMore Go.Proofs.YtfecfgimfjcbdaaGreatDoor.QCParse

theorem skipP_ge (s : ByteArray) : ∀ (f p : Nat), p ≤ skipP s f p
  | 0, p => Nat.le_refl _
  | f + 1, p => by
    rw [skipP_step]
    repeat' split
    · exact Nat.le_trans (Nat.le_succ p) (skipP_ge s f _)
    · exact Nat.le_trans (Nat.le_add_right ..) (skipP_ge s f _)
    · exact Nat.le_refl _
    · exact Nat.le_refl _
theorem qS_le (s : ByteArray) : ∀ (f k : Nat) (acc l : List UInt8) (q : Nat), qS s f k acc = .ok (l, q) → k < q ∧ q ≤ s.size
  | 0, _, _, _, _, h => by cases h
  | f + 1, k, acc, l, q, h => by
    rw [qS_step] at h
    split at h
    · split at h
      · obtain ⟨rfl, rfl⟩ := Prod.mk.inj (Except.ok.inj h)
        omega
      · split at h
        · split at h
          · have := qS_le s f _ _ _ _ h
            omega
          · cases h
        · split at h
          · cases h
          · have := qS_le s f _ _ _ _ h
            omega
    · cases h
theorem wEnd_gt (s : ByteArray) (a : Nat) (h : a < s.size) (hc : inW (cA s a) = true) : a < wEnd s a := by
  rw [wEnd_go s a h hc]
  unfold wEnd
  omega
theorem nextP_le (s : ByteArray) (p kd a : Nat) (v : ByteArray) (q : Nat) (hp : p ≤ s.size) (h : nextP s p = .ok (kd, a, v, q)) : p ≤ a ∧ a < q ∧ q ≤ s.size := by
  have h1 : p ≤ skp s p := skipP_ge s _ p
  have h2 := skp_le s p hp
  unfold nextP at h
  split at h
  · cases h
  · rename_i hlt
    split at h
    · rename_i hw
      simp only [Except.ok.injEq, Prod.mk.injEq] at h
      obtain ⟨_, rfl, _, rfl⟩ := h
      have := wEnd_gt s (skp s p) (by omega) hw
      have := wEnd_le s (skp s p) h2
      omega
    · split at h
      · simp only [Except.ok.injEq, Prod.mk.injEq] at h
        obtain ⟨_, rfl, _, rfl⟩ := h
        omega
      · split at h
        · split at h
          · rename_i l qq hq
            simp only [Except.ok.injEq, Prod.mk.injEq] at h
            obtain ⟨_, rfl, _, rfl⟩ := h
            have := qS_le s _ _ _ _ _ hq
            omega
          · cases h
        · cases h
theorem tokOne (kd a : Nat) (v : ByteArray) : ∀ q ∈ (tokC kd a v).toList, q.oneCell' = true := by
  intro q hq
  simp only [tokC, List.mem_cons, List.not_mem_nil, or_false] at hq
  rcases hq with rfl | rfl | rfl <;> rfl

/-- A token that must be just this one: its place, and the place behind it. -/
def wantP (s : ByteArray) (p kd : Nat) (v : ByteArray) : Except (Nat × Int) (Nat × Nat) :=
  match nextP s p with
  | .error a => .error (a, 121)
  | .ok (kd', a, v', q) => if kd' = kd ∧ v'.toList = v.toList then .ok (a, q) else .error (a, 121)
def WPost (r : Nat) (s : ByteArray) (w : World) (kd : Nat) (v : ByteArray) (o : Except (Nat × Int) (Nat × Nat)) (e : Ending) (w' : World) : Prop :=
  match o with
  | .ok (a, q) => e = .returned (.agg (tokC kd a v)) ∧ Rd w' r s q ∧ Ch [r] w w'
  | .error (a, er) => Faults e a er ∧ Ch [r] w w'
set_option maxRecDepth 100000 in
set_option maxHeartbeats 1000000 in
theorem want_out (s : ByteArray) (hs : s.size ≤ 1000000) (r p : Nat) (hp : p ≤ s.size) (kd : Nat) (v : ByteArray) (w : World) (hr : Rd w r s p) (out : Except (Nat × Int) (Nat × Nat)) (hout : wantP s p kd v = out) :
    Calls Tryz.prog 13 #[.pointer (some ⟨r, 0, none⟩), .int .i64 (kd : Int), .string v] w (WPost r s w kd v out) := by
  have HOUT := Aside0.mk hout
  have HR := Aside0.mk hr
  have hrw : r < w.heap.size := blk_lt hr
  have KT0 := Aside0.mk (blk_new w (.cells #[.int .i64 0, .int .i64 0, .string ⟨#[]⟩] 49))
  have HR0 : Aside0 (Rd (w.alloc (.cells #[.int .i64 0, .int .i64 0, .string ⟨#[]⟩] 49)) r s p) := ⟨blk_alloc HR.out _⟩
  have HC0 := Aside0.mk ((Ch.refl [r] w).alloc (.cells #[.int .i64 0, .int .i64 0, .string ⟨#[]⟩] 49))
  clear hout hr HR
  unfold wantP at HOUT
  go_enter Tryz.func13, Tryz.ntmps13
  go_wp2_with fail
  generalize w.alloc (.cells #[.int .i64 0, .int .i64 0, .string ⟨#[]⟩] 49) = w0 at *
  have HN := Aside0.mk (next_any s hs r p hp w0 HR0.out)
  cases hn : nextP s p with
  | error a =>
    rw [hn] at HOUT HN
    obtain rfl : out = .error (a, 121) := HOUT.out.symm
    clear HOUT hn
    refine HN.out.mono ?_
    rintro e w1 ⟨rfl, hc1⟩
    have HC := Aside0.mk (HC0.out.trans hc1)
    clear hc1 HN
    go_wp2
    exact ⟨rfl, rfl, HC.out⟩
  | ok tk =>
    obtain ⟨kd', a, v', q⟩ := tk
    rw [hn] at HOUT HN
    simp only at HOUT
    clear hn
    refine HN.out.mono ?_
    rintro e w1 ⟨rfl, hr1, hc1⟩
    have KT := Aside0.mk (hc1.blk KT0.out (by simp; omega))
    have hgt : w.heap.size < w1.heap.size := blk_lt KT.out
    have HR2 : Aside0 (Rd (w1.alloc (.cells #[.int .i64 0, .int .i64 0, .string ⟨#[]⟩] 49)) r s q) := ⟨blk_alloc hr1 _⟩
    have HC2 := Aside0.mk ((HC0.out.trans hc1).alloc (.cells #[.int .i64 0, .int .i64 0, .string ⟨#[]⟩] 49))
    have KT2 := Aside0.mk (blk_alloc KT.out (.cells #[.int .i64 0, .int .i64 0, .string ⟨#[]⟩] 49))
    have hn := blk_new w1 (.cells #[.int .i64 0, .int .i64 0, .string ⟨#[]⟩] 49)
    clear hr1 hc1 HN KT KT0 HR0 HC0
    go_upto_region 2 with (refine store_whole rfl rfl rfl (g := w1.heap.size) rfl (tokC kd' a v') rfl hn (by kernel_rfl) (by rfl) (tokOne kd' a v') ?_; intro w3 h3 hg3)
    have HB := Aside0.mk h3
    have HR3 : Aside0 (Rd w3 r s q) := ⟨grown_blk hg3 HR2.out (by omega)⟩
    have HC3 := Aside0.mk (HC2.out.grown hg3 (.inr (by omega)))
    have KT3 := Aside0.mk (grown_blk hg3 KT2.out (by omega))
    clear hg3 h3 hn KT2 HR2 HC2
    have t0 : w3.cell? ⟨w1.heap.size, 0, none⟩ = some (.int .i64 (kd' : Int)) := (blk_cell HB.out 0).trans rfl
    have t1 : w3.cell? ⟨w1.heap.size, 1, none⟩ = some (.int .i64 (a : Int)) := (blk_cell HB.out 1).trans rfl
    have t2 : w3.cell? ⟨w1.heap.size, 2, none⟩ = some (.string v') := (blk_cell HB.out 2).trans rfl
    by_cases hk : kd' = kd
    · subst hk
      by_cases hv : v'.toList = v.toList
      · rw [if_pos ⟨rfl, hv⟩] at HOUT
        obtain rfl : out = .ok (a, q) := HOUT.out.symm
        have hvv : v' = v := by
          rw [toList_blN, toList_blN] at hv
          exact ByteArray.ext (Array.ext' hv)
        subst hvv
        clear HOUT hv
        go_wp2_with (first | ((with_reducible refine gate_dst (N := 23) rfl ?_); refine wpList_load_row rfl 49 _ rfl w1.heap.size rfl 49 (tokC kd' a v') (0, 0) _ HB.out Tryz.underlying49 rfl (by kernel_rfl) ?_) | (refine store_whole rfl rfl rfl (g := w.heap.size) rfl (tokC kd' a v') rfl KT3.out (by kernel_rfl) (by rfl) (tokOne kd' a v') ?_; intro w5 h5 hg5))
        refine bodyPost_ret (results_c1 rfl _ _ w.heap.size 49 (tokC kd' a v') (0, 0) _ rfl h5 Tryz.underlying49 rfl (by kernel_rfl)) rfl ?_
        exact ⟨rfl, grown_blk hg5 HR3.out (by omega), HC3.out.grown hg5 (.inr (Nat.le_refl _))⟩
      · rw [if_neg (fun h => hv h.2)] at HOUT
        obtain rfl : out = .error (a, 121) := HOUT.out.symm
        have hvb : (v'.toList == v.toList) = false := beq_eq_false_iff_ne.2 hv
        clear HOUT hv
        go_wp2_with fail
        refine (give_any a 121 w3).mono ?_
        rintro e w' ⟨rfl, rfl⟩
        go_wp2
        exact ⟨rfl, rfl, HC3.out⟩
    · rw [if_neg (fun h => hk h.1)] at HOUT
      obtain rfl : out = .error (a, 121) := HOUT.out.symm
      have hkb : ((kd' : Int) == (kd : Int)) = false := by simp; omega
      have hkn : ((kd' : Int) != (kd : Int)) = true := by simp; omega
      clear HOUT
      go_wp2_with fail
      refine (give_any a 121 w3).mono ?_
      rintro e w' ⟨rfl, rfl⟩
      go_wp2
      exact ⟨rfl, rfl, HC3.out⟩
theorem want_any (s : ByteArray) (hs : s.size ≤ 1000000) (r p : Nat) (hp : p ≤ s.size) (kd : Nat) (v : ByteArray) (w : World) (hr : Rd w r s p) :
    Calls Tryz.prog 13 #[.pointer (some ⟨r, 0, none⟩), .int .i64 (kd : Int), .string v] w (WPost r s w kd v (wantP s p kd v)) := want_out s hs r p hp kd v w hr _ rfl
end Go.Proofs.YtfecfgimfjcbdaaGreatDoor.Cf

namespace Go.Proofs.YtfecfgimfjcbdaaGreatDoor.Cf
open Go.RowKit Go.Proofs.YtfecfgimfjcbdaaGreatDoorW.PrintWords Go.Proofs.YtfecfgimfjcbdaaGreatDoorW.PrintLast Go.Proofs.YtfecfgimfjcbdaaGreatDoorW.PrintMore Go.Proofs.YtfecfgimfjcbdaaGreatDoor.QCParse

theorem digit_f2 : ∀ c : Fin 256, conf_digit.f (c.val : Int) = some (decide (48 ≤ c.val ∧ c.val ≤ 57)) := by decide +kernel
theorem digit_any (c : Nat) (hc : c < 256) (w : World) : Calls Tryz.prog 35 #[.int .u8 (c : Int)] w fun e w' => e = .returned (.bool (decide (48 ≤ c ∧ c ≤ 57))) ∧ Drawn0 w w' :=
  conf_digit.calls (c : Int) _ w (digit_f2 ⟨c, hc⟩)
def bigN (v : ByteArray) : Bool := decide (0 < v.size) && (decide (cA v (v.size - 1) = 75) || decide (cA v (v.size - 1) = 107))
def cutN (v : ByteArray) : ByteArray := if bigN v = true then v.extract 0 (v.size - 1) else v
def digN (v : ByteArray) : Option Nat := if 1 ≤ v.size ∧ v.size ≤ 9 then Lib.decFrom 0 (bl v) else none
/-- What a word says as a number. -/
def numP (v : ByteArray) : Option Nat := (digN (cutN v)).map fun n => n * (if bigN v = true then 1024 else 1)
theorem decFrom_bd : ∀ (l : List UInt8) (a n : Nat), Lib.decFrom a l = some n → n + 1 ≤ (a + 1) * 10 ^ l.length
  | [], a, n, h => by
    simp only [Lib.decFrom] at h
    obtain rfl := Option.some.inj h
    simp
  | c :: l, a, n, h => by
    simp only [Lib.decFrom] at h
    cases hd : Lib.digitVal c with
    | none => rw [hd] at h; cases h
    | some d =>
      rw [hd] at h
      have := decFrom_bd l _ _ h
      have hd9 : d ≤ 9 := by
        unfold Lib.digitVal at hd
        split at hd
        · obtain rfl := Option.some.inj hd
          omega
        · cases hd
      rw [List.length_cons, Nat.pow_succ]
      refine Nat.le_trans this ?_
      rw [Nat.mul_comm (10 ^ l.length) 10, ← Nat.mul_assoc]
      exact Nat.mul_le_mul_right _ (by omega)
theorem digN_bd (v : ByteArray) (n : Nat) (h : digN v = some n) : n ≤ 999999999 := by
  unfold digN at h
  split at h
  · rename_i hs
    have := decFrom_bd _ _ _ h
    rw [bl_length] at this
    have h9 : (10 : Nat) ^ v.size ≤ 10 ^ 9 := Nat.pow_le_pow_right (by decide) hs.2
    simp only [Nat.zero_add, Nat.one_mul] at this
    have : (10 : Nat) ^ 9 = 1000000000 := by decide
    omega
  · cases h
/-- Digits alone from a place on. -/
theorem decFrom_digits : ∀ (l : List UInt8) (a : Nat), (Lib.decFrom a l).isSome = l.all fun c => decide (48 ≤ c.toNat ∧ c.toNat ≤ 57)
  | [], _ => rfl
  | c :: l, a => by
    simp only [Lib.decFrom, List.all_cons]
    unfold Lib.digitVal
    by_cases h : 48 ≤ c.toNat ∧ c.toNat ≤ 57
    · rw [if_pos h, decide_eq_true h, Bool.true_and]
      exact decFrom_digits l _
    · rw [if_neg h, decide_eq_false h, Bool.false_and]
      rfl
theorem atoi_dec (l : List UInt8) (n : Nat) (hl : l ≠ []) (h : Lib.decFrom 0 l = some n) : Lib.atoi l = some (n : Int) := by
  rcases l with _ | ⟨c, l⟩
  · exact absurd rfl hl
  · have hall := decFrom_digits (c :: l) 0
    rw [h] at hall
    simp only [Option.isSome_some, List.all_cons] at hall
    have hc := (Bool.and_eq_true _ _ ▸ hall.symm).1
    have hc := of_decide_eq_true hc
    unfold Lib.atoi
    have n1 : (c == 45) = false := beq_eq_false_iff_ne.2 (fun e => by rw [e] at hc; exact absurd hc.1 (by decide))
    have n2 : (c == 43) = false := beq_eq_false_iff_ne.2 (fun e => by rw [e] at hc; exact absurd hc.1 (by decide))
    simp only [n1, n2, Bool.false_eq_true, if_false, Lib.decNat, List.isEmpty_cons, h, Option.map_some]
theorem atoi_any (v : ByteArray) (n : Nat) (h : digN v = some n) (w : World) : Calls Tryz.prog 74 #[.string v] w fun e w' => e = .returned (.tuple #[.int .i64 (n : Int), .nilIface]) ∧ Below w.heap.size w w' := by
  unfold digN at h
  split at h
  · rename_i hs
    refine (Any.strconv_Atoi Tryz.laysAtoi v (n : Int) (by omega) (atoi_dec (bl v) n (fun e => by have := bl_length v; rw [e] at this; simp at this; omega) h) w).mono ?_
    rintro e w' ⟨rfl, t, rfl⟩
    exact ⟨rfl, Lib.bytesWorld_below _ _ _⟩
  · cases h

theorem cA_get (x : ByteArray) (j : Nat) (h : j < x.size) : ∃ c, (bl x)[j]? = some c ∧ c.toNat = cA x j := by
  have hl : j < (bl x).length := by rw [bl_length]; exact h
  refine ⟨(bl x)[j], List.getElem?_eq_getElem hl, ?_⟩
  unfold cA
  rw [List.getD_eq_getElem?_getD, List.getElem?_eq_getElem hl, Option.getD_some]
theorem digN_none (x : ByteArray) (j : Nat) (hj : j < x.size) (h : ¬ (48 ≤ cA x j ∧ cA x j ≤ 57)) : digN x = none := by
  unfold digN
  split
  · obtain ⟨c, hc, hcc⟩ := cA_get x j hj
    have hd := decFrom_digits (bl x) 0
    cases hx : Lib.decFrom 0 (bl x) with
    | none => rfl
    | some n =>
      rw [hx] at hd
      have := List.all_eq_true.1 hd.symm c (List.mem_of_getElem? hc)
      exact absurd (of_decide_eq_true this) (by rw [hcc]; exact h)
  · rfl
theorem digN_some (x : ByteArray) (hs : 1 ≤ x.size ∧ x.size ≤ 9) (h : ∀ j, j < x.size → 48 ≤ cA x j ∧ cA x j ≤ 57) : ∃ n, digN x = some n := by
  unfold digN
  rw [if_pos hs]
  have hd := decFrom_digits (bl x) 0
  have ha : (bl x).all (fun c => decide (48 ≤ c.toNat ∧ c.toNat ≤ 57)) = true := by
    refine List.all_eq_true.2 (fun c hc => ?_)
    obtain ⟨j, hj⟩ := List.mem_iff_getElem?.1 hc
    have hl : j < x.size := by rw [← bl_length]; exact (List.getElem?_eq_some_iff.1 hj).1
    obtain ⟨c', hc', hcc⟩ := cA_get x j hl
    obtain rfl := Option.some.inj (hj.symm.trans hc')
    rw [hcc]
    exact decide_eq_true (h j hl)
  rw [ha] at hd
  exact Option.isSome_iff_exists.1 hd

set_option maxRecDepth 100000 in
set_option maxHeartbeats 1000000 in
theorem num_any (v : ByteArray) (hs : v.size ≤ 1000000) (w : World) :
    Calls Tryz.prog 64 #[.string v] w fun e w' => e = .returned (.tuple #[.int .i64 (((numP v).getD 0 : Nat) : Int), .bool (numP v).isSome]) ∧ Below w.heap.size w w' := by
  have HV : Aside0 (numP v = (digN (cutN v)).map fun n => n * (if bigN v = true then 1024 else 1)) := ⟨rfl⟩
  have hcut : bigN v = true → 0 < v.size := fun h => by
    unfold bigN at h
    rw [Bool.and_eq_true] at h
    exact of_decide_eq_true h.1
  have HCUT := Aside0.mk hcut
  clear hcut
  go_enter Tryz.func64, Tryz.ntmps64
  go_upto_region 3 with fail
  go_cut [26] from 9 (fun v26 wx => v26 = .bool (bigN v) ∧ w = wx)
  case first =>
    by_cases h0 : 0 < v.size
    · have d0 : decide ((0 : Int) < (v.size : Int)) = true := decide_eq_true (by omega)
      have hl : v.size - 1 < v.size := by omega
      have hca := cA_at v (v.size - 1) hl
      obtain ⟨c, hc⟩ : ∃ c, (v[v.size - 1]'hl).toNat = c := ⟨_, rfl⟩
      have HB : Aside0 (bigN v = (decide (c = 75) || decide (c = 107))) := ⟨by unfold bigN; rw [hca, hc, decide_eq_true h0, Bool.true_and]⟩
      by_cases h75 : c = 75
      · have e75 : (((v[v.size - 1]'hl).toNat : Int) == 75) = true := by rw [hc, h75]; rfl
        clear hca hc
        go_wp2_with fail
        go_meet
        exact ⟨by rw [HB.out, h75]; rfl, rfl⟩
      · have e75 : (((v[v.size - 1]'hl).toNat : Int) == 75) = false := by rw [hc]; simp; omega
        by_cases h107 : c = 107
        · have e107 : (((v[v.size - 1]'hl).toNat : Int) == 107) = true := by rw [hc, h107]; rfl
          clear hca hc
          go_wp2_with fail
          go_meet
          exact ⟨by rw [HB.out, h107]; rfl, rfl⟩
        · have e107 : (((v[v.size - 1]'hl).toNat : Int) == 107) = false := by rw [hc]; simp; omega
          clear hca hc
          go_wp2_with fail
          go_meet
          exact ⟨by rw [HB.out, decide_eq_false h75, decide_eq_false h107]; rfl, rfl⟩
    · have d0 : decide ((0 : Int) < (v.size : Int)) = false := decide_eq_false (by omega)
      have HB : Aside0 (bigN v = false) := ⟨by unfold bigN; rw [decide_eq_false h0, Bool.false_and]⟩
      go_wp2_with fail
      go_meet
      exact ⟨by rw [HB.out], rfl⟩
  case rest =>
  obtain ⟨rfl, rfl⟩ := hcut
  go_upto_if 26 with fail
  go_cut [0, 4] from 9 (fun v0 v4 wx => v0 = .string (cutN v) ∧ v4 = .int .i64 (if bigN v = true then 1024 else 1) ∧ w = wx)
  case first =>
    cases hb : bigN v with
    | true =>
      have h0 := HCUT.out hb
      have HX : Aside0 (cutN v = v.extract 0 (v.size - 1)) := ⟨by unfold cutN; rw [if_pos hb]⟩
      go_wp2_with fail
      go_meet
      exact ⟨by rw [HX.out], by rw [hb]; rfl, rfl⟩
    | false =>
      have HX : Aside0 (cutN v = v) := ⟨by unfold cutN; rw [if_neg (by rw [hb]; decide)]⟩
      go_wp2_with fail
      go_meet
      exact ⟨by rw [HX.out], by rw [hb]; rfl, rfl⟩
  case rest =>
  obtain ⟨rfl, rfl, rfl⟩ := hcut
  have hxs : (cutN v).size ≤ 1000000 := by
    unfold cutN
    split
    · rw [ByteArray.size_extract]; omega
    · exact hs
  obtain ⟨tm, htm⟩ : ∃ tm : Nat, (if bigN v = true then 1024 else 1) = tm := ⟨_, rfl⟩
  have htm2 : ((if bigN v = true then 1024 else 1 : Int)) = (tm : Int) := by rw [← htm]; split <;> rfl
  have html : tm ≤ 1024 := by rw [← htm]; split <;> omega
  rw [htm] at HV
  rw [htm2]
  clear htm htm2 HCUT
  obtain ⟨x, hx⟩ : ∃ x, cutN v = x := ⟨_, rfl⟩
  rw [hx] at HV hxs
  rw [hx]
  clear hx
  have Hbad : digN x = none → Aside0 (numP v = none) := fun h => ⟨by rw [HV.out, h]; rfl⟩
  by_cases h1 : x.size < 1
  · have d1 : decide ((x.size : Int) < 1) = true := decide_eq_true (by omega)
    have HN := Hbad (by unfold digN; rw [if_neg (by omega)])
    go_wp2
    go_ret2
    rw [HN.out]
    exact ⟨rfl, Below.refl _ _⟩
  · have d1 : decide ((x.size : Int) < 1) = false := decide_eq_false (by omega)
    by_cases h9 : 9 < x.size
    · have d9 : decide (9 < (x.size : Int)) = true := decide_eq_true (by omega)
      have HN := Hbad (by unfold digN; rw [if_neg (by omega)])
      go_wp2
      go_ret2
      rw [HN.out]
      exact ⟨rfl, Below.refl _ _⟩
    · have d9 : decide (9 < (x.size : Int)) = false := decide_eq_false (by omega)
      have HW := Aside0.mk (Below.refl w.heap.size w)
      have HBAD := Aside0.mk Hbad
      clear Hbad
      go_wp2
      go_loopg [41] x.size (fun kq v41 wr => ∃ i : Nat, i ≤ x.size ∧ kq = x.size - i ∧ v41 = .int .i64 i ∧ Aside0 (∀ j, j < i → 48 ≤ cA x j ∧ cA x j ≤ 57) ∧ Aside0 (Below w.heap.size w wr))
      case atStart => exact ⟨0, by omega, rfl, rfl, ⟨fun j h => by omega⟩, HW⟩
      case round =>
        clear HW
        obtain ⟨i, hi, rfl, rfl, HA, HW⟩ := hrel
        by_cases hlt : i < x.size
        · have hd : decide ((i : Int) < (x.size : Int)) = true := decide_eq_true (by omega)
          have hca := cA_at x i hlt
          have hcl := cA_lt x i
          obtain ⟨c, hc⟩ : ∃ c, cA x i = c := ⟨_, rfl⟩
          rw [hc] at hca hcl
          have HCA : Aside0 ((x[i]'hlt).toNat = c) := ⟨hca.symm⟩
          have HCC := Aside0.mk hc
          clear hca hc
          go_wp2_with fail
          rw [HCA.out]
          refine (digit_any c hcl _).mono ?_
          rintro e w3 ⟨rfl, hD⟩
          have HW3 := Aside0.mk (below_then HW.out HW.out.size hD.below)
          clear hD HW HCA
          by_cases hdg : 48 ≤ c ∧ c ≤ 57
          · rw [decide_eq_true hdg]
            have HA2 : Aside0 (∀ j, j < i + 1 → 48 ≤ cA x j ∧ cA x j ≤ 57) := ⟨fun j hj => by
              by_cases e : j = i
              · rw [e, HCC.out]
                exact hdg
              · exact HA.out j (by omega)⟩
            clear hdg HA
            go_wp2
            go_roundg (x.size - (i + 1))
            case measure => omega
            case rel => exact ⟨i + 1, by omega, rfl, by go_num, HA2, HW3⟩
          · rw [decide_eq_false hdg]
            have HN := HBAD.out (digN_none x i hlt (by rw [HCC.out]; exact hdg))
            clear hdg
            go_wp2
            go_ret2
            rw [HN.out]
            exact ⟨rfl, HW3.out⟩
        · have hd : decide ((i : Int) < (x.size : Int)) = false := decide_eq_false (by omega)
          obtain rfl : i = x.size := by omega
          obtain ⟨n, hn⟩ := digN_some x (by omega) HA.out
          have hnb := digN_bd x n hn
          have HN : Aside0 (numP v = some (n * tm)) := ⟨by rw [HV.out, hn]; rfl⟩
          have HDN := Aside0.mk hn
          have hmul : n * tm ≤ 999999999 * 1024 := Nat.mul_le_mul hnb html
          have e1 : IntKind.i64.wrap ((n : Int) * (tm : Int)) = ((n * tm : Nat) : Int) := by
            rw [IntKind.wrap_i64]
            have : ((n * tm : Nat) : Int) = (n : Int) * (tm : Int) := Int.natCast_mul n tm
            rw [← this]
            omega
          have E1 := Aside0.mk e1
          clear hn HA HBAD e1
          go_wp2_with fail
          refine (atoi_any x n HDN.out _).mono ?_
          rintro e w3 ⟨rfl, hB⟩
          have HW3 := Aside0.mk (below_then HW.out HW.out.size hB)
          clear hB HW
          go_wp2
          go_ret2
          refine ⟨?_, HW3.out⟩
          rw [HN.out]
          show Ending.returned (.tuple #[.int .i64 ((n : Int) * (tm : Int)), .bool true]) = _
          rw [Option.getD_some, Int.natCast_mul]
          rfl
end Go.Proofs.YtfecfgimfjcbdaaGreatDoor.Cf

namespace Go.Proofs.YtfecfgimfjcbdaaGreatDoor.Cf
open Go.RowKit Go.Proofs.YtfecfgimfjcbdaaGreatDoorW.PrintWords Go.Proofs.YtfecfgimfjcbdaaGreatDoorW.PrintLast Go.Proofs.YtfecfgimfjcbdaaGreatDoorW.PrintMore Go.Proofs.YtfecfgimfjcbdaaGreatDoor.QCParse

def wordV (v : ByteArray) : List ByteArray → List Int → Option Int
  | w :: ws, x :: xs => if w.toList = v.toList then some x else wordV v ws xs
  | _, _ => none
/-- What a token means for a key. -/
def readP (t : KeyT) (kd : Nat) (v : ByteArray) : Option Int :=
  if kd = 0 then match t.2.2.2.2.2 with
    | some p => wordV v p.1 p.2
    | none => match numP v with
      | some n => if tk t (n : Int) = true then some (n : Int) else none
      | none => none
  else none
def RPost (w : World) (o : Option Int) (e : Ending) (w' : World) : Prop :=
  (∃ n : Int, e = .returned (.tuple #[.int .i64 n, .bool o.isSome]) ∧ ∀ m, o = some m → n = m) ∧ Below w.heap.size w w'
theorem rpost {w w' : World} {o : Option Int} {n : Int} {b : Bool} {e : Ending} (he : e = .returned (.tuple #[.int .i64 n, .bool b])) (ho : (o = none ∧ b = false) ∨ (o = some n ∧ b = true)) (hb : Below w.heap.size w w') : RPost w o e w' := by
  refine ⟨⟨n, ?_, ?_⟩, hb⟩
  · rcases ho with ⟨rfl, rfl⟩ | ⟨rfl, rfl⟩ <;> exact he
  · intro m hm
    rcases ho with ⟨rfl, rfl⟩ | ⟨rfl, rfl⟩
    · cases hm
    · exact Option.some.inj hm

set_option maxRecDepth 100000 in
set_option maxHeartbeats 1000000 in
theorem read_any (w : World) (B g i : Nat) (t : KeyT) (hg : B ≤ g) (hK : KeyAt w B g i t) (hwl : ∀ p, t.2.2.2.2.2 = some p → p.1.length = p.2.length) (hwk : ∀ p, t.2.2.2.2.2 = some p → p.1.length ≤ 1000) (kd a : Nat) (v : ByteArray) (hv : kd = 0 → v.size ≤ 1000000) (out : Option Int) (hout : readP t kd v = out) :
    Calls Tryz.prog 37 #[.pointer (some ⟨g, i * 8, none⟩), .agg (tokC kd a v)] w (RPost w out) := by
  have HOUT := Aside0.mk hout
  have HVV := Aside0.mk hv
  clear hout hv
  unfold readP at HOUT
  have HB := Aside0.mk ((Below.refl w.heap.size w).alloc (Nat.le_refl _) (.cells (tokC kd a v) 49))
  have hb := blk_new w (.cells (tokC kd a v) 49)
  have hK1 : KeyAt (w.alloc (.cells (tokC kd a v) 49)) B g i t := hK.keep hg (fun k _ hk => Below.heap_alloc w _ k hk)
  have hgl : g * 0 = 0 := by omega
  clear hK hgl
  go_enter Tryz.func37, Tryz.ntmps37
  go_upto_region 1 with fail
  generalize w.alloc (.cells (tokC kd a v) 49) = w1 at *
  obtain ⟨h0, h1, h2, h3, h4, ⟨vv, u, h5, h6, hvv⟩, h7⟩ := id hK1
  have t0 : w1.cell? ⟨w.heap.size, 0, none⟩ = some (.int .i64 (kd : Int)) := (blk_cell hb 0).trans rfl
  have t2 : w1.cell? ⟨w.heap.size, 2, none⟩ = some (.string v) := (blk_cell hb 2).trans rfl
  have KK := Aside0.mk hK1
  clear hb hK1
  by_cases hk : kd = 0
  case neg =>
    rw [if_neg hk] at HOUT
    have hkb : ((kd : Int) == 0) = false := by simp; omega
    have hkn : ((kd : Int) != 0) = true := by simp; omega
    have ho := HOUT.out
    clear HOUT hk
    have HO := Aside0.mk ho
    clear ho
    go_wp2
    go_ret2
    exact rpost rfl (.inl ⟨HO.out.symm, rfl⟩) HB.out
  case pos =>
    subst hk
    rw [if_pos rfl] at HOUT
    obtain ⟨ts, tn, lo, hi', z, o⟩ := t
    simp only at h0 h1 h2 h3 h4 hvv HOUT hwl hwk
    cases o with
    | none =>
      simp only at hvv HOUT
      obtain ⟨rfl, rfl⟩ := hvv
      go_wp2_with fail
      refine (num_any v (HVV.out (by trivial)) w1).mono ?_
      rintro e w2 ⟨rfl, hB2⟩
      have HB2 := Aside0.mk (below_then HB.out HB.out.size hB2)
      have K2 : Aside0 (KeyAt w2 B g i (ts, tn, lo, hi', z, none)) := ⟨KK.out.keep hg (fun k _ hk => hB2.block k hk)⟩
      clear hB2 KK h0 h1 h2 h3 h4 h5 h6 h7 t0 t2
      cases hn : numP v with
      | none =>
        rw [hn] at HOUT
        simp only [Option.getD_none, Option.isSome_none]
        have HO : Aside0 (out = none) := ⟨HOUT.out.symm⟩
        clear HOUT hn
        go_wp2
        go_ret2
        exact rpost rfl (.inl ⟨HO.out, rfl⟩) HB2.out
      | some n =>
        rw [hn] at HOUT
        simp only at HOUT
        simp only [Option.getD_some, Option.isSome_some]
        have hnb : n ≤ 999999999 * 1024 := by
          unfold numP at hn
          cases hd : digN (cutN v) with
          | none => rw [hd] at hn; cases hn
          | some m =>
            rw [hd] at hn
            obtain rfl := Option.some.inj hn
            have := digN_bd _ _ hd
            exact Nat.mul_le_mul this (by split <;> omega)
        have cT := takes_any w2 B g i (ts, tn, lo, hi', z, none) (n : Int) K2.out ⟨by omega, by omega⟩
        have CT := Aside0.mk cT
        clear hn cT
        go_wp2_with fail
        refine CT.out.mono ?_
        rintro e w3 ⟨rfl, rfl⟩
        clear CT K2
        cases htk : tk (ts, tn, lo, hi', z, none) (n : Int) with
        | false =>
          rw [htk] at HOUT
          have HO : Aside0 (out = none) := ⟨HOUT.out.symm⟩
          clear HOUT htk
          go_wp2
          go_ret2
          exact rpost rfl (.inl ⟨HO.out, rfl⟩) HB2.out
        | true =>
          rw [htk] at HOUT
          have HO : Aside0 (out = some (n : Int)) := ⟨HOUT.out.symm⟩
          clear HOUT htk
          go_wp2
          go_ret2
          exact rpost rfl (.inr ⟨HO.out, rfl⟩) HB2.out
    | some p =>
      obtain ⟨ws, ns⟩ := p
      simp only at hvv HOUT
      have hwn : ws.length = ns.length := hwl _ rfl
      have hwk1 : ws.length ≤ 1000 := hwk _ rfl
      obtain ⟨⟨gw, c, rest, rfl, hc1, hc2, hBw, hb⟩, ⟨gi, rfl, hl, hBi, hbi⟩⟩ := hvv
      go_wp2_with fail
      go_loopg [23] ws.length (fun kq v23 wr => ∃ j : Nat, j ≤ ws.length ∧ kq = ws.length - j ∧ v23 = .int .i64 j ∧ Aside0 (wordV v (ws.drop j) (ns.drop j) = out) ∧ wr = w1)
      case atStart => exact ⟨0, by omega, rfl, rfl, HOUT, rfl⟩
      case round =>
        clear HOUT
        obtain ⟨j, hj, rfl, rfl, HA, hwr⟩ := hrel
        subst hwr
        by_cases hlt : j < ws.length
        · have hd : decide ((j : Int) < ws.length) = true := decide_eq_true (by omega)
          obtain ⟨x, hx⟩ : ∃ x, ns[j]? = some x := ⟨_, List.getElem?_eq_getElem (by omega)⟩
          obtain ⟨y, hy⟩ : ∃ y, ws[j]? = some y := ⟨_, List.getElem?_eq_getElem (by omega)⟩
          have hc : wr.cell? ⟨gi, j, none⟩ = some (.int .i64 x) := by
            rw [blk_cell hbi j, List.getElem?_toArray, List.getElem?_map, hx]
            rfl
          have hcw : wr.cell? ⟨gw, j, none⟩ = some (.string y) := by
            rw [blk_cell hb j, List.getElem?_toArray, List.getElem?_map, List.getElem?_append_left (by omega), hy]
            rfl
          have hdn : ns.drop j = x :: ns.drop (j + 1) := by rw [List.drop_eq_getElem?_toList_append, hx]; rfl
          have hdw : ws.drop j = y :: ws.drop (j + 1) := by rw [List.drop_eq_getElem?_toList_append, hy]; rfl
          rw [hdn, hdw] at HA
          clear hdn hdw hx hy
          have hjl : (j : Int) < ns.length := by omega
          by_cases hxn : y.toList = v.toList
          · have hxb : (y.toList == v.toList) = true := beq_iff_eq.2 hxn
            have HO : Aside0 (out = some x) := ⟨by rw [← HA.out]; simp only [wordV, if_pos hxn]⟩
            clear HA hxn
            go_wp2
            go_ret2
            exact rpost rfl (.inr ⟨HO.out, rfl⟩) HB.out
          · have hxb : (y.toList == v.toList) = false := beq_eq_false_iff_ne.2 hxn
            have HA2 : Aside0 (wordV v (ws.drop (j + 1)) (ns.drop (j + 1)) = out) := ⟨by rw [← HA.out]; simp only [wordV, if_neg hxn]⟩
            clear HA hxn
            go_wp2
            go_roundg (ws.length - (j + 1))
            case measure => omega
            case rel => exact ⟨j + 1, by omega, rfl, by go_num, HA2, rfl⟩
        · have hd : decide ((j : Int) < ws.length) = false := decide_eq_false (by omega)
          obtain rfl : j = ws.length := by omega
          have HO : Aside0 (out = none) := ⟨by rw [← HA.out, List.drop_length]; rfl⟩
          clear HA
          go_wp2
          go_ret2
          exact rpost rfl (.inl ⟨HO.out, rfl⟩) HB.out

/-- The key of that section and name, from place j on. -/
def fIdx (sec nm : ByteArray) : Nat → Nat → Option Nat
  | 0, _ => none
  | n + 1, j => match kTab[j]? with
    | some t => if t.1.toList = sec.toList ∧ t.2.1.toList = nm.toList then some j else fIdx sec nm n (j + 1)
    | none => none
def secB : List UInt8 := [115, 104, 97, 114, 101, 100, 45, 115, 101, 99, 114, 101, 116]
def netB : List UInt8 := [110, 101, 116]
def findP (sec nm : ByteArray) : Option (Option Nat) := if sec.toList = netB ∧ nm.toList = secB then some none else (fIdx sec nm 16 0).map some
def FPost (w : World) (o : Option (Option Nat)) (e : Ending) (w' : World) : Prop :=
  Below w.heap.size w w' ∧ match o with
  | none => e = .returned (.tuple #[.pointer none, .bool false])
  | some none => e = .returned (.tuple #[.pointer none, .bool true])
  | some (some i) => i < 16 ∧ ∃ g, e = .returned (.tuple #[.pointer (some ⟨g, i * 8, none⟩), .bool true]) ∧ w.heap.size ≤ g ∧ ∀ t, kTab[i]? = some t → KeyAt w' w.heap.size g i t
set_option maxRecDepth 100000 in
set_option maxHeartbeats 1000000 in
theorem find_any (sec nm : ByteArray) (w : World) (out : Option (Option Nat)) (hout : findP sec nm = out) :
    Calls Tryz.prog 17 #[.string sec, .string nm] w (FPost w out) := by
  have HOUT := Aside0.mk hout
  clear hout
  unfold findP at HOUT
  by_cases hs : sec.toList = netB ∧ nm.toList = secB
  · rw [if_pos hs] at HOUT
    obtain rfl : out = some none := HOUT.out.symm
    have e1 : (sec.toList == [110, 101, 116]) = true := beq_iff_eq.2 hs.1
    have e2 : (nm.toList == [115, 104, 97, 114, 101, 100, 45, 115, 101, 99, 114, 101, 116]) = true := beq_iff_eq.2 hs.2
    clear HOUT hs
    go_enter Tryz.func17, Tryz.ntmps17
    go_wp2
    go_ret2
    exact ⟨Below.refl _ _, rfl⟩
  · rw [if_neg hs] at HOUT
    go_enter Tryz.func17, Tryz.ntmps17
    go_upto_region 1 with fail
    go_cut [13] from 6 (fun v13 wx => v13 = .bool false ∧ w = wx)
    case first =>
      by_cases h1 : sec.toList = netB
      · have e1 : (sec.toList == [110, 101, 116]) = true := beq_iff_eq.2 h1
        have e2 : (nm.toList == [115, 104, 97, 114, 101, 100, 45, 115, 101, 99, 114, 101, 116]) = false := beq_eq_false_iff_ne.2 (fun e => hs ⟨h1, e⟩)
        clear hs h1
        go_wp2_with fail
        go_meet
        exact ⟨rfl, rfl⟩
      · have e1 : (sec.toList == [110, 101, 116]) = false := beq_eq_false_iff_ne.2 h1
        clear hs h1
        go_wp2_with fail
        go_meet
        exact ⟨rfl, rfl⟩
    case rest =>
    obtain ⟨rfl, rfl⟩ := hcut
    clear hs
    go_wp2_with fail
    refine (keys_any w).mono ?_
    rintro e w1 ⟨g, rfl, hg, hB, hg1, _, hP⟩
    have HB := Aside0.mk hB
    have HP := Aside0.mk hP
    clear hB hP
    go_wp2_with fail
    go_loopg [17] 16 (fun kq v17 wr => ∃ j : Nat, j ≤ 16 ∧ kq = 16 - j ∧ v17 = .int .i64 j ∧ Aside0 ((fIdx sec nm (16 - j) j).map some = out) ∧ wr = w1)
    case atStart => exact ⟨0, by omega, rfl, rfl, HOUT, rfl⟩
    case round =>
      clear HOUT
      obtain ⟨j, hj, rfl, rfl, HA, hwr⟩ := hrel
      subst hwr
      by_cases hlt : j < 16
      · have hd : decide ((j : Int) < 16) = true := decide_eq_true (by omega)
        have hjl : (j : Int) < 16 := by omega
        obtain ⟨t, ht⟩ : ∃ t, kTab[j]? = some t := ⟨_, List.getElem?_eq_getElem hlt⟩
        have s0 : wr.cell? ⟨g, j * 8, none⟩ = some (.string t.1) := (HP.out j t ht).1
        have s1 : wr.cell? ⟨g, j * 8 + 1, none⟩ = some (.string t.2.1) := (HP.out j t ht).2.1
        have HA2 : Aside0 ((if t.1.toList = sec.toList ∧ t.2.1.toList = nm.toList then some j else fIdx sec nm (16 - (j + 1)) (j + 1)).map some = out) := ⟨by
          rw [← HA.out]
          obtain ⟨q, hq⟩ : ∃ q, 16 - j = q + 1 := ⟨15 - j, by omega⟩
          rw [hq, show 16 - (j + 1) = q by omega]
          simp only [fIdx, ht]⟩
        have HT := Aside0.mk ht
        clear HA ht
        by_cases h1 : t.1.toList = sec.toList
        · have e1 : (t.1.toList == sec.toList) = true := beq_iff_eq.2 h1
          by_cases h2 : t.2.1.toList = nm.toList
          · have e2 : (t.2.1.toList == nm.toList) = true := beq_iff_eq.2 h2
            rw [if_pos ⟨h1, h2⟩] at HA2
            obtain rfl : out = some (some j) := HA2.out.symm
            clear HA2 h1 h2
            go_wp2
            go_ret2
            exact ⟨HB.out, hlt, g, rfl, hg, fun t' ht' => HP.out j t' ht'⟩
          · have e2 : (t.2.1.toList == nm.toList) = false := beq_eq_false_iff_ne.2 h2
            rw [if_neg (fun h => h2 h.2)] at HA2
            clear h1 h2
            go_wp2
            go_roundg (16 - (j + 1))
            case measure => omega
            case rel => exact ⟨j + 1, by omega, rfl, by go_num, HA2, rfl⟩
        · have e1 : (t.1.toList == sec.toList) = false := beq_eq_false_iff_ne.2 h1
          rw [if_neg (fun h => h1 h.1)] at HA2
          clear h1
          go_wp2
          go_roundg (16 - (j + 1))
          case measure => omega
          case rel => exact ⟨j + 1, by omega, rfl, by go_num, HA2, rfl⟩
      · have hd : decide ((j : Int) < 16) = false := decide_eq_false (by omega)
        obtain rfl : j = 16 := by omega
        obtain rfl : out = none := HA.out.symm
        clear HA
        go_wp2
        go_ret2
        exact ⟨HB.out, rfl⟩
end Go.Proofs.YtfecfgimfjcbdaaGreatDoor.Cf

namespace Go.Proofs.YtfecfgimfjcbdaaGreatDoor.Cf
open Go.RowKit Go.Proofs.YtfecfgimfjcbdaaGreatDoorW.PrintWords Go.Proofs.YtfecfgimfjcbdaaGreatDoorW.PrintLast Go.Proofs.YtfecfgimfjcbdaaGreatDoorW.PrintMore Go.Proofs.YtfecfgimfjcbdaaGreatDoor.QCParse

def setK (k : Nat → Int) (i : Nat) (n : Int) : Nat → Int := fun j => if j = i then n else k j
def semiB : ByteArray := (⟨#[59]⟩ : ByteArray)
/-- A key's value, and the mark behind it: the secret, the values, the place behind; or what is wrong. -/
def valueP (s : ByteArray) (p : Nat) (key : Option Nat) (sc : ByteArray) (k : Nat → Int) : Except (Nat × Int) (ByteArray × (Nat → Int) × Nat) :=
  match nextP s p with
  | .error a => .error (a, 121)
  | .ok (kd, a, v, q) =>
    if kd = 1 then .error (a, 121) else
    match key with
    | none => if 64 < v.size then .error (a, 124) else match wantP s q 1 semiB with
      | .error e => .error e
      | .ok aq => .ok (v, k, aq.2)
    | some i => match kTab[i]? with
      | some t => match readP t kd v with
        | some n => match wantP s q 1 semiB with
          | .error e => .error e
          | .ok aq => .ok (sc, setK k i n, aq.2)
        | none => .error (a, 124)
      | none => .error (0, 0)
/-- The resource that is filled. -/
def CfgAt (w : World) (c : Nat) (nm sc : ByteArray) (k : Nat → Int) : Prop := w.heap[c]? = some (.cells (cfgC nm sc k) 23 (0, 0))
theorem cfg_set (nm sc : ByteArray) (k : Nat → Int) (i : Nat) (hi : i < 16) (n : Int) : (cfgC nm sc k).setIfInBounds (kOff i) (.int .i64 n) = cfgC nm sc (setK k i n) := by
  rcases i with _ | _ | _ | _ | _ | _ | _ | _ | _ | _ | _ | _ | _ | _ | _ | _ | i
  case succ.succ.succ.succ.succ.succ.succ.succ.succ.succ.succ.succ.succ.succ.succ.succ => omega
  all_goals rfl
theorem CfgAt.setK {w : World} {c i : Nat} {nm sc : ByteArray} {k : Nat → Int} (h : CfgAt w c nm sc k) (hi : i < 16) (n : Int) : CfgAt (w.setCell ⟨c, kOff i, none⟩ (.int .i64 n)) c nm sc (Cf.setK k i n) := blk_put h (kOff i) _ (cfg_set nm sc k i hi n)
theorem CfgAt.setS {w : World} {c : Nat} {nm sc : ByteArray} {k : Nat → Int} (h : CfgAt w c nm sc k) (v : ByteArray) : CfgAt (w.setCell ⟨c, 11, none⟩ (.string v)) c nm v k := blk_put h 11 _ rfl
def VPost (r c : Nat) (s nm : ByteArray) (w : World) (o : Except (Nat × Int) (ByteArray × (Nat → Int) × Nat)) (e : Ending) (w' : World) : Prop :=
  match o with
  | .ok (sc, k, q) => e = .returned (.tuple #[]) ∧ Rd w' r s q ∧ CfgAt w' c nm sc k ∧ Ch [r, c] w w'
  | .error (a, er) => Faults e a er ∧ Ch [r, c] w w'
/-- The key's pointer; its cells lie from block B0 on. -/
def KeyPtr (w : World) (B0 : Nat) (kp : Value) : Option Nat → Prop
  | none => kp = .pointer none
  | some i => i < 16 ∧ ∃ B g, kp = .pointer (some ⟨g, i * 8, none⟩) ∧ B0 ≤ B ∧ B ≤ g ∧ ∀ t, kTab[i]? = some t → KeyAt w B g i t
theorem kTab_len (i : Nat) (t : KeyT) (ht : kTab[i]? = some t) (p : List ByteArray × List Int) (hp : t.2.2.2.2.2 = some p) : p.1.length ≤ 1000 := by
  have hl : i < 16 := (List.getElem?_eq_some_iff.1 ht).1
  rcases i with _ | _ | _ | _ | _ | _ | _ | _ | _ | _ | _ | _ | _ | _ | _ | _ | i
  case succ.succ.succ.succ.succ.succ.succ.succ.succ.succ.succ.succ.succ.succ.succ.succ => omega
  all_goals
    obtain rfl := Option.some.inj ht
    first
      | (cases hp; done)
      | (obtain rfl := Option.some.inj hp; decide)
/-- A key's cells while other blocks turn. -/
theorem KeyAt.ch {w w1 : World} {L : List Nat} {B B0 g i : Nat} {t : KeyT} (h : KeyAt w B g i t) (hc : Ch L w w1) (hB : B0 ≤ B) (hg : B ≤ g) (hL : ∀ k ∈ L, k < B0) : KeyAt w1 B g i t :=
  h.keep hg (fun k hk hlt => hc.block k hlt (fun e => by have := hL k e; omega))

theorem nextP_size (s : ByteArray) (hs : s.size ≤ 1000000) (p a : Nat) (v : ByteArray) (q : Nat) (h : nextP s p = .ok (0, a, v, q)) : v.size ≤ 1000000 := by
  unfold nextP at h
  split at h
  · cases h
  · split at h
    · simp only [Except.ok.injEq, Prod.mk.injEq] at h
      obtain ⟨_, _, rfl, _⟩ := h
      rw [ByteArray.size_extract]
      omega
    · split at h
      · simp only [Except.ok.injEq, Prod.mk.injEq] at h
        omega
      · split at h
        · split at h
          · simp only [Except.ok.injEq, Prod.mk.injEq] at h
            omega
          · cases h
        · cases h
set_option maxRecDepth 100000 in
set_option maxHeartbeats 1000000 in
theorem value_any (s : ByteArray) (hs : s.size ≤ 1000000) (r c p B0 : Nat) (hrc : r ≠ c) (hrB : r < B0) (hp : p ≤ s.size) (nm sc : ByteArray) (k : Nat → Int) (key : Option Nat) (kp : Value) (w : World) (hr : Rd w r s p) (hc : CfgAt w c nm sc k) (hkp : KeyPtr w B0 kp key)
    (out : Except (Nat × Int) (ByteArray × (Nat → Int) × Nat)) (hout : valueP s p key sc k = out) :
    Calls Tryz.prog 18 #[.pointer (some ⟨r, 0, none⟩), kp, .pointer (some ⟨c, 0, none⟩)] w (VPost r c s nm w out) := by
  have HOUT := Aside0.mk hout
  have HCF := Aside0.mk hc
  have HKP := Aside0.mk hkp
  have hcw : c < w.heap.size := blk_lt hc
  have hrw : r < w.heap.size := blk_lt hr
  have HN := Aside0.mk (next_any s hs r p hp w hr)
  clear hout hc hkp hr
  unfold valueP at HOUT
  go_enter Tryz.func18, Tryz.ntmps18
  go_wp2_with fail
  cases hn : nextP s p with
  | error a =>
    rw [hn] at HOUT HN
    obtain rfl : out = .error (a, 121) := HOUT.out.symm
    clear HOUT hn
    refine HN.out.mono ?_
    rintro e w1 ⟨rfl, hc1⟩
    have HC := Aside0.mk (hc1.more (L' := [r, c]) (by simp))
    clear hc1 HN
    go_wp2
    exact ⟨rfl, rfl, HC.out⟩
  | ok tk =>
    obtain ⟨kd, a, v, q⟩ := tk
    rw [hn] at HOUT HN
    simp only at HOUT
    have hqs := (nextP_le s p kd a v q hp hn).2.2
    have HVS : Aside0 (kd = 0 → v.size ≤ 1000000) := ⟨fun h0 => by subst h0; exact nextP_size s hs p a v q hn⟩
    clear hn
    refine HN.out.mono ?_
    rintro e w1 ⟨rfl, hr1, hc1⟩
    have hw1 : w.heap.size ≤ w1.heap.size := hc1.size
    have HR2 : Aside0 (Rd (w1.alloc (.cells #[.int .i64 0, .int .i64 0, .string ⟨#[]⟩] 49)) r s q) := ⟨blk_alloc hr1 _⟩
    have HC2 := Aside0.mk (hc1.alloc (.cells #[.int .i64 0, .int .i64 0, .string ⟨#[]⟩] 49))
    have hn := blk_new w1 (.cells #[.int .i64 0, .int .i64 0, .string ⟨#[]⟩] 49)
    clear hr1 hc1 HN
    go_upto_region 1 with (refine store_whole rfl rfl rfl (g := w1.heap.size) rfl (tokC kd a v) rfl hn (by kernel_rfl) (by rfl) (tokOne kd a v) ?_; intro w3 h3 hg3)
    have HB := Aside0.mk h3
    have HR3 : Aside0 (Rd w3 r s q) := ⟨grown_blk hg3 HR2.out (by omega)⟩
    have HC3 := Aside0.mk ((HC2.out.grown hg3 (.inr (by omega))).more (L' := [r, c]) (by simp))
    have HF3 : Aside0 (CfgAt w3 c nm sc k) := ⟨grown_blk hg3 (HC2.out.blk HCF.out (by simp; omega)) (by omega)⟩
    have hw3 : w1.heap.size < w3.heap.size := blk_lt HB.out
    have HCr := Aside0.mk (HC2.out.grown hg3 (.inr hw1))
    clear hg3 h3 hn HR2 HC2 HCF
    have t0 : w3.cell? ⟨w1.heap.size, 0, none⟩ = some (.int .i64 (kd : Int)) := (blk_cell HB.out 0).trans rfl
    have t1 : w3.cell? ⟨w1.heap.size, 1, none⟩ = some (.int .i64 (a : Int)) := (blk_cell HB.out 1).trans rfl
    have t2 : w3.cell? ⟨w1.heap.size, 2, none⟩ = some (.string v) := (blk_cell HB.out 2).trans rfl
    by_cases hk : kd = 1
    · rw [if_pos hk] at HOUT
      obtain rfl : out = .error (a, 121) := HOUT.out.symm
      subst hk
      clear HOUT
      go_wp2_with fail
      refine (give_any a 121 w3).mono ?_
      rintro e w' ⟨rfl, rfl⟩
      go_wp2
      exact ⟨rfl, rfl, HC3.out⟩
    · rw [if_neg hk] at HOUT
      have hkb : ((kd : Int) == 1) = false := by simp; omega
      clear hk
      cases key with
      | none =>
        obtain rfl : kp = .pointer none := HKP.out
        simp only at HOUT
        by_cases h64 : 64 < v.size
        · rw [if_pos h64] at HOUT
          obtain rfl : out = .error (a, 124) := HOUT.out.symm
          have d64 : decide ((64 : Int) < (v.size : Int)) = true := decide_eq_true (by omega)
          clear HOUT
          go_wp2_with fail
          refine (give_any a 124 w3).mono ?_
          rintro e w' ⟨rfl, rfl⟩
          go_wp2
          exact ⟨rfl, rfl, HC3.out⟩
        · rw [if_neg h64] at HOUT
          have d64 : decide ((64 : Int) < (v.size : Int)) = false := decide_eq_false (by omega)
          have f11 : w3.frozen? ⟨c, 11, none⟩ = false := blk_frozen HF3.out 11
          have o11 : w3.cell? ⟨c, 11, none⟩ = some (.string sc) := (blk_cell HF3.out 11).trans rfl
          have HF4 : Aside0 (CfgAt (w3.setCell ⟨c, 11, none⟩ (.string v)) c nm v k) := ⟨HF3.out.setS v⟩
          have HR4 : Aside0 (Rd (w3.setCell ⟨c, 11, none⟩ (.string v)) r s q) := ⟨blk_far HR3.out (by show r ≠ c; exact hrc) _⟩
          have HC4 : Aside0 (Ch [r, c] w (w3.setCell ⟨c, 11, none⟩ (.string v))) := ⟨HC3.out.set (by simp) 11 _⟩
          clear HF3 HR3 HC3 HCr
          go_wp2_with fail
          generalize w3.setCell ⟨c, 11, none⟩ (.string v) = w4 at *
          have HW := Aside0.mk (want_any s hs r q hqs 1 semiB w4 HR4.out)
          cases hwn : wantP s q 1 semiB with
          | error ae =>
            obtain ⟨ea, er⟩ := ae
            rw [hwn] at HOUT HW
            obtain rfl : out = .error (ea, er) := HOUT.out.symm
            clear HOUT hwn
            refine HW.out.mono ?_
            rintro e w5 ⟨rfl, hc5⟩
            have HC5 := Aside0.mk (HC4.out.trans (hc5.more (L' := [r, c]) (by simp)))
            clear hc5 HW
            go_wp2
            exact ⟨rfl, rfl, HC5.out⟩
          | ok aq =>
            obtain ⟨wa, wq⟩ := aq
            rw [hwn] at HOUT HW
            obtain rfl : out = .ok (v, k, wq) := HOUT.out.symm
            clear HOUT hwn
            refine HW.out.mono ?_
            rintro e w5 ⟨rfl, hr5, hc5⟩
            have HC5 := Aside0.mk (HC4.out.trans (hc5.more (L' := [r, c]) (by simp)))
            have HR5 := Aside0.mk hr5
            have HF5 : Aside0 (CfgAt w5 c nm v k) := ⟨hc5.blk HF4.out (by simp; omega)⟩
            clear hc5 hr5 HW
            go_wp2
            go_end0
            exact ⟨rfl, HR5.out, HF5.out, HC5.out⟩
      | some i =>
        obtain ⟨hi, B, g, rfl, hB0, hBg, hKA⟩ := HKP.out
        obtain ⟨t, ht⟩ : ∃ t, kTab[i]? = some t := ⟨_, List.getElem?_eq_getElem hi⟩
        have hK3 : KeyAt w3 B g i t := (hKA t ht).ch HCr.out hB0 hBg (by simp; omega)
        obtain ⟨_, _, z3⟩ := kTab_small i t ht
        simp only [ht] at HOUT
        have KK := Aside0.mk hK3
        have HKL := Aside0.mk (kTab_len i t ht)
        have HZ3 := Aside0.mk z3
        clear hK3 hKA z3 ht HKP
        go_wp2_with ((with_reducible refine gate_dst (N := 33) rfl ?_); refine wpList_load_row rfl 49 _ rfl w1.heap.size rfl 49 (tokC kd a v) (0, 0) _ HB.out Tryz.underlying49 rfl (by kernel_rfl) ?_)
        obtain ⟨ro, hro⟩ : ∃ ro, readP t kd v = ro := ⟨_, rfl⟩
        rw [hro] at HOUT
        refine (read_any w3 B g i t hBg KK.out (fun p hp => (HZ3.out p hp).1) (fun p hp => HKL.out p hp) kd a v HVS.out ro hro).mono ?_
        rintro e w4 ⟨⟨n', rfl, hn'⟩, hB4⟩
        have HB4 := Aside0.mk (blk_below HB.out hB4)
        have HF4 : Aside0 (CfgAt w4 c nm sc k) := ⟨blk_below HF3.out hB4⟩
        have HR4 : Aside0 (Rd w4 r s q) := ⟨blk_below HR3.out hB4⟩
        have HC4 := Aside0.mk (HC3.out.then hB4)
        have K4 := Aside0.mk (KK.out.ch (L := []) (Ch.of_below hB4 []) (Nat.le_refl B) hBg (by simp))
        clear hB4 hro HF3 HR3 HC3 HCr KK HVS HB
        have t1 : w4.cell? ⟨w1.heap.size, 1, none⟩ = some (.int .i64 (a : Int)) := (blk_cell HB4.out 1).trans rfl
        cases ro with
        | none =>
          simp only at HOUT
          obtain rfl : out = .error (a, 124) := HOUT.out.symm
          clear HOUT hn'
          simp only [Option.isSome_none]
          go_wp2_with fail
          refine (give_any a 124 w4).mono ?_
          rintro e w' ⟨rfl, rfl⟩
          go_wp2
          exact ⟨rfl, rfl, HC4.out⟩
        | some n =>
          obtain rfl := hn' n rfl
          simp only at HOUT
          simp only [Option.isSome_some]
          have hcf := fun args W => call_kfield i hi args W
          have c7 : w4.cell? ⟨g, i * 8 + 7, none⟩ = some (.func (.func (48 + i)) #[] #[]) := K4.out.2.2.2.2.2.2
          clear hn'
          go_wp2_with fail
          refine (kfield_any i hi c w4).mono ?_
          rintro e w5 ⟨rfl, rfl⟩
          have hof : kOff i < 18 := kOff_lt i hi
          have fk : w4.frozen? ⟨c, kOff i, none⟩ = false := blk_frozen HF4.out (kOff i)
          have ok : w4.cell? ⟨c, kOff i, none⟩ = some (.int .i64 (k i)) := (blk_cell HF4.out _).trans (cfg_key nm sc k i hi)
          have HF5 : Aside0 (CfgAt (w4.setCell ⟨c, kOff i, none⟩ (.int .i64 n')) c nm sc (Cf.setK k i n')) := ⟨HF4.out.setK hi n'⟩
          have HR5 : Aside0 (Rd (w4.setCell ⟨c, kOff i, none⟩ (.int .i64 n')) r s q) := ⟨blk_far HR4.out (by show r ≠ c; exact hrc) _⟩
          have HC5 : Aside0 (Ch [r, c] w (w4.setCell ⟨c, kOff i, none⟩ (.int .i64 n'))) := ⟨HC4.out.set (by simp) (kOff i) _⟩
          clear HF4 HR4 HC4 K4 HB4 hcf c7
          go_wp2_with fail
          generalize w4.setCell ⟨c, kOff i, none⟩ (.int .i64 n') = w6 at *
          have HW := Aside0.mk (want_any s hs r q hqs 1 semiB w6 HR5.out)
          cases hwn : wantP s q 1 semiB with
          | error ae =>
            obtain ⟨ea, er⟩ := ae
            rw [hwn] at HOUT HW
            obtain rfl : out = .error (ea, er) := HOUT.out.symm
            clear HOUT hwn
            refine HW.out.mono ?_
            rintro e w7 ⟨rfl, hc7⟩
            have HC7 := Aside0.mk (HC5.out.trans (hc7.more (L' := [r, c]) (by simp)))
            clear hc7 HW
            go_wp2
            exact ⟨rfl, rfl, HC7.out⟩
          | ok aq =>
            obtain ⟨wa, wq⟩ := aq
            rw [hwn] at HOUT HW
            obtain rfl : out = .ok (sc, Cf.setK k i n', wq) := HOUT.out.symm
            clear HOUT hwn
            refine HW.out.mono ?_
            rintro e w7 ⟨rfl, hr7, hc7⟩
            have HC7 := Aside0.mk (HC5.out.trans (hc7.more (L' := [r, c]) (by simp)))
            have HR7 := Aside0.mk hr7
            have HF7 : Aside0 (CfgAt w7 c nm sc (Cf.setK k i n')) := ⟨hc7.blk HF5.out (by simp; omega)⟩
            clear hc7 hr7 HW
            go_wp2
            go_end0
            exact ⟨rfl, HR7.out, HF7.out, HC7.out⟩
end Go.Proofs.YtfecfgimfjcbdaaGreatDoor.Cf
