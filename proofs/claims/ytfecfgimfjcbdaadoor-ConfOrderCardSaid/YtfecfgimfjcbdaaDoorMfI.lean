/- A number; a key's value read. (Several texts in one: next: a token. · want; a number. · A number; a key's value read.) -/
import Derived.Test.YtfecfgimfjcbdaaDoorMfH
import Derived.Test.YtfecfgimfjcbdaaDoorMfD
import Derived.StillTailTactics
import Derived.Lib.Atoi
import Derived.Test.YtfecfgimfjcbdaaDoorMfB
import Derived.Lib.AtoiErrMem
import Derived.Deep.Cut
namespace Go.Proofs.YtfecfgimfjcbdaaDoor.Cf
open Go.RowKit Go.Proofs.YtfecfgimfjcbdaaDoorW.PrintWords Go.Proofs.YtfecfgimfjcbdaaDoorW.PrintLast Go.Proofs.YtfecfgimfjcbdaaDoorW.PrintMore Go.Proofs.YtfecfgimfjcbdaaDoor.QCParse

def inW (c : Nat) : Bool := decide (((65 ≤ c ∧ c ≤ 90) ∨ (97 ≤ c ∧ c ≤ 122)) ∨ (48 ≤ c ∧ c ≤ 57) ∨ c = 45 ∨ c = 95 ∨ c = 46)
theorem inW_f : ∀ c : Fin 256, conf_inWord.f (c.val : Int) = some (inW c.val) := by decide +kernel
theorem inword_any (c : Nat) (hc : c < 256) (w : World) : Calls Tryd.prog 110 #[.int .u8 (c : Int)] w fun e w' => e = .returned (.bool (inW c)) ∧ Drawn0 w w' :=
  conf_inWord.calls (c : Int) _ w (inW_f ⟨c, hc⟩)
/-- Where the word that begins at a place ends. -/
def wEnd (s : ByteArray) (a : Nat) : Nat := a + (((bl s).drop a).takeWhile fun c => inW c.toNat).length
theorem wEnd_le (s : ByteArray) (a : Nat) (h : a ≤ s.size) : wEnd s a ≤ s.size := by
  unfold wEnd
  have := (List.takeWhile_prefix (fun c : UInt8 => inW c.toNat) (l := (bl s).drop a)).length_le
  rw [List.length_drop, bl_length] at this
  omega
theorem wEnd_go (s : ByteArray) (a : Nat) (h : a < s.size) (hc : inW (cA s a) = true) : wEnd s a = wEnd s (a + 1) := by
  unfold wEnd
  obtain ⟨b, e, _⟩ := bl_drop s a h
  have hb : b.toNat = cA s a := by
    have := cA_drop s a 0
    rw [e] at this
    exact this
  rw [e, List.takeWhile_cons, hb, hc]
  simp
  omega
theorem wEnd_at (s : ByteArray) (a : Nat) (hc : a < s.size → inW (cA s a) = false) : wEnd s a = a := by
  unfold wEnd
  by_cases h : a < s.size
  · obtain ⟨b, e, _⟩ := bl_drop s a h
    have hb : b.toNat = cA s a := by
      have := cA_drop s a 0
      rw [e] at this
      exact this
    rw [e, List.takeWhile_cons, hb, hc h]
    simp
  · rw [List.drop_eq_nil_of_le (by rw [bl_length]; omega)]
    simp
/-- A token: its kind, place and value, and the place behind it; or the place of what is wrong. -/
def nextP (s : ByteArray) (p : Nat) : Except Nat (Nat × Nat × ByteArray × Nat) :=
  if s.size ≤ skp s p then .error s.size
  else if inW (cA s (skp s p)) = true then .ok (0, skp s p, s.extract (skp s p) (wEnd s (skp s p)), wEnd s (skp s p))
  else if cA s (skp s p) = 123 ∨ cA s (skp s p) = 125 ∨ cA s (skp s p) = 59 then .ok (1, skp s p, s.extract (skp s p) (skp s p + 1), skp s p + 1)
  else if cA s (skp s p) = 34 then match qS s (s.size + 1) (skp s p + 1) [] with
    | .ok (l, q) => .ok (2, skp s p, ⟨l.toArray⟩, q)
    | .error e => .error e
  else .error (skp s p)
def tokC (kd a : Nat) (v : ByteArray) : Array Value := #[.int .i64 (kd : Int), .int .i64 (a : Int), .string v]
def NPost (r : Nat) (s : ByteArray) (w : World) (o : Except Nat (Nat × Nat × ByteArray × Nat)) (e : Ending) (w' : World) : Prop :=
  match o with
  | .ok (kd, a, v, q) => e = .returned (.agg (tokC kd a v)) ∧ Rd w' r s q ∧ Ch [r] w w'
  | .error a => Faults e a 121 ∧ Ch [r] w w'

set_option maxRecDepth 100000 in
set_option maxHeartbeats 1000000 in
theorem next_out (s : ByteArray) (hs : s.size ≤ 1000000) (r p : Nat) (hp : p ≤ s.size) (w : World) (hr : Rd w r s p) (out : Except Nat (Nat × Nat × ByteArray × Nat)) (hout : nextP s p = out) :
    Calls Tryd.prog 101 #[.pointer (some ⟨r, 0, none⟩)] w (NPost r s w out) := by
  have HOUT := Aside0.mk hout
  have HR := Aside0.mk hr
  have hrw : r < w.heap.size := blk_lt hr
  clear hout hr
  unfold nextP at HOUT
  have hal := skp_le s p hp
  have KT0 := Aside0.mk (blk_new w (.cells #[.int .i64 0, .int .i64 0, .string ⟨#[]⟩] 121))
  have HR0 : Aside0 (Rd (w.alloc (.cells #[.int .i64 0, .int .i64 0, .string ⟨#[]⟩] 121)) r s p) := ⟨blk_alloc HR.out _⟩
  have HC0 := Aside0.mk ((Ch.refl [r] w).alloc (.cells #[.int .i64 0, .int .i64 0, .string ⟨#[]⟩] 121))
  clear HR
  go_enter Tryd.func101, Tryd.ntmps101
  go_wp2_with fail
  generalize w.alloc (.cells #[.int .i64 0, .int .i64 0, .string ⟨#[]⟩] 121) = w0 at *
  refine (more_any s hs r p hp w0 HR0.out).mono ?_
  rintro e w1 ⟨rfl, hr1, hc1⟩
  have KT := Aside0.mk (hc1.blk KT0.out (by simp; omega))
  have HR := Aside0.mk hr1
  have HC := Aside0.mk (HC0.out.trans hc1)
  have hgt : w.heap.size < w1.heap.size := blk_lt KT.out
  clear hr1 hc1 KT0 HR0 HC0
  obtain ⟨a, ha⟩ : ∃ a, skp s p = a := ⟨_, rfl⟩
  rw [ha] at HOUT hal HR
  rw [ha]
  clear ha
  have hone : ∀ (kd : Int) (av : Int) (v : ByteArray), ∀ q ∈ (#[.int .i64 kd, .int .i64 av, .string v] : Array Value).toList, q.oneCell' = true := by
    intro kd av v q hq
    simp only [List.mem_cons, List.not_mem_nil, or_false] at hq
    rcases hq with rfl | rfl | rfl <;> rfl
  by_cases hend : s.size ≤ a
  · rw [if_pos hend] at HOUT
    obtain rfl : out = .error s.size := HOUT.out.symm
    have dm : decide (a < s.size) = false := decide_eq_false (by omega)
    have c0 := HR.out.c0
    clear HOUT
    go_wp2_with fail
    refine (give_any s.size 121 w1).mono ?_
    rintro e w' ⟨rfl, rfl⟩
    go_wp2
    exact ⟨rfl, rfl, HC.out⟩
  · have dm : decide (a < s.size) = true := decide_eq_true (by omega)
    have halt : a < s.size := by omega
    rw [if_neg hend] at HOUT
    have c0 := HR.out.c0
    have c1 := HR.out.c1
    have hcA := cA_at s a halt
    have hcl := cA_lt s a
    obtain ⟨c, hc⟩ : ∃ c, cA s a = c := ⟨_, rfl⟩
    rw [hc] at HOUT hcA hcl
    have HCA : Aside0 ((s[a]'halt).toNat = c) := ⟨hcA.symm⟩
    have HCC := Aside0.mk hc
    clear hcA hc hend
    go_wp2_with fail
    rw [HCA.out]
    refine (inword_any c hcl w1).mono ?_
    rintro e w2 ⟨rfl, hD⟩
    have KT2 := Aside0.mk (blk_below KT.out hD.below)
    have HR2 : Aside0 (Rd w2 r s a) := ⟨blk_below HR.out hD.below⟩
    have HC2 := Aside0.mk (HC.out.then hD.below)
    clear hD KT HR HC c0 c1
    by_cases hw : inW c = true
    · rw [if_pos hw] at HOUT
      obtain rfl := HOUT.out
      rw [hw]
      have HE0 := Aside0.mk (wEnd_go s a halt (by rw [HCC.out]; exact hw))
      have hel := wEnd_le s a (by omega)
      have hHR : Aside0 (wEnd s a = wEnd s a) := ⟨rfl⟩
      obtain ⟨en, hen⟩ : ∃ en, wEnd s a = en := ⟨_, rfl⟩
      rw [hen] at hel
      have HEN := Aside0.mk hen
      rw [hen]
      clear HOUT hHR HE0 hen
      go_wp2_with fail
      go_loopg [] (s.size - a) (fun kq wr => ∃ q : Nat, a ≤ q ∧ q ≤ s.size ∧ kq = s.size - q ∧ Aside0 (wEnd s q = en) ∧ Aside0 (wr.heap[w.heap.size]? = some (.cells #[.int .i64 0, .int .i64 0, .string ⟨#[]⟩] 121 (0, 0))) ∧ Aside0 (Rd wr r s q) ∧ Aside0 (Ch [r] w wr))
      case atStart => exact ⟨a, by omega, by omega, rfl, HEN, KT2, HR2, HC2⟩
      case round =>
        clear KT2 HR2 HC2
        obtain ⟨q, haq, hq, rfl, HQ, KT, HR, HC⟩ := hrel
        have c0 := HR.out.c0
        have c1 := HR.out.c1
        by_cases hlt : q < s.size
        · have dq : decide ((q : Int) < (s.size : Int)) = true := decide_eq_true (by omega)
          have hcq := cA_at s q hlt
          have hcql := cA_lt s q
          obtain ⟨cq, hc⟩ : ∃ cq, cA s q = cq := ⟨_, rfl⟩
          rw [hc] at hcq hcql
          have HCQ : Aside0 ((s[q]'hlt).toNat = cq) := ⟨hcq.symm⟩
          have HQQ := Aside0.mk hc
          clear hcq hc
          go_upto_region 6 with fail
          refine wp_region_still_tail 20 (by kernel_rfl) (by kernel_rfl) ?_
          simp only [List.take_succ_cons, List.take_zero, List.drop_succ_cons, List.drop_zero]
          repeat still_step
          refine wpStill_nil ?_
          change wpList _ _ _ _ _ wr.drew
          have KTd : Aside0 (wr.drew.heap[w.heap.size]? = some (.cells #[.int .i64 0, .int .i64 0, .string ⟨#[]⟩] 121 (0, 0))) := ⟨KT.out⟩
          have HRd : Aside0 (Rd wr.drew r s q) := ⟨HR.out⟩
          have HCd := Aside0.mk HC.out.drew
          clear c0 c1 KT HR HC
          generalize wr.drew = wd at *
          go_wp2_with fail
          rw [HCQ.out]
          refine (inword_any cq hcql wd).mono ?_
          rintro e w3 ⟨rfl, hD⟩
          have KT3 := Aside0.mk (blk_below KTd.out hD.below)
          have HR3 : Aside0 (Rd w3 r s q) := ⟨blk_below HRd.out hD.below⟩
          have HC3 := Aside0.mk (HCd.out.then hD.below)
          clear hD KTd HRd HCd
          have c0 := HR3.out.c0
          have c1 := HR3.out.c1
          have f1 := HR3.out.f 1
          cases hwq : inW cq with
          | true =>
            have HQ2 : Aside0 (wEnd s (q + 1) = en) := ⟨by rw [← HQ.out]; exact (wEnd_go s q hlt (by rw [HQQ.out]; exact hwq)).symm⟩
            go_wp2
            go_roundg (s.size - (q + 1))
            case measure => omega
            case rel =>
              have hst := HR3.out.set (q + 1)
              rw [show ((q + 1 : Nat) : Int) = (q : Int) + 1 by omega] at hst
              exact ⟨q + 1, by omega, by omega, rfl, HQ2, ⟨blk_far KT3.out (by show w.heap.size ≠ r; omega) _⟩, ⟨by rw [show ((q : Int) + 1) = ((q + 1 : Nat) : Int) by omega] at hst ⊢; exact hst⟩, ⟨HC3.out.set (by simp) 1 _⟩⟩
          | false =>
            have HQ2 : Aside0 (q = en) := ⟨by rw [← HQ.out]; exact (wEnd_at s q (fun _ => by rw [HQQ.out]; exact hwq)).symm⟩
            clear f1
            have haq1 : (a : Int) ≤ (q : Int) := by omega
            have hqs1 : (q : Int) ≤ (s.size : Int) := by omega
            go_upto_region 8 with fail
            refine wp_region_still_tail 12 (by kernel_rfl) (by kernel_rfl) ?_
            simp only [List.take_succ_cons, List.take_zero, List.drop_succ_cons, List.drop_zero]
            repeat still_step
            refine wpStill_nil ?_
            change wpList _ _ _ _ _ w3.drew
            have KT4 : Aside0 (w3.drew.heap[w.heap.size]? = some (.cells #[.int .i64 0, .int .i64 0, .string ⟨#[]⟩] 121 (0, 0))) := ⟨KT3.out⟩
            have HR4 : Aside0 (Rd w3.drew r s q) := ⟨HR3.out⟩
            have HC4 := Aside0.mk HC3.out.drew
            clear c0 c1 KT3 HR3 HC3
            generalize w3.drew = w4 at *
            go_wp2_with (refine store_whole rfl rfl rfl (g := w.heap.size) rfl (tokC 0 a (s.extract a q)) rfl KT4.out (by kernel_rfl) (by rfl) (hone _ _ _) ?_; intro w5 h5 hg5)
            refine bodyPost_ret (results_c1 rfl _ _ w.heap.size 121 (tokC 0 a (s.extract a q)) (0, 0) _ rfl h5 Tryd.underlying121 rfl (by kernel_rfl)) rfl ?_
            rw [HEN.out, ← HQ2.out]
            exact ⟨rfl, grown_blk hg5 HR4.out (by omega), HC4.out.grown hg5 (.inr (Nat.le_refl _))⟩
        · have dq : decide ((q : Int) < (s.size : Int)) = false := decide_eq_false (by omega)
          have HQ2 : Aside0 (q = en) := ⟨by rw [← HQ.out]; exact (wEnd_at s q (fun h => by omega)).symm⟩
          go_upto_region 6 with fail
          refine wp_region_still_tail 20 (by kernel_rfl) (by kernel_rfl) ?_
          simp only [List.take_succ_cons, List.take_zero, List.drop_succ_cons, List.drop_zero]
          repeat (with_reducible refine wpStill_step (fun K hK => ?_); go_simp; with_reducible refine hK _ ?_; clear hK K)
          with_reducible refine wpStill_nil ?_
          change wpList _ _ _ _ _ wr.drew
          have KT3 : Aside0 (wr.drew.heap[w.heap.size]? = some (.cells #[.int .i64 0, .int .i64 0, .string ⟨#[]⟩] 121 (0, 0))) := ⟨KT.out⟩
          have HR3 : Aside0 (Rd wr.drew r s q) := ⟨HR.out⟩
          have HC3 := Aside0.mk HC.out.drew
          clear c0 c1 KT HR HC
          generalize wr.drew = w3 at *
          have c0 := HR3.out.c0
          have c1 := HR3.out.c1
          have haq1 : (a : Int) ≤ (q : Int) := by omega
          have hqs1 : (q : Int) ≤ (s.size : Int) := by omega
          go_upto_region 8 with fail
          refine wp_region_still_tail 12 (by kernel_rfl) (by kernel_rfl) ?_
          simp only [List.take_succ_cons, List.take_zero, List.drop_succ_cons, List.drop_zero]
          repeat still_step
          refine wpStill_nil ?_
          change wpList _ _ _ _ _ w3.drew
          have KT4 : Aside0 (w3.drew.heap[w.heap.size]? = some (.cells #[.int .i64 0, .int .i64 0, .string ⟨#[]⟩] 121 (0, 0))) := ⟨KT3.out⟩
          have HR4 : Aside0 (Rd w3.drew r s q) := ⟨HR3.out⟩
          have HC4 := Aside0.mk HC3.out.drew
          clear c0 c1 KT3 HR3 HC3
          generalize w3.drew = w4 at *
          go_wp2_with (refine store_whole rfl rfl rfl (g := w.heap.size) rfl (tokC 0 a (s.extract a q)) rfl KT4.out (by kernel_rfl) (by rfl) (hone _ _ _) ?_; intro w5 h5 hg5)
          refine bodyPost_ret (results_c1 rfl _ _ w.heap.size 121 (tokC 0 a (s.extract a q)) (0, 0) _ rfl h5 Tryd.underlying121 rfl (by kernel_rfl)) rfl ?_
          rw [HEN.out, ← HQ2.out]
          exact ⟨rfl, grown_blk hg5 HR4.out (by omega), HC4.out.grown hg5 (.inr (Nat.le_refl _))⟩
    · have hwf : inW c = false := by simpa using hw
      rw [if_neg hw] at HOUT
      rw [hwf]
      clear hw hwf
      have c1 := HR2.out.c1
      have f1 := HR2.out.f 1
      by_cases hm : c = 123 ∨ c = 125 ∨ c = 59
      · rw [if_pos hm] at HOUT
        obtain rfl : out = .ok (1, a, s.extract a (a + 1), a + 1) := HOUT.out.symm
        clear HOUT
        have KT3 : Aside0 ((w2.setCell ⟨r, 1, none⟩ (.int .i64 ((a : Int) + 1))).heap[w.heap.size]? = some (.cells #[.int .i64 0, .int .i64 0, .string ⟨#[]⟩] 121 (0, 0))) := ⟨blk_far KT2.out (by show w.heap.size ≠ r; omega) _⟩
        have HR3 : Aside0 (Rd (w2.setCell ⟨r, 1, none⟩ (.int .i64 ((a : Int) + 1))) r s (a + 1)) := ⟨by
          have hst := HR2.out.set (a + 1)
          rw [show ((a + 1 : Nat) : Int) = (a : Int) + 1 by omega] at hst
          exact hst⟩
        have HC3 : Aside0 (Ch [r] w (w2.setCell ⟨r, 1, none⟩ (.int .i64 ((a : Int) + 1)))) := ⟨HC2.out.set (by simp) 1 _⟩
        clear KT2 HR2 HC2
        have fin : ∀ W, W.heap[w.heap.size]? = some (.cells #[.int .i64 0, .int .i64 0, .string ⟨#[]⟩] 121 (0, 0)) → Rd W r s (a + 1) → Ch [r] w W → True := fun _ _ _ _ => trivial
        clear fin
        rcases hm with rfl | rfl | rfl
        all_goals
          go_upto_region 11 with fail
          clear c1 f1
          generalize w2.setCell ⟨r, 1, none⟩ (.int .i64 ((a : Int) + 1)) = w3 at *
          have c0 := HR3.out.c0
          have c1 : w3.cell? ⟨r, 1, none⟩ = some (.int .i64 ((a : Int) + 1)) := by
            have := HR3.out.c1
            rwa [show ((a + 1 : Nat) : Int) = (a : Int) + 1 by omega] at this
          have e2 : ((a : Int) + 1).toNat = a + 1 := by omega
          have e3 : (a : Int) ≤ (a : Int) + 1 := by omega
          have e4 : (a : Int) + 1 ≤ (s.size : Int) := by omega
          refine wp_region_still_tail 12 (by kernel_rfl) (by kernel_rfl) ?_
          simp only [List.take_succ_cons, List.take_zero, List.drop_succ_cons, List.drop_zero]
          repeat still_step
          refine wpStill_nil ?_
          change wpList _ _ _ _ _ w3.drew
          have KT4 : Aside0 (w3.drew.heap[w.heap.size]? = some (.cells #[.int .i64 0, .int .i64 0, .string ⟨#[]⟩] 121 (0, 0))) := ⟨KT3.out⟩
          have HR4 : Aside0 (Rd w3.drew r s (a + 1)) := ⟨HR3.out⟩
          have HC4 := Aside0.mk HC3.out.drew
          clear c0 c1 KT3 HR3 HC3 e2 e3 e4
          generalize w3.drew = w4 at *
          go_wp2_with (refine store_whole rfl rfl rfl (g := w.heap.size) rfl (tokC 1 a (s.extract a (a + 1))) rfl KT4.out (by kernel_rfl) (by rfl) (hone _ _ _) ?_; intro w5 h5 hg5)
          refine bodyPost_ret (results_c1 rfl _ _ w.heap.size 121 (tokC 1 a (s.extract a (a + 1))) (0, 0) _ rfl h5 Tryd.underlying121 rfl (by kernel_rfl)) rfl ?_
          exact ⟨rfl, grown_blk hg5 HR4.out (by omega), HC4.out.grown hg5 (.inr (Nat.le_refl _))⟩
      · rw [if_neg hm] at HOUT
        have n1 : ((c : Int) == 123) = false := by simp; omega
        have n2 : ((c : Int) == 125) = false := by simp; omega
        have n3 : ((c : Int) == 59) = false := by simp; omega
        clear hm c1 f1
        by_cases hq : c = 34
        · subst hq
          rw [if_pos rfl] at HOUT
          have HQ := Aside0.mk (quoted_any s hs r a halt w2 HR2.out)
          cases ho : qS s (s.size + 1) (a + 1) [] with
          | error ea =>
            rw [ho] at HOUT HQ
            obtain rfl : out = .error ea := HOUT.out.symm
            clear HOUT ho
            go_wp2_with fail
            refine HQ.out.mono ?_
            rintro e w3 ⟨rfl, hc3⟩
            have HC3 := Aside0.mk (HC2.out.trans hc3)
            clear hc3 HQ
            go_wp2
            exact ⟨rfl, rfl, HC3.out⟩
          | ok lq =>
            obtain ⟨l, q⟩ := lq
            rw [ho] at HOUT HQ
            obtain rfl : out = .ok (2, a, ⟨l.toArray⟩, q) := HOUT.out.symm
            clear HOUT ho
            go_wp2_with fail
            refine HQ.out.mono ?_
            rintro e w3 ⟨rfl, hr3, hc3⟩
            have HC3 := Aside0.mk (HC2.out.trans hc3)
            have HR3 := Aside0.mk hr3
            have KT3 := Aside0.mk (hc3.blk KT2.out (by simp; omega))
            clear hc3 hr3 HQ KT2 HR2 HC2
            go_wp2_with (refine store_whole rfl rfl rfl (g := w.heap.size) rfl (tokC 2 a ⟨l.toArray⟩) rfl KT3.out (by kernel_rfl) (by rfl) (hone _ _ _) ?_; intro w5 h5 hg5)
            refine bodyPost_ret (results_c1 rfl _ _ w.heap.size 121 (tokC 2 a ⟨l.toArray⟩) (0, 0) _ rfl h5 Tryd.underlying121 rfl (by kernel_rfl)) rfl ?_
            exact ⟨rfl, grown_blk hg5 HR3.out (by omega), HC3.out.grown hg5 (.inr (Nat.le_refl _))⟩
        · rw [if_neg hq] at HOUT
          have n4 : ((c : Int) == 34) = false := by simp; omega
          obtain rfl : out = .error a := HOUT.out.symm
          clear HOUT hq
          go_wp2_with fail
          refine (give_any a 121 w2).mono ?_
          rintro e w' ⟨rfl, rfl⟩
          go_wp2
          exact ⟨rfl, rfl, HC2.out⟩
theorem next_any (s : ByteArray) (hs : s.size ≤ 1000000) (r p : Nat) (hp : p ≤ s.size) (w : World) (hr : Rd w r s p) :
    Calls Tryd.prog 101 #[.pointer (some ⟨r, 0, none⟩)] w (NPost r s w (nextP s p)) := next_out s hs r p hp w hr _ rfl
end Go.Proofs.YtfecfgimfjcbdaaDoor.Cf

namespace Go.Proofs.YtfecfgimfjcbdaaDoor.Cf
open Go.RowKit Go.Proofs.YtfecfgimfjcbdaaDoorW.PrintWords Go.Proofs.YtfecfgimfjcbdaaDoorW.PrintLast Go.Proofs.YtfecfgimfjcbdaaDoorW.PrintMore Go.Proofs.YtfecfgimfjcbdaaDoor.QCParse

theorem skipP_ge (s : ByteArray) : ∀ (f p : Nat), p ≤ skipP s f p
  | 0, p => Nat.le_refl _
  | f + 1, p => by
    rw [skipP_step]
    repeat' split
    · exact Nat.le_trans (Nat.le_succ p) (skipP_ge s f _)
    · exact Nat.le_trans (Nat.le_add_right ..) (skipP_ge s f _)
    · exact Nat.le_refl _
    · exact Nat.le_refl _
theorem qS_le (s : ByteArray) : ∀ (f k : Nat) (acc l : List UInt8) (q : Nat), qS s f k acc = .ok (l, q) → k < q ∧ q ≤ s.size
  | 0, _, _, _, _, h => by cases h
  | f + 1, k, acc, l, q, h => by
    rw [qS_step] at h
    split at h
    · split at h
      · obtain ⟨rfl, rfl⟩ := Prod.mk.inj (Except.ok.inj h)
        omega
      · split at h
        · split at h
          · have := qS_le s f _ _ _ _ h
            omega
          · cases h
        · split at h
          · cases h
          · have := qS_le s f _ _ _ _ h
            omega
    · cases h
theorem wEnd_gt (s : ByteArray) (a : Nat) (h : a < s.size) (hc : inW (cA s a) = true) : a < wEnd s a := by
  rw [wEnd_go s a h hc]
  unfold wEnd
  omega
theorem nextP_le (s : ByteArray) (p kd a : Nat) (v : ByteArray) (q : Nat) (hp : p ≤ s.size) (h : nextP s p = .ok (kd, a, v, q)) : p ≤ a ∧ a < q ∧ q ≤ s.size := by
  have h1 : p ≤ skp s p := skipP_ge s _ p
  have h2 := skp_le s p hp
  unfold nextP at h
  split at h
  · cases h
  · rename_i hlt
    split at h
    · rename_i hw
      simp only [Except.ok.injEq, Prod.mk.injEq] at h
      obtain ⟨_, rfl, _, rfl⟩ := h
      have := wEnd_gt s (skp s p) (by omega) hw
      have := wEnd_le s (skp s p) h2
      omega
    · split at h
      · simp only [Except.ok.injEq, Prod.mk.injEq] at h
        obtain ⟨_, rfl, _, rfl⟩ := h
        omega
      · split at h
        · split at h
          · rename_i l qq hq
            simp only [Except.ok.injEq, Prod.mk.injEq] at h
            obtain ⟨_, rfl, _, rfl⟩ := h
            have := qS_le s _ _ _ _ _ hq
            omega
          · cases h
        · cases h
theorem qS_err (s : ByteArray) : ∀ (f k : Nat) (acc : List UInt8) (e : Nat), qS s f k acc = .error e → e ≤ s.size
  | 0, _, _, _, h => by cases h; exact Nat.le_refl _
  | f + 1, k, acc, e, h => by
    rw [qS_step] at h
    split at h
    · split at h
      · cases h
      · split at h
        · split at h
          · exact qS_err s f _ _ _ h
          · obtain rfl := Except.error.inj h
            omega
        · split at h
          · obtain rfl := Except.error.inj h
            omega
          · exact qS_err s f _ _ _ h
    · obtain rfl := Except.error.inj h
      exact Nat.le_refl _
theorem nextP_err (s : ByteArray) (p a : Nat) (hp : p ≤ s.size) (h : nextP s p = .error a) : a ≤ s.size := by
  have h2 := skp_le s p hp
  unfold nextP at h
  split at h
  · obtain rfl := Except.error.inj h
    exact Nat.le_refl _
  · split at h
    · cases h
    · split at h
      · cases h
      · split at h
        · split at h
          · cases h
          · rename_i e he
            obtain rfl := Except.error.inj h
            exact qS_err s _ _ _ _ he
        · obtain rfl := Except.error.inj h
          exact h2
theorem tokOne (kd a : Nat) (v : ByteArray) : ∀ q ∈ (tokC kd a v).toList, q.oneCell' = true := by
  intro q hq
  simp only [tokC, List.mem_cons, List.not_mem_nil, or_false] at hq
  rcases hq with rfl | rfl | rfl <;> rfl

/-- A token that must be just this one: its place, and the place behind it. -/
def wantP (s : ByteArray) (p kd : Nat) (v : ByteArray) : Except (Nat × Int) (Nat × Nat) :=
  match nextP s p with
  | .error a => .error (a, 121)
  | .ok (kd', a, v', q) => if kd' = kd ∧ v'.toList = v.toList then .ok (a, q) else .error (a, 121)
def WPost (r : Nat) (s : ByteArray) (w : World) (kd : Nat) (v : ByteArray) (o : Except (Nat × Int) (Nat × Nat)) (e : Ending) (w' : World) : Prop :=
  match o with
  | .ok (a, q) => e = .returned (.agg (tokC kd a v)) ∧ Rd w' r s q ∧ Ch [r] w w'
  | .error (a, er) => Faults e a er ∧ Ch [r] w w'
set_option maxRecDepth 100000 in
set_option maxHeartbeats 1000000 in
theorem want_out (s : ByteArray) (hs : s.size ≤ 1000000) (r p : Nat) (hp : p ≤ s.size) (kd : Nat) (v : ByteArray) (w : World) (hr : Rd w r s p) (out : Except (Nat × Int) (Nat × Nat)) (hout : wantP s p kd v = out) :
    Calls Tryd.prog 100 #[.pointer (some ⟨r, 0, none⟩), .int .i64 (kd : Int), .string v] w (WPost r s w kd v out) := by
  have HOUT := Aside0.mk hout
  have HR := Aside0.mk hr
  have hrw : r < w.heap.size := blk_lt hr
  have KT0 := Aside0.mk (blk_new w (.cells #[.int .i64 0, .int .i64 0, .string ⟨#[]⟩] 121))
  have HR0 : Aside0 (Rd (w.alloc (.cells #[.int .i64 0, .int .i64 0, .string ⟨#[]⟩] 121)) r s p) := ⟨blk_alloc HR.out _⟩
  have HC0 := Aside0.mk ((Ch.refl [r] w).alloc (.cells #[.int .i64 0, .int .i64 0, .string ⟨#[]⟩] 121))
  clear hout hr HR
  unfold wantP at HOUT
  go_enter Tryd.func100, Tryd.ntmps100
  go_wp2_with fail
  generalize w.alloc (.cells #[.int .i64 0, .int .i64 0, .string ⟨#[]⟩] 121) = w0 at *
  have HN := Aside0.mk (next_any s hs r p hp w0 HR0.out)
  cases hn : nextP s p with
  | error a =>
    rw [hn] at HOUT HN
    obtain rfl : out = .error (a, 121) := HOUT.out.symm
    clear HOUT hn
    refine HN.out.mono ?_
    rintro e w1 ⟨rfl, hc1⟩
    have HC := Aside0.mk (HC0.out.trans hc1)
    clear hc1 HN
    go_wp2
    exact ⟨rfl, rfl, HC.out⟩
  | ok tk =>
    obtain ⟨kd', a, v', q⟩ := tk
    rw [hn] at HOUT HN
    simp only at HOUT
    clear hn
    refine HN.out.mono ?_
    rintro e w1 ⟨rfl, hr1, hc1⟩
    have KT := Aside0.mk (hc1.blk KT0.out (by simp; omega))
    have hgt : w.heap.size < w1.heap.size := blk_lt KT.out
    have HR2 : Aside0 (Rd (w1.alloc (.cells #[.int .i64 0, .int .i64 0, .string ⟨#[]⟩] 121)) r s q) := ⟨blk_alloc hr1 _⟩
    have HC2 := Aside0.mk ((HC0.out.trans hc1).alloc (.cells #[.int .i64 0, .int .i64 0, .string ⟨#[]⟩] 121))
    have KT2 := Aside0.mk (blk_alloc KT.out (.cells #[.int .i64 0, .int .i64 0, .string ⟨#[]⟩] 121))
    have hn := blk_new w1 (.cells #[.int .i64 0, .int .i64 0, .string ⟨#[]⟩] 121)
    clear hr1 hc1 HN KT KT0 HR0 HC0
    go_upto_region 2 with (refine store_whole rfl rfl rfl (g := w1.heap.size) rfl (tokC kd' a v') rfl hn (by kernel_rfl) (by rfl) (tokOne kd' a v') ?_; intro w3 h3 hg3)
    have HB := Aside0.mk h3
    have HR3 : Aside0 (Rd w3 r s q) := ⟨grown_blk hg3 HR2.out (by omega)⟩
    have HC3 := Aside0.mk (HC2.out.grown hg3 (.inr (by omega)))
    have KT3 := Aside0.mk (grown_blk hg3 KT2.out (by omega))
    clear hg3 h3 hn KT2 HR2 HC2
    have t0 : w3.cell? ⟨w1.heap.size, 0, none⟩ = some (.int .i64 (kd' : Int)) := (blk_cell HB.out 0).trans rfl
    have t1 : w3.cell? ⟨w1.heap.size, 1, none⟩ = some (.int .i64 (a : Int)) := (blk_cell HB.out 1).trans rfl
    have t2 : w3.cell? ⟨w1.heap.size, 2, none⟩ = some (.string v') := (blk_cell HB.out 2).trans rfl
    by_cases hk : kd' = kd
    · subst hk
      by_cases hv : v'.toList = v.toList
      · rw [if_pos ⟨rfl, hv⟩] at HOUT
        obtain rfl : out = .ok (a, q) := HOUT.out.symm
        have hvv : v' = v := by
          rw [toList_blN, toList_blN] at hv
          exact ByteArray.ext (Array.ext' hv)
        subst hvv
        clear HOUT hv
        go_wp2_with (first | ((with_reducible refine gate_dst (N := 23) rfl ?_); refine wpList_load_row rfl 121 _ rfl w1.heap.size rfl 121 (tokC kd' a v') (0, 0) _ HB.out Tryd.underlying121 rfl (by kernel_rfl) ?_) | (refine store_whole rfl rfl rfl (g := w.heap.size) rfl (tokC kd' a v') rfl KT3.out (by kernel_rfl) (by rfl) (tokOne kd' a v') ?_; intro w5 h5 hg5))
        refine bodyPost_ret (results_c1 rfl _ _ w.heap.size 121 (tokC kd' a v') (0, 0) _ rfl h5 Tryd.underlying121 rfl (by kernel_rfl)) rfl ?_
        exact ⟨rfl, grown_blk hg5 HR3.out (by omega), HC3.out.grown hg5 (.inr (Nat.le_refl _))⟩
      · rw [if_neg (fun h => hv h.2)] at HOUT
        obtain rfl : out = .error (a, 121) := HOUT.out.symm
        have hvb : (v'.toList == v.toList) = false := beq_eq_false_iff_ne.2 hv
        clear HOUT hv
        go_wp2_with fail
        refine (give_any a 121 w3).mono ?_
        rintro e w' ⟨rfl, rfl⟩
        go_wp2
        exact ⟨rfl, rfl, HC3.out⟩
    · rw [if_neg (fun h => hk h.1)] at HOUT
      obtain rfl : out = .error (a, 121) := HOUT.out.symm
      have hkb : ((kd' : Int) == (kd : Int)) = false := by simp; omega
      have hkn : ((kd' : Int) != (kd : Int)) = true := by simp; omega
      clear HOUT
      go_wp2_with fail
      refine (give_any a 121 w3).mono ?_
      rintro e w' ⟨rfl, rfl⟩
      go_wp2
      exact ⟨rfl, rfl, HC3.out⟩
theorem want_any (s : ByteArray) (hs : s.size ≤ 1000000) (r p : Nat) (hp : p ≤ s.size) (kd : Nat) (v : ByteArray) (w : World) (hr : Rd w r s p) :
    Calls Tryd.prog 100 #[.pointer (some ⟨r, 0, none⟩), .int .i64 (kd : Int), .string v] w (WPost r s w kd v (wantP s p kd v)) := want_out s hs r p hp kd v w hr _ rfl
end Go.Proofs.YtfecfgimfjcbdaaDoor.Cf

namespace Go.Proofs.YtfecfgimfjcbdaaDoor.Cf
open Go.RowKit Go.Proofs.YtfecfgimfjcbdaaDoorW.PrintWords Go.Proofs.YtfecfgimfjcbdaaDoorW.PrintLast Go.Proofs.YtfecfgimfjcbdaaDoorW.PrintMore Go.Proofs.YtfecfgimfjcbdaaDoor.QCParse

theorem digit_f2 : ∀ c : Fin 256, conf_digit.f (c.val : Int) = some (decide (48 ≤ c.val ∧ c.val ≤ 57)) := by decide +kernel
theorem digit_any (c : Nat) (hc : c < 256) (w : World) : Calls Tryd.prog 75 #[.int .u8 (c : Int)] w fun e w' => e = .returned (.bool (decide (48 ≤ c ∧ c ≤ 57))) ∧ Drawn0 w w' :=
  conf_digit.calls (c : Int) _ w (digit_f2 ⟨c, hc⟩)
def bigN (v : ByteArray) : Bool := decide (0 < v.size) && (decide (cA v (v.size - 1) = 75) || decide (cA v (v.size - 1) = 107))
def cutN (v : ByteArray) : ByteArray := if bigN v = true then v.extract 0 (v.size - 1) else v
def digN (v : ByteArray) : Option Nat := if 1 ≤ v.size ∧ v.size ≤ 9 then Lib.decFrom 0 (bl v) else none
/-- What a word says as a number. -/
def numP (v : ByteArray) : Option Nat := (digN (cutN v)).map fun n => n * (if bigN v = true then 1024 else 1)
theorem decFrom_bd : ∀ (l : List UInt8) (a n : Nat), Lib.decFrom a l = some n → n + 1 ≤ (a + 1) * 10 ^ l.length
  | [], a, n, h => by
    simp only [Lib.decFrom] at h
    obtain rfl := Option.some.inj h
    simp
  | c :: l, a, n, h => by
    simp only [Lib.decFrom] at h
    cases hd : Lib.digitVal c with
    | none => rw [hd] at h; cases h
    | some d =>
      rw [hd] at h
      have := decFrom_bd l _ _ h
      have hd9 : d ≤ 9 := by
        unfold Lib.digitVal at hd
        split at hd
        · obtain rfl := Option.some.inj hd
          omega
        · cases hd
      rw [List.length_cons, Nat.pow_succ]
      refine Nat.le_trans this ?_
      rw [Nat.mul_comm (10 ^ l.length) 10, ← Nat.mul_assoc]
      exact Nat.mul_le_mul_right _ (by omega)
theorem digN_bd (v : ByteArray) (n : Nat) (h : digN v = some n) : n ≤ 999999999 := by
  unfold digN at h
  split at h
  · rename_i hs
    have := decFrom_bd _ _ _ h
    rw [bl_length] at this
    have h9 : (10 : Nat) ^ v.size ≤ 10 ^ 9 := Nat.pow_le_pow_right (by decide) hs.2
    simp only [Nat.zero_add, Nat.one_mul] at this
    have : (10 : Nat) ^ 9 = 1000000000 := by decide
    omega
  · cases h
/-- Digits alone from a place on. -/
theorem decFrom_digits : ∀ (l : List UInt8) (a : Nat), (Lib.decFrom a l).isSome = l.all fun c => decide (48 ≤ c.toNat ∧ c.toNat ≤ 57)
  | [], _ => rfl
  | c :: l, a => by
    simp only [Lib.decFrom, List.all_cons]
    unfold Lib.digitVal
    by_cases h : 48 ≤ c.toNat ∧ c.toNat ≤ 57
    · rw [if_pos h, decide_eq_true h, Bool.true_and]
      exact decFrom_digits l _
    · rw [if_neg h, decide_eq_false h, Bool.false_and]
      rfl
theorem atoi_dec (l : List UInt8) (n : Nat) (hl : l ≠ []) (h : Lib.decFrom 0 l = some n) : Lib.atoi l = some (n : Int) := by
  rcases l with _ | ⟨c, l⟩
  · exact absurd rfl hl
  · have hall := decFrom_digits (c :: l) 0
    rw [h] at hall
    simp only [Option.isSome_some, List.all_cons] at hall
    have hc := (Bool.and_eq_true _ _ ▸ hall.symm).1
    have hc := of_decide_eq_true hc
    unfold Lib.atoi
    have n1 : (c == 45) = false := beq_eq_false_iff_ne.2 (fun e => by rw [e] at hc; exact absurd hc.1 (by decide))
    have n2 : (c == 43) = false := beq_eq_false_iff_ne.2 (fun e => by rw [e] at hc; exact absurd hc.1 (by decide))
    simp only [n1, n2, Bool.false_eq_true, if_false, Lib.decNat, List.isEmpty_cons, h, Option.map_some]
theorem atoi_any (v : ByteArray) (n : Nat) (h : digN v = some n) (w : World) : Calls Tryd.prog 130 #[.string v] w fun e w' => e = .returned (.tuple #[.int .i64 (n : Int), .nilIface]) ∧ Below w.heap.size w w' := by
  unfold digN at h
  split at h
  · rename_i hs
    refine (Any.strconv_Atoi Tryd.laysAtoi v (n : Int) (by omega) (atoi_dec (bl v) n (fun e => by have := bl_length v; rw [e] at this; simp at this; omega) h) w).mono ?_
    rintro e w' ⟨rfl, t, rfl⟩
    exact ⟨rfl, Lib.bytesWorld_below _ _ _⟩
  · cases h

theorem cA_get (x : ByteArray) (j : Nat) (h : j < x.size) : ∃ c, (bl x)[j]? = some c ∧ c.toNat = cA x j := by
  have hl : j < (bl x).length := by rw [bl_length]; exact h
  refine ⟨(bl x)[j], List.getElem?_eq_getElem hl, ?_⟩
  unfold cA
  rw [List.getD_eq_getElem?_getD, List.getElem?_eq_getElem hl, Option.getD_some]
theorem digN_none (x : ByteArray) (j : Nat) (hj : j < x.size) (h : ¬ (48 ≤ cA x j ∧ cA x j ≤ 57)) : digN x = none := by
  unfold digN
  split
  · obtain ⟨c, hc, hcc⟩ := cA_get x j hj
    have hd := decFrom_digits (bl x) 0
    cases hx : Lib.decFrom 0 (bl x) with
    | none => rfl
    | some n =>
      rw [hx] at hd
      have := List.all_eq_true.1 hd.symm c (List.mem_of_getElem? hc)
      exact absurd (of_decide_eq_true this) (by rw [hcc]; exact h)
  · rfl
theorem digN_some (x : ByteArray) (hs : 1 ≤ x.size ∧ x.size ≤ 9) (h : ∀ j, j < x.size → 48 ≤ cA x j ∧ cA x j ≤ 57) : ∃ n, digN x = some n := by
  unfold digN
  rw [if_pos hs]
  have hd := decFrom_digits (bl x) 0
  have ha : (bl x).all (fun c => decide (48 ≤ c.toNat ∧ c.toNat ≤ 57)) = true := by
    refine List.all_eq_true.2 (fun c hc => ?_)
    obtain ⟨j, hj⟩ := List.mem_iff_getElem?.1 hc
    have hl : j < x.size := by rw [← bl_length]; exact (List.getElem?_eq_some_iff.1 hj).1
    obtain ⟨c', hc', hcc⟩ := cA_get x j hl
    obtain rfl := Option.some.inj (hj.symm.trans hc')
    rw [hcc]
    exact decide_eq_true (h j hl)
  rw [ha] at hd
  exact Option.isSome_iff_exists.1 hd

set_option maxRecDepth 100000 in
set_option maxHeartbeats 1000000 in
theorem num_any (v : ByteArray) (hs : v.size ≤ 1000000) (w : World) :
    Calls Tryd.prog 121 #[.string v] w fun e w' => e = .returned (.tuple #[.int .i64 (((numP v).getD 0 : Nat) : Int), .bool (numP v).isSome]) ∧ Below w.heap.size w w' := by
  have HV : Aside0 (numP v = (digN (cutN v)).map fun n => n * (if bigN v = true then 1024 else 1)) := ⟨rfl⟩
  have hcut : bigN v = true → 0 < v.size := fun h => by
    unfold bigN at h
    rw [Bool.and_eq_true] at h
    exact of_decide_eq_true h.1
  have HCUT := Aside0.mk hcut
  clear hcut
  go_enter Tryd.func121, Tryd.ntmps121
  go_upto_region 3 with fail
  go_cut [26] from 9 (fun v26 wx => v26 = .bool (bigN v) ∧ w = wx)
  case first =>
    by_cases h0 : 0 < v.size
    · have d0 : decide ((0 : Int) < (v.size : Int)) = true := decide_eq_true (by omega)
      have hl : v.size - 1 < v.size := by omega
      have hca := cA_at v (v.size - 1) hl
      obtain ⟨c, hc⟩ : ∃ c, (v[v.size - 1]'hl).toNat = c := ⟨_, rfl⟩
      have HB : Aside0 (bigN v = (decide (c = 75) || decide (c = 107))) := ⟨by unfold bigN; rw [hca, hc, decide_eq_true h0, Bool.true_and]⟩
      by_cases h75 : c = 75
      · have e75 : (((v[v.size - 1]'hl).toNat : Int) == 75) = true := by rw [hc, h75]; rfl
        clear hca hc
        go_wp2_with fail
        go_meet
        exact ⟨by rw [HB.out, h75]; rfl, rfl⟩
      · have e75 : (((v[v.size - 1]'hl).toNat : Int) == 75) = false := by rw [hc]; simp; omega
        by_cases h107 : c = 107
        · have e107 : (((v[v.size - 1]'hl).toNat : Int) == 107) = true := by rw [hc, h107]; rfl
          clear hca hc
          go_wp2_with fail
          go_meet
          exact ⟨by rw [HB.out, h107]; rfl, rfl⟩
        · have e107 : (((v[v.size - 1]'hl).toNat : Int) == 107) = false := by rw [hc]; simp; omega
          clear hca hc
          go_wp2_with fail
          go_meet
          exact ⟨by rw [HB.out, decide_eq_false h75, decide_eq_false h107]; rfl, rfl⟩
    · have d0 : decide ((0 : Int) < (v.size : Int)) = false := decide_eq_false (by omega)
      have HB : Aside0 (bigN v = false) := ⟨by unfold bigN; rw [decide_eq_false h0, Bool.false_and]⟩
      go_wp2_with fail
      go_meet
      exact ⟨by rw [HB.out], rfl⟩
  case rest =>
  obtain ⟨rfl, rfl⟩ := hcut
  go_upto_if 26 with fail
  go_cut [0, 4] from 9 (fun v0 v4 wx => v0 = .string (cutN v) ∧ v4 = .int .i64 (if bigN v = true then 1024 else 1) ∧ w = wx)
  case first =>
    cases hb : bigN v with
    | true =>
      have h0 := HCUT.out hb
      have HX : Aside0 (cutN v = v.extract 0 (v.size - 1)) := ⟨by unfold cutN; rw [if_pos hb]⟩
      go_wp2_with fail
      go_meet
      exact ⟨by rw [HX.out], by rw [hb]; rfl, rfl⟩
    | false =>
      have HX : Aside0 (cutN v = v) := ⟨by unfold cutN; rw [if_neg (by rw [hb]; decide)]⟩
      go_wp2_with fail
      go_meet
      exact ⟨by rw [HX.out], by rw [hb]; rfl, rfl⟩
  case rest =>
  obtain ⟨rfl, rfl, rfl⟩ := hcut
  have hxs : (cutN v).size ≤ 1000000 := by
    unfold cutN
    split
    · rw [ByteArray.size_extract]; omega
    · exact hs
  obtain ⟨tm, htm⟩ : ∃ tm : Nat, (if bigN v = true then 1024 else 1) = tm := ⟨_, rfl⟩
  have htm2 : ((if bigN v = true then 1024 else 1 : Int)) = (tm : Int) := by rw [← htm]; split <;> rfl
  have html : tm ≤ 1024 := by rw [← htm]; split <;> omega
  rw [htm] at HV
  rw [htm2]
  clear htm htm2 HCUT
  obtain ⟨x, hx⟩ : ∃ x, cutN v = x := ⟨_, rfl⟩
  rw [hx] at HV hxs
  rw [hx]
  clear hx
  have Hbad : digN x = none → Aside0 (numP v = none) := fun h => ⟨by rw [HV.out, h]; rfl⟩
  by_cases h1 : x.size < 1
  · have d1 : decide ((x.size : Int) < 1) = true := decide_eq_true (by omega)
    have HN := Hbad (by unfold digN; rw [if_neg (by omega)])
    go_wp2
    go_ret2
    rw [HN.out]
    exact ⟨rfl, Below.refl _ _⟩
  · have d1 : decide ((x.size : Int) < 1) = false := decide_eq_false (by omega)
    by_cases h9 : 9 < x.size
    · have d9 : decide (9 < (x.size : Int)) = true := decide_eq_true (by omega)
      have HN := Hbad (by unfold digN; rw [if_neg (by omega)])
      go_wp2
      go_ret2
      rw [HN.out]
      exact ⟨rfl, Below.refl _ _⟩
    · have d9 : decide (9 < (x.size : Int)) = false := decide_eq_false (by omega)
      have HW := Aside0.mk (Below.refl w.heap.size w)
      have HBAD := Aside0.mk Hbad
      clear Hbad
      go_wp2
      go_loopg [41] x.size (fun kq v41 wr => ∃ i : Nat, i ≤ x.size ∧ kq = x.size - i ∧ v41 = .int .i64 i ∧ Aside0 (∀ j, j < i → 48 ≤ cA x j ∧ cA x j ≤ 57) ∧ Aside0 (Below w.heap.size w wr))
      case atStart => exact ⟨0, by omega, rfl, rfl, ⟨fun j h => by omega⟩, HW⟩
      case round =>
        clear HW
        obtain ⟨i, hi, rfl, rfl, HA, HW⟩ := hrel
        by_cases hlt : i < x.size
        · have hd : decide ((i : Int) < (x.size : Int)) = true := decide_eq_true (by omega)
          have hca := cA_at x i hlt
          have hcl := cA_lt x i
          obtain ⟨c, hc⟩ : ∃ c, cA x i = c := ⟨_, rfl⟩
          rw [hc] at hca hcl
          have HCA : Aside0 ((x[i]'hlt).toNat = c) := ⟨hca.symm⟩
          have HCC := Aside0.mk hc
          clear hca hc
          go_wp2_with fail
          rw [HCA.out]
          refine (digit_any c hcl _).mono ?_
          rintro e w3 ⟨rfl, hD⟩
          have HW3 := Aside0.mk (below_then HW.out HW.out.size hD.below)
          clear hD HW HCA
          by_cases hdg : 48 ≤ c ∧ c ≤ 57
          · rw [decide_eq_true hdg]
            have HA2 : Aside0 (∀ j, j < i + 1 → 48 ≤ cA x j ∧ cA x j ≤ 57) := ⟨fun j hj => by
              by_cases e : j = i
              · rw [e, HCC.out]
                exact hdg
              · exact HA.out j (by omega)⟩
            clear hdg HA
            go_wp2
            go_roundg (x.size - (i + 1))
            case measure => omega
            case rel => exact ⟨i + 1, by omega, rfl, by go_num, HA2, HW3⟩
          · rw [decide_eq_false hdg]
            have HN := HBAD.out (digN_none x i hlt (by rw [HCC.out]; exact hdg))
            clear hdg
            go_wp2
            go_ret2
            rw [HN.out]
            exact ⟨rfl, HW3.out⟩
        · have hd : decide ((i : Int) < (x.size : Int)) = false := decide_eq_false (by omega)
          obtain rfl : i = x.size := by omega
          obtain ⟨n, hn⟩ := digN_some x (by omega) HA.out
          have hnb := digN_bd x n hn
          have HN : Aside0 (numP v = some (n * tm)) := ⟨by rw [HV.out, hn]; rfl⟩
          have HDN := Aside0.mk hn
          have hmul : n * tm ≤ 999999999 * 1024 := Nat.mul_le_mul hnb html
          have e1 : IntKind.i64.wrap ((n : Int) * (tm : Int)) = ((n * tm : Nat) : Int) := by
            rw [IntKind.wrap_i64]
            have : ((n * tm : Nat) : Int) = (n : Int) * (tm : Int) := Int.natCast_mul n tm
            rw [← this]
            omega
          have E1 := Aside0.mk e1
          clear hn HA HBAD e1
          go_wp2_with fail
          refine (atoi_any x n HDN.out _).mono ?_
          rintro e w3 ⟨rfl, hB⟩
          have HW3 := Aside0.mk (below_then HW.out HW.out.size hB)
          clear hB HW
          go_wp2
          go_ret2
          refine ⟨?_, HW3.out⟩
          rw [HN.out]
          show Ending.returned (.tuple #[.int .i64 ((n : Int) * (tm : Int)), .bool true]) = _
          rw [Option.getD_some, Int.natCast_mul]
          rfl
end Go.Proofs.YtfecfgimfjcbdaaDoor.Cf
