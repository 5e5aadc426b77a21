/- Plain: the reference's reading of blanks, letters, escapes and quoted texts is the program's. -/
import Derived.Test.YtfecfgimfjcbdaaGreatDoorKConfZf
import Derived.Test.YtfecfgimfjcbdaaGreatDoorKQRCut
namespace Go.Proofs.YtfecfgimfjcbdaaGreatDoor.Cf
open Go.RowKit Go.Proofs.YtfecfgimfjcbdaaGreatDoorW.PrintWords Go.Proofs.YtfecfgimfjcbdaaGreatDoorW.PrintLast Go.Proofs.YtfecfgimfjcbdaaGreatDoorW.PrintMore Go.Proofs.YtfecfgimfjcbdaaGreatDoor.QRParse

theorem bt_cA (s : ByteArray) (j : Nat) (h : j < s.size) : bt s (j : Int) = (cA s j : Int) := by
  obtain ⟨c, hc, hb⟩ := bl_drop s j h
  rw [hb, ← at_cA hc]
theorem w_at (j n : Nat) (h : j + n ≤ 1000000) : wrap64 ((j : Int) + n) = ((j + n : Nat) : Int) := by
  rw [wrap_at (by omega) (by omega)]
  omega
theorem w_1 (j : Nat) (h : j + 1 ≤ 1000000) : wrap64 ((j : Int) + 1) = ((j + 1 : Nat) : Int) := w_at j 1 h
theorem rl1_step (k : Nat) (s : ByteArray) (x : Int) : replicaref12_blank.l1 (k + 1) s x = if x < (s.size : Int) then (if 0 ≤ x then (if (bt s x) = 10 then (replicaref12_blank.l0 k s x) else (replicaref12_blank.l1 k s (wrap64 (x + 1)))) else none) else (replicaref12_blank.l0 k s x) := rfl
theorem rl0_step (k : Nat) (s : ByteArray) (x : Int) : replicaref12_blank.l0 (k + 1) s x = (if x < (s.size : Int) then (if 0 ≤ x then (if (bt s x) = 32 then (replicaref12_blank.j1 k s x (bt s x) ((bt s x) == 32)) else (if (bt s x) = 9 then (replicaref12_blank.j1 k s x (bt s x) ((bt s x) == 9)) else (if (bt s x) = 10 then (replicaref12_blank.j1 k s x (bt s x) ((bt s x) == 10)) else (replicaref12_blank.j1 k s x (bt s x) ((bt s x) == 13))))) else (none)) else (some x)) := rfl
theorem rj1_step (k : Nat) (s : ByteArray) (x c : Int) (b : Bool) : replicaref12_blank.j1 (k + 1) s x c b = if b = true then (replicaref12_blank.l0 k s (wrap64 (x + 1))) else (if c = 35 then (replicaref12_blank.l1 k s x) else (some x)) := rfl
theorem line_end (s : ByteArray) : lineEnd s s.size = s.size := by
  unfold lineEnd
  rw [List.drop_eq_nil_of_le (by rw [bl_length]; exact Nat.le_refl _)]
  rfl
theorem rblank_l1 (s : ByteArray) (hs : s.size ≤ 10000) : ∀ (d k j : Nat), s.size - j = d → j ≤ s.size → replicaref12_blank.l1 (k + d + 1) s (j : Int) = replicaref12_blank.l0 (k + d - (lineEnd s j - j)) s (lineEnd s j : Int)
  | 0, k, j, hd, hj => by
    have hj : j = s.size := by omega
    subst hj
    rw [rl1_step, line_end, if_neg (by omega)]
    congr 1
    omega
  | d + 1, k, j, hd, hj => by
    have hlt : j < s.size := by omega
    obtain ⟨c, hc, hb⟩ := bl_drop s j hlt
    rw [rl1_step, if_pos (by omega), if_pos (by omega), hb]
    by_cases h10 : c = 10
    · subst h10
      have he : lineEnd s j = j := by
        unfold lineEnd
        rw [hc, List.findIdx_cons]
        rfl
      rw [if_pos (by decide), he]
      congr 1
      omega
    · have he : lineEnd s j = lineEnd s (j + 1) := by
        unfold lineEnd
        rw [hc, List.findIdx_cons, show (c == 10) = false from beq_eq_false_iff_ne.2 h10]
        simp only [cond_false]
        omega
      have hge : j + 1 ≤ lineEnd s (j + 1) := by unfold lineEnd; omega
      rw [if_neg (fun h => h10 (UInt8.toNat.inj (by show c.toNat = 10; omega))), w_1 j (by omega), show k + (d + 1) = k + d + 1 by omega, rblank_l1 s hs d k (j + 1) (by omega) (by omega), he]
      congr 1
      omega
theorem rblank_l0 (s : ByteArray) (hs : s.size ≤ 10000) (d : Nat) : ∀ (k j : Nat), s.size - j = d → j ≤ s.size → 4 * d + 4 ≤ k → replicaref12_blank.l0 k s (j : Int) = some (skp s j : Int) := by
  induction d using Nat.strongRecOn with
  | _ d ih =>
    intro k j hd hj hk
    by_cases hlt : j < s.size
    · obtain ⟨k, rfl⟩ : ∃ k', k = k' + 1 + 1 := ⟨k - 2, by omega⟩
      have hbt := bt_cA s j hlt
      have e : replicaref12_blank.l0 (k + 1 + 1) s (j : Int) = replicaref12_blank.j1 (k + 1) s j (cA s j : Int) (blankC (cA s j)) := by
        rw [rl0_step, if_pos (by omega), if_pos (by omega), hbt]
        unfold blankC
        generalize cA s j = c
        by_cases h1 : c = 32
        · subst h1; rfl
        · rw [if_neg (by omega)]
          by_cases h2 : c = 9
          · subst h2; rfl
          · rw [if_neg (by omega)]
            by_cases h3 : c = 10
            · subst h3; rfl
            · rw [if_neg (by omega)]
              congr 1
              rw [show (c == 32) = false from beq_eq_false_iff_ne.2 h1, show (c == 9) = false from beq_eq_false_iff_ne.2 h2, show (c == 10) = false from beq_eq_false_iff_ne.2 h3]
              by_cases h4 : c = 13
              · subst h4; rfl
              · rw [show (c == 13) = false from beq_eq_false_iff_ne.2 h4, show (((c : Int) == 13)) = false from beq_eq_false_iff_ne.2 (by omega)]
                rfl
      rw [e, rj1_step]
      by_cases hb : blankC (cA s j) = true
      · rw [if_pos hb, w_1 j (by omega), skp_blank s j hlt hb]
        exact ih (s.size - (j + 1)) (by omega) k (j + 1) rfl (by omega) (by omega)
      · rw [if_neg hb]
        by_cases h35 : cA s j = 35
        · have hg := lineEnd_gt s j hlt h35
          have hle := lineEnd_le s j hj
          rw [if_pos (by omega), skp_note s j hlt h35]
          obtain ⟨k1, rfl⟩ : ∃ k1, k = k1 + (s.size - j) + 1 := ⟨k - (s.size - j) - 1, by omega⟩
          rw [rblank_l1 s hs (s.size - j) k1 j rfl hj]
          exact ih (s.size - lineEnd s j) (by omega) _ (lineEnd s j) rfl hle (by omega)
        · rw [if_neg (by omega), skp_stop s j hlt (by simpa using hb) h35]
    · have hj : j = s.size := by omega
      subst hj
      obtain ⟨k, rfl⟩ : ∃ k', k = k' + 1 := ⟨k - 1, by omega⟩
      rw [rl0_step, if_neg (by omega), skp_end s _ (by omega)]
theorem rblank (s : ByteArray) (hs : s.size ≤ 10000) (k j : Nat) (hj : j ≤ s.size) (hk : 4 * s.size + 4 ≤ k) : replicaref12_blank.f k s (j : Int) = some (skp s j : Int) :=
  rblank_l0 s hs (s.size - j) k j rfl hj (by omega)
theorem rwordy : ∀ c : Fin 256, replicaref12_wordy.f (c.val : Int) = some (inW c.val) := by decide +kernel
theorem rwordy_at (s : ByteArray) (j : Nat) (h : j < s.size) : replicaref12_wordy.f (bt s (j : Int)) = some (inW (cA s j)) := by
  rw [bt_cA s j h]
  exact rwordy ⟨cA s j, cA_lt s j⟩
theorem hexed_f : ∀ c : Fin 256, replicaref12_hexed.f 4 (c.val : Int) = some (match hexV c.val with | some v => (v : Int) | none => -1) := by decide +kernel
theorem hexed_more (k : Nat) (c : Nat) (hc : c < 256) : replicaref12_hexed.f (k + 4) (c : Int) = some (match hexV c with | some v => (v : Int) | none => -1) := by
  have h := hexed_f ⟨c, hc⟩
  simp only at h
  rw [← h]
  simp only [replicaref12_hexed.f, replicaref12_hexed.j0, replicaref12_hexed.j1]
theorem rscalar (x : Nat) : replicaref12_scalar.f (x : Int) = some (vR x) := by
  unfold replicaref12_scalar.f vR
  rw [if_pos (by omega)]
  by_cases h1 : x ≤ 1114111
  · rw [if_pos (by omega)]
    by_cases h2 : x < 55296
    · rw [if_pos (by omega), decide_eq_true (by omega)]
    · rw [if_neg (by omega)]
      congr 1
      exact decide_eq_decide.2 (by omega)
  · rw [if_neg (by omega), decide_eq_false (by omega)]
/-- The reference's way along a character's number: from the place k on, with the number n so far. -/
def escG : List UInt8 → Nat → Nat → Option (Nat × Nat)
  | [], _, _ => none
  | c :: t, k, n => if k ≤ 6 then (if c = 125 ∧ 0 < k ∧ vR n = true then some (n, k + 4) else match hexV c.toNat with | none => none | some d => if k = 6 then none else escG t (k + 1) (16 * n + d)) else none
theorem escG_is : ∀ (l : List UInt8) (k n : Nat), k ≤ 6 → escG l k n = if l.findIdx (fun c => c == 125) < l.length ∧ 0 < k + l.findIdx (fun c => c == 125) ∧ k + l.findIdx (fun c => c == 125) ≤ 6 then
      match hexFold (l.take (l.findIdx fun c => c == 125)) n with
      | some x => if vR x = true then some (x, k + l.findIdx (fun c => c == 125) + 4) else none
      | none => none
    else none
  | [], k, n, _ => by simp [escG]
  | c :: t, k, n, hk => by
    rw [List.findIdx_cons]
    simp only [escG]
    rw [if_pos hk]
    by_cases h125 : c = 125
    · subst h125
      simp only [show ((125 : UInt8) == 125) = true from rfl, cond_true, List.take_zero, hexFold, Nat.add_zero, List.length_cons]
      rw [show hexV (125 : UInt8).toNat = none from rfl]
      by_cases h0 : 0 < k
      · rw [if_pos (show 0 < t.length + 1 ∧ 0 < k ∧ k ≤ 6 from ⟨by omega, h0, hk⟩)]
        by_cases hv : vR n = true
        · rw [if_pos ⟨trivial, h0, hv⟩, if_pos hv]
        · rw [if_neg (fun h => hv h.2.2), if_neg hv]
      · rw [if_neg (fun h => h0 h.2.1), if_neg (fun h => h0 h.2.1)]
    · rw [show (c == 125) = false from beq_eq_false_iff_ne.2 h125]
      simp only [cond_false, List.length_cons, List.take_succ_cons, hexFold]
      rw [if_neg (fun h => h125 h.1)]
      cases hv : hexV c.toNat with
      | none =>
        simp only
        split <;> rfl
      | some d =>
        simp only
        by_cases h6 : k = 6
        · rw [if_pos h6, if_neg (by omega)]
        · rw [if_neg h6, escG_is t (k + 1) _ (by omega)]
          generalize t.findIdx (fun c => c == 125) = m
          by_cases hm : m < t.length ∧ 0 < k + 1 + m ∧ k + 1 + m ≤ 6
          · rw [if_pos hm, if_pos (by omega), show k + 1 + m + 4 = k + (m + 1) + 4 by omega]
          · rw [if_neg hm, if_neg (by omega)]
theorem numS_G (a b : UInt8) (l : List UInt8) (ha : a = 92) (hb : b = 117) : numS (a :: b :: l) = match l with | c :: t => if c = 123 then escG t 0 0 else none | [] => none := by
  subst ha hb
  unfold numS
  cases l with
  | nil => rw [if_neg (by simp)]
  | cons c t =>
    by_cases hc : c = 123
    · subst hc
      simp only [if_true]
      rw [escG_is t 0 0 (by omega), List.findIdx_cons, List.findIdx_cons, List.findIdx_cons]
      simp only [show ((92 : UInt8) == 125) = false from rfl, show ((117 : UInt8) == 125) = false from rfl, show ((123 : UInt8) == 125) = false from rfl, cond_false]
      generalize hm : t.findIdx (fun c => c == 125) = m
      have e : ((92 :: 117 :: 123 :: t).take (m + 1 + 1 + 1)).drop 3 = t.take m := by simp
      rw [e]
      by_cases h : m < t.length ∧ 0 < 0 + m ∧ 0 + m ≤ 6
      · rw [if_pos h, if_pos ⟨rfl, by simp; omega, by omega, by omega⟩]
        rw [show 0 + m + 4 = m + 1 + 1 + 1 + 1 by omega]
        cases hexFold (List.take m t) 0 <;> rfl
      · rw [if_neg h, if_neg (fun hh => h ⟨by have := hh.2.1; simp at this; omega, by have := hh.2.2.1; omega, by have := hh.2.2.2; omega⟩)]
    · simp only
      rw [if_neg hc, if_neg (fun h => hc (by simpa using h.1))]
end Go.Proofs.YtfecfgimfjcbdaaGreatDoor.Cf
