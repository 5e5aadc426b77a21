/- Names, and which numbers a key takes: the program's way and the reference's are one (plain words over the printed functions). -/
import Derived.Test.YtfecfgimfjcbdaaDoorConfKb
import Derived.Test.YtfecfgimfjcbdaaDoorConfKc
import Derived.Test.YtfecfgimfjcbdaaDoorQCCheck1
import Derived.Test.YtfecfgimfjcbdaaDoorQRCheck1
import Derived.Test.YtfecfgimfjcbdaaDoorQRCheck2
namespace Go.Proofs.YtfecfgimfjcbdaaDoor.Cf
open Go.RowKit Go.Proofs.YtfecfgimfjcbdaaDoorW.PrintWords Go.Proofs.YtfecfgimfjcbdaaDoor.QRCheck Go.Proofs.YtfecfgimfjcbdaaDoor.QCCheck

/-! ### Names -/
def ltr (x : Int) : Bool := decide ((65 ≤ x ∧ x ≤ 90) ∨ (97 ≤ x ∧ x ≤ 122))
def mid (x : Int) : Bool := decide (((65 ≤ x ∧ x ≤ 90) ∨ (97 ≤ x ∧ x ≤ 122)) ∨ (48 ≤ x ∧ x ≤ 57) ∨ x = 45 ∨ x = 95)
def nameI (s : ByteArray) : Bool := decide (1 ≤ s.size ∧ s.size ≤ 31) && ltr (bt s 0) && ((bl s).drop 1).all fun c => mid (c.toNat : Int)
theorem letter_f (x : Int) : conf_letter.f x = some (ltr x) := by
  unfold conf_letter.f ltr
  repeat' split
  all_goals
    congr 1
    first
      | (exact (decide_eq_true (by omega)).symm)
      | (exact (decide_eq_false (by omega)).symm)
      | (exact decide_eq_decide.2 (by omega))
theorem digit_f (x : Int) : conf_digit.f x = some (decide (48 ≤ x ∧ x ≤ 57)) := by
  unfold conf_digit.f
  repeat' split
  all_goals
    congr 1
    first
      | (exact (decide_eq_true (by omega)).symm)
      | (exact (decide_eq_false (by omega)).symm)
      | (exact decide_eq_decide.2 (by omega))
theorem isName_step (s : ByteArray) (k : Nat) (x : Int) (h0 : 0 ≤ x) (h1 : x < (s.size : Int)) : conf_isName.l0 (k + 1) s x = if mid (bt s x) = true then conf_isName.l0 k s (wrap64 (x + 1)) else some false := by
  simp only [conf_isName.l0]
  rw [if_pos h1, if_pos h0, letter_f, Option.bind_some, digit_f, Option.bind_some]
  generalize bt s x = b
  unfold ltr mid
  by_cases h : ((65 ≤ b ∧ b ≤ 90) ∨ (97 ≤ b ∧ b ≤ 122)) ∨ (48 ≤ b ∧ b ≤ 57) ∨ b = 45 ∨ b = 95
  · rw [if_pos (decide_eq_true h)]
    repeat' split
    all_goals first
      | rfl
      | (exfalso; simp only [decide_eq_true_eq] at *; omega)
  · rw [decide_eq_false h, if_neg Bool.false_ne_true]
    repeat' split
    all_goals first
      | rfl
      | (exfalso; simp only [decide_eq_true_eq] at *; omega)
theorem isName_l0 (s : ByteArray) (hs : s.size ≤ 1125899906842624) (d : Nat) : ∀ (k j : Nat), s.size - j = d → d < k → j ≤ s.size → conf_isName.l0 k s (j : Int) = some (((bl s).drop j).all fun c => mid (c.toNat : Int)) := by
  induction d with
  | zero =>
    intro k j hd hk hj
    obtain ⟨k, rfl⟩ : ∃ k', k = k' + 1 := ⟨k - 1, by omega⟩
    simp only [conf_isName.l0]
    rw [if_neg (by omega), List.drop_eq_nil_of_le (by rw [bl_length]; omega)]
    rfl
  | succ d ih =>
    intro k j hd hk hj
    obtain ⟨k, rfl⟩ : ∃ k', k = k' + 1 := ⟨k - 1, by omega⟩
    obtain ⟨c, hc, hb⟩ := bl_drop s j (by omega)
    rw [isName_step s k _ (by omega) (by omega), hb, hc, List.all_cons, wrap_at (by omega) (by omega), show (j : Int) + 1 = ((j + 1 : Nat) : Int) by omega, ih k (j + 1) (by omega) (by omega) (by omega)]
    by_cases h : mid (c.toNat : Int) = true
    · rw [if_pos h, h, Bool.true_and]
    · rw [if_neg h, (by simpa using h : mid (c.toNat : Int) = false), Bool.false_and]
theorem isName_f (s : ByteArray) : conf_isName.f (s.size + 4) s = some (nameI s) := by
  unfold conf_isName.f nameI
  by_cases h1 : (s.size : Int) < 1
  · rw [if_pos h1, decide_eq_false (by omega)]
    simp [conf_isName.j0]
  · rw [if_neg h1]
    by_cases h2 : (s.size : Int) > 31
    · rw [if_pos h2, decide_eq_false (by omega)]
      simp [conf_isName.j0]
    · rw [if_neg h2, if_pos (by omega), decide_eq_true (by omega), letter_f, Option.bind_some]
      simp only [conf_isName.j0, Bool.true_and]
      have h := isName_l0 s (by omega) (s.size - 1) (s.size + 3) 1 rfl (by omega) (by omega)
      rw [show ((1 : Nat) : Int) = 1 from rfl] at h
      cases ltr (bt s 0) with
      | false => rfl
      | true => simpa using h

set_option maxHeartbeats 4000000 in
theorem name_step (s : ByteArray) (k : Nat) (x : Int) (h0 : 0 ≤ x) (h1 : x < (s.size : Int)) : replicaref12_name.l0 (k + 1) s x = if ltr (bt s x) = true ∨ (x ≠ 0 ∧ mid (bt s x) = true) then replicaref12_name.l0 k s (wrap64 (x + 1)) else some false := by
  rw [replicaref12_name.l0, if_pos h1, if_pos h0]
  generalize bt s x = b
  unfold ltr mid
  simp only [decide_eq_true_eq]
  by_cases h : ((65 ≤ b ∧ b ≤ 90) ∨ (97 ≤ b ∧ b ≤ 122)) ∨ (x ≠ 0 ∧ (((65 ≤ b ∧ b ≤ 90) ∨ (97 ≤ b ∧ b ≤ 122)) ∨ (48 ≤ b ∧ b ≤ 57) ∨ b = 45 ∨ b = 95))
  · rw [if_pos h]
    repeat' split
    all_goals first
      | rfl
      | (exfalso; omega)
  · rw [if_neg h]
    repeat' split
    all_goals first
      | rfl
      | (exfalso; omega)
theorem name_l0 (s : ByteArray) (hs : s.size ≤ 1125899906842624) (d : Nat) : ∀ (k j : Nat), s.size - j = d → d < k → 1 ≤ j → j ≤ s.size → replicaref12_name.l0 k s (j : Int) = some (((bl s).drop j).all fun c => mid (c.toNat : Int)) := by
  induction d with
  | zero =>
    intro k j hd hk hj1 hj
    obtain ⟨k, rfl⟩ : ∃ k', k = k' + 1 := ⟨k - 1, by omega⟩
    rw [replicaref12_name.l0, if_neg (by omega), List.drop_eq_nil_of_le (by rw [bl_length]; omega)]
    rfl
  | succ d ih =>
    intro k j hd hk hj1 hj
    obtain ⟨k, rfl⟩ : ∃ k', k = k' + 1 := ⟨k - 1, by omega⟩
    obtain ⟨c, hc, hb⟩ := bl_drop s j (by omega)
    rw [name_step s k _ (by omega) (by omega), hb, hc, List.all_cons, wrap_at (by omega) (by omega), show (j : Int) + 1 = ((j + 1 : Nat) : Int) by omega, ih k (j + 1) (by omega) (by omega) (by omega) (by omega)]
    by_cases h : mid (c.toNat : Int) = true
    · rw [if_pos (.inr ⟨by omega, h⟩), h, Bool.true_and]
    · rw [if_neg, (by simpa using h : mid (c.toNat : Int) = false), Bool.false_and]
      rintro (hl | ⟨_, hm⟩)
      · refine h ?_
        unfold ltr at hl
        unfold mid
        simp only [decide_eq_true_eq] at hl ⊢
        exact .inl hl
      · exact h hm
theorem name_f (s : ByteArray) : replicaref12_name.f (s.size + 4) s = some (nameI s) := by
  unfold replicaref12_name.f nameI
  by_cases h1 : (s.size : Int) < 1
  · rw [if_pos h1, decide_eq_false (by omega : ¬ (1 ≤ s.size ∧ s.size ≤ 31))]
    simp only [replicaref12_name.j0, if_true]
    rfl
  · rw [if_neg h1]
    by_cases h2 : (s.size : Int) > 31
    · rw [decide_eq_true h2, decide_eq_false (by omega : ¬ (1 ≤ s.size ∧ s.size ≤ 31))]
      simp only [replicaref12_name.j0, if_true]
      rfl
    · rw [decide_eq_false h2, decide_eq_true (by omega : 1 ≤ s.size ∧ s.size ≤ 31)]
      simp only [replicaref12_name.j0, Bool.true_and, Bool.false_eq_true, if_false]
      have h := name_l0 s (by omega) (s.size - 1) (s.size + 2) 1 rfl (by omega) (by omega) (by omega)
      rw [show s.size + 3 = s.size + 2 + 1 from rfl, name_step s _ 0 (by omega) (by omega), wrap_at (by omega) (by omega), show (0 : Int) + 1 = ((1 : Nat) : Int) from rfl, h]
      by_cases hl : ltr (bt s 0) = true
      · rw [if_pos (.inl hl), hl, Bool.true_and]
      · rw [if_neg (fun h => h.elim hl (fun h => h.1 rfl)), (by simpa using hl : ltr (bt s 0) = false), Bool.false_and]

/-! ### Numbers -/
theorem fits_l0 (n : Int) (l : List Int) (hl : l.length ≤ 1000) (d : Nat) : ∀ (k j : Nat), l.length - j = d → d < k → j ≤ l.length → replicaref12_fits.l0 k n l (j : Int) = some ((l.drop j).any fun x => x == n) := by
  induction d with
  | zero =>
    intro k j hd hk hj
    obtain ⟨k, rfl⟩ : ∃ k', k = k' + 1 := ⟨k - 1, by omega⟩
    simp only [replicaref12_fits.l0]
    rw [if_neg (by omega), List.drop_eq_nil_of_le (by omega)]
    rfl
  | succ d ih =>
    intro k j hd hk hj
    obtain ⟨k, rfl⟩ : ∃ k', k = k' + 1 := ⟨k - 1, by omega⟩
    obtain ⟨x, hx⟩ : ∃ x, l[j]? = some x := ⟨_, List.getElem?_eq_getElem (by omega)⟩
    have hd : l.drop j = x :: l.drop (j + 1) := by rw [List.drop_eq_getElem?_toList_append, hx]; rfl
    have hr : rd l (j : Int) = x := by simp [rd, hx]
    simp only [replicaref12_fits.l0]
    rw [if_pos (by omega), if_pos (by omega), hr, hd, List.any_cons, wrap_at (by omega) (by omega), show (j : Int) + 1 = ((j + 1 : Nat) : Int) by omega, ih k (j + 1) (by omega) (by omega) (by omega)]
    by_cases h : x = n
    · rw [if_pos h, (by simpa using h : (x == n) = true), Bool.true_or]
    · rw [if_neg h, (by simpa using h : (x == n) = false), Bool.false_or]
theorem pow_two : ∀ m : Fin 1025, 128 ≤ m.val → (Go.bits .and .i64 (m.val : Int) (wrap64 ((m.val : Int) - 1)) == 0) = (decide (m.val = 128) || decide (m.val = 256) || decide (m.val = 512) || decide (m.val = 1024)) := by decide +kernel
theorem size_tk (n : Int) (h0 : 128 ≤ n) (h1 : n ≤ 1024) : (Go.bits .and .i64 n (wrap64 (n - 1)) == 0) = decide (n = 128 ∨ n = 256 ∨ n = 512 ∨ n = 1024) := by
  obtain ⟨m, rfl⟩ := Int.eq_ofNat_of_zero_le (a := n) (by omega)
  have h := pow_two ⟨m, by omega⟩ (by simp only; omega)
  simp only at h
  refine Eq.trans h ?_
  rw [Bool.eq_iff_iff]
  simp only [Bool.or_eq_true, decide_eq_true_eq]
  omega
set_option maxRecDepth 10000 in
theorem fits_f (i : Nat) (t : KeyT) (ht : kTab[i]? = some t) (els n : Int) : replicaref12_fits.f 40 t.2.1 t.1 t.2.2.1 t.2.2.2.1 els n = some (tk t n) := by
  have hl : i < 16 := (List.getElem?_eq_some_iff.1 ht).1
  rcases i with _ | _ | _ | _ | _ | _ | _ | _ | _ | _ | _ | _ | _ | _ | _ | _ | i
  case succ.succ.succ.succ.succ.succ.succ.succ.succ.succ.succ.succ.succ.succ.succ.succ => omega
  all_goals
    obtain rfl := Option.some.inj ht
    simp only [replicaref12_fits.f, replicaref12_words.f, toList_bl, tk]
    first
      | (rw [if_pos (by decide), if_neg (by decide +kernel)]
         try simp only [Bool.false_eq_true, if_false]
         repeat' split
         all_goals
           refine congrArg some ?_
           first
             | rfl
             | (exact decide_eq_true (by omega))
             | (exact decide_eq_false (by omega))
             | (exfalso; omega))
      | (rw [if_neg (by decide), if_pos (by decide +kernel), Option.bind_some]
         exact fits_l0 n _ (by decide) _ 40 0 rfl (by decide) (by decide))
      | (rw [if_neg (by decide), if_neg (by decide +kernel), if_pos (by decide +kernel), Option.bind_some]
         exact fits_l0 n _ (by decide) _ 40 0 rfl (by decide) (by decide))
      | (rw [if_neg (by decide), if_neg (by decide +kernel), if_neg (by decide +kernel), if_pos (by decide +kernel), Option.bind_some]
         exact fits_l0 n _ (by decide) _ 40 0 rfl (by decide) (by decide))
      | (rw [if_neg (by decide), if_neg (by decide +kernel), if_neg (by decide +kernel), if_neg (by decide +kernel), if_pos (by decide +kernel), Option.bind_some]
         exact fits_l0 n _ (by decide) _ 40 0 rfl (by decide) (by decide))
      | (rw [if_pos (by decide), if_pos (by decide +kernel)]
         try simp only [if_true]
         by_cases h1 : n < 128
         · rw [if_pos h1, if_neg (by omega), if_neg (by omega), if_neg (by omega)]
           exact congrArg some (by simp; omega)
         · by_cases h2 : n > 1024
           · rw [if_neg h1, if_pos h2, if_neg (by omega), if_neg (by omega), if_neg (by omega)]
             exact congrArg some (by simp; omega)
           · rw [if_neg h1, if_neg h2, size_tk n (by omega) (by omega)]
             repeat' split
             all_goals
               refine congrArg some ?_
               first
                 | (exact (decide_eq_true (by omega)).symm)
                 | (rw [Bool.eq_iff_iff]; simp only [beq_iff_eq, decide_eq_true_eq]; omega))
end Go.Proofs.YtfecfgimfjcbdaaDoor.Cf
