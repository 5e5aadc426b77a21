/- Names, numbers, values: the reference's way is the program's (plain words over the printed functions); the contract of value. -/
import Derived.Test.YtfecfgimfjcbdaaGreatDoorKConfYf
import Derived.Test.YtfecfgimfjcbdaaGreatDoorKQRParse7
import Derived.Test.YtfecfgimfjcbdaaGreatDoorKQRParse8
import Derived.Test.YtfecfgimfjcbdaaGreatDoorKQRParse9
namespace Go.Proofs.YtfecfgimfjcbdaaGreatDoor.Cf
open Go.RowKit Go.Proofs.YtfecfgimfjcbdaaGreatDoorW.PrintWords Go.Proofs.YtfecfgimfjcbdaaGreatDoor.QRParse Go.Proofs.YtfecfgimfjcbdaaGreatDoor.QCParse
set_option maxHeartbeats 4000000 in
theorem name_step (s : ByteArray) (k : Nat) (x : Int) (h0 : 0 ≤ x) (h1 : x < (s.size : Int)) : replicaref12_name.l0 (k + 1) s x = if ltr (bt s x) = true ∨ (x ≠ 0 ∧ mid (bt s x) = true) then replicaref12_name.l0 k s (wrap64 (x + 1)) else some false := by
  rw [replicaref12_name.l0, if_pos h1, if_pos h0]
  generalize bt s x = b
  unfold ltr mid
  simp only [decide_eq_true_eq]
  by_cases h : ((65 ≤ b ∧ b ≤ 90) ∨ (97 ≤ b ∧ b ≤ 122)) ∨ (x ≠ 0 ∧ (((65 ≤ b ∧ b ≤ 90) ∨ (97 ≤ b ∧ b ≤ 122)) ∨ (48 ≤ b ∧ b ≤ 57) ∨ b = 45 ∨ b = 95))
  · rw [if_pos h]
    repeat' split
    all_goals first
      | rfl
      | (exfalso; omega)
  · rw [if_neg h]
    repeat' split
    all_goals first
      | rfl
      | (exfalso; omega)
theorem name_l0 (s : ByteArray) (hs : s.size ≤ 1125899906842624) (d : Nat) : ∀ (k j : Nat), s.size - j = d → d < k → 1 ≤ j → j ≤ s.size → replicaref12_name.l0 k s (j : Int) = some (((bl s).drop j).all fun c => mid (c.toNat : Int)) := by
  induction d with
  | zero =>
    intro k j hd hk hj1 hj
    obtain ⟨k, rfl⟩ : ∃ k', k = k' + 1 := ⟨k - 1, by omega⟩
    rw [replicaref12_name.l0, if_neg (by omega), List.drop_eq_nil_of_le (by rw [bl_length]; omega)]
    rfl
  | succ d ih =>
    intro k j hd hk hj1 hj
    obtain ⟨k, rfl⟩ : ∃ k', k = k' + 1 := ⟨k - 1, by omega⟩
    obtain ⟨c, hc, hb⟩ := bl_drop s j (by omega)
    rw [name_step s k _ (by omega) (by omega), hb, hc, List.all_cons, wrap_at (by omega) (by omega), show (j : Int) + 1 = ((j + 1 : Nat) : Int) by omega, ih k (j + 1) (by omega) (by omega) (by omega) (by omega)]
    by_cases h : mid (c.toNat : Int) = true
    · rw [if_pos (.inr ⟨by omega, h⟩), h, Bool.true_and]
    · rw [if_neg, (by simpa using h : mid (c.toNat : Int) = false), Bool.false_and]
      rintro (hl | ⟨_, hm⟩)
      · refine h ?_
        unfold ltr at hl
        unfold mid
        simp only [decide_eq_true_eq] at hl ⊢
        exact .inl hl
      · exact h hm
theorem name_f (s : ByteArray) : replicaref12_name.f (s.size + 4) s = some (nameI s) := by
  unfold replicaref12_name.f nameI
  by_cases h1 : (s.size : Int) < 1
  · rw [if_pos h1, decide_eq_false (by omega : ¬ (1 ≤ s.size ∧ s.size ≤ 31))]
    simp only [replicaref12_name.j0, if_true]
    rfl
  · rw [if_neg h1]
    by_cases h2 : (s.size : Int) > 31
    · rw [decide_eq_true h2, decide_eq_false (by omega : ¬ (1 ≤ s.size ∧ s.size ≤ 31))]
      simp only [replicaref12_name.j0, if_true]
      rfl
    · rw [decide_eq_false h2, decide_eq_true (by omega : 1 ≤ s.size ∧ s.size ≤ 31)]
      simp only [replicaref12_name.j0, Bool.true_and, Bool.false_eq_true, if_false]
      have h := name_l0 s (by omega) (s.size - 1) (s.size + 2) 1 rfl (by omega) (by omega) (by omega)
      rw [show s.size + 3 = s.size + 2 + 1 from rfl, name_step s _ 0 (by omega) (by omega), wrap_at (by omega) (by omega), show (0 : Int) + 1 = ((1 : Nat) : Int) from rfl, h]
      by_cases hl : ltr (bt s 0) = true
      · rw [if_pos (.inl hl), hl, Bool.true_and]
      · rw [if_neg (fun h => h.elim hl (fun h => h.1 rfl)), (by simpa using hl : ltr (bt s 0) = false), Bool.false_and]

theorem fits_l0 (n : Int) (l : List Int) (hl : l.length ≤ 1000) (d : Nat) : ∀ (k j : Nat), l.length - j = d → d < k → j ≤ l.length → replicaref12_fits.l0 k n l (j : Int) = some ((l.drop j).any fun x => x == n) := by
  induction d with
  | zero =>
    intro k j hd hk hj
    obtain ⟨k, rfl⟩ : ∃ k', k = k' + 1 := ⟨k - 1, by omega⟩
    simp only [replicaref12_fits.l0]
    rw [if_neg (by omega), List.drop_eq_nil_of_le (by omega)]
    rfl
  | succ d ih =>
    intro k j hd hk hj
    obtain ⟨k, rfl⟩ : ∃ k', k = k' + 1 := ⟨k - 1, by omega⟩
    obtain ⟨x, hx⟩ : ∃ x, l[j]? = some x := ⟨_, List.getElem?_eq_getElem (by omega)⟩
    have hd : l.drop j = x :: l.drop (j + 1) := by rw [List.drop_eq_getElem?_toList_append, hx]; rfl
    have hr : rd l (j : Int) = x := by simp [rd, hx]
    simp only [replicaref12_fits.l0]
    rw [if_pos (by omega), if_pos (by omega), hr, hd, List.any_cons, wrap_at (by omega) (by omega), show (j : Int) + 1 = ((j + 1 : Nat) : Int) by omega, ih k (j + 1) (by omega) (by omega) (by omega)]
    by_cases h : x = n
    · rw [if_pos h, (by simpa using h : (x == n) = true), Bool.true_or]
    · rw [if_neg h, (by simpa using h : (x == n) = false), Bool.false_or]
theorem pow_two : ∀ m : Fin 1025, 128 ≤ m.val → (Go.bits .and .i64 (m.val : Int) (wrap64 ((m.val : Int) - 1)) == 0) = (decide (m.val = 128) || decide (m.val = 256) || decide (m.val = 512) || decide (m.val = 1024)) := by decide +kernel
theorem size_tk (n : Int) (h0 : 128 ≤ n) (h1 : n ≤ 1024) : (Go.bits .and .i64 n (wrap64 (n - 1)) == 0) = decide (n = 128 ∨ n = 256 ∨ n = 512 ∨ n = 1024) := by
  obtain ⟨m, rfl⟩ := Int.eq_ofNat_of_zero_le (a := n) (by omega)
  have h := pow_two ⟨m, by omega⟩ (by simp only; omega)
  simp only at h
  refine Eq.trans h ?_
  rw [Bool.eq_iff_iff]
  simp only [Bool.or_eq_true, decide_eq_true_eq]
  omega
set_option maxRecDepth 10000 in
theorem fits_f (i : Nat) (t : KeyT) (ht : kTab[i]? = some t) (els n : Int) : replicaref12_fits.f 40 t.2.1 t.1 t.2.2.1 t.2.2.2.1 els n = some (tk t n) := by
  have hl : i < 16 := (List.getElem?_eq_some_iff.1 ht).1
  rcases i with _ | _ | _ | _ | _ | _ | _ | _ | _ | _ | _ | _ | _ | _ | _ | _ | i
  case succ.succ.succ.succ.succ.succ.succ.succ.succ.succ.succ.succ.succ.succ.succ.succ => omega
  all_goals
    obtain rfl := Option.some.inj ht
    simp only [replicaref12_fits.f, replicaref12_words.f, toList_bl, tk]
    first
      | (rw [if_pos (by decide), if_neg (by decide +kernel)]
         try simp only [Bool.false_eq_true, if_false]
         repeat' split
         all_goals
           refine congrArg some ?_
           first
             | rfl
             | (exact decide_eq_true (by omega))
             | (exact decide_eq_false (by omega))
             | (exfalso; omega))
      | (rw [if_neg (by decide), if_pos (by decide +kernel), Option.bind_some]
         exact fits_l0 n _ (by decide) _ 40 0 rfl (by decide) (by decide))
      | (rw [if_neg (by decide), if_neg (by decide +kernel), if_pos (by decide +kernel), Option.bind_some]
         exact fits_l0 n _ (by decide) _ 40 0 rfl (by decide) (by decide))
      | (rw [if_neg (by decide), if_neg (by decide +kernel), if_neg (by decide +kernel), if_pos (by decide +kernel), Option.bind_some]
         exact fits_l0 n _ (by decide) _ 40 0 rfl (by decide) (by decide))
      | (rw [if_neg (by decide), if_neg (by decide +kernel), if_neg (by decide +kernel), if_neg (by decide +kernel), if_pos (by decide +kernel), Option.bind_some]
         exact fits_l0 n _ (by decide) _ 40 0 rfl (by decide) (by decide))
      | (rw [if_pos (by decide), if_pos (by decide +kernel)]
         try simp only [if_true]
         by_cases h1 : n < 128
         · rw [if_pos h1, if_neg (by omega), if_neg (by omega), if_neg (by omega)]
           exact congrArg some (by simp; omega)
         · by_cases h2 : n > 1024
           · rw [if_neg h1, if_pos h2, if_neg (by omega), if_neg (by omega), if_neg (by omega)]
             exact congrArg some (by simp; omega)
           · rw [if_neg h1, if_neg h2, size_tk n (by omega) (by omega)]
             repeat' split
             all_goals
               refine congrArg some ?_
               first
                 | (exact (decide_eq_true (by omega)).symm)
                 | (rw [Bool.eq_iff_iff]; simp only [beq_iff_eq, decide_eq_true_eq]; omega))
theorem rdl0 (x : ByteArray) (tm : Int) (hx : x.size ≤ 9) (d : Nat) : ∀ (k j acc : Nat), x.size - j = d → d < k → j ≤ x.size → acc < 10 ^ j → replicaref12_read.l0 k x tm (acc : Int) (j : Int) = some (match Lib.decFrom acc ((bl x).drop j) with | some n => wrap64 ((n : Int) * tm) | none => -1) := by
  induction d with
  | zero =>
    intro k j acc hd hk hj _
    obtain ⟨k, rfl⟩ : ∃ k', k = k' + 1 := ⟨k - 1, by omega⟩
    rw [replicaref12_read.l0, if_neg (by omega), List.drop_eq_nil_of_le (by rw [bl_length]; omega)]
    rfl
  | succ d ih =>
    intro k j acc hd hk hj ha
    obtain ⟨k, rfl⟩ : ∃ k', k = k' + 1 := ⟨k - 1, by omega⟩
    obtain ⟨c, hc, hb⟩ := bl_drop x j (by omega)
    rw [replicaref12_read.l0, if_pos (by omega), if_pos (by omega), hb, hc]
    have h9 : 10 ^ j ≤ 10 ^ 8 := Nat.pow_le_pow_right (by omega) (by omega)
    have hc256 := UInt8.toNat_lt c
    simp only [Lib.decFrom]
    by_cases h1 : (c.toNat : Int) < 48
    · rw [if_pos h1, show Lib.digitVal c = none by unfold Lib.digitVal; rw [if_neg (by omega)]]
    · rw [if_neg h1]
      by_cases h2 : (c.toNat : Int) > 57
      · rw [if_pos h2, show Lib.digitVal c = none by unfold Lib.digitVal; rw [if_neg (by omega)]]
      · rw [if_neg h2, show Lib.digitVal c = some (c.toNat - 48) by unfold Lib.digitVal; rw [if_pos (by omega)]]
        have e1 : ((c.toNat : Int) - 48) % 256 = ((c.toNat - 48 : Nat) : Int) := by omega
        rw [e1, wrap_at (i := 10 * (acc : Int)) (by omega) (by omega), wrap_at (i := 10 * (acc : Int) + _) (by omega) (by omega), wrap_at (i := (j : Int) + 1) (by omega) (by omega)]
        have h := ih k (j + 1) (10 * acc + (c.toNat - 48)) (by omega) (by omega) (by omega) (by rw [Nat.pow_succ]; omega)
        rw [show (10 * (acc : Int) + ((c.toNat - 48 : Nat) : Int)) = ((10 * acc + (c.toNat - 48) : Nat) : Int) by omega, show (j : Int) + 1 = ((j + 1 : Nat) : Int) by omega, h]
        rw [Nat.mul_comm 10 acc]
theorem rdj1 (x : ByteArray) (tm : Int) (k : Nat) : replicaref12_read.j1 (k + 13) x tm = some (match digN x with | some n => wrap64 ((n : Int) * tm) | none => -1) := by
  unfold digN
  rw [replicaref12_read.j1]
  by_cases h1 : (x.size : Int) < 1
  · rw [if_pos h1, replicaref12_read.j2, if_pos rfl, if_neg (by omega)]
  · rw [if_neg h1]
    by_cases h2 : (x.size : Int) > 9
    · rw [decide_eq_true h2, replicaref12_read.j2, if_pos rfl, if_neg (by omega)]
    · rw [decide_eq_false h2, replicaref12_read.j2, if_neg (by simp), if_pos (by omega)]
      have h := rdl0 x tm (by omega) x.size (k + 11) 0 0 rfl (by omega) (by omega) (by decide)
      exact h
theorem read_fin (y : ByteArray) (m : Nat) (hm : m = 1 ∨ m = 1024) : (match digN y with | some n => wrap64 ((n : Int) * (m : Int)) | none => -1) = (match (digN y).map (fun n => n * m) with | some n => (n : Int) | none => -1) := by
  cases hd : digN y with
  | none => rfl
  | some n =>
    have hb := digN_bd y n hd
    simp only [Option.map_some]
    rw [wrap_at (by rcases hm with rfl | rfl <;> omega) (by rcases hm with rfl | rfl <;> omega)]
    exact (Int.natCast_mul n m).symm
theorem read_f (x : ByteArray) (hx : x.size ≤ 1000000) (k : Nat) : replicaref12_read.f (k + 14) x = some (match numP x with | some n => (n : Int) | none => -1) := by
  have small : bigN x = false → numP x = (digN x).map (fun n => n * 1) := fun h => by unfold numP cutN; rw [h]; rfl
  have large : bigN x = true → numP x = (digN (x.extract 0 (x.size - 1))).map (fun n => n * 1024) := fun h => by unfold numP cutN; rw [h]; rfl
  unfold replicaref12_read.f
  by_cases h0 : (x.size : Int) > 0
  · rw [if_pos h0, wrap_at (i := (x.size : Int) - 1) (by omega) (by omega), if_pos (by omega), if_pos (by omega)]
    have hb : bt x ((x.size : Int) - 1) = (cA x (x.size - 1) : Int) := by
      rw [show ((x.size : Int) - 1) = ((x.size - 1 : Nat) : Int) by omega]
      obtain ⟨c, hc, hb⟩ := bl_drop x (x.size - 1) (by omega)
      have h := cA_drop x (x.size - 1) 0
      rw [Nat.add_zero, hc] at h
      rw [hb, ← h]
      rfl
    rw [hb]
    have j0t : bigN x = true → replicaref12_read.j0 (k + 14) x 1 true = some (match numP x with | some n => (n : Int) | none => -1) := fun h => by
      rw [replicaref12_read.j0, if_pos rfl, wrap_at (i := (x.size : Int) - 1) (by omega) (by omega), if_pos (by omega), if_pos (by omega), rdj1, show ((x.size : Int) - 1).toNat = x.size - 1 by omega, large h]
      exact congrArg some (read_fin _ 1024 (.inr rfl))
    by_cases h75 : (cA x (x.size - 1) : Int) = 75
    · rw [if_pos h75]
      exact j0t (by unfold bigN; rw [decide_eq_true (by omega : 0 < x.size), decide_eq_true (by omega : cA x (x.size - 1) = 75)]; rfl)
    · rw [if_neg h75]
      by_cases h107 : (cA x (x.size - 1) : Int) = 107
      · rw [show ((cA x (x.size - 1) : Int) == 107) = true from beq_iff_eq.2 h107]
        exact j0t (by unfold bigN; rw [decide_eq_true (by omega : 0 < x.size), decide_eq_true (by omega : cA x (x.size - 1) = 107)]; simp)
      · rw [show ((cA x (x.size - 1) : Int) == 107) = false from beq_eq_false_iff_ne.2 h107, replicaref12_read.j0, if_neg (by simp), rdj1, small (by
          unfold bigN
          rw [decide_eq_false (by omega : ¬ cA x (x.size - 1) = 75), decide_eq_false (by omega : ¬ cA x (x.size - 1) = 107)]
          simp)]
        exact congrArg some (read_fin _ 1 (.inl rfl))
  · rw [if_neg h0, replicaref12_read.j0, if_neg (by simp), rdj1, small (by
      unfold bigN
      rw [decide_eq_false (by omega : ¬ 0 < x.size)]
      rfl)]
    exact congrArg some (read_fin _ 1 (.inl rfl))
theorem val_l0 (x : ByteArray) (k0 a0 : Int) (ws : List ByteArray) (xs : List Int) (hl : ws.length = xs.length) (h1 : ws.length ≤ 1000) (d : Nat) : ∀ (k j : Nat), ws.length - j = d → d < k → j ≤ ws.length →
    replicaref12_value.l0 k ws xs (j : Int) k0 a0 x = some (match wordV x (ws.drop j) (xs.drop j) with | some m => (m, true) | none => (0, false)) := by
  induction d with
  | zero =>
    intro k j hd hk hj
    obtain ⟨k, rfl⟩ : ∃ k', k = k' + 1 := ⟨k - 1, by omega⟩
    rw [replicaref12_value.l0, if_neg (by omega), List.drop_eq_nil_of_le (by omega), List.drop_eq_nil_of_le (by omega)]
    rfl
  | succ d ih =>
    intro k j hd hk hj
    obtain ⟨k, rfl⟩ : ∃ k', k = k' + 1 := ⟨k - 1, by omega⟩
    obtain ⟨u, hu⟩ : ∃ u, ws[j]? = some u := ⟨_, List.getElem?_eq_getElem (by omega)⟩
    obtain ⟨y, hy⟩ : ∃ y, xs[j]? = some y := ⟨_, List.getElem?_eq_getElem (by omega)⟩
    have e1 : ws.drop j = u :: ws.drop (j + 1) := by rw [List.drop_eq_getElem?_toList_append, hu]; rfl
    have e2 : xs.drop j = y :: xs.drop (j + 1) := by rw [List.drop_eq_getElem?_toList_append, hy]; rfl
    have r1 : rdOf ByteArray.empty ws (j : Int) = u := by simp [rdOf, hu]
    have r2 : rd xs (j : Int) = y := by simp [rd, hy]
    rw [replicaref12_value.l0, if_pos (by omega), if_pos (by omega), e1, e2, r1, r2]
    simp only [wordV]
    by_cases h : u.toList = x.toList
    · rw [if_pos h, if_pos h, if_pos (by omega)]
    · rw [if_neg h, if_neg h, wrap_at (by omega) (by omega), show (j : Int) + 1 = ((j + 1 : Nat) : Int) by omega, ih k (j + 1) (by omega) (by omega) (by omega)]
set_option maxRecDepth 10000 in
theorem key_kind (i : Nat) (t : KeyT) (ht : kTab[i]? = some t) : (t.2.2.2.2.2 = none ∧ t.2.2.2.1 > 0 ∧ t.2.2.1 ≥ 1) ∨ ∃ p, t.2.2.2.2.2 = some p ∧ ¬ t.2.2.2.1 > 0 ∧ replicaref12_words.f t.2.1 = some p ∧ p.1.length = p.2.length ∧ p.1.length ≤ 5 := by
  have hl : i < 16 := (List.getElem?_eq_some_iff.1 ht).1
  rcases i with _ | _ | _ | _ | _ | _ | _ | _ | _ | _ | _ | _ | _ | _ | _ | _ | i
  case succ.succ.succ.succ.succ.succ.succ.succ.succ.succ.succ.succ.succ.succ.succ.succ => omega
  all_goals
    obtain rfl := Option.some.inj ht
    first
      | (exact .inl ⟨rfl, by decide, by decide⟩)
      | (refine .inr ⟨_, rfl, by decide, ?_, rfl, by decide⟩
         simp only [replicaref12_words.f, toList_bl]
         first
           | (rw [if_pos (by decide +kernel)] <;> rfl)
           | (rw [if_neg (by decide +kernel), if_pos (by decide +kernel)] <;> rfl)
           | (rw [if_neg (by decide +kernel), if_neg (by decide +kernel), if_pos (by decide +kernel)] <;> rfl)
           | (rw [if_neg (by decide +kernel), if_neg (by decide +kernel), if_neg (by decide +kernel), if_pos (by decide +kernel)] <;> rfl))
theorem value_f (i : Nat) (t : KeyT) (ht : kTab[i]? = some t) (els : Int) (kd : Nat) (a : Int) (x : ByteArray) (hx : kd = 0 → x.size ≤ 1000000) :
    ∃ n, replicaref12_value.f 40 t.2.1 t.1 t.2.2.1 t.2.2.2.1 els ((kd : Int) + 2) a x = some (n, (readP t kd x).isSome) ∧ ∀ m, readP t kd x = some m → n = m := by
  unfold replicaref12_value.f readP
  by_cases h0 : kd = 0
  · subst h0
    rw [if_pos (by rfl), if_pos rfl]
    rcases key_kind i t ht with ⟨hn, hh, hlo⟩ | ⟨p, hp, hh, hw, hl, h5⟩
    · rw [if_pos hh, hn, read_f x (hx rfl) 26, Option.bind_some, fits_f i t ht, Option.bind_some]
      cases numP x with
      | none =>
        refine ⟨-1, ?_, fun m h => by cases h⟩
        have : tk t (-1) = false := by unfold tk; rw [hn]; dsimp only; rw [if_pos (by omega)]
        dsimp only
        rw [this]
        rfl
      | some n =>
        dsimp only
        by_cases ht : tk t (n : Int) = true
        · rw [if_pos ht, ht]
          exact ⟨_, rfl, fun m h => by cases h; rfl⟩
        · rw [if_neg ht, (by simpa using ht : tk t (n : Int) = false)]
          exact ⟨_, rfl, fun m h => by cases h⟩
    · rw [if_neg hh, hp, hw, Option.bind_some]
      have h := val_l0 x ((0 : Nat) + 2 : Int) a p.1 p.2 hl (by omega) (p.1.length) 40 0 rfl (by omega) (by omega)
      rw [List.drop_zero, List.drop_zero] at h
      rw [show ((0 : Nat) : Int) = 0 from rfl] at h ⊢
      rw [h]
      dsimp only
      cases wordV x p.1 p.2 with
      | none => exact ⟨0, rfl, fun m h => by cases h⟩
      | some m => exact ⟨m, rfl, fun m' h => by cases h; rfl⟩
  · rw [if_neg (by omega), if_neg h0]
    exact ⟨0, rfl, fun m h => by cases h⟩
def keyV (t : KeyT) (els : Int) : Value := .agg #[.string t.2.1, .string t.1, .int .i64 t.2.2.1, .int .i64 t.2.2.2.1, .int .i64 els]
theorem rvalue_any (i : Nat) (t : KeyT) (ht : kTab[i]? = some t) (els : Int) (kd a : Nat) (x : ByteArray) (hx : kd = 0 → x.size ≤ 1000000) (w : World) :
    Calls Tryz.prog 69 #[keyV t els, tkV kd a x] w fun e w' => (∃ n, e = .returned (.tuple #[.int .i64 n, .bool (readP t kd x).isSome]) ∧ ∀ m, readP t kd x = some m → n = m) ∧ Below w.heap.size w w' := by
  obtain ⟨n, h1, h2⟩ := value_f i t ht els kd (a : Int) x hx
  refine (replicaref12_value.calls 40 _ _ _ _ _ _ _ _ _ _ w h1).mono ?_
  rintro e w' ⟨rfl, h⟩
  exact ⟨⟨n, rfl, h2⟩, h⟩
theorem rname_any (x : ByteArray) (w : World) : Calls Tryz.prog 27 #[.string x] w fun e w' => e = .returned (.bool (nameI x)) ∧ Below w.heap.size w w' :=
  (replicaref12_name.calls _ x _ w (name_f x)).mono fun _ _ h => ⟨h.1, h.2.below⟩
end Go.Proofs.YtfecfgimfjcbdaaGreatDoor.Cf
