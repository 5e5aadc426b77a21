/- The place of a line that is refused, in plain words: what stands ahead of it ends too early; no tail helps a beginning that has that byte. -/
import Derived.Test.YtfecfgimfjcbdaaDoorConfY
namespace Go.Proofs.YtfecfgimfjcbdaaDoor.Cf
open Go.RowKit Go.Proofs.YtfecfgimfjcbdaaDoorW.PrintWords

theorem bl_cut (s : ByteArray) (i j : Nat) : bl (s.extract i j) = ((bl s).drop i).take (j - i) := by
  simp [bl, ByteArray.data_extract, Array.toList_extract, List.extract]
theorem com_take_min : ∀ (l t : List UInt8) (k : Nat), com (l.take k) t = min k (com l t)
  | [], t, k => by simp [com]
  | _ :: _, _, 0 => by simp [com]
  | _ :: _, [], _ + 1 => by simp [com]
  | a :: l, b :: t, k + 1 => by
    by_cases e : a = b
    · simp only [List.take_succ_cons, com, if_pos e, com_take_min l t k]
      omega
    · simp [com, if_neg e]
theorem com_tail {l t : List UInt8} {k : Nat} (h : com l t < k) (hk : k ≤ l.length) (r : List UInt8) : com (l.take k ++ r) t = com l t := by
  have h1 : com (l.take k) t = com l t := by rw [com_take_min]; omega
  rw [com_part _ _ _ (by rw [h1, List.length_take]; omega), h1]
theorem com_keep {l t : List UInt8} {k : Nat} (h : com l t ≤ k) : com (l.take k) t = com l t := by rw [com_take_min]; omega

theorem pick_congr {l l' : List UInt8} : ∀ (ws : List ByteArray) (j far : Nat), (∀ w ∈ ws, com l' (bl w) = com l (bl w)) → pick l' ws j far = pick l ws j far
  | [], _, _, _ => rfl
  | x :: ws, j, far, h => by
    simp only [pick]
    rw [h x (List.mem_cons_self ..), pick_congr ws (j + 1) _ fun w hw => h w (List.mem_cons_of_mem _ hw)]
theorem pick_none {l : List UInt8} : ∀ (ws : List ByteArray) (j far m : Nat), pick l ws j far = (m, none) → far ≤ m ∧ ∀ w ∈ ws, com l (bl w) ≤ m
  | [], j, far, m, h => by
    simp only [pick, Prod.mk.injEq, and_true] at h
    exact ⟨by omega, fun w hw => by cases hw⟩
  | x :: ws, j, far, m, h => by
    simp only [pick] at h
    split at h
    · simp at h
    · obtain ⟨a, b⟩ := pick_none ws (j + 1) _ m h
      refine ⟨by omega, fun w hw => ?_⟩
      rcases List.mem_cons.1 hw with rfl | hw
      · omega
      · exact b w hw
theorem pick_word {ws : List ByteArray} (ha : Apart ws) {l : List UInt8} {m i : Nat} (h : pick l ws 0 0 = (m, some i)) (l' : List UInt8) (h' : l'.take m = l.take m) (hm : m ≤ l'.length) : pick l' ws 0 0 = (m, some i) := by
  obtain ⟨k, w, rfl, hk, rfl, ht⟩ := pick_is l ws 0 0 m i h
  have e : l' = bl w ++ l'.drop w.size := by rw [← ht, ← h', List.take_append_drop]
  rw [e]
  exact pick_hit ws k 0 0 w _ ha hk

theorem nm_tail : ∀ (l : List UInt8) (a n k : Nat) (r : List UInt8), (nm l a n).1 < a + k → k ≤ l.length → nm (l.take k ++ r) a n = nm l a n
  | l, a, n, 0, r, h, _ => by
    have := (nm_ge l a n).1
    omega
  | [], a, n, k + 1, r, _, hk => by simp at hk
  | b :: l, a, n, k + 1, r, h, hk => by
    simp only [List.take_succ_cons, List.cons_append, nm] at h ⊢
    split
    · split
      · rfl
      · rename_i hd hs
        rw [if_pos hd, if_neg hs] at h
        exact nm_tail l (a + 1) _ k r (by omega) (by simpa using hk)
    · rfl
theorem nm_take : ∀ (l : List UInt8) (a n k : Nat), (nm l a n).1 ≤ a + k → nm (l.take k) a n = ((nm l a n).1, (nm l a n).2.1, (nm l a n).2.2 && decide ((nm l a n).1 < a + k))
  | [], a, n, k, _ => by simp [nm]
  | b :: l, a, n, 0, h => by
    have hg := (nm_ge (b :: l) a n).1
    have e : (nm (b :: l) a n).1 = a := by omega
    rw [List.take_zero]
    simp only [nm] at e ⊢
    split
    · split
      · simp
      · rename_i hd hs
        rw [if_pos hd, if_neg hs] at e
        have := (nm_ge l (a + 1) (10 * n + (b.toNat - 48))).1
        omega
    · simp
  | b :: l, a, n, k + 1, h => by
    simp only [List.take_succ_cons, nm] at h ⊢
    split
    · split
      · simp
      · rename_i hd hs
        rw [if_pos hd, if_neg hs] at h
        rw [nm_take l (a + 1) _ k (by omega), show a + 1 + k = a + (k + 1) by omega]
    · simp

theorem nm_stuck_at : ∀ (l : List UInt8) (a n : Nat), (a = 0 ∧ n = 0 ∨ 0 < a) → (nm l a n).2.2 = true → (nm l a n).1 < a + l.length ∧ 0 < (nm l a n).1
  | [], a, n, _, h => by simp [nm] at h
  | b :: l, a, n, hp, h => by
    simp only [nm, List.length_cons] at h ⊢
    split at h
    · rename_i hd
      rw [if_pos hd]
      split at h
      · rename_i hs
        rw [if_pos hs]
        rw [MX_eq] at hs
        simp only
        omega
      · rename_i hs
        rw [if_neg hs]
        have := nm_stuck_at l (a + 1) _ (.inr (Nat.succ_pos a)) h
        omega
    · simp at h

/-! ### A piece -/
theorem step_tail {t : ByteArray × Option (List ByteArray) × Int} (hn : Nice t) {l : List UInt8} {k : Nat} (h : (stepI l t).1 < k) (hk : k ≤ l.length) (r : List UInt8) : stepI (l.take k ++ r) t = stepI l t := by
  obtain ⟨ta, two, tl⟩ := t
  obtain ⟨_, _, hap, _⟩ := hn
  unfold stepI at h ⊢
  simp only at h ⊢
  by_cases hc : com l (bl ta) = ta.size
  · rw [if_pos hc] at h ⊢
    have hta : ta.size < k := by
      split at h
      · simp only at h; omega
      · simp only at h; omega
    have hc' : com (l.take k ++ r) (bl ta) = ta.size := by rw [com_tail (by omega) hk, hc]
    rw [if_pos hc']
    have hd : (l.take k ++ r).drop ta.size = (l.drop ta.size).take (k - ta.size) ++ r := by
      rw [List.drop_append_of_le_length (by rw [List.length_take]; omega), List.drop_take]
    have hk' : k - ta.size ≤ (l.drop ta.size).length := by rw [List.length_drop]; omega
    rw [hd]
    cases two with
    | none =>
      simp only at h ⊢
      rw [nm_tail _ 0 0 (k - ta.size) r (by omega) hk']
    | some ws =>
      simp only at h ⊢
      cases hp : pick (l.drop ta.size) ws 0 0 with
      | mk m o =>
        rw [hp] at h
        simp only at h
        have e : pick ((l.drop ta.size).take (k - ta.size) ++ r) ws 0 0 = (m, o) := by
          cases o with
          | none =>
            obtain ⟨_, hw⟩ := pick_none ws 0 0 m hp
            rw [← hp]
            exact pick_congr ws 0 0 fun w hw' => com_tail (by have := hw w hw'; omega) hk' r
          | some i =>
            refine pick_word (hap ws rfl) hp _ ?_ ?_
            · rw [List.take_append_of_le_length (by rw [List.length_take]; omega), List.take_take, Nat.min_eq_left (by omega)]
            · rw [List.length_append, List.length_take]; omega
        rw [e]
  · rw [if_neg hc] at h ⊢
    have hc' : com (l.take k ++ r) (bl ta) = com l (bl ta) := com_tail h hk r
    rw [hc', if_neg hc]
/-- Cut off where the reading stops: the same, or (a digit that cannot stand there) a number. -/
theorem step_take {t : ByteArray × Option (List ByteArray) × Int} (hn : Nice t) {l : List UInt8} {k : Nat} (h : (stepI l t).1 ≤ k) (hk : k ≤ l.length) : stepI (l.take k) t = stepI l t ∨ (stepI l t).2.1 = false ∧ (stepI l t).1 = k ∧ k < l.length ∧ (stepI (l.take k) t).1 = k ∧ (stepI (l.take k) t).2.1 = true := by
  obtain ⟨ta, two, tl⟩ := t
  obtain ⟨_, _, hap, _⟩ := hn
  unfold stepI at h ⊢
  simp only at h ⊢
  by_cases hc : com l (bl ta) = ta.size
  · rw [if_pos hc] at h ⊢
    have hta : ta.size ≤ k := by
      split at h
      · simp only at h; omega
      · simp only at h; omega
    have hc' : com (l.take k) (bl ta) = ta.size := by rw [com_keep (by omega), hc]
    rw [if_pos hc', List.drop_take]
    have hk' : k - ta.size ≤ (l.drop ta.size).length := by rw [List.length_drop]; omega
    cases two with
    | none =>
      simp only at h ⊢
      have hg := (nm_ge (l.drop ta.size) 0 0).2
      have hnm := nm_take (l.drop ta.size) 0 0 (k - ta.size) (by omega)
      have hst : (nm (l.drop ta.size) 0 0).2.2 = true → (nm (l.drop ta.size) 0 0).1 < (l.drop ta.size).length ∧ 0 < (nm (l.drop ta.size) 0 0).1 := fun e => by have := nm_stuck_at (l.drop ta.size) 0 0 (.inl ⟨rfl, rfl⟩) e; omega
      rw [hnm]
      generalize nm (l.drop ta.size) 0 0 = o at *
      obtain ⟨m, u, f⟩ := o
      simp only at *
      cases f with
      | false => exact .inl rfl
      | true =>
        obtain ⟨h1, h2⟩ := hst rfl
        rw [List.length_drop] at h1
        by_cases e : m < 0 + (k - ta.size)
        · left
          rw [decide_eq_true e]
          rfl
        · right
          rw [decide_eq_false e]
          refine ⟨by simp [nok], by omega, by omega, by omega, by simp [nok, h2]⟩
    | some ws =>
      simp only at h ⊢
      left
      cases hp : pick (l.drop ta.size) ws 0 0 with
      | mk m o =>
        rw [hp] at h
        simp only at h
        have e : pick ((l.drop ta.size).take (k - ta.size)) ws 0 0 = (m, o) := by
          cases o with
          | none =>
            obtain ⟨_, hw⟩ := pick_none ws 0 0 m hp
            rw [← hp]
            exact pick_congr ws 0 0 fun w hw' => com_keep (by have := hw w hw'; omega)
          | some i =>
            refine pick_word (hap ws rfl) hp _ ?_ ?_
            · rw [List.take_take, Nat.min_eq_left (by omega)]
            · rw [List.length_take]
              omega
        rw [e]
  · left
    rw [if_neg hc] at h ⊢
    rw [com_keep h, if_neg hc]

/-! ### The line -/
theorem run_mono : ∀ (ts : List (ByteArray × Option (List ByteArray) × Int)) (s : List UInt8) (n j : Nat) (xs : List Int), n ≤ (runI s ts n j xs).1
  | [], _, _, _, _ => Nat.le_refl _
  | t :: ts, s, n, j, xs => by
    simp only [runI]
    split
    · exact Nat.le_trans (Nat.le_add_right ..) (run_mono ts s _ _ _)
    · exact Nat.le_add_right ..
theorem run_tail : ∀ (ts : List (ByteArray × Option (List ByteArray) × Int)) (s : List UInt8) (n j : Nat) (xs : List Int) (k : Nat) (r : List UInt8), (∀ t ∈ ts, Nice t) → (runI s ts n j xs).1 < k → k ≤ s.length → runI (s.take k ++ r) ts n j xs = runI s ts n j xs
  | [], _, _, _, _, _, _, _, _, _ => rfl
  | t :: ts, s, n, j, xs, k, r, hN, h, hk => by
    have hm := run_mono (t :: ts) s n j xs
    have hd : (s.take k ++ r).drop n = (s.drop n).take (k - n) ++ r := by
      rw [List.drop_append_of_le_length (by rw [List.length_take]; omega), List.drop_take]
    have hk' : k - n ≤ (s.drop n).length := by rw [List.length_drop]; omega
    simp only [runI] at h ⊢
    by_cases hok : (stepI (s.drop n) t).2.1 = true
    · rw [if_pos hok] at h
      have hm2 := run_mono ts s (n + (stepI (s.drop n) t).1) (j + 1) (xs.set j ((stepI (s.drop n) t).2.2 + t.2.2))
      rw [hd, step_tail (hN t (List.mem_cons_self ..)) (by omega) hk' r, if_pos hok, if_pos hok]
      exact run_tail ts s _ _ _ k r (fun t h => hN t (List.mem_cons_of_mem _ h)) h hk
    · rw [if_neg hok] at h
      simp only at h
      rw [hd, step_tail (hN t (List.mem_cons_self ..)) (by omega) hk' r, if_neg hok, if_neg hok]
theorem step_nil {t : ByteArray × Option (List ByteArray) × Int} (hn : Nice t) : stepI [] t = (0, false, 0) := by
  obtain ⟨⟨c, r, hc, _⟩, _⟩ := hn
  have h0 : com [] (bl t.1) = 0 := by rw [hc]; rfl
  have h1 : (bl t.1).length ≠ 0 := by rw [hc]; simp
  rw [bl_length] at h1
  unfold stepI
  rw [h0, if_neg (by omega)]
theorem run_take : ∀ (ts : List (ByteArray × Option (List ByteArray) × Int)) (s : List UInt8) (n j : Nat) (xs : List Int) (k : Nat), (∀ t ∈ ts, Nice t) → (runI s ts n j xs).1 = k → k ≤ s.length →
    runI (s.take k) ts n j xs = runI s ts n j xs ∨ (runI (s.take k) ts n j xs).1 = k ∧ k < s.length
  | [], _, _, _, _, _, _, _, _ => .inl rfl
  | t :: ts, s, n, j, xs, k, hN, h, hk => by
    have hm := run_mono (t :: ts) s n j xs
    have hNt := hN t (List.mem_cons_self ..)
    have hd : (s.take k).drop n = (s.drop n).take (k - n) := by rw [List.drop_take]
    have hk' : k - n ≤ (s.drop n).length := by rw [List.length_drop]; omega
    simp only [runI] at h ⊢
    by_cases hok : (stepI (s.drop n) t).2.1 = true
    · rw [if_pos hok] at h
      have hm2 := run_mono ts s (n + (stepI (s.drop n) t).1) (j + 1) (xs.set j ((stepI (s.drop n) t).2.2 + t.2.2))
      rcases step_take hNt (l := s.drop n) (k := k - n) (by omega) hk' with e | ⟨e, _⟩
      · rw [hd, e, if_pos hok, if_pos hok]
        exact run_take ts s _ _ _ k (fun t h => hN t (List.mem_cons_of_mem _ h)) h hk
      · rw [e] at hok
        cases hok
    · rw [if_neg hok] at h
      simp only at h
      rcases step_take hNt (l := s.drop n) (k := k - n) (by omega) hk' with e | ⟨_, _, e3, e4, e5⟩
      · left
        rw [hd, e, if_neg hok, if_neg hok]
      · right
        rw [hd, if_pos e5, e4]
        rw [List.length_drop] at e3
        refine ⟨?_, by omega⟩
        cases ts with
        | nil => simp only [runI]; omega
        | cons t2 ts =>
          have e6 : (s.take k).drop (n + (k - n)) = [] := by
            rw [List.drop_eq_nil_of_le]
            rw [List.length_take]
            omega
          simp only [runI]
          rw [e6, step_nil (hN t2 (List.mem_cons_of_mem _ (List.mem_cons_self ..)))]
          simp only [Bool.false_eq_true, if_false]
          omega

theorem stat_run {s : List UInt8} {p : Nat} (h : (statI s).2 = (p, 126)) : (runI s cTab 0 0 (List.replicate 15 0)).1 = p ∧ ((runI s cTab 0 0 (List.replicate 15 0)).2 = none ∨ p < s.length) := by
  unfold statI at h
  generalize runI s cTab 0 0 (List.replicate 15 0) = o at *
  obtain ⟨n, _ | ys⟩ := o
  · simp only [Prod.mk.injEq] at h
    exact ⟨h.1, .inl rfl⟩
  · simp only at h ⊢
    split at h
    · simp only [Prod.mk.injEq] at h
      exact ⟨h.1, .inr (by omega)⟩
    · simp at h
theorem stat_of_run {s : List UInt8} {p : Nat} (h1 : (runI s cTab 0 0 (List.replicate 15 0)).1 = p) (h2 : (runI s cTab 0 0 (List.replicate 15 0)).2 = none ∨ p < s.length) : (statI s).2 = (p, 126) := by
  unfold statI
  generalize runI s cTab 0 0 (List.replicate 15 0) = o at *
  obtain ⟨n, _ | ys⟩ := o
  · simp only at h1
    simp [h1]
  · simp only at h1
    rcases h2 with h2 | h2
    · cases h2
    · simp only
      rw [if_pos (by omega)]
      simp [h1]
/-- No tail helps a beginning that has the byte at the place. -/
theorem place_tail {s : List UInt8} {p : Nat} (h : (statI s).2 = (p, 126)) (hp : p < s.length) (r : List UInt8) : (statI (s.take (p + 1) ++ r)).2 = (p, 126) := by
  obtain ⟨h1, h2⟩ := stat_run h
  have e := run_tail cTab s 0 0 (List.replicate 15 0) (p + 1) r cTab_nice (by omega) hp
  refine stat_of_run (by rw [e, h1]) (.inr ?_)
  rw [List.length_append, List.length_take]
  omega
/-- What stands ahead of the place ends too early, or is whole. -/
theorem place_take {s : List UInt8} {p : Nat} (h : (statI s).2 = (p, 126)) (hp : p ≤ s.length) : (statI (s.take p)).2 = (p, 126) ∨ (statI (s.take p)).2.2 = 0 ∧ p < s.length := by
  obtain ⟨h1, h2⟩ := stat_run h
  have hl : (s.take p).length = p := by rw [List.length_take]; omega
  have key : (runI (s.take p) cTab 0 0 (List.replicate 15 0)).1 = p ∧ ((runI (s.take p) cTab 0 0 (List.replicate 15 0)).2 = none ∨ p < s.length) := by
    rcases run_take cTab s 0 0 (List.replicate 15 0) p cTab_nice h1 hp with e | ⟨e1, e2⟩
    · rw [e]
      exact ⟨h1, h2⟩
    · exact ⟨e1, .inr e2⟩
  obtain ⟨k1, k2⟩ := key
  cases hr : (runI (s.take p) cTab 0 0 (List.replicate 15 0)).2 with
  | none => exact .inl (stat_of_run k1 (.inl hr))
  | some ys =>
    right
    rw [hr] at k2
    refine ⟨?_, k2.resolve_left (by simp)⟩
    unfold statI
    generalize runI (s.take p) cTab 0 0 (List.replicate 15 0) = o at *
    obtain ⟨n, o⟩ := o
    simp only at hr k1
    subst hr k1
    simp only [hl]
    rw [if_neg (by omega)]
/-- A line that is taken, changed in one byte: the place is not ahead of it. -/
theorem place_change {l : List UInt8} (h : (statI l).2 = (0, 0)) (i : Nat) (hi : i < l.length) (b : UInt8) {p : Nat} (hx : (statI (l.take i ++ b :: l.drop (i + 1))).2 = (p, 126)) : i ≤ p := by
  refine Nat.le_of_not_lt fun hp => ?_
  have hlen : (l.take i ++ b :: l.drop (i + 1)).length = l.length := by
    rw [List.length_append, List.length_cons, List.length_take, List.length_drop]
    omega
  have e := place_tail hx (by omega) (l.drop (p + 1))
  rw [List.take_append_of_le_length (by rw [List.length_take]; omega), List.take_take, Nat.min_eq_left (by omega), List.take_append_drop, h] at e
  simp at e
end Go.Proofs.YtfecfgimfjcbdaaDoor.Cf
