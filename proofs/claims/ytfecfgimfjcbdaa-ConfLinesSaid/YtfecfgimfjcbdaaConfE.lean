/- The reference's part of a status line, in plain words. -/
import Derived.Test.YtfecfgimfjcbdaaConfD
namespace Go.Proofs.Ytfecfgimfjcbdaa.Cf
open Go.RowKit Go.Proofs.YtfecfgimfjcbdaaW.PrintWords Go.Proofs.Ytfecfgimfjcbdaa.PConfLines

theorem common_l0 (s t : ByteArray) (hs : s.size ≤ 140737488351232) (ht : t.size ≤ 140737488351232) (n : Nat) (hn : n ≤ s.size) (d : Nat) : ∀ (r i : Nat), t.size - i = d → d < r → i ≤ t.size →
    replicaref12_common.l0 r s (n : Int) t (i : Int) = some ((i + com ((bl s).drop (n + i)) ((bl t).drop i) : Nat) : Int) := by
  induction d with
  | zero =>
    intro r i hd hr hi
    obtain ⟨r, rfl⟩ : ∃ m, r = m + 1 := ⟨r - 1, by omega⟩
    have e0 : (bl t).drop i = [] := List.drop_of_length_le (by rw [bl_length]; omega)
    have hz : ∀ x, com x [] = 0 := fun x => by cases x <;> rfl
    simp only [replicaref12_common.l0]
    rw [if_neg (by omega), e0, hz]
    rfl
  | succ d ih =>
    intro r i hd hr hi
    obtain ⟨r, rfl⟩ : ∃ m, r = m + 1 := ⟨r - 1, by omega⟩
    obtain ⟨b, hb, hbt⟩ := bl_drop t i (by omega)
    simp only [replicaref12_common.l0]
    have ew : wrap64 ((n : Int) + (i : Int)) = ((n + i : Nat) : Int) := by rw [wrap_small _ (by omega) (by omega)]; omega
    rw [ew]
    clear ew
    rw [if_pos (by omega), hb]
    by_cases hlt : n + i < s.size
    · obtain ⟨a, ha, hat⟩ := bl_drop s (n + i) hlt
      rw [if_pos (by omega), if_pos (by omega), if_pos (by omega), hat, hbt, ha]
      by_cases hab : a = b
      · subst hab
        have h := ih r (i + 1) (by omega) (by omega) (by omega)
        have e3 : wrap64 ((i : Int) + 1) = ((i + 1 : Nat) : Int) := wrap_1 i (by omega)
        rw [if_pos rfl, e3]
        clear e3
        rw [h, show n + (i + 1) = n + i + 1 by omega]
        simp only [com, if_true]
        congr 2
        omega
      · rw [if_neg (bt_ne hab)]
        simp only [com, if_neg hab]
        rfl
    · have e0 : (bl s).drop (n + i) = [] := List.drop_of_length_le (by rw [bl_length]; omega)
      have hz : ∀ x, com [] x = 0 := fun x => by cases x <;> rfl
      rw [if_neg (by omega), e0, hz]
      rfl
theorem common_f (s t : ByteArray) (hs : s.size ≤ 140737488351232) (ht : t.size ≤ 140737488351232) (n : Nat) (hn : n ≤ s.size) (r : Nat) (hr : t.size < r) :
    replicaref12_common.f r s (n : Int) t = some ((com ((bl s).drop n) (bl t) : Nat) : Int) := by
  have h := common_l0 s t hs ht n hn t.size r 0 (by omega) hr (by omega)
  simpa [replicaref12_common.f] using h
theorem refnumber_f (s : ByteArray) (hs : s.size ≤ 140737488351232) (n : Nat) (hn : n ≤ s.size) (r : Nat) (hr : 2 * s.size + 1 < r) :
    replicaref12_number.f r s (n : Int) = some (((nm ((bl s).drop n) 0 0).1 : Int), ((nm ((bl s).drop n) 0 0).2.1 : Int)) := by
  have h := refnumber_l0 s hs n (s.size - n) r 0 0 (by omega) (by omega) (by omega) (by omega) (fun _ => rfl)
  simpa [replicaref12_number.f] using h

theorem one_l0 (s : ByteArray) (hs : s.size ≤ 140737488351232) (n : Nat) (hn : n ≤ s.size) (t : ByteArray) (ws : List ByteArray) (b : Bool) (hws : ∀ x ∈ ws, x.size ≤ 100) (hwl : ws.length ≤ 1000) (d : Nat) : ∀ (r j far : Nat), ws.length - j = d → d + 101 < r → j ≤ ws.length →
    replicaref12_one.l0 r s (n : Int) (far : Int) (j : Int) t ws b = some (((pick ((bl s).drop n) (ws.drop j) j far).1 : Int), (pick ((bl s).drop n) (ws.drop j) j far).2.isSome, (((pick ((bl s).drop n) (ws.drop j) j far).2.getD 0 : Nat) : Int)) := by
  induction d with
  | zero =>
    intro r j far hd hr hj
    obtain ⟨r, rfl⟩ : ∃ m, r = m + 1 := ⟨r - 1, by omega⟩
    have e0 : ws.drop j = [] := List.drop_of_length_le (by omega)
    simp only [replicaref12_one.l0]
    rw [if_neg (by omega), e0]
    simp [pick]
  | succ d ih =>
    intro r j far hd hr hj
    obtain ⟨r, rfl⟩ : ∃ m, r = m + 1 := ⟨r - 1, by omega⟩
    have hlt : j < ws.length := by omega
    have hdj : ws.drop j = ws[j] :: ws.drop (j + 1) := List.drop_eq_getElem_cons hlt
    have hx : rdOf ByteArray.empty ws (j : Int) = ws[j] := by simp [rdOf, hlt]
    have hxs := hws ws[j] (List.getElem_mem hlt)
    simp only [replicaref12_one.l0]
    rw [if_pos (by omega), if_pos (by omega), hx, common_f s ws[j] hs (by omega) n hn r (by omega), hdj]
    simp only [Option.bind_some, pick]
    have h1 := ih r (j + 1) (max far (com ((bl s).drop n) (bl ws[j]))) (by omega) (by omega) (by omega)
    generalize com ((bl s).drop n) (bl ws[j]) = m at *
    by_cases hm : m = ws[j].size
    · rw [if_pos (by omega), if_pos hm]
      simp [hm]
    · rw [if_neg (by omega), if_neg hm]
      by_cases hf : far < m
      · rw [if_pos (by omega)]
        have e3 : wrap64 ((j : Int) + 1) = ((j + 1 : Nat) : Int) := wrap_1 j (by omega)
        rw [e3]
        clear e3
        rw [Nat.max_eq_right (by omega)] at h1 ⊢
        exact h1
      · rw [if_neg (by omega)]
        have e3 : wrap64 ((j : Int) + 1) = ((j + 1 : Nat) : Int) := wrap_1 j (by omega)
        rw [e3]
        clear e3
        rw [Nat.max_eq_left (by omega)] at h1 ⊢
        exact h1

/-- A part of a status line. -/
inductive Pt where
  | lit (t : ByteArray)
  | words (ws : List ByteArray)
  | num

/-- How many bytes of it stand at l's beginning, whether it is whole, its value. -/
def oneP (l : List UInt8) : Pt → Nat × Bool × Nat
  | .lit t => (com l (bl t), com l (bl t) == t.size, 0)
  | .words ws => ((pick l ws 0 0).1, (pick l ws 0 0).2.isSome, (pick l ws 0 0).2.getD 0)
  | .num => ((nm l 0 0).1, decide (0 < (nm l 0 0).1), (nm l 0 0).2.1)

/-- The three fields of a part, as the reference has them. -/
def ptIs : Pt → ByteArray → List ByteArray → Bool → Prop
  | .lit t, x, _, _ => x = t ∧ t.toList ≠ [] ∧ t.size ≤ 100
  | .words ws, x, ys, b => x = ByteArray.empty ∧ ys = ws ∧ b = false ∧ ws.length ≤ 1000 ∧ ∀ y ∈ ws, y.size ≤ 100
  | .num, x, _, b => x = ByteArray.empty ∧ b = true

theorem empty_list : ByteArray.empty.toList = ([] : List UInt8) := by decide +kernel

theorem one_f (s : ByteArray) (hs : s.size ≤ 140737488351232) (n : Nat) (hn : n ≤ s.size) (p : Pt) (t : ByteArray) (ws : List ByteArray) (b : Bool) (hp : ptIs p t ws b) : ∃ r,
    replicaref12_one.f r s (n : Int) t ws b = some (((oneP ((bl s).drop n) p).1 : Int), (oneP ((bl s).drop n) p).2.1, (((oneP ((bl s).drop n) p).2.2 : Nat) : Int)) := by
  cases p with
  | lit t =>
    obtain ⟨rfl, h1, h2⟩ := hp
    refine ⟨101, ?_⟩
    unfold replicaref12_one.f
    rw [if_neg h1, common_f s _ hs (by omega) n hn _ (by omega)]
    simp only [Option.bind_some, oneP]
    congr 2
    simp only [Prod.mk.injEq]
    refine ⟨?_, rfl⟩
    rw [Bool.eq_iff_iff]
    simp
    omega
  | words ws =>
    obtain ⟨rfl, rfl, rfl, h1, h2⟩ := hp
    refine ⟨ws.length + 102, ?_⟩
    have h := one_l0 s hs n hn ByteArray.empty ws false h2 h1 ws.length (ws.length + 102) 0 0 (by omega) (by omega) (by omega)
    unfold replicaref12_one.f
    rw [if_pos empty_list, if_neg (by simp)]
    simpa [oneP] using h
  | num =>
    obtain ⟨rfl, rfl⟩ := hp
    refine ⟨2 * s.size + 2, ?_⟩
    unfold replicaref12_one.f
    rw [if_pos empty_list, if_pos rfl, refnumber_f s hs n hn _ (by omega)]
    simp [oneP]
end Go.Proofs.Ytfecfgimfjcbdaa.Cf
