/- The plain law of the status line: the program's way and the document's way of reading come to the same. -/
import Derived.Test.YtfecfgimfjcbdaaConfK
namespace Go.Proofs.Ytfecfgimfjcbdaa.Cf
open Go.RowKit Go.Proofs.YtfecfgimfjcbdaaW.PrintWords

theorem nm_digit : ∀ (l : List UInt8) (k n : Nat), (nm l k n).2.2 = true → ∃ b r, l.drop ((nm l k n).1 - k) = b :: r ∧ 48 ≤ b.toNat ∧ b.toNat ≤ 57
  | [], k, n, h => by simp [nm] at h
  | b :: l, k, n, h => by
    by_cases hd : 48 ≤ b.toNat ∧ b.toNat ≤ 57
    · by_cases hs : 0 < k ∧ n = 0 ∨ MX < 10 * n + (b.toNat - 48)
      · rw [nm_stuck hd hs]
        exact ⟨b, l, by simp, hd⟩
      · rw [nm_on hd hs] at h ⊢
        obtain ⟨c, r, hr, hc⟩ := nm_digit l (k + 1) (10 * n + (b.toNat - 48)) h
        have hge := (nm_ge l (k + 1) (10 * n + (b.toNat - 48))).1
        refine ⟨c, r, ?_, hc⟩
        rw [← hr, show (nm l (k + 1) (10 * n + (b.toNat - 48))).1 - k = (nm l (k + 1) (10 * n + (b.toNat - 48))).1 - (k + 1) + 1 by omega, List.drop_succ_cons]
    · rw [nm_stop hd] at h
      cases h

def part (t : ByteArray × Option (List ByteArray) × Int) : Pt :=
  match t.2.1 with
  | some ws => .words ws
  | none => .num

/-- The two tables side by side; no literal begins with a digit; what is added. -/
def lst (i : Nat) : Int := if i = 5 then 1 else 0
theorem tabs (i : Nat) (t : ByteArray × Option (List ByteArray) × Int) (h : cTab[i]? = some t) : rTab.drop (2 * i) = .lit t.1 :: part t :: rTab.drop (2 * (i + 1)) ∧ (∃ c r, bl t.1 = c :: r ∧ ¬ (48 ≤ c.toNat ∧ c.toNat ≤ 57)) ∧ t.2.2 = lst i := by
  have hl : i < 15 := (List.getElem?_eq_some_iff.1 h).1
  rcases i with _ | _ | _ | _ | _ | _ | _ | _ | _ | _ | _ | _ | _ | _ | _ | i
  case succ.succ.succ.succ.succ.succ.succ.succ.succ.succ.succ.succ.succ.succ.succ => omega
  all_goals
    obtain rfl := Option.some.inj h
    exact ⟨rfl, ⟨_, _, rfl, by decide⟩, rfl⟩

/-- The fields so far against the values so far. -/
def Rel (j : Nat) (fs xs : List Int) : Prop := fs.length = 15 ∧ xs.length = j ∧ (∀ i, i < j → fs[i]? = some (xs.getD i 0 + lst i) ∧ 0 ≤ xs.getD i 0 ∧ xs.getD i 0 + lst i ≤ 9223372036854775807)

theorem Rel.next {j : Nat} {fs xs : List Int} (h : Rel j fs xs) (hj : j < 15) (v : Int) (h0 : 0 ≤ v) (h1 : v + lst j ≤ 9223372036854775807) : Rel (j + 1) (fs.set j (v + lst j)) (xs ++ [v]) := by
  obtain ⟨a, b, c⟩ := h
  refine ⟨by rw [List.length_set]; exact a, by simp [b], fun i hi => ?_⟩
  by_cases e : i = j
  · subst e
    have : (xs ++ [v]).getD i 0 = v := by simp [List.getD_eq_getElem?_getD, ← b]
    rw [this]
    exact ⟨by rw [List.getElem?_set_self (by omega)], h0, h1⟩
  · have hlt : i < j := by omega
    have : (xs ++ [v]).getD i 0 = xs.getD i 0 := by simp [List.getD_eq_getElem?_getD, List.getElem?_append_left (show i < xs.length by omega)]
    rw [this, List.getElem?_set_ne (by omega)]
    exact c i hlt

theorem runR_ok {s : List UInt8} {p : Pt} {ps : List Pt} {n m v : Nat} {xs : List Int} (h : oneP (s.drop n) p = (m, true, v)) : runR s (p :: ps) n xs = runR s ps (n + m) (if p.isLit = true then xs else xs ++ [(v : Int)]) := by
  simp only [runR, h, if_true]
theorem runR_no {s : List UInt8} {p : Pt} {ps : List Pt} {n m v : Nat} {xs : List Int} (h : oneP (s.drop n) p = (m, false, v)) : runR s (p :: ps) n xs = (n + m, none) := by
  simp only [runR, h]
  rfl
theorem runI_ok {s : List UInt8} {t : ByteArray × Option (List ByteArray) × Int} {ts : List (ByteArray × Option (List ByteArray) × Int)} {n m j : Nat} {v : Int} {fs : List Int} (h : stepI (s.drop n) t = (m, true, v)) : runI s (t :: ts) n j fs = runI s ts (n + m) (j + 1) (fs.set j (v + t.2.2)) := by
  simp only [runI, h, if_true]
theorem runI_no {s : List UInt8} {t : ByteArray × Option (List ByteArray) × Int} {ts : List (ByteArray × Option (List ByteArray) × Int)} {n m j : Nat} {v : Int} {fs : List Int} (h : stepI (s.drop n) t = (m, false, v)) : runI s (t :: ts) n j fs = (n + m, none) := by
  simp only [runI, h]
  rfl

/-- What the two readings come to, held against each other. -/
def Same (n : Nat) : Nat × Option (List Int) → Nat × Option (List Int) → Prop
  | (p, none), (q, none) => p = q
  | (p, none), (q, some _) => p = q ∧ p < n
  | (p, some fs), (q, some xs) => p = q ∧ Rel 15 fs xs
  | (_, some _), (_, none) => False

theorem run_same (s : List UInt8) (d : Nat) : ∀ (j n : Nat) (fs xs : List Int), 15 - j = d → j ≤ 15 → Rel j fs xs → Same s.length (runI s (cTab.drop j) n j fs) (runR s (rTab.drop (2 * j)) n xs) := by
  induction d with
  | zero =>
    intro j n fs xs hd hj hR
    obtain rfl : j = 15 := by omega
    exact ⟨rfl, hR⟩
  | succ d ih =>
    intro j n fs xs hd hj hR
    have hlt : j < 15 := by omega
    obtain ⟨t, ht⟩ : ∃ t, cTab[j]? = some t := ⟨_, List.getElem?_eq_getElem hlt⟩
    obtain ⟨hr, hc, hl⟩ := tabs j t ht
    have hcd : cTab.drop j = t :: cTab.drop (j + 1) := by rw [List.drop_eq_getElem?_toList_append, ht]; rfl
    have hb := stepI_le (s.drop n) j t ht
    rw [hr, hcd]
    obtain ⟨ta, two, tl⟩ := t
    simp only at hl hc
    subst hl
    by_cases hcs : com (s.drop n) (bl ta) = ta.size
    · have el : oneP (s.drop n) (.lit ta) = (ta.size, true, 0) := by
        simp only [oneP, hcs, beq_self_eq_true]
      rw [runR_ok el, if_pos (show (Pt.lit ta).isLit = true from rfl)]
      cases two with
      | some ws =>
        have es : stepI (s.drop n) (ta, some ws, lst j) = (ta.size + (pick (s.drop (n + ta.size)) ws 0 0).1, (pick (s.drop (n + ta.size)) ws 0 0).2.isSome, (((pick (s.drop (n + ta.size)) ws 0 0).2.getD 0 : Nat) : Int)) := by
          unfold stepI
          rw [if_pos hcs, List.drop_drop]
        have ep : oneP (s.drop (n + ta.size)) (.words ws) = ((pick (s.drop (n + ta.size)) ws 0 0).1, (pick (s.drop (n + ta.size)) ws 0 0).2.isSome, (pick (s.drop (n + ta.size)) ws 0 0).2.getD 0) := rfl
        rw [es] at hb
        rw [show part (ta, some ws, lst j) = .words ws from rfl]
        generalize (pick (s.drop (n + ta.size)) ws 0 0).1 = m at *
        generalize (pick (s.drop (n + ta.size)) ws 0 0).2.getD 0 = v at *
        generalize (pick (s.drop (n + ta.size)) ws 0 0).2.isSome = ok at *
        cases ok with
        | false =>
          rw [runI_no es, runR_no ep]
          exact (Nat.add_assoc _ _ _).symm
        | true =>
          rw [runI_ok es, runR_ok ep, ← Nat.add_assoc, if_neg (by simp [Pt.isLit])]
          exact ih (j + 1) _ _ _ (by omega) (by omega) (hR.next hlt v hb.2.1 hb.2.2)
      | none =>
        have es : stepI (s.drop n) (ta, none, lst j) = (ta.size + (nm (s.drop (n + ta.size)) 0 0).1, nok (nm (s.drop (n + ta.size)) 0 0), nval (nm (s.drop (n + ta.size)) 0 0)) := by
          unfold stepI
          rw [if_pos hcs, List.drop_drop]
        have ep : oneP (s.drop (n + ta.size)) .num = ((nm (s.drop (n + ta.size)) 0 0).1, decide (0 < (nm (s.drop (n + ta.size)) 0 0).1), (nm (s.drop (n + ta.size)) 0 0).2.1) := rfl
        rw [es] at hb
        rw [show part (ta, none, lst j) = .num from rfl]
        have hdig := nm_digit (s.drop (n + ta.size)) 0 0
        have hge := nm_ge (s.drop (n + ta.size)) 0 0
        rw [List.length_drop] at hge
        generalize nm (s.drop (n + ta.size)) 0 0 = tr at *
        obtain ⟨k, v, st⟩ := tr
        simp only [nok, nval] at es hb ep hdig hge
        by_cases hk : 0 < k
        · rw [decide_eq_true hk] at ep es
          rw [runR_ok ep, if_neg (by simp [Pt.isLit])]
          cases st with
          | false =>
            rw [runI_ok es, ← Nat.add_assoc]
            exact ih (j + 1) _ _ _ (by omega) (by omega) (hR.next hlt v hb.2.1 hb.2.2)
          | true =>
            rw [runI_no es, ← Nat.add_assoc]
            obtain ⟨b, r, hbr, hbd⟩ := hdig rfl
            rw [List.drop_drop, Nat.sub_zero] at hbr
            have hpl : n + ta.size + k < s.length := by
              have h2 := congrArg List.length hbr
              rw [List.length_drop, List.length_cons] at h2
              omega
            by_cases hj15 : j + 1 < 15
            · obtain ⟨t2, ht2⟩ : ∃ t, cTab[j + 1]? = some t := ⟨_, List.getElem?_eq_getElem hj15⟩
              obtain ⟨hr2, ⟨c, r2, hc2, hnd⟩, _⟩ := tabs (j + 1) t2 ht2
              have e0 : com (s.drop (n + ta.size + k)) (bl t2.1) = 0 := by
                rw [hc2, hbr]
                simp only [com]
                rw [if_neg (fun e : b = c => hnd (e ▸ hbd))]
              have hs2 : 0 < t2.1.size := by
                rw [← bl_length, hc2]
                simp
              have e2 : oneP (s.drop (n + ta.size + k)) (.lit t2.1) = (0, false, 0) := by
                simp only [oneP, e0]
                rw [show ((0 : Nat) == t2.1.size) = false from beq_eq_false_iff_ne.2 (by omega)]
              rw [hr2, runR_no e2]
              exact rfl
            · obtain rfl : j = 14 := by omega
              exact ⟨rfl, hpl⟩
        · rw [decide_eq_false hk] at ep es
          rw [runR_no ep, runI_no es]
          exact (Nat.add_assoc _ _ _).symm
    · have es : stepI (s.drop n) (ta, two, lst j) = (com (s.drop n) (bl ta), false, 0) := by
        unfold stepI
        rw [if_neg hcs]
      have el : oneP (s.drop n) (.lit ta) = (com (s.drop n) (bl ta), false, 0) := by
        simp only [oneP]
        rw [show (com (s.drop n) (bl ta) == ta.size) = false from beq_eq_false_iff_ne.2 hcs]
      rw [runI_no es, runR_no el]
      exact rfl
theorem stat_same (s : List UInt8) : statI s = statR s := by
  have h := run_same s 15 0 0 (List.replicate 15 0) [] rfl (by omega) ⟨by simp, rfl, fun i hi => by omega⟩
  simp only [List.drop_zero, Nat.mul_zero] at h
  unfold statI statR
  revert h
  generalize runI s cTab 0 0 (List.replicate 15 0) = a
  generalize runR s rTab 0 [] = b
  obtain ⟨p, fs⟩ := a
  obtain ⟨q, xs⟩ := b
  intro h
  cases fs with
  | none =>
    cases xs with
    | none => obtain rfl : p = q := h; rfl
    | some xs => obtain ⟨rfl, hlt⟩ := h; simp only; rw [if_pos hlt]
  | some fs =>
    cases xs with
    | none => exact h.elim
    | some xs =>
      obtain ⟨rfl, ha, hb, hc⟩ := h
      have e : fs = xs.set 5 (wrap64 (xs.getD 5 0 + 1)) := by
        apply List.ext_getElem?
        intro i
        by_cases hi : i < 15
        · obtain ⟨h1, h2, h3⟩ := hc i hi
          rw [h1]
          by_cases e5 : i = 5
          · subst e5
            rw [List.getElem?_set_self (by omega), wrap_id (by simp only [lst] at h3; omega) (by simpa [lst] using h3)]
            rfl
          · rw [List.getElem?_set_ne (by omega)]
            simp [lst, e5, show i < xs.length by omega]
        · rw [List.getElem?_eq_none (by omega), List.getElem?_eq_none (by rw [List.length_set]; omega)]
      simp only [e]
end Go.Proofs.Ytfecfgimfjcbdaa.Cf
