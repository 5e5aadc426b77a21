/- The printed functions of the status line's numbers and words, in plain words. -/
import Derived.Test.YtfecfgimfjcbdaaDoorConfC
namespace Go.Proofs.YtfecfgimfjcbdaaDoor.Cf
open Go.RowKit Go.Proofs.YtfecfgimfjcbdaaDoorW.PrintWords Go.Proofs.YtfecfgimfjcbdaaDoor.QCParseStatus

/-- The greatest number. -/
@[irreducible] def MX : Nat := 9223372036854775807
theorem MX_eq : MX = 9223372036854775807 := by unfold MX; rfl

/-- The digits that can stand at the beginning of l, k of them having stood, of the value n: how many have stood then, their value, and whether a digit follows that cannot stand. -/
def nm : List UInt8 → Nat → Nat → Nat × Nat × Bool
  | [], k, n => (k, n, false)
  | b :: l, k, n => if 48 ≤ b.toNat ∧ b.toNat ≤ 57 then (if 0 < k ∧ n = 0 ∨ MX < 10 * n + (b.toNat - 48) then (k, n, true) else nm l (k + 1) (10 * n + (b.toNat - 48))) else (k, n, false)

theorem nm_ge : ∀ (l : List UInt8) (k n : Nat), k ≤ (nm l k n).1 ∧ (nm l k n).1 ≤ k + l.length
  | [], k, n => by simp [nm]
  | b :: l, k, n => by
    simp only [nm]
    split
    · split
      · simp
      · have := nm_ge l (k + 1) (10 * n + (b.toNat - 48))
        simp only [List.length_cons]; omega
    · simp
theorem nm_lt : ∀ (l : List UInt8) (k n : Nat), n ≤ MX → (nm l k n).2.1 ≤ MX
  | [], k, n, h => by simpa [nm] using h
  | b :: l, k, n, h => by
    simp only [nm]
    split
    · split
      · exact h
      · rename_i hd hs
        exact nm_lt l (k + 1) _ (by omega)
    · exact h

theorem wrap_small (x : Int) (h0 : 0 ≤ x) (h1 : x ≤ 9223372036854775807) : wrap64 x = x := wrap_id (by omega) h1
theorem mod256 (b : UInt8) (h : 48 ≤ b.toNat) : ((b.toNat : Int) - 48) % 256 = ((b.toNat - 48 : Nat) : Int) := by
  have := b.toNat_lt
  omega

theorem over_iff (n d : Nat) (_ : d ≤ 9) : ((n : Int) > (9223372036854775807 - (d : Int)) / 10) ↔ MX < 10 * n + d := by rw [MX_eq]; omega
theorem wrap_10 (n d : Nat) (h : ¬ MX < 10 * n + d) : wrap64 (wrap64 (10 * (n : Int)) + (d : Int)) = ((10 * n + d : Nat) : Int) := by
  rw [MX_eq] at h
  rw [wrap_small (10 * (n : Int)) (by omega) (by omega), wrap_small (10 * (n : Int) + (d : Int)) (by omega) (by omega)]
  omega
theorem wrap_1 (n : Nat) (h : n ≤ 1125899906842624) : wrap64 ((n : Int) + 1) = ((n + 1 : Nat) : Int) := by
  rw [wrap_small ((n : Int) + 1) (by omega) (by omega)]
  omega

theorem nm_stop {b : UInt8} {l : List UInt8} {k n : Nat} (h : ¬ (48 ≤ b.toNat ∧ b.toNat ≤ 57)) : nm (b :: l) k n = (k, n, false) := by simp only [nm]; rw [if_neg h]
theorem nm_stuck {b : UInt8} {l : List UInt8} {k n : Nat} (h : 48 ≤ b.toNat ∧ b.toNat ≤ 57) (hs : 0 < k ∧ n = 0 ∨ MX < 10 * n + (b.toNat - 48)) : nm (b :: l) k n = (k, n, true) := by simp only [nm]; rw [if_pos h, if_pos hs]
theorem nm_on {b : UInt8} {l : List UInt8} {k n : Nat} (h : 48 ≤ b.toNat ∧ b.toNat ≤ 57) (hs : ¬ (0 < k ∧ n = 0 ∨ MX < 10 * n + (b.toNat - 48))) : nm (b :: l) k n = nm l (k + 1) (10 * n + (b.toNat - 48)) := by simp only [nm]; rw [if_pos h, if_neg hs]

def nval (t : Nat × Nat × Bool) : Int := if t.2.2 = true then 0 else (t.2.1 : Int)
def nok (t : Nat × Nat × Bool) : Bool := decide (0 < t.1) && !t.2.2

theorem number_l0 (s : ByteArray) (hs : s.size ≤ 1125899906842624) (f : Nat) (d : Nat) : ∀ (r k n : Nat), s.size - (f + k) = d → 2 * d + 1 < r → f + k ≤ s.size → n ≤ MX →
    conf_line_number.l0 r (f : Int) (n : Int) s ((f + k : Nat) : Int) = some (nval (nm ((bl s).drop (f + k)) k n), nok (nm ((bl s).drop (f + k)) k n), s, ((f + (nm ((bl s).drop (f + k)) k n).1 : Nat) : Int)) := by
  induction d with
  | zero =>
    intro r k n hd hr hk hn
    obtain ⟨r, rfl⟩ : ∃ m, r = m + 2 := ⟨r - 2, by omega⟩
    have e0 : (bl s).drop (f + k) = [] := List.drop_of_length_le (by rw [bl_length]; omega)
    simp only [conf_line_number.l0, conf_line_number.j1]
    rw [if_neg (by omega), e0]
    rw [if_neg (by simp)]
    simp only [nm, nval, nok]
    simp
    exact decide_eq_decide.2 (by omega)
  | succ d ih =>
    intro r k n hd hr hk hn
    obtain ⟨r, rfl⟩ : ∃ m, r = m + 2 := ⟨r - 2, by omega⟩
    obtain ⟨b, hb, hbt⟩ := bl_drop s (f + k) (by omega)
    have hb256 := b.toNat_lt
    simp only [conf_line_number.l0]
    rw [if_pos (by omega), if_pos (by omega), hb, hbt]
    have hdg : conf_digit.f (b.toNat : Int) = some (decide (48 ≤ b.toNat ∧ b.toNat ≤ 57)) := by
      unfold conf_digit.f
      by_cases h1 : 48 ≤ b.toNat
      · rw [if_pos (by omega)]
        congr 1
        exact decide_eq_decide.2 (by omega)
      · rw [if_neg (by omega), decide_eq_false (by omega)]
    rw [hdg]
    simp only [Option.bind_some, conf_line_number.j1]
    by_cases hD : 48 ≤ b.toNat ∧ b.toNat ≤ 57
    · rw [if_pos (decide_eq_true hD), if_pos (by omega), if_pos (by omega), hbt, mod256 b hD.1]
      by_cases hS : 0 < k ∧ n = 0 ∨ MX < 10 * n + (b.toNat - 48)
      · rw [nm_stuck hD hS]
        by_cases hk0 : 0 < k
        · rw [if_pos (by omega)]
          by_cases hn0 : n = 0
          · rw [if_pos (by omega)]
            simp [nval, nok]
          · rw [if_neg (by omega), if_pos ((over_iff n _ (by omega)).2 (hS.resolve_left (fun h => hn0 h.2)))]
            simp [nval, nok]
        · rw [if_neg (by omega), if_pos ((over_iff n _ (by omega)).2 (hS.resolve_left (fun h => hk0 h.1)))]
          simp [nval, nok]
      · rw [nm_on hD hS]
        have hO : ¬ MX < 10 * n + (b.toNat - 48) := fun h => hS (.inr h)
        have hOi := mt (over_iff n (b.toNat - 48) (by omega)).1 hO
        have h := ih r (k + 1) (10 * n + (b.toNat - 48)) (by omega) (by omega) (by omega) (by omega)
        rw [show f + k + 1 = f + (k + 1) by omega]
        have ek : k = 0 ∨ 0 < k := by omega
        have e2 := wrap_10 n (b.toNat - 48) hO
        have e3 : wrap64 (((f + k : Nat) : Int) + 1) = ((f + (k + 1) : Nat) : Int) := wrap_1 (f + k) (by omega)
        rw [e2, e3]
        clear e2 e3
        rcases ek with hk0 | hk0
        · rw [if_neg (by omega), if_neg hOi]
          exact h
        · rw [if_pos (by omega), if_neg (fun h => hS (.inl ⟨hk0, by omega⟩)), if_neg hOi]
          exact h
    · rw [if_neg (by rw [decide_eq_false hD]; simp), nm_stop hD]
      simp [nval, nok]
      omega

theorem number_any (w0 w : World) (g n : Nat) (s : ByteArray) (hs : s.size ≤ 1125899906842624) (hn : n ≤ s.size) (hI : IsLine w0 w g s n) (hB : Below w0.heap.size w0 w) :
    Calls Tryd.prog 49 #[.pointer (some ⟨g, 0, none⟩)] w fun e w' =>
      e = .returned (.tuple #[.int .i64 (nval (nm ((bl s).drop n) 0 0)), .bool (nok (nm ((bl s).drop n) 0 0))]) ∧ IsLine w0 w' g s (n + (nm ((bl s).drop n) 0 0).1) ∧ Below w0.heap.size w0 w' ∧ KeepBut w w' g none := by
  have h := number_l0 s hs n (s.size - n) (2 * (s.size - n) + 2) 0 0 (by omega) (by omega) (by omega) (by omega)
  simp only [Nat.add_zero] at h
  exact conf_line_number.calls (2 * (s.size - n) + 2) g s (n : Int) _ _ _ _ w0 w hI hB h
end Go.Proofs.YtfecfgimfjcbdaaDoor.Cf
