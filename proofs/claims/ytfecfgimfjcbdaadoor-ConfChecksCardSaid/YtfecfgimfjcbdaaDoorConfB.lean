/- What the printed functions of the status line come to, in plain words. -/
import Derived.Test.YtfecfgimfjcbdaaDoorQCParseStatus0
import Derived.Test.YtfecfgimfjcbdaaDoorQCParseStatus1
import Derived.Test.YtfecfgimfjcbdaaDoorConfA
namespace Go.Proofs.YtfecfgimfjcbdaaDoor.Cf
open Go.RowKit Go.Proofs.YtfecfgimfjcbdaaDoorW.PrintWords Go.Proofs.YtfecfgimfjcbdaaDoor.QCParseStatus

theorem literal_l0 (s t : ByteArray) (hs : s.size ≤ 1125899906842624) (ht : t.size ≤ 1125899906842624) (d : Nat) : ∀ (k i n : Nat), t.size - i = d → d < k → i ≤ t.size → n ≤ s.size →
    conf_line_literal.l0 k t (t.size : Int) (i : Int) s (n : Int) = some (decide (com ((bl s).drop n) ((bl t).drop i) = t.size - i), s, ((n + com ((bl s).drop n) ((bl t).drop i) : Nat) : Int)) := by
  induction d with
  | zero =>
    intro k i n hd hk hi hn
    obtain ⟨k, rfl⟩ : ∃ m, k = m + 1 := ⟨k - 1, by omega⟩
    have hie : i = t.size := by omega
    have e0 : (bl t).drop i = [] := List.drop_of_length_le (by rw [bl_length]; omega)
    simp only [conf_line_literal.l0]
    rw [if_neg (by omega), e0]
    simp [com]
    cases (bl s).drop n <;> simp [hie]
  | succ d ih =>
    intro k i n hd hk hi hn
    obtain ⟨k, rfl⟩ : ∃ m, k = m + 1 := ⟨k - 1, by omega⟩
    obtain ⟨b, hb, hbt⟩ := bl_drop t i (by omega)
    simp only [conf_line_literal.l0]
    rw [if_pos (by omega), hb]
    by_cases hlt : n < s.size
    · obtain ⟨a, ha, hat⟩ := bl_drop s n hlt
      rw [if_neg (by omega), if_pos (by omega), if_pos (by omega), if_pos (by omega), if_pos (by omega), hat, hbt, ha]
      by_cases hab : a = b
      · subst hab
        rw [if_pos rfl, wrap_id (by omega) (by omega), wrap_id (by omega) (by omega)]
        have h := ih k (i + 1) (n + 1) (by omega) (by omega) (by omega) (by omega)
        rw [show ((i : Int) + 1) = ((i + 1 : Nat) : Int) by omega, show ((n : Int) + 1) = ((n + 1 : Nat) : Int) by omega, h]
        simp only [com, if_true]
        congr 2
        · congr 1
          apply propext
          omega
        · congr 1
          omega
      · rw [if_neg (bt_ne hab)]
        simp only [com, if_neg hab]
        rw [decide_eq_false (by omega)]
        rfl
    · have e0 : (bl s).drop n = [] := List.drop_of_length_le (by rw [bl_length]; omega)
      rw [if_pos (by omega), e0]
      have hz : ∀ x, com [] x = 0 := fun x => by cases x <;> rfl
      rw [hz, decide_eq_false (by omega)]
      rfl

/-- A line's state: its text and the place. -/
def IsLine (w0 w : World) (g : Nat) (s : ByteArray) (n : Nat) : Prop := IsS91 w0 w g s (n : Int)

theorem literal_any (w0 w : World) (g n : Nat) (s t : ByteArray) (hs : s.size ≤ 1125899906842624) (ht : t.size ≤ 1125899906842624) (hn : n ≤ s.size) (hI : IsLine w0 w g s n) (hB : Below w0.heap.size w0 w) :
    Calls Tryd.prog 48 #[.pointer (some ⟨g, 0, none⟩), .string t] w fun e w' =>
      e = .returned (.bool (decide (com ((bl s).drop n) (bl t) = t.size))) ∧ IsLine w0 w' g s (n + com ((bl s).drop n) (bl t)) ∧ Below w0.heap.size w0 w' ∧ KeepBut w w' g none := by
  have h := literal_l0 s t hs ht t.size (t.size + 1) 0 n (by omega) (by omega) (by omega) hn
  simp only [List.drop_zero, Nat.sub_zero] at h
  exact conf_line_literal.calls (t.size + 1) g s (n : Int) t _ _ _ w0 w hI hB h
end Go.Proofs.YtfecfgimfjcbdaaDoor.Cf
