/- Plain words on lists of bytes, for the status line: how far two texts agree. No program in sight. -/
import Derived.Test.YtfecfgimfjcbdaaDoorWWords
namespace Go.Proofs.YtfecfgimfjcbdaaDoor.Cf
open Go.RowKit Go.Proofs.YtfecfgimfjcbdaaDoorW.PrintWords

/-- How many bytes two lists begin with alike. -/
def com : List UInt8 → List UInt8 → Nat
  | a :: l, b :: t => if a = b then com l t + 1 else 0
  | _, _ => 0

theorem com_le_left : ∀ l t, com l t ≤ l.length
  | [], _ => by simp [com]
  | _ :: _, [] => by simp [com]
  | a :: l, b :: t => by
    have := com_le_left l t
    by_cases h : a = b <;> simp [com, h]; omega
theorem com_le_right : ∀ l t, com l t ≤ t.length
  | [], _ => by simp [com]
  | _ :: _, [] => by simp [com]
  | a :: l, b :: t => by
    have := com_le_right l t
    by_cases h : a = b <;> simp [com, h]; omega

/-- A string's bytes. -/
def bl (s : ByteArray) : List UInt8 := s.data.toList
theorem bl_length (s : ByteArray) : (bl s).length = s.size := data_length s
theorem bl_drop (s : ByteArray) (i : Nat) (h : i < s.size) : ∃ b : UInt8, (bl s).drop i = b :: (bl s).drop (i + 1) ∧ bt s (i : Int) = (b.toNat : Int) := by
  have h' : i < (bl s).length := by rw [bl_length]; exact h
  refine ⟨(bl s)[i], (List.drop_eq_getElem_cons h'), ?_⟩
  have := bt_at s (i : Int) (by simpa using h)
  rw [← this]
  simp [bl]
  rfl
theorem bt_ne {a b : UInt8} (h : a ≠ b) : ¬ ((a.toNat : Int) = (b.toNat : Int)) := fun e => h (UInt8.toNat.inj (by omega))
theorem wrap_id {i : Int} (h0 : -9223372036854775808 ≤ i) (h1 : i ≤ 9223372036854775807) : wrap64 i = i := by
  unfold wrap64
  omega
end Go.Proofs.YtfecfgimfjcbdaaDoor.Cf
