/- The reading of a status line, in plain words: the program's way, piece by piece. -/
import Derived.Test.YtfecfgimfjcbdaaDoorConfF
namespace Go.Proofs.YtfecfgimfjcbdaaDoor.Cf
open Go.RowKit Go.Proofs.YtfecfgimfjcbdaaDoorW.PrintWords

/-- One piece at l's beginning: how many bytes, whether it is whole, its value (before 'least' is added). -/
def stepI (l : List UInt8) (t : ByteArray × Option (List ByteArray) × Int) : Nat × Bool × Int :=
  if com l (bl t.1) = t.1.size then
    match t.2.1 with
    | none => (t.1.size + (nm (l.drop t.1.size) 0 0).1, nok (nm (l.drop t.1.size) 0 0), nval (nm (l.drop t.1.size) 0 0))
    | some ws => (t.1.size + (pick (l.drop t.1.size) ws 0 0).1, (pick (l.drop t.1.size) ws 0 0).2.isSome, (((pick (l.drop t.1.size) ws 0 0).2.getD 0 : Nat) : Int))
  else (com l (bl t.1), false, 0)

/-- From place n on, j pieces having been read: the status' fields, the place, whether all is read. -/
def runI (s : List UInt8) : List (ByteArray × Option (List ByteArray) × Int) → Nat → Nat → List Int → Nat × Option (List Int)
  | [], n, _, xs => (n, some xs)
  | t :: ts, n, j, xs => if (stepI (s.drop n) t).2.1 = true then runI s ts (n + (stepI (s.drop n) t).1) (j + 1) (xs.set j ((stepI (s.drop n) t).2.2 + t.2.2)) else (n + (stepI (s.drop n) t).1, none)

/-- What ParseStatus answers: the fields, the place, the error. -/
def statI (s : List UInt8) : List Int × Nat × Int :=
  match runI s cTab 0 0 (List.replicate 15 0) with
  | (n, none) => (List.replicate 15 0, n, 126)
  | (n, some xs) => if n < s.length then (List.replicate 15 0, n, 126) else (xs, 0, 0)

theorem pick_le : ∀ (l : List UInt8) (ws : List ByteArray) (j far : Nat), far ≤ l.length → (pick l ws j far).1 ≤ l.length ∧ (pick l ws j far).2.getD 0 ≤ j + ws.length
  | l, [], j, far, h => by simp [pick, h]
  | l, x :: ws, j, far, h => by
    have hc := com_le_left l (bl x)
    simp only [pick]
    split
    · rename_i e
      simp only [List.length_cons, Option.getD_some]
      omega
    · have := pick_le l ws (j + 1) (max far (com l (bl x))) (by omega)
      simp only [List.length_cons]
      omega
theorem cTab_facts : ∀ (i : Nat) (t : ByteArray × Option (List ByteArray) × Int), cTab[i]? = some t → t.1.size ≤ 100 ∧ 0 ≤ t.2.2 ∧ t.2.2 ≤ 1 ∧ (match t.2.1 with | some ws => ws.length ≤ 1000 ∧ (∀ x ∈ ws, x.size ≤ 1125899906842624) | none => t.2.2 = 0) := by
  intro i t hi
  have hl : i < 15 := (List.getElem?_eq_some_iff.1 hi).1
  rcases i with _ | _ | _ | _ | _ | _ | _ | _ | _ | _ | _ | _ | _ | _ | _ | i
  case succ.succ.succ.succ.succ.succ.succ.succ.succ.succ.succ.succ.succ.succ.succ => omega
  all_goals
    obtain rfl := Option.some.inj hi
    refine ⟨by decide, by decide, by decide, ?_⟩
    first
      | rfl
      | exact ⟨by decide, by decide⟩
theorem nval_le (l : List UInt8) : 0 ≤ nval (nm l 0 0) ∧ nval (nm l 0 0) ≤ 9223372036854775807 := by
  have h := nm_lt l 0 0 (Nat.zero_le _)
  rw [MX_eq] at h
  unfold nval
  split <;> omega
theorem stepI_le (l : List UInt8) (i : Nat) (t : ByteArray × Option (List ByteArray) × Int) (ht : cTab[i]? = some t) : (stepI l t).1 ≤ l.length ∧ 0 ≤ (stepI l t).2.2 ∧ (stepI l t).2.2 + t.2.2 ≤ 9223372036854775807 := by
  obtain ⟨h1, h2, h3, h4⟩ := cTab_facts i t ht
  have hc := com_le_left l (bl t.1)
  unfold stepI
  split
  · rename_i e
    cases hw : t.2.1 with
    | none =>
      rw [hw] at h4
      have a := nm_ge (l.drop t.1.size) 0 0
      have b := nval_le (l.drop t.1.size)
      simp only [List.length_drop] at *
      omega
    | some ws =>
      rw [hw] at h4
      have a := pick_le (l.drop t.1.size) ws 0 0 (Nat.zero_le _)
      simp only [List.length_drop] at *
      have := h4.1
      omega
  · exact ⟨hc, by simp, by simp; omega⟩
end Go.Proofs.YtfecfgimfjcbdaaDoor.Cf
