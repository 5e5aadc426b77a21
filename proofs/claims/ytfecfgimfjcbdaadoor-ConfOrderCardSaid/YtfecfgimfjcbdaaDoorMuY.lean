/- Plain: the text that ConfOrder makes of a printed resource's lines; how long it is. -/
import Derived.Test.YtfecfgimfjcbdaaDoorMfT
namespace Go.Proofs.YtfecfgimfjcbdaaDoor.Cf
open Go.RowKit Go.Proofs.YtfecfgimfjcbdaaDoorW.PrintWords

/-- A section among a printed resource's lines: its head's place, its name, its lines. -/
structure SecAt (ls : List ByteArray) (i : Nat) (nm : ByteArray) (body : List (List UInt8)) : Prop where
  head : ∃ x, ls[i]? = some x ∧ bl x = lnH nm
  line : ∀ t, t < body.length → ∃ x, ls[i + 1 + t]? = some x ∧ bl x = body.getD t [] ∧ bl x ≠ lnC
  last : ∃ x, ls[i + 1 + body.length]? = some x ∧ bl x = lnC
  some : 1 ≤ body.length
  sub : ((ls.drop (i + 1)).take body.length).map bl = body
theorem at_of (ls : List ByteArray) (L : List (List UInt8)) (h : ls.map bl = L) (i : Nat) (y : List UInt8) (hy : L[i]? = some y) : ∃ x, ls[i]? = some x ∧ bl x = y := by
  subst h
  rw [List.getElem?_map] at hy
  cases hx : ls[i]? with
  | none => rw [hx] at hy; cases hy
  | some x =>
    rw [hx] at hy
    exact ⟨x, rfl, Option.some.inj hy⟩
theorem sec_of (ls : List ByteArray) (A body B : List (List UInt8)) (nm : ByteArray) (h : ls.map bl = A ++ lnH nm :: (body ++ lnC :: B)) (hne : ∀ l ∈ body, l ≠ lnC) (h1 : 1 ≤ body.length) : SecAt ls A.length nm body := by
  refine ⟨at_of ls _ h _ _ (by rw [List.getElem?_append_right (Nat.le_refl _), Nat.sub_self]; rfl), fun t ht => ?_, at_of ls _ h _ _ ?_, h1, ?_⟩
  · obtain ⟨x, hx, e⟩ := at_of ls _ h (A.length + 1 + t) (body.getD t []) (by
      rw [List.getElem?_append_right (by omega), show A.length + 1 + t - A.length = t + 1 by omega, List.getElem?_cons_succ, List.getElem?_append_left ht, List.getD_eq_getElem?_getD, List.getElem?_eq_getElem ht]
      rfl)
    refine ⟨x, hx, e, ?_⟩
    rw [e, List.getD_eq_getElem?_getD, List.getElem?_eq_getElem ht]
    exact hne _ (List.getElem_mem ht)
  · rw [List.getElem?_append_right (by omega), show A.length + 1 + body.length - A.length = body.length + 1 by omega, List.getElem?_cons_succ, List.getElem?_append_right (Nat.le_refl _), Nat.sub_self]
    rfl
  · rw [List.map_take, List.map_drop, h, ← List.drop_drop, List.drop_left, List.drop_succ_cons, List.drop_zero, List.take_left]
theorem ne_C (l : List UInt8) (h : l.getD 2 0 = 32) : l ≠ lnC := fun e => by
  rw [e] at h
  exact absurd h (by decide)
theorem lK_ne (k : Nat → Int) (i : Nat) : lK k i ≠ lnC := ne_C _ (by
  unfold lK lnK in4
  rfl)
theorem lnS_ne (sc : ByteArray) : lnS sc ≠ lnC := ne_C _ (by
  unfold lnS
  rfl)
theorem sec_dev (nm sc : ByteArray) (k : Nat → Int) (ls : List ByteArray) (h : ls.map bl = linesP nm sc k) : SecAt ls 2 devN (lnsDev k) :=
  sec_of ls [lnR nm, lnK k in2 0 (tE 0)] (lnsDev k) _ devN h (by
    intro l hl
    simp only [lnsDev, List.mem_cons, List.not_mem_nil, or_false] at hl
    rcases hl with rfl | rfl | rfl <;> exact lK_ne _ _) (by show 1 ≤ 3; decide)
theorem sec_net (nm sc : ByteArray) (k : Nat → Int) (ls : List ByteArray) (h : ls.map bl = linesP nm sc k) : SecAt ls 7 netN (lnsNet sc k) :=
  sec_of ls (lnR nm :: lnK k in2 0 (tE 0) :: lnH devN :: (lnsDev k ++ lnC :: [])) (lnsNet sc k) _ netN h (by
    intro l hl
    simp only [lnsNet, List.mem_cons, List.not_mem_nil, or_false] at hl
    rcases hl with rfl | rfl | rfl | rfl | rfl | rfl | rfl | rfl | rfl | rfl
    all_goals first | exact lK_ne _ _ | exact lnS_ne _) (by show 1 ≤ 10; decide)
theorem sec_syn (nm sc : ByteArray) (k : Nat → Int) (ls : List ByteArray) (h : ls.map bl = linesP nm sc k) : SecAt ls 19 synN (lnsSyn k) :=
  sec_of ls (lnR nm :: lnK k in2 0 (tE 0) :: lnH devN :: (lnsDev k ++ lnC :: lnH netN :: (lnsNet sc k ++ lnC :: []))) (lnsSyn k) _ synN h (by
    intro l hl
    simp only [lnsSyn, List.mem_cons, List.not_mem_nil, or_false] at hl
    rcases hl with rfl | rfl | rfl <;> exact lK_ne _ _) (by show 1 ≤ 3; decide)
/-- The r-th section's head's place, name and lines. -/
def sI (r : Nat) : Nat := if r = 0 then 2 else if r = 1 then 7 else if r = 2 then 19 else 24
def sN (r : Nat) : ByteArray := if r = 0 then devN else if r = 1 then netN else synN
def sB (sc : ByteArray) (k : Nat → Int) (r : Nat) : List (List UInt8) := if r = 0 then lnsDev k else if r = 1 then lnsNet sc k else lnsSyn k
theorem sec_at (nm sc : ByteArray) (k : Nat → Int) (ls : List ByteArray) (h : ls.map bl = linesP nm sc k) (r : Nat) (hr : r < 3) : SecAt ls (sI r) (sN r) (sB sc k r) ∧ sI r + 2 + (sB sc k r).length = sI (r + 1) ∧ sI (r + 1) ≤ 24 ∧ (sB sc k r).length ≤ 10 ∧ (sN r).size ≤ 6 := by
  rcases r with _ | _ | _ | r
  case succ.succ.succ => omega
  · exact ⟨sec_dev nm sc k ls h, rfl, by decide, by show 3 ≤ 10; decide, by decide⟩
  · exact ⟨sec_net nm sc k ls h, rfl, by decide, by show 10 ≤ 10; decide, by decide⟩
  · exact ⟨sec_syn nm sc k ls h, rfl, by decide, by show 3 ≤ 10; decide, by decide⟩
theorem SecAt.mem {ls : List ByteArray} {i : Nat} {nm : ByteArray} {body : List (List UInt8)} (h : SecAt ls i nm body) : ∀ l ∈ body, l ∈ ls.map bl := by
  intro l hl
  rw [← h.sub] at hl
  obtain ⟨x, hx, rfl⟩ := List.mem_map.1 hl
  exact List.mem_map_of_mem (List.mem_of_mem_drop (List.mem_of_mem_take hx))
theorem part_step (sc : ByteArray) (k : Nat → Int) (q : Int) (r : Nat) (hr : r < 3) : (partTx sc k q).take (r + 2) = (partTx sc k q).take (r + 1) ++ [secTx (sN r) (turnedL (sB sc k r) q)] := by
  rcases r with _ | _ | _ | r
  case succ.succ.succ => omega
  all_goals rfl
theorem join_perm {a b : List (List UInt8)} (h : a.Perm b) : (joinN a).length = (joinN b).length := by
  unfold joinN
  induction h with
  | nil => rfl
  | cons x _ ih => simp only [List.flatMap_cons, List.length_append, ih]
  | swap x y l => simp only [List.flatMap_cons, List.length_append]; omega
  | trans _ _ ih1 ih2 => exact ih1.trans ih2
theorem join_cons (a : List UInt8) (b : List (List UInt8)) : (joinN (a :: b)).length = a.length + 1 + (joinN b).length := by
  unfold joinN
  rw [List.flatMap_cons, List.length_append, List.length_append]
  rfl
theorem join_two (a b : List (List UInt8)) : (joinN (a ++ b)).length = (joinN a).length + (joinN b).length := by
  unfold joinN
  rw [List.flatMap_append, List.length_append]
theorem sec_len (nm : ByteArray) (l : List (List UInt8)) (q : Int) : (secTx nm (turnedL l q)).length = (lnH nm).length + (joinN l).length + 2 := by
  unfold secTx
  simp only [List.length_append, List.length_cons, List.length_nil]
  rw [join_perm (turned_perm l q)]
  omega
theorem order_len (nm sc : ByteArray) (k : Nat → Int) (q q7 : Int) : (orderL nm sc k q q7).length ≤ (printL nm sc k).length := by
  rw [printL_lines]
  unfold orderL linesP
  simp only [List.length_append, List.length_cons, List.length_nil]
  rw [join_perm (turned_perm _ q7)]
  unfold partTx
  simp only [join_cons, join_two, sec_len]
  rw [show joinN [] = [] from rfl, show lnC.length = 3 from rfl]
  simp only [List.length_cons, List.length_nil]
  omega
theorem join_take (l : List (List UInt8)) (t : Nat) (x : List UInt8) (h : l[t]? = some x) : joinN (l.take (t + 1)) = joinN (l.take t) ++ (x ++ [10]) := by
  rw [List.take_add_one, h, Option.toList_some]
  unfold joinN
  rw [List.flatMap_append, List.flatMap_cons, List.flatMap_nil, List.append_nil]
theorem line_le (nm sc : ByteArray) (k : Nat → Int) (h : (printL nm sc k).length ≤ 4000) : ∀ l ∈ linesP nm sc k, l.length ≤ 4000 := by
  intro l hl
  have h2 : l.length ≤ (joinN (linesP nm sc k)).length := by
    obtain ⟨a, b, e⟩ := List.append_of_mem hl
    rw [e]
    unfold joinN
    rw [List.flatMap_append, List.flatMap_cons, List.length_append, List.length_append, List.length_append]
    omega
  rw [← printL_lines] at h2
  omega
end Go.Proofs.YtfecfgimfjcbdaaDoor.Cf
