/- The plain law of Status: the program's way and the document's way of writing come to the same. -/
import Derived.Test.YtfecfgimfjcbdaaDoorConfU
namespace Go.Proofs.YtfecfgimfjcbdaaDoor.Cf
open Go.RowKit Go.Proofs.YtfecfgimfjcbdaaDoorW.PrintWords

def partU (t : ByteArray × Option (List ByteArray) × Int) : Pt :=
  match t.2.1 with
  | some ws => .words ws
  | none => .num
theorem wr_same (t : ByteArray × Option (List ByteArray) × Int) (h : t.2.1 = none → t.2.2 = 0) (m : Int) : wrI t m = (wrR (partU t) (m - t.2.2)).map (bl t.1 ++ ·) := by
  obtain ⟨ta, two, tl⟩ := t
  cases two with
  | none =>
    have h0 : tl = 0 := h rfl
    subst h0
    simp only [wrI, wrR, partU, Int.sub_zero]
    split <;> rfl
  | some ws =>
    simp only [wrI, wrR, partU]
    by_cases hc : tl ≤ m ∧ m - tl < ws.length
    · rw [if_pos hc, if_pos ⟨by omega, hc.2⟩]
      rfl
    · rw [if_neg hc, if_neg (fun k => hc ⟨by omega, k.2⟩)]
      rfl
theorem outs_same : ∀ (ts : List (ByteArray × Option (List ByteArray) × Int)) (ms : List Int) (l : List UInt8), (∀ t ∈ ts, t.2.1 = none → t.2.2 = 0) → ms.length = ts.length →
    outI ts ms l = outR (ts.flatMap fun t => [.lit t.1, partU t]) (List.zipWith (fun t m => m - t.2.2) ts ms) l
  | [], ms, l, _, _ => by cases ms <;> rfl
  | t :: ts, [], l, _, h => by cases h
  | t :: ts, m :: ms, l, ht, h => by
    have ih := fun l' => outs_same ts ms l' (fun x hx => ht x (List.mem_cons_of_mem _ hx)) (by simpa using h)
    have e : outR ((t :: ts).flatMap fun t => [.lit t.1, partU t]) (List.zipWith (fun t m => m - t.2.2) (t :: ts) (m :: ms)) l = (wrR (partU t) (m - t.2.2)).bind fun x => outR (ts.flatMap fun t => [.lit t.1, partU t]) (List.zipWith (fun t m => m - t.2.2) ts ms) (l ++ bl t.1 ++ x) := by
      obtain ⟨ta, two, tl⟩ := t
      cases two <;> rfl
    rw [e]
    show (wrI t m).bind _ = _
    rw [wr_same t (ht t (List.mem_cons_self ..)) m]
    cases wrR (partU t) (m - t.2.2) with
    | none => rfl
    | some x =>
      simp only [Option.map_some, Option.bind_some]
      rw [ih, List.append_assoc]
theorem rTab_of : rTab = cTab.flatMap fun t => [.lit t.1, partU t] := rfl
theorem cTab_zero : ∀ t ∈ cTab, t.2.1 = none → t.2.2 = 0 := by
  intro t ht h
  obtain ⟨i, hi, rfl⟩ := List.getElem_of_mem ht
  have := (cTab_facts i _ (List.getElem?_eq_getElem hi)).2.2.2
  rw [h] at this
  exact this
theorem bind_no {α β : Type} {o : Option α} {f : α → Option β} (h : ∀ x, f x = none) : o.bind f = none := by
  cases o with
  | none => rfl
  | some a => exact h a

theorem line_same (xs : List Int) (hx : xs.length = 15) : lineI xs = lineR xs := by
  have h := outs_same cTab xs [] cTab_zero hx
  rw [← rTab_of] at h
  obtain ⟨x0, x1, x2, x3, x4, x5, x6, x7, x8, x9, x10, x11, x12, x13, x14, rfl⟩ := fifteen' hx
  have hz : List.zipWith (fun (t : ByteArray × Option (List ByteArray) × Int) m => m - t.2.2) cTab [x0, x1, x2, x3, x4, x5, x6, x7, x8, x9, x10, x11, x12, x13, x14] = [x0, x1, x2, x3, x4, x5 - 1, x6, x7, x8, x9, x10, x11, x12, x13, x14] := by
    simp [cTab]
  rw [hz] at h
  unfold lineI lineR
  rw [h]
  by_cases hp : x5 < 1
  · rw [if_pos (show [x0, x1, x2, x3, x4, x5, x6, x7, x8, x9, x10, x11, x12, x13, x14].getD 5 0 < 1 from hp)]
    have hn : outR rTab [x0, x1, x2, x3, x4, x5 - 1, x6, x7, x8, x9, x10, x11, x12, x13, x14] [] = none := by
      refine bind_no fun y0 => bind_no fun y1 => bind_no fun y2 => bind_no fun y3 => bind_no fun y4 => ?_
      show (wrR (.words cProt) (x5 - 1)).bind _ = none
      have : wrR (.words cProt) (x5 - 1) = none := by unfold wrR; simp only; rw [if_neg (fun h => by omega)]
      rw [this]
      rfl
    rw [hn]
  · rw [if_neg (show ¬ [x0, x1, x2, x3, x4, x5, x6, x7, x8, x9, x10, x11, x12, x13, x14].getD 5 0 < 1 from hp)]
    rfl
end Go.Proofs.YtfecfgimfjcbdaaDoor.Cf
