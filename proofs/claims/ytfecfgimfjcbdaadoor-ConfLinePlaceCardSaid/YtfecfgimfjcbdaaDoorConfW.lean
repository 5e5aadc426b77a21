/- Status and ParseStatus: bounds of what is read. -/
import Derived.Test.YtfecfgimfjcbdaaDoorConfY
namespace Go.Proofs.YtfecfgimfjcbdaaDoor.Cf
open Go.RowKit Go.Proofs.YtfecfgimfjcbdaaDoorW.PrintWords

def InI (x : Int) : Prop := 0 ≤ x ∧ x ≤ 9223372036854775807
theorem runs_in : ∀ (ts : List (ByteArray × Option (List ByteArray) × Int)) (s : List UInt8) (n j : Nat) (xs : List Int), (∀ t ∈ ts, t ∈ cTab) → n ≤ s.length → (∀ x ∈ xs, InI x) →
    (runI s ts n j xs).1 ≤ s.length ∧ n ≤ (runI s ts n j xs).1 ∧ ∀ ys, (runI s ts n j xs).2 = some ys → ys.length = xs.length ∧ ∀ y ∈ ys, InI y
  | [], s, n, j, xs, _, hn, hx => by
    refine ⟨hn, Nat.le_refl _, fun ys h => ?_⟩
    obtain rfl := Option.some.inj h
    exact ⟨rfl, hx⟩
  | t :: ts, s, n, j, xs, ht, hn, hx => by
    obtain ⟨i, hi⟩ := List.mem_iff_getElem?.1 (ht t (List.mem_cons_self ..))
    obtain ⟨h1, h2, h3⟩ := stepI_le (s.drop n) i t hi
    have htl := (cTab_facts i t hi).2.1
    rw [List.length_drop] at h1
    simp only [runI]
    split
    · obtain ⟨a, b, c⟩ := runs_in ts s (n + (stepI (s.drop n) t).1) (j + 1) (xs.set j ((stepI (s.drop n) t).2.2 + t.2.2)) (fun t h => ht t (List.mem_cons_of_mem _ h)) (by omega) (fun x h => by
        rcases List.mem_or_eq_of_mem_set h with h | rfl
        · exact hx x h
        · exact ⟨by omega, h3⟩)
      refine ⟨a, by omega, fun ys h => ?_⟩
      obtain ⟨c1, c2⟩ := c ys h
      exact ⟨by rw [c1, List.length_set], c2⟩
    · exact ⟨by simp only; omega, by simp only; omega, fun ys h => by cases h⟩
theorem stat_in (s : List UInt8) : (statI s).1.length = 15 ∧ (∀ x ∈ (statI s).1, InI x) ∧ (statI s).2.1 ≤ s.length := by
  have h := runs_in cTab s 0 0 (List.replicate 15 0) (fun _ h => h) (Nat.zero_le _) (fun x hx => by
    obtain rfl := (List.mem_replicate.1 hx).2
    exact ⟨by decide, by decide⟩)
  have hz : (List.replicate 15 (0 : Int)).length = 15 ∧ ∀ x ∈ List.replicate 15 (0 : Int), InI x := ⟨by simp, fun x hx => by
    obtain rfl := (List.mem_replicate.1 hx).2
    exact ⟨by decide, by decide⟩⟩
  unfold statI
  generalize runI s cTab 0 0 (List.replicate 15 0) = r at *
  obtain ⟨n, _ | ys⟩ := r
  · exact ⟨hz.1, hz.2, h.1⟩
  · simp only
    obtain ⟨c1, c2⟩ := h.2.2 ys rfl
    split
    · exact ⟨hz.1, hz.2, h.1⟩
    · exact ⟨c1.trans hz.1, c2, Nat.zero_le _⟩
end Go.Proofs.YtfecfgimfjcbdaaDoor.Cf
