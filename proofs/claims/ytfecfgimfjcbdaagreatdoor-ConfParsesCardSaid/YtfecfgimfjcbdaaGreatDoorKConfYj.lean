/- A section read by the reference: what its values say (plain words). -/
import Derived.Test.YtfecfgimfjcbdaaGreatDoorKConfYi
namespace Go.Proofs.YtfecfgimfjcbdaaGreatDoor.Cf
open Go.RowKit

theorem fIdx_key (sec nm : ByteArray) (i : Nat) : ∀ n j, fIdx sec nm n j = some i → ∃ t, kTab[i]? = some t ∧ t.1.toList = sec.toList ∧ t.2.1.toList = nm.toList
  | 0, _, h => by simp [fIdx] at h
  | n + 1, j, h => by
    simp only [fIdx] at h
    cases hk : kTab[j]? with
    | none => rw [hk] at h; cases h
    | some t =>
      rw [hk] at h
      dsimp only at h
      by_cases hc : t.1.toList = sec.toList ∧ t.2.1.toList = nm.toList
      · rw [if_pos hc] at h
        cases h
        exact ⟨t, hk, hc⟩
      · rw [if_neg hc] at h
        exact fIdx_key sec nm i n (j + 1) h
theorem find_key {sec nm : ByteArray} {i : Nat} (h : findP sec nm = some (some i)) : ∃ t, kTab[i]? = some t ∧ t.1.toList = sec.toList ∧ t.2.1.toList = nm.toList := by
  unfold findP at h
  split at h
  · cases h
  · cases hf : fIdx sec nm 16 0 with
    | none => rw [hf] at h; cases h
    | some j =>
      rw [hf] at h
      cases h
      exact fIdx_key sec nm _ 16 0 hf
theorem find_sec {sec nm : ByteArray} (h : findP sec nm = some none) : sec.toList = netB ∧ nm.toList = secB := by
  unfold findP at h
  split at h
  · assumption
  · cases hf : fIdx sec nm 16 0 with
    | none => rw [hf] at h; cases h
    | some j => rw [hf] at h; cases h
theorem keys_differ : ∀ i j : Fin 16, bl (kTab[i.val]'(by have := i.isLt; exact this)).1 = bl (kTab[j.val]'(by have := j.isLt; exact this)).1 → bl (kTab[i.val]'(by have := i.isLt; exact this)).2.1 = bl (kTab[j.val]'(by have := j.isLt; exact this)).2.1 → i = j := by decide +kernel
theorem keys_nosec : ∀ i : Fin 16, bl (kTab[i.val]'(by have := i.isLt; exact this)).2.1 ≠ secB := by decide +kernel
theorem keys_one {i j : Nat} {t u : KeyT} (ht : kTab[i]? = some t) (hu : kTab[j]? = some u) (h1 : t.1.toList = u.1.toList) (h2 : t.2.1.toList = u.2.1.toList) : i = j := by
  obtain ⟨hi, rfl⟩ := List.getElem?_eq_some_iff.1 ht
  obtain ⟨hj, rfl⟩ := List.getElem?_eq_some_iff.1 hu
  rw [toList_blN, toList_blN] at h1 h2
  have := keys_differ ⟨i, hi⟩ ⟨j, hj⟩ h1 h2
  exact congrArg Fin.val this
theorem key_nosec {i : Nat} {t : KeyT} (ht : kTab[i]? = some t) : t.2.1.toList ≠ secB := by
  obtain ⟨hi, rfl⟩ := List.getElem?_eq_some_iff.1 ht
  rw [toList_blN]
  exact keys_nosec ⟨i, hi⟩
theorem seen_cons (L : List ByteArray) (x y : ByteArray) : seen (y :: L) x = ((y.toList == x.toList) || seen L x) := by simp [seen]
theorem seen_cong {L : List ByteArray} {x y : ByteArray} (h : x.toList = y.toList) : seen L x = seen L y := by simp [seen, h]
/-- What the reference has so far is what the program has. -/
structure Vals (v : FV) (sc : ByteArray) (k : Nat → Int) : Prop where
  sc : v.sc = sc
  yes : ∀ i, i < 16 → v.th i = true → v.is i = k i
  no : ∀ i, i < 16 → v.th i = false → k i = kU i
/-- Which keys of section sec were there. -/
structure Sec (v : FV) (sec : ByteArray) (L : List ByteArray) : Prop where
  key : ∀ i t, kTab[i]? = some t → t.1.toList = sec.toList → v.th i = seen L t.2.1
  sec : sec.toList = netB → ∀ x : ByteArray, x.toList = secB → v.st = seen L x
/-- The other sections are as they were. -/
structure Oth (v v' : FV) (sec : ByteArray) : Prop where
  nm : v'.nm = v.nm
  key : ∀ i t, kTab[i]? = some t → t.1.toList ≠ sec.toList → v'.th i = v.th i
  sec : sec.toList ≠ netB → v'.st = v.st
theorem Oth.refl (v : FV) (sec : ByteArray) : Oth v v sec := ⟨rfl, fun _ _ _ _ => rfl, fun _ => rfl⟩
theorem Oth.trans {a b c : FV} {sec : ByteArray} (h : Oth a b sec) (k : Oth b c sec) : Oth a c sec := ⟨k.nm.trans h.nm, fun i t ht hs => (k.key i t ht hs).trans (h.key i t ht hs), fun hs => (k.sec hs).trans (h.sec hs)⟩
theorem Vals.nx {v : FV} {sc : ByteArray} {k : Nat → Int} (h : Vals v sc k) : Vals v.nx sc k := ⟨h.sc, h.yes, h.no⟩
theorem Sec.nx {v : FV} {sec : ByteArray} {L : List ByteArray} (h : Sec v sec L) : Sec v.nx sec L := ⟨h.key, h.sec⟩
theorem Oth.nx {v v' : FV} {sec : ByteArray} (h : Oth v v' sec) : Oth v v'.nx sec := ⟨h.nm, h.key, h.sec⟩
/-- What a value read leaves. -/
theorem value_put {s : ByteArray} {p : Nat} {key : Option Nat} {sc : ByteArray} {k : Nat → Int} {y : ByteArray × (Nat → Int) × Nat} (h : valueP s p key sc k = .ok y) :
    match key with
    | none => y.2.1 = k
    | some i => y.1 = sc ∧ y.2.1 = setK k i (y.2.1 i) := by
  unfold valueP at h
  cases hn : nextP s p with
  | error a => rw [hn] at h; cases h
  | ok z =>
    obtain ⟨kd, a, x, q⟩ := z
    rw [hn] at h
    dsimp only at h
    split at h
    · cases h
    · cases key with
      | none =>
        dsimp only at h ⊢
        split at h
        · cases h
        · split at h
          · cases h
          · cases h; rfl
      | some i =>
        dsimp only at h ⊢
        split at h
        · split at h
          · split at h
            · cases h
            · cases h
              exact ⟨rfl, by funext j; simp only [setK]; split <;> simp⟩
          · cases h
        · cases h
theorem Vals.put {v : FV} {sc : ByteArray} {k : Nat → Int} (h : Vals v sc k) {s : ByteArray} {p : Nat} {key : Option Nat} {y : ByteArray × (Nat → Int) × Nat} (hv : valueP s p key sc k = .ok y) (hk : ∀ i, key = some i → i < 16) : Vals (v.put key y.1 y.2.1) y.1 y.2.1 := by
  have hp := value_put hv
  cases key with
  | none =>
    dsimp only at hp
    rw [hp]
    exact ⟨rfl, h.yes, h.no⟩
  | some i =>
    obtain ⟨h1, h2⟩ := hp
    refine ⟨h.sc.trans h1.symm, fun j hj hth => ?_, fun j hj hth => ?_⟩
    · show (if j = i then y.2.1 i else v.is j) = y.2.1 j
      by_cases e : j = i
      · rw [if_pos e, e]
      · rw [if_neg e, h2]
        have ht : (if j = i then true else v.th j) = true := hth
        rw [if_neg e] at ht
        simp only [setK, if_neg e]
        exact h.yes j hj ht
    · have ht : (if j = i then true else v.th j) = false := hth
      by_cases e : j = i
      · rw [if_pos e] at ht; cases ht
      · rw [if_neg e] at ht
        rw [h2]
        simp only [setK, if_neg e]
        exact h.no j hj ht
theorem Sec.put {v : FV} {sec x : ByteArray} {L : List ByteArray} (h : Sec v sec L) {key : Option Nat} (hf : findP sec x = some key) (sc : ByteArray) (k : Nat → Int) : Sec (v.put key sc k) sec (x :: L) := by
  cases key with
  | none =>
    obtain ⟨h1, h2⟩ := find_sec hf
    refine ⟨fun i t ht hs => ?_, fun _ y hy => ?_⟩
    · rw [seen_cons, show (x.toList == t.2.1.toList) = false from beq_eq_false_iff_ne.2 (fun e => key_nosec ht (e.symm.trans h2)), Bool.false_or]
      exact h.key i t ht hs
    · rw [seen_cons, show (x.toList == y.toList) = true from beq_iff_eq.2 (h2.trans hy.symm), Bool.true_or]
      rfl
  | some i =>
    obtain ⟨u, hu, h1, h2⟩ := find_key hf
    refine ⟨fun j t ht hs => ?_, fun hn y hy => ?_⟩
    · show (if j = i then true else v.th j) = _
      rw [seen_cons]
      by_cases e : j = i
      · subst e
        rw [hu] at ht
        cases ht
        rw [if_pos rfl, show (x.toList == u.2.1.toList) = true from beq_iff_eq.2 h2.symm, Bool.true_or]
      · rw [if_neg e, show (x.toList == t.2.1.toList) = false from beq_eq_false_iff_ne.2 (fun e' => e (keys_one ht hu (hs.trans h1.symm) (e'.symm.trans h2.symm))), Bool.false_or]
        exact h.key j t ht hs
    · rw [seen_cons, show (x.toList == y.toList) = false from beq_eq_false_iff_ne.2 (fun e' => key_nosec hu (h2.trans (e'.trans hy))), Bool.false_or]
      exact h.sec hn y hy
theorem Oth.put {v v' : FV} {sec x : ByteArray} (h : Oth v v' sec) {key : Option Nat} (hf : findP sec x = some key) (sc : ByteArray) (k : Nat → Int) : Oth v (v'.put key sc k) sec := by
  cases key with
  | none =>
    obtain ⟨h1, h2⟩ := find_sec hf
    exact ⟨h.nm, h.key, fun hs => absurd h1 hs⟩
  | some i =>
    obtain ⟨u, hu, h1, h2⟩ := find_key hf
    refine ⟨h.nm, fun j t ht hs => ?_, h.sec⟩
    show (if j = i then true else v'.th j) = _
    rw [if_neg (fun e => by subst e; rw [hu] at ht; cases ht; exact hs h1)]
    exact h.key j t ht hs
/-- Was it there already? -/
theorem Sec.there {v : FV} {sec x : ByteArray} {L : List ByteArray} (h : Sec v sec L) {key : Option Nat} (hf : findP sec x = some key) : seen L x = (match key with | none => v.st | some i => v.th i) := by
  cases key with
  | none =>
    obtain ⟨h1, h2⟩ := find_sec hf
    exact (h.sec h1 x h2).symm
  | some i =>
    obtain ⟨u, hu, h1, h2⟩ := find_key hf
    dsimp only
    rw [h.key i u hu h1]
    exact seen_cong h2.symm
end Go.Proofs.YtfecfgimfjcbdaaGreatDoor.Cf
