/- The reference's file: what it comes to (plain words). -/
import Derived.Test.YtfecfgimfjcbdaaGreatDoorKConfYn
namespace Go.Proofs.YtfecfgimfjcbdaaGreatDoor.Cf
open Go.RowKit Go.Proofs.YtfecfgimfjcbdaaGreatDoorW.PrintWords Go.Proofs.YtfecfgimfjcbdaaGreatDoorW.PrintLast Go.Proofs.YtfecfgimfjcbdaaGreatDoorW.PrintMore Go.Proofs.YtfecfgimfjcbdaaGreatDoor.QRParse

theorem skp_skp (s : ByteArray) (d : Nat) : ∀ p, p ≤ s.size → s.size - p = d → skp s (skp s p) = skp s p := by
  induction d using Nat.strongRecOn with
  | _ d ih =>
    intro p hp hd
    by_cases h : p < s.size
    · by_cases hb : blankC (cA s p) = true
      · rw [skp_blank s p h hb]
        exact ih (s.size - (p + 1)) (by omega) (p + 1) (by omega) rfl
      · by_cases h35 : cA s p = 35
        · have h1 := lineEnd_gt s p h h35
          have h2 := lineEnd_le s p hp
          rw [skp_note s p h h35]
          exact ih (s.size - lineEnd s p) (by omega) _ h2 rfl
        · rw [skp_stop s p h (by simpa using hb) h35, skp_stop s p h (by simpa using hb) h35]
    · rw [skp_end s p h, skp_end s p h]
theorem next_skp (s : ByteArray) (p : Nat) (hp : p ≤ s.size) : nextP s (skp s p) = nextP s p := by
  unfold nextP
  rw [skp_skp s _ p hp rfl]
theorem next_ok_skp {s : ByteArray} {p : Nat} {y : Nat × Nat × ByteArray × Nat} (h : nextP s p = .ok y) : skp s p < s.size := by
  by_cases hc : s.size ≤ skp s p
  · unfold nextP at h
    rw [if_pos hc] at h
    cases h
  · omega
/-- The last token. -/
def lastP (s : ByteArray) (p : Nat) : Option Nat := if skp s p < s.size then (match nextP s p with | .error a => some a | .ok t => some t.2.1) else none
theorem Pos.last {s : ByteArray} {L : List TkT} {n p : Nat} (h : Pos s L n p) : ∃ t : TkT, L[n]? = some t ∧ n < L.length ∧ match lastP s p with
    | some a => t.f0 ≠ 0 ∧ t.f1 = (a : Int)
    | none => t.f0 = 0 := by
  unfold lastP
  cases hn : nextP s p with
  | error a =>
    have hb := h.bad hn
    refine ⟨_, hb.1, hb.2, ?_⟩
    by_cases hc : skp s p < s.size
    · rw [if_pos hc]
      dsimp only
      rw [if_pos hc]
      exact ⟨by simp, rfl⟩
    · rw [if_neg hc]
      dsimp only
      rw [if_neg hc]
  | ok y =>
    obtain ⟨kd, a, x, q⟩ := y
    have hb := h.tok hn
    refine ⟨_, hb.1, hb.2.2, ?_⟩
    rw [if_pos (next_ok_skp hn)]
    exact ⟨by dsimp only; omega, rfl⟩
theorem endP_last (s nm : ByteArray) (y : Nat × List ByteArray × ByteArray × (Nat → Int) × Nat) (hp : y.2.2.2.2 ≤ s.size) : endP s nm y =
    (if (seen y.2.1 blkB && seen y.2.1 sizB) = false then .error (y.1, 125) else if togI y.2.2.2.1 = false then .error (y.1, 124) else match lastP s y.2.2.2.2 with
      | some a => .error (a, 121)
      | none => .ok (nm, y.2.2.1, y.2.2.2.1)) := by
  unfold endP lastP
  rw [next_skp s _ hp]
  split
  · rfl
  · split
    · rfl
    · split
      · cases nextP s y.2.2.2.2 <;> rfl
      · rfl
theorem kU_rE : ∀ i : Fin 16, i.val ≠ 1 → i.val ≠ 2 → kU i.val = rE i.val := by decide
theorem Vals.conf {v : FV} {sc : ByteArray} {k : Nat → Int} (h : Vals v sc k) (h1 : v.th 1 = true) (h2 : v.th 2 = true) (i : Nat) (hi : i < 16) : confK v i = k i := by
  unfold confK
  cases hth : v.th i with
  | true => rw [if_pos rfl]; exact h.yes i hi hth
  | false =>
    rw [if_neg (by simp), h.no i hi hth]
    exact (kU_rE ⟨i, hi⟩ (fun e => by subst e; rw [h1] at hth; cases hth) (fun e => by subst e; rw [h2] at hth; cases hth)).symm
theorem cfgC_cong (nm sc : ByteArray) {k l : Nat → Int} (h : ∀ i, i < 16 → k i = l i) : cfgC nm sc k = cfgC nm sc l := by
  simp only [cfgC, h 0 (by decide), h 1 (by decide), h 2 (by decide), h 3 (by decide), h 4 (by decide), h 5 (by decide), h 6 (by decide), h 7 (by decide), h 8 (by decide), h 9 (by decide), h 10 (by decide), h 11 (by decide), h 12 (by decide), h 13 (by decide), h 14 (by decide), h 15 (by decide)]
theorem rtog_any (nm sc : ByteArray) (k : Nat → Int) (w : World) : Calls Tryz.prog 30 #[.agg (cfgC nm sc k)] w fun e w' => e = .returned (.bool (togI k)) ∧ Below w.heap.size w w' :=
  replicaref12_together.calls nm (k 1) (k 2) (k 3) (k 0) (k 4) (k 5) (k 6) (k 7) (k 8) (k 9) sc (k 10) (k 11) (k 12) (k 13) (k 14) (k 15) _ w (rtog_f nm sc k)
theorem file_val (lv : Value) (v : FV) (bad pos : Int) : ∀ i, i < 35 → (fileC lv v bad pos)[2 + i]? = (valC v)[i]?
  | 0, _ => rfl
  | 1, _ => rfl
  | 2, _ => rfl
  | 3, _ => rfl
  | 4, _ => rfl
  | 5, _ => rfl
  | 6, _ => rfl
  | 7, _ => rfl
  | 8, _ => rfl
  | 9, _ => rfl
  | 10, _ => rfl
  | 11, _ => rfl
  | 12, _ => rfl
  | 13, _ => rfl
  | 14, _ => rfl
  | 15, _ => rfl
  | 16, _ => rfl
  | 17, _ => rfl
  | 18, _ => rfl
  | 19, _ => rfl
  | 20, _ => rfl
  | 21, _ => rfl
  | 22, _ => rfl
  | 23, _ => rfl
  | 24, _ => rfl
  | 25, _ => rfl
  | 26, _ => rfl
  | 27, _ => rfl
  | 28, _ => rfl
  | 29, _ => rfl
  | 30, _ => rfl
  | 31, _ => rfl
  | 32, _ => rfl
  | 33, _ => rfl
  | 34, _ => rfl
  | n + 35, h => by omega
/-- The File's values, as a range. -/
theorem file_range {w : World} {g : Nat} {lv : Value} {v : FV} {bad pos : Int} (h : FileAt w g lv v bad pos) : w.rangeAt g 2 (valC v).toList := fun i x hx => by
  refine (blk_cell h (2 + i)).trans ?_
  have hi : i < 35 := (List.getElem?_eq_some_iff.1 hx).1
  rw [Array.getElem?_toList] at hx
  rw [← hx]
  exact file_val lv v bad pos i hi
def FV.putN (v : FV) (x : ByteArray) : FV := { v with nm := x }
theorem RF.putN {w : World} {g : Nat} {lv : Value} {L : List TkT} {s : ByteArray} {v : FV} {p : Nat} (h : RF w g lv L s v p) (x : ByteArray) :
    RF (w.setCell ⟨g, 2, none⟩ (.string x)) g lv L s (v.putN x) p := by
  obtain ⟨⟨a, b, hf⟩, ht, hp⟩ := h
  exact ⟨⟨a, b, hf.set (bad' := a) (pos' := b) 2 _ rfl⟩, ht.ch ((Ch.refl [g] w).set (by simp) _ _), hp⟩
def v00 : FV := ⟨0, ⟨#[]⟩, ⟨#[]⟩, fun _ => 0, fun _ => false, false⟩
theorem v00_vals (v : FV) (h1 : v.sc = ⟨#[]⟩) (h2 : v.th = fun _ => false) : Vals v ⟨#[]⟩ kU := ⟨h1, fun i _ h => (by rw [h2] at h; cases h), fun _ _ _ => rfl⟩
theorem v00_pinv (v : FV) (h1 : v.st = false) (h2 : v.th = fun _ => false) : PInv v [] [] := ⟨fun i t _ y _ _ => by rw [h2], fun y _ _ => h1, by rw [h2]; rfl, by rw [h2]; rfl⟩
end Go.Proofs.YtfecfgimfjcbdaaGreatDoor.Cf
