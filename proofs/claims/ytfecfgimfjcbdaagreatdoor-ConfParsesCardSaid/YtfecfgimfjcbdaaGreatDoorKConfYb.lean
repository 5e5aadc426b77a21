/- Plain: the reference's escapes and quoted texts are the program's. -/
import Derived.Test.YtfecfgimfjcbdaaGreatDoorKConfYa
namespace Go.Proofs.YtfecfgimfjcbdaaGreatDoor.Cf
open Go.RowKit Go.Proofs.YtfecfgimfjcbdaaGreatDoorW.PrintWords Go.Proofs.YtfecfgimfjcbdaaGreatDoorW.PrintLast Go.Proofs.YtfecfgimfjcbdaaGreatDoorW.PrintMore Go.Proofs.YtfecfgimfjcbdaaGreatDoor.QRParse

def prE : Option (Nat × Nat) → Int × Int
  | some (x, w) => ((w : Int), (x : Int))
  | none => (0, 0)
theorem el0_step (k : Nat) (s : ByteArray) (x1 x6 x7 : Int) : replicaref12_escape.l0 (k + 1) s x1 x6 x7 = if (wrap64 ((wrap64 (x1 + 3)) + x7)) < (s.size : Int) then (replicaref12_escape.j3 k s x1 x6 x7 (decide (x7 ≤ 6))) else (replicaref12_escape.j3 k s x1 x6 x7 false) := rfl
theorem ej3_step (k : Nat) (s : ByteArray) (x1 x6 x7 : Int) (b : Bool) : replicaref12_escape.j3 (k + 1) s x1 x6 x7 b = if b = true then (if 0 ≤ (wrap64 ((wrap64 (x1 + 3)) + x7)) then (if (wrap64 ((wrap64 (x1 + 3)) + x7)) < (s.size : Int) then ((replicaref12_scalar.f x6).bind fun t101 => (if (bt s (wrap64 ((wrap64 (x1 + 3)) + x7))) = 125 then (if x7 > 0 then (replicaref12_escape.j4 k s x1 x6 x7 (bt s (wrap64 ((wrap64 (x1 + 3)) + x7))) t101) else (replicaref12_escape.j4 k s x1 x6 x7 (bt s (wrap64 ((wrap64 (x1 + 3)) + x7))) false)) else (replicaref12_escape.j4 k s x1 x6 x7 (bt s (wrap64 ((wrap64 (x1 + 3)) + x7))) false))) else (none)) else (none)) else (some (0, 0)) := rfl
theorem ej4_step (k : Nat) (s : ByteArray) (x1 x6 x7 x8 : Int) (b : Bool) : replicaref12_escape.j4 (k + 1) s x1 x6 x7 x8 b = if b = true then (some (wrap64 (x7 + 4), x6)) else ((replicaref12_hexed.f k x8).bind fun t102 => (if t102 < 0 then (some (0, 0)) else (if x7 = 6 then (some (0, 0)) else (replicaref12_escape.l0 k s x1 (wrap64 ((wrap64 (16 * x6)) + t102)) (wrap64 (x7 + 1)))))) := rfl
theorem resc_l0 (s : ByteArray) (hs : s.size ≤ 10000) (i : Nat) : ∀ (d k kk n : Nat), kk + d = 7 → i + 3 + kk ≤ s.size → 4 * d + 8 ≤ k → n < 16 ^ kk → replicaref12_escape.l0 k s (i : Int) (n : Int) (kk : Int) = some (prE (escG ((bl s).drop (i + 3 + kk)) kk n))
  | 0, k, kk, n, hd, hi, hk, hn => by
    have hkk : kk = 7 := by omega
    subst hkk
    obtain ⟨k, rfl⟩ : ∃ k', k = k' + 1 + 1 := ⟨k - 2, by omega⟩
    have e0 : escG ((bl s).drop (i + 3 + 7)) 7 n = none := by
      cases (bl s).drop (i + 3 + 7) with
      | nil => rfl
      | cons c t => rfl
    rw [e0, el0_step, show wrap64 ((i : Int) + 3) = ((i + 3 : Nat) : Int) from w_at i 3 (by omega)]
    have : decide (((7 : Nat) : Int) ≤ 6) = false := by decide
    rw [this]
    split <;> rfl
  | d + 1, k, kk, n, hd, hi, hk, hn => by
    obtain ⟨k, rfl⟩ : ∃ k', k = k' + 4 + 1 + 1 + 1 := ⟨k - 7, by omega⟩
    have h16 : 16 ^ kk ≤ 16777216 := by
      have : 16 ^ kk ≤ 16 ^ 6 := Nat.pow_le_pow_right (by decide) (by omega)
      exact Nat.le_trans this (by decide)
    have hw : wrap64 ((wrap64 ((i : Int) + 3)) + (kk : Int)) = ((i + 3 + kk : Nat) : Int) := by
      rw [show wrap64 ((i : Int) + 3) = ((i + 3 : Nat) : Int) from w_at i 3 (by omega)]
      exact w_at (i + 3) kk (by omega)
    rw [el0_step, hw]
    by_cases hlt : i + 3 + kk < s.size
    · obtain ⟨c, hc, hb⟩ := bl_drop s (i + 3 + kk) hlt
      have hc256 := UInt8.toNat_lt c
      rw [if_pos (by omega), ej3_step, hw, decide_eq_true (show (kk : Int) ≤ 6 by omega), if_pos rfl, if_pos (by omega), if_pos (by omega), rscalar, Option.bind_some, hb, hc]
      simp only [escG]
      rw [if_pos (show kk ≤ 6 by omega)]
      have go : ∀ b : Bool, b = false → c = 125 ∨ True → (c = 125 → ¬ (0 < kk ∧ vR n = true)) → replicaref12_escape.j4 (k + 4 + 1) s i n kk c.toNat b = some (prE (if c = 125 ∧ 0 < kk ∧ vR n = true then some (n, kk + 4) else match hexV c.toNat with | none => none | some d => if kk = 6 then none else escG ((bl s).drop (i + 3 + kk + 1)) (kk + 1) (16 * n + d))) := by
        intro b hb0 _ hno
        rw [hb0, ej4_step, if_neg (by decide), if_neg (fun h => hno h.1 h.2), hexed_more k c.toNat hc256, Option.bind_some]
        cases hv : hexV c.toNat with
        | none => rfl
        | some v =>
          have hv16 := hexV_lt _ _ hv
          simp only
          rw [if_neg (by omega)]
          by_cases h6 : kk = 6
          · subst h6
            rfl
          · rw [if_neg (by omega), if_neg h6, wrap_at (i := 16 * (n : Int)) (by omega) (by omega), wrap_at (by omega) (by omega), show 16 * (n : Int) + (v : Int) = ((16 * n + v : Nat) : Int) by omega, w_1 kk (by omega)]
            rw [resc_l0 s hs i d (k + 4) (kk + 1) (16 * n + v) (by omega) (by omega) (by omega) (by rw [Nat.pow_succ]; omega)]
            rfl
      by_cases h125 : c = 125
      · have e125 : (c.toNat : Int) = 125 := by rw [h125]; rfl
        rw [if_pos e125]
        by_cases h0 : 0 < kk
        · rw [if_pos (by omega)]
          cases hv : vR n with
          | true =>
            rw [ej4_step, if_pos rfl, if_pos ⟨h125, h0, rfl⟩, wrap_at (by omega) (by omega)]
            simp only [prE]
            congr 1
          | false =>
            have := go false rfl (.inr trivial) (fun _ h => by rw [hv] at h; cases h.2)
            rw [hv] at this
            exact this
        · rw [if_neg (by omega)]
          exact go false rfl (.inr trivial) (fun _ h => h0 h.1)
      · rw [if_neg (fun h => h125 (UInt8.toNat.inj (by show c.toNat = 125; omega)))]
        exact go false rfl (.inr trivial) (fun h => absurd h h125)
    · rw [if_neg (by omega), ej3_step, if_neg (by decide), List.drop_eq_nil_of_le (by rw [bl_length]; omega)]
      rfl
theorem ej0_step (k : Nat) (s : ByteArray) (x1 x19 : Int) (b : Bool) : replicaref12_escape.j0 (k + 1) s x1 x19 b = if b = true then (if 0 ≤ (wrap64 (x1 + 1)) then (if (wrap64 (x1 + 1)) < (s.size : Int) then (some (2, wrap64 (bt s (wrap64 (x1 + 1))))) else (none)) else (none)) else (if x19 = 110 then (some (2, 10)) else (if x19 = 116 then (some (2, 9)) else (if x19 = 117 then (if (wrap64 (x1 + 2)) ≥ (s.size : Int) then (replicaref12_escape.j1 k s x1 true) else (if 0 ≤ (wrap64 (x1 + 2)) then (if (wrap64 (x1 + 2)) < (s.size : Int) then (replicaref12_escape.j1 k s x1 ((bt s (wrap64 (x1 + 2))) != 123)) else (none)) else (none))) else (some (0, 0))))) := rfl
theorem rescape (s : ByteArray) (hs : s.size ≤ 10000) (k i : Nat) (hi : i < s.size) (h92 : cA s i = 92) (hk : 50 ≤ k) : replicaref12_escape.f k s (i : Int) = some (prE (escS ((bl s).drop i))) := by
  obtain ⟨k, rfl⟩ : ∃ k', k = k' + 1 + 1 := ⟨k - 2, by omega⟩
  obtain ⟨c0, hc0, _⟩ := bl_drop s i hi
  have h0 : c0 = 92 := UInt8.toNat.inj (by rw [← at_cA hc0]; exact h92)
  unfold replicaref12_escape.f
  rw [w_1 i (by omega)]
  by_cases h1 : i + 1 < s.size
  · obtain ⟨c1, hc1, hb1⟩ := bl_drop s (i + 1) h1
    have hc256 := UInt8.toNat_lt c1
    rw [if_neg (by omega), if_pos (by omega), if_pos (by omega), hb1]
    have e1 : (if (c1.toNat : Int) = 34 then replicaref12_escape.j0 (k + 1 + 1) s i c1.toNat ((c1.toNat : Int) == 34) else replicaref12_escape.j0 (k + 1 + 1) s i c1.toNat ((c1.toNat : Int) == 92)) = replicaref12_escape.j0 (k + 1 + 1) s i c1.toNat (decide (c1.toNat = 34 ∨ c1.toNat = 92)) := by
      by_cases h34 : c1.toNat = 34
      · rw [if_pos (by omega), decide_eq_true (.inl h34), h34]
        rfl
      · rw [if_neg (by omega)]
        by_cases h92' : c1.toNat = 92
        · rw [decide_eq_true (.inr h92'), h92']
          rfl
        · rw [decide_eq_false (by omega), show ((c1.toNat : Int) == 92) = false from beq_eq_false_iff_ne.2 (by omega)]
    rw [e1, ej0_step, w_1 i (by omega), hb1, hc0, hc1]
    simp only [escS]
    by_cases hq : c1.toNat = 34 ∨ c1.toNat = 92
    · rw [decide_eq_true hq, if_pos rfl, if_pos (by omega), if_pos (by omega), if_pos hq, wrap_at (by omega) (by omega)]
      rfl
    · rw [decide_eq_false hq, if_neg (by decide), if_neg hq]
      by_cases hn : c1.toNat = 110
      · rw [if_pos (by omega), if_pos hn]; rfl
      · rw [if_neg (by omega), if_neg hn]
        by_cases ht : c1.toNat = 116
        · rw [if_pos (by omega), if_pos ht]; rfl
        · rw [if_neg (by omega), if_neg ht]
          by_cases hu : c1.toNat = 117
          · rw [if_pos (by omega), if_pos hu, show wrap64 ((i : Int) + 2) = ((i + 2 : Nat) : Int) from w_at i 2 (by omega), numS_G c0 c1 _ h0 (UInt8.toNat.inj hu)]
            by_cases h2 : i + 2 < s.size
            · obtain ⟨c2, hc2, hb2⟩ := bl_drop s (i + 2) h2
              rw [if_neg (by omega), if_pos (by omega), if_pos (by omega), hb2, show i + 1 + 1 = i + 2 by omega, hc2]
              simp only [replicaref12_escape.j1]
              by_cases h123 : c2 = 123
              · subst h123
                rw [if_neg (by decide), if_pos rfl]
                have := resc_l0 s hs i 7 k 0 0 (by omega) (by omega) (by omega) (by decide)
                rw [show i + 3 + 0 = i + 2 + 1 by omega] at this
                exact this
              · rw [if_pos (bne_iff_ne.2 (fun h => h123 (UInt8.toNat.inj (by show c2.toNat = 123; omega)))), if_neg h123]
                rfl
            · rw [if_pos (by omega), show i + 1 + 1 = i + 2 by omega, List.drop_eq_nil_of_le (by rw [bl_length]; omega)]
              rfl
          · rw [if_neg (by omega), if_neg hu]
            rfl
  · rw [if_pos (by omega), hc0, List.drop_eq_nil_of_le (by rw [bl_length]; omega)]
    rfl
end Go.Proofs.YtfecfgimfjcbdaaGreatDoor.Cf
