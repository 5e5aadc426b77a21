/- conf.Parse, walked: of the texts ConfA .. ConfNn what it leans on. -/
import Derived.Test.YtfecfgimfjcbdaaGreatDoorKConfZe
namespace Go.Proofs.YtfecfgimfjcbdaaGreatDoor.Cf
open Go.RowKit Go.Proofs.YtfecfgimfjcbdaaGreatDoorW.PrintWords Go.Proofs.YtfecfgimfjcbdaaGreatDoorW.PrintLast Go.Proofs.YtfecfgimfjcbdaaGreatDoorW.PrintMore Go.Proofs.YtfecfgimfjcbdaaGreatDoor.QCParse

theorem skipP_more (s : ByteArray) : ∀ (f g p : Nat), s.size < p + f → f ≤ g → p ≤ s.size → skipP s g p = skipP s f p
  | 0, g, p, hf, _, hp => by omega
  | f + 1, g, p, hf, hg, hp => by
    obtain ⟨g, rfl⟩ : ∃ g', g = g' + 1 := ⟨g - 1, by omega⟩
    rw [skipP_step, skipP_step]
    split
    · rename_i hlt
      split
      · exact skipP_more s f g (p + 1) (by omega) (by omega) (by omega)
      · split
        · rename_i h35
          have h1 := lineEnd_gt s p hlt h35
          have h2 := lineEnd_le s p hp
          exact skipP_more s f g _ (by omega) (by omega) h2
        · rfl
    · rfl
theorem skp_blank (s : ByteArray) (p : Nat) (h : p < s.size) (hb : blankC (cA s p) = true) : skp s p = skp s (p + 1) := by
  unfold skp
  rw [skipP_step, if_pos h, if_pos hb]
  exact (skipP_more s s.size (s.size + 1) (p + 1) (by omega) (by omega) (by omega)).symm
theorem skp_note (s : ByteArray) (p : Nat) (h : p < s.size) (hb : cA s p = 35) : skp s p = skp s (lineEnd s p) := by
  unfold skp
  have h1 := lineEnd_gt s p h hb
  have h2 := lineEnd_le s p (Nat.le_of_lt h)
  have h3 : ¬ blankC (cA s p) = true := by rw [hb]; decide
  rw [skipP_step, if_pos h, if_neg h3, if_pos hb]
  exact (skipP_more s s.size (s.size + 1) _ (by omega) (by omega) h2).symm
theorem skp_stop (s : ByteArray) (p : Nat) (h : p < s.size) (h1 : blankC (cA s p) = false) (h2 : cA s p ≠ 35) : skp s p = p := by
  unfold skp
  rw [skipP_step, if_pos h, h1, if_neg (by decide), if_neg h2]
theorem skp_end (s : ByteArray) (p : Nat) (h : ¬ p < s.size) : skp s p = p := by
  unfold skp
  rw [skipP_step, if_neg h]

theorem at_cA {s : ByteArray} {p : Nat} {c : UInt8} {rest : List UInt8} (h : (bl s).drop p = c :: rest) : cA s p = c.toNat := by
  have := cA_drop s p 0
  rw [h] at this
  exact this.symm
end Go.Proofs.YtfecfgimfjcbdaaGreatDoor.Cf

namespace Go.Proofs.YtfecfgimfjcbdaaGreatDoor.Cf
open Go.RowKit Go.Proofs.YtfecfgimfjcbdaaGreatDoorW.PrintWords Go.Proofs.YtfecfgimfjcbdaaGreatDoorW.PrintLast Go.Proofs.YtfecfgimfjcbdaaGreatDoorW.PrintMore Go.Proofs.YtfecfgimfjcbdaaGreatDoor.QCParse

/-- A character's number. -/
def Sc (r : Nat) : Prop := r ≤ 1114111 ∧ (r < 55296 ∨ 57343 < r)
theorem wd_ar (l : List UInt8) : wdL l = (if (l.getD 0 0).toNat < 128 then (1, (l.getD 0 0).toNat) else if 2 ≤ l.length ∧ (l.getD 0 0).toNat / 32 = 6 ∧ (l.getD 1 0).toNat / 64 = 2 ∧ 128 ≤ (l.getD 0 0).toNat % 32 * 64 + (l.getD 1 0).toNat % 64 then (2, (l.getD 0 0).toNat % 32 * 64 + (l.getD 1 0).toNat % 64)
    else if 3 ≤ l.length ∧ (l.getD 0 0).toNat / 16 = 14 ∧ (l.getD 1 0).toNat / 64 = 2 ∧ (l.getD 2 0).toNat / 64 = 2 ∧ 2048 ≤ (l.getD 0 0).toNat % 16 * 4096 + (l.getD 1 0).toNat % 64 * 64 + (l.getD 2 0).toNat % 64 ∧ ((l.getD 0 0).toNat % 16 * 4096 + (l.getD 1 0).toNat % 64 * 64 + (l.getD 2 0).toNat % 64 < 55296 ∨ 57344 ≤ (l.getD 0 0).toNat % 16 * 4096 + (l.getD 1 0).toNat % 64 * 64 + (l.getD 2 0).toNat % 64) then (3, (l.getD 0 0).toNat % 16 * 4096 + (l.getD 1 0).toNat % 64 * 64 + (l.getD 2 0).toNat % 64)
    else if 4 ≤ l.length ∧ (l.getD 0 0).toNat / 8 = 30 ∧ (l.getD 1 0).toNat / 64 = 2 ∧ (l.getD 2 0).toNat / 64 = 2 ∧ (l.getD 3 0).toNat / 64 = 2 ∧ 65536 ≤ (l.getD 0 0).toNat % 8 * 262144 + (l.getD 1 0).toNat % 64 * 4096 + (l.getD 2 0).toNat % 64 * 64 + (l.getD 3 0).toNat % 64 ∧ (l.getD 0 0).toNat % 8 * 262144 + (l.getD 1 0).toNat % 64 * 4096 + (l.getD 2 0).toNat % 64 * 64 + (l.getD 3 0).toNat % 64 ≤ 1114111 then (4, (l.getD 0 0).toNat % 8 * 262144 + (l.getD 1 0).toNat % 64 * 4096 + (l.getD 2 0).toNat % 64 * 64 + (l.getD 3 0).toNat % 64) else (0, 0)) := by
  unfold wdL
  rw [Lib.decodeL_N, wd_arith _ _ _ _ _ (UInt8.toNat_lt _)]
theorem u8_toNat (x : Int) (h0 : 0 ≤ x) (h1 : x < 256) : (x.toNat.toUInt8).toNat = x.toNat := by
  rw [show x.toNat.toUInt8 = UInt8.ofNat x.toNat from rfl, UInt8.toNat_ofNat']
  omega
theorem wd_scalar (l : List UInt8) : Sc (wdL l).2 := by
  rw [wd_ar]
  have h0 := UInt8.toNat_lt (l.getD 0 0)
  unfold Sc
  repeat' split
  all_goals
    simp only
    omega
theorem escS_sc (l : List UInt8) (x n : Nat) (h : escS l = some (x, n)) : Sc x := by
  have h128 : ∀ y : Nat, y < 256 → Sc y := fun y hy => ⟨by omega, by omega⟩
  unfold escS at h
  split at h
  · rename_i a c t
    have hc := UInt8.toNat_lt c
    split at h
    · simp only [Option.some.injEq, Prod.mk.injEq] at h
      exact h.1 ▸ h128 _ hc
    · split at h
      · simp only [Option.some.injEq, Prod.mk.injEq] at h
        exact h.1 ▸ h128 _ (by decide)
      · split at h
        · simp only [Option.some.injEq, Prod.mk.injEq] at h
          exact h.1 ▸ h128 _ (by decide)
        · split at h
          · unfold numS at h
            split at h
            · split at h
              · split at h
                · rename_i hv
                  simp only [Option.some.injEq, Prod.mk.injEq] at h
                  rw [← h.1]
                  unfold vR at hv
                  have := of_decide_eq_true hv
                  exact ⟨by omega, by omega⟩
                · cases h
              · cases h
            · cases h
          · cases h
  · cases h

end Go.Proofs.YtfecfgimfjcbdaaGreatDoor.Cf

namespace Go.Proofs.YtfecfgimfjcbdaaGreatDoor.Cf
open Go.RowKit Go.Proofs.YtfecfgimfjcbdaaGreatDoorW.PrintWords Go.Proofs.YtfecfgimfjcbdaaGreatDoorW.PrintLast Go.Proofs.YtfecfgimfjcbdaaGreatDoorW.PrintMore Go.Proofs.YtfecfgimfjcbdaaGreatDoor.QCParse

theorem bl_inj {x y : ByteArray} (h : bl x = bl y) : x = y := ByteArray.ext (Array.ext' h)

end Go.Proofs.YtfecfgimfjcbdaaGreatDoor.Cf
