/- Status and ParseStatus: what the laws of the line need, in plain words. -/
import Derived.Test.YtfecfgimfjcbdaaDoorConfX
namespace Go.Proofs.YtfecfgimfjcbdaaDoor.Cf
open Go.RowKit Go.Proofs.YtfecfgimfjcbdaaDoorW.PrintWords

theorem out_of_line {xs : List Int} {l : List UInt8} (h : lineI xs = (l, 0)) : outI cTab xs [] = some l := by
  unfold lineI at h
  split at h
  · rename_i e
    rw [e]
    exact congrArg some (Prod.mk.inj h).1
  · exact absurd (Prod.mk.inj h).2 (by decide)
theorem line_no {xs : List Int} {l : List UInt8} {e : Int} (h : lineI xs = (l, e)) (he : e ≠ 0) : l = [] ∧ e = 1 := by
  unfold lineI at h
  split at h
  · exact absurd (Prod.mk.inj h).2.symm he
  · exact ⟨(Prod.mk.inj h).1.symm, (Prod.mk.inj h).2.symm⟩
/-- A line that is written, with something good behind it. -/
theorem run_of_line {xs : List Int} (hx : xs.length = 15) (hb : ∀ x ∈ xs, x ≤ 9223372036854775807) {l : List UInt8} (h : lineI xs = (l, 0)) (r : List UInt8) (hr : Good r) : runI (l ++ r) cTab 0 0 (List.replicate 15 0) = (l.length, some xs) := by
  obtain ⟨y, hy, hrun⟩ := run_fwd cTab xs [] l cTab_nice hb hx (out_of_line h)
  obtain rfl : l = y := by simpa using hy
  have := hrun r (l ++ r) 0 0 (List.replicate 15 0) hr (fun _ => trivial) rfl (by simp [cTab])
  simpa using this
theorem stat_of_line {xs : List Int} (hx : xs.length = 15) (hb : ∀ x ∈ xs, x ≤ 9223372036854775807) {l : List UInt8} (h : lineI xs = (l, 0)) : statI l = (xs, 0, 0) := by
  have hr := run_of_line hx hb h [] good_nil
  rw [List.append_nil] at hr
  unfold statI
  rw [hr]
  simp
theorem stat_behind {xs : List Int} (hx : xs.length = 15) (hb : ∀ x ∈ xs, x ≤ 9223372036854775807) {l : List UInt8} (h : lineI xs = (l, 0)) (r : List UInt8) (hr : Good r) (h0 : r ≠ []) : statI (l ++ r) = (List.replicate 15 0, l.length, 126) := by
  unfold statI
  rw [run_of_line hx hb h r hr]
  simp only
  have : 0 < r.length := List.length_pos_iff.2 h0
  rw [if_pos (by rw [List.length_append]; omega)]
theorem line_of_stat {s : List UInt8} {fs : List Int} {at' : Nat} (h : statI s = (fs, at', 0)) : at' = 0 ∧ lineI fs = (s, 0) := by
  unfold statI at h
  split at h
  · simp at h
  · rename_i n ys e
    split at h
    · simp at h
    · rename_i hn
      simp only [Prod.mk.injEq] at h
      obtain ⟨rfl, rfl, _⟩ := h
      obtain ⟨_, _, _, h3, h4⟩ := out_back cTab s 0 0 (List.replicate 15 0) n ys cTab_nice (by simp [cTab]) (Nat.zero_le _) e
      have := h4 []
      rw [List.drop_zero, List.drop_zero, List.nil_append, Nat.sub_zero, List.take_of_length_le (by omega)] at this
      refine ⟨rfl, ?_⟩
      unfold lineI
      rw [this]
theorem stat_no {s : List UInt8} {fs : List Int} {at' : Nat} {e : Int} (h : statI s = (fs, at', e)) (he : e ≠ 0) : fs = List.replicate 15 0 ∧ e = 126 := by
  unfold statI at h
  split at h
  · simp only [Prod.mk.injEq] at h
    exact ⟨h.1.symm, h.2.2.symm⟩
  · split at h
    · simp only [Prod.mk.injEq] at h
      exact ⟨h.1.symm, h.2.2.symm⟩
    · simp only [Prod.mk.injEq] at h
      exact absurd h.2.2.symm he

/-! ### Every byte of a line can be shown -/
def Shown (l : List UInt8) : Prop := ∀ c ∈ l, 32 ≤ c.toNat ∧ c.toNat ≤ 126
instance (l : List UInt8) : Decidable (Shown l) := by unfold Shown; infer_instance
theorem dec_shown (u : Nat) : Shown (Lib.decDigits u) := by
  induction u using Nat.strongRecOn with
  | _ u ih =>
    by_cases h : u < 10
    · rw [Lib.decDigits_one h]
      intro c hc
      obtain rfl := List.mem_singleton.1 hc
      rw [ofNat_toNat h]
      omega
    · rw [show Lib.decDigits u = Lib.decDigits (u / 10) ++ [UInt8.ofNat (48 + u % 10)] by rw [Lib.decDigits, dif_neg h]]
      intro c hc
      rcases List.mem_append.1 hc with hc | hc
      · exact ih _ (by omega) c hc
      · obtain rfl := List.mem_singleton.1 hc
        rw [ofNat_toNat (Nat.mod_lt _ (by decide))]
        omega
theorem cTab_shown : ∀ t ∈ cTab, Shown (bl t.1) ∧ ∀ ws, t.2.1 = some ws → ∀ w ∈ ws, Shown (bl w) := by
  intro t ht
  obtain ⟨i, hi⟩ := List.mem_iff_getElem?.1 ht
  have hl : i < 15 := (List.getElem?_eq_some_iff.1 hi).1
  rcases i with _ | _ | _ | _ | _ | _ | _ | _ | _ | _ | _ | _ | _ | _ | _ | i
  case succ.succ.succ.succ.succ.succ.succ.succ.succ.succ.succ.succ.succ.succ.succ => omega
  all_goals
    obtain rfl := Option.some.inj hi
    refine ⟨by decide +kernel, fun ws hw => ?_⟩
    first
      | cases hw; done
      | (obtain rfl := Option.some.inj hw; decide +kernel)
theorem wr_shown {t : ByteArray × Option (List ByteArray) × Int} (ht : t ∈ cTab) {n : Int} {x : List UInt8} (h : wrI t n = some x) : Shown x := by
  obtain ⟨h1, h2⟩ := cTab_shown t ht
  unfold wrI at h
  split at h
  · split at h
    · obtain rfl := Option.some.inj h
      intro c hc
      rcases List.mem_append.1 hc with hc | hc
      · exact h1 c hc
      · rw [itoa_pos (by assumption)] at hc
        exact dec_shown _ c hc
    · cases h
  · rename_i ws hw
    split at h
    · rename_i hcnd
      obtain rfl := Option.some.inj h
      intro c hc
      rcases List.mem_append.1 hc with hc | hc
      · exact h1 c hc
      · have hlt : (n - t.2.2).toNat < ws.length := by omega
        refine h2 ws hw _ ?_ c hc
        rw [List.getD_eq_getElem?_getD, List.getElem?_eq_getElem hlt]
        exact List.getElem_mem hlt
    · cases h
theorem out_shown : ∀ (ts : List (ByteArray × Option (List ByteArray) × Int)) (ns : List Int) (l l' : List UInt8), (∀ t ∈ ts, t ∈ cTab) → Shown l → outI ts ns l = some l' → Shown l' ∧ l.length ≤ l'.length
  | [], ns, l, l', _, hl, h => by
    obtain rfl : l = l' := by cases ns <;> exact Option.some.inj h
    exact ⟨hl, Nat.le_refl _⟩
  | t :: ts, [], l, l', _, hl, h => by
    obtain rfl := Option.some.inj h
    exact ⟨hl, Nat.le_refl _⟩
  | t :: ts, n :: ns, l, l', ht, hl, h => by
    have h' : (wrI t n).bind (fun x => outI ts ns (l ++ x)) = some l' := h
    cases hx : wrI t n with
    | none => rw [hx] at h'; cases h'
    | some x =>
      rw [hx, Option.bind_some] at h'
      have hs := wr_shown (ht t (List.mem_cons_self ..)) hx
      obtain ⟨a, b⟩ := out_shown ts ns (l ++ x) l' (fun t h => ht t (List.mem_cons_of_mem _ h)) (fun c hc => (List.mem_append.1 hc).elim (hl c) (hs c)) h'
      exact ⟨a, by rw [List.length_append] at b; omega⟩
theorem line_shown {xs : List Int} {l : List UInt8} (h : lineI xs = (l, 0)) : Shown l := (out_shown cTab xs [] l (fun _ h => h) (fun c hc => by cases hc) (out_of_line h)).1
theorem line_some {xs : List Int} (hx : xs.length = 15) {l : List UInt8} (h : lineI xs = (l, 0)) : l ≠ [] := by
  rintro rfl
  have hr := out_of_line h
  obtain ⟨x0, xs, rfl⟩ : ∃ x0 ys, xs = x0 :: ys := by cases xs with | nil => cases hx | cons a b => exact ⟨a, b, rfl⟩
  have h' : (wrI ((⟨#[99, 115, 58]⟩ : ByteArray), some cConn, 0) x0).bind (fun x => outI cTab.tail xs ([] ++ x)) = some [] := hr
  cases hw : wrI ((⟨#[99, 115, 58]⟩ : ByteArray), some cConn, 0) x0 with
  | none => rw [hw] at h'; cases h'
  | some x =>
    rw [hw, Option.bind_some] at h'
    have := (out_shown cTab.tail xs ([] ++ x) [] (fun t h => List.mem_of_mem_tail h) (by simpa using wr_shown (t := ((⟨#[99, 115, 58]⟩ : ByteArray), some cConn, 0)) (List.mem_of_getElem? (i := 0) rfl) hw) h').2
    have hx0 : x = [] := by simpa using this
    have hg := wr_head (t := ((⟨#[99, 115, 58]⟩ : ByteArray), some cConn, 0)) (cTab_nice _ (List.mem_of_getElem? (i := 0) rfl)) hw [48]
    rw [hx0] at hg
    exact hg 48 [] rfl (by decide)

/-! ### A line whose last number is 0, and a digit behind it -/
def idleXs : List Int := [3, 1, 0, 2, 2, 3, 12, 0, 0, 0, 0, 0, 0, 0, 0]
def idleL : List UInt8 := bl (⟨#[99, 115, 58, 67, 111, 110, 110, 101, 99, 116, 101, 100, 32, 114, 111, 58, 80, 114, 105, 109, 97, 114, 121, 47, 83, 101, 99, 111, 110, 100, 97, 114, 121, 32, 100, 115, 58, 85, 112, 84, 111, 68, 97, 116, 101, 47, 85, 112, 84, 111, 68, 97, 116, 101, 32, 67, 32, 110, 115, 58, 49, 50, 32, 110, 114, 58, 48, 32, 100, 119, 58, 48, 32, 100, 114, 58, 48, 32, 97, 108, 58, 48, 32, 97, 112, 58, 48, 32, 117, 97, 58, 48, 32, 101, 112, 58, 48, 32, 111, 111, 115, 58, 48]⟩ : ByteArray)
theorem idle_line : lineI idleXs = (idleL, 0) := by
  have e0 : Lib.itoa 0 = [48] := by rw [itoa_pos (by decide)]; exact Lib.decDigits_one (by decide)
  have e12 : Lib.itoa 12 = [49, 50] := by rw [itoa_pos (by decide)]; exact Lib.decDigits_two (by decide) (by decide)
  have h : outI cTab idleXs [] = some (bl (⟨#[99, 115, 58]⟩ : ByteArray) ++ bl (⟨#[67, 111, 110, 110, 101, 99, 116, 101, 100]⟩ : ByteArray) ++ (bl (⟨#[32, 114, 111, 58]⟩ : ByteArray) ++ bl (⟨#[80, 114, 105, 109, 97, 114, 121]⟩ : ByteArray)) ++ (bl (⟨#[47]⟩ : ByteArray) ++ bl (⟨#[83, 101, 99, 111, 110, 100, 97, 114, 121]⟩ : ByteArray)) ++ (bl (⟨#[32, 100, 115, 58]⟩ : ByteArray) ++ bl (⟨#[85, 112, 84, 111, 68, 97, 116, 101]⟩ : ByteArray)) ++ (bl (⟨#[47]⟩ : ByteArray) ++ bl (⟨#[85, 112, 84, 111, 68, 97, 116, 101]⟩ : ByteArray)) ++ (bl (⟨#[32]⟩ : ByteArray) ++ bl (⟨#[67]⟩ : ByteArray)) ++ (bl (⟨#[32, 110, 115, 58]⟩ : ByteArray) ++ Lib.itoa 12) ++ (bl (⟨#[32, 110, 114, 58]⟩ : ByteArray) ++ Lib.itoa 0) ++ (bl (⟨#[32, 100, 119, 58]⟩ : ByteArray) ++ Lib.itoa 0) ++ (bl (⟨#[32, 100, 114, 58]⟩ : ByteArray) ++ Lib.itoa 0) ++ (bl (⟨#[32, 97, 108, 58]⟩ : ByteArray) ++ Lib.itoa 0) ++ (bl (⟨#[32, 97, 112, 58]⟩ : ByteArray) ++ Lib.itoa 0) ++ (bl (⟨#[32, 117, 97, 58]⟩ : ByteArray) ++ Lib.itoa 0) ++ (bl (⟨#[32, 101, 112, 58]⟩ : ByteArray) ++ Lib.itoa 0) ++ (bl (⟨#[32, 111, 111, 115, 58]⟩ : ByteArray) ++ Lib.itoa 0)) := by rfl
  unfold lineI
  rw [h, e0, e12]
  decide +kernel
theorem idle_more (b : UInt8) : statI (idleL ++ [b]) = (List.replicate 15 0, idleL.length, 126) := by
  by_cases hd : 48 ≤ b.toNat ∧ b.toNat ≤ 57
  · have : b = 48 ∨ b = 49 ∨ b = 50 ∨ b = 51 ∨ b = 52 ∨ b = 53 ∨ b = 54 ∨ b = 55 ∨ b = 56 ∨ b = 57 := by
      have h : b.toNat = 48 ∨ b.toNat = 49 ∨ b.toNat = 50 ∨ b.toNat = 51 ∨ b.toNat = 52 ∨ b.toNat = 53 ∨ b.toNat = 54 ∨ b.toNat = 55 ∨ b.toNat = 56 ∨ b.toNat = 57 := by omega
      rcases h with h | h | h | h | h | h | h | h | h | h <;> simp [← UInt8.toNat_inj, h]
    rcases this with rfl | rfl | rfl | rfl | rfl | rfl | rfl | rfl | rfl | rfl <;> decide +kernel
  · refine stat_behind (xs := idleXs) rfl (by decide) idle_line [b] (fun c t h => ?_) (by simp)
    obtain ⟨rfl, _⟩ := List.cons.inj h
    exact hd
end Go.Proofs.YtfecfgimfjcbdaaDoor.Cf
