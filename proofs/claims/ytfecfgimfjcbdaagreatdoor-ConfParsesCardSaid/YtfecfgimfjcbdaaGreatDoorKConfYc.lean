/- Plain: the reference's tokens are the program's. -/
import Derived.Test.YtfecfgimfjcbdaaGreatDoorKConfYb
namespace Go.Proofs.YtfecfgimfjcbdaaGreatDoor.Cf
open Go.RowKit Go.Proofs.YtfecfgimfjcbdaaGreatDoorW.PrintWords Go.Proofs.YtfecfgimfjcbdaaGreatDoorW.PrintLast Go.Proofs.YtfecfgimfjcbdaaGreatDoorW.PrintMore Go.Proofs.YtfecfgimfjcbdaaGreatDoor.QRParse

theorem wide_at (s : ByteArray) (hs : s.size ≤ 10000) (k i : Nat) (hk : 30 ≤ k) (hi : i < s.size) : replicaref12_wide.f k s (i : Int) = some (((wdL ((bl s).drop i)).1 : Int), ((wdL ((bl s).drop i)).2 : Int)) := by
  obtain ⟨d, rfl⟩ : ∃ d, k = 30 + d := ⟨k - 30, by omega⟩
  induction d with
  | zero => exact wide_spec s (by omega) i hi
  | succ d ih => exact replicaref12_wide.mono s i (30 + d) _ (ih (by omega))
def intsOf (l : List UInt8) : List Int := l.map fun b => (b.toNat : Int)
theorem utf_enc (v : Nat) (h : Sc v) : (utfL v).map (fun x => ((x % 256 : Nat) : Int)) = intsOf (Lib.encodeRune (v : Int)) := by
  obtain ⟨h1, h2⟩ := h
  have e : ∀ x : Nat, x < 256 → ((((x : Int).toNat.toUInt8).toNat : Nat) : Int) = ((x % 256 : Nat) : Int) := fun x hx => by
    rw [u8_toNat (x : Int) (by omega) (by omega)]
    omega
  unfold utfL intsOf Lib.encodeRune
  by_cases c1 : v < 128
  · rw [if_pos c1, Lib.encodeRuneZ_one (by omega) (by omega)]
    simp only [List.map_cons, List.map_nil]
    rw [← e v (by omega)]
  · rw [if_neg c1]
    by_cases c2 : v < 2048
    · rw [if_pos c2, Lib.encodeRuneZ_two (by omega) (by omega)]
      simp only [List.map_cons, List.map_nil]
      rw [← e _ (show 192 + v / 64 < 256 by omega), ← e _ (show 128 + v % 64 < 256 by omega)]
      rfl
    · rw [if_neg c2]
      by_cases c3 : v < 65536
      · rw [if_pos c3, Lib.encodeRuneZ_three (by omega)]
        simp only [List.map_cons, List.map_nil]
        rw [← e _ (show 224 + v / 4096 < 256 by omega), ← e _ (show 128 + v / 64 % 64 < 256 by omega), ← e _ (show 128 + v % 64 < 256 by omega)]
        rfl
      · rw [if_neg c3, Lib.encodeRuneZ_four (by omega) (by omega)]
        simp only [List.map_cons, List.map_nil]
        rw [← e _ (show 240 + v / 262144 < 256 by omega), ← e _ (show 128 + v / 4096 % 64 < 256 by omega), ← e _ (show 128 + v / 64 % 64 < 256 by omega), ← e _ (show 128 + v % 64 < 256 by omega)]
        rfl
theorem rutf (v : Nat) (h : Sc v) : replicaref12_utf.f (v : Int) = some (intsOf (Lib.encodeRune (v : Int))) := by
  rw [utf_f v (by have := h.1; omega), utf_enc v h]
theorem str_ints (l : List UInt8) : strOfNums (intsOf l) = ⟨l.toArray⟩ := by
  apply bl_inj
  show (List.map _ (intsOf l)) = l
  unfold intsOf
  rw [List.map_map]
  conv => rhs; rw [← List.map_id l]
  refine List.map_congr_left fun b _ => ?_
  simp
theorem enc_len4 (r : Int) : (Lib.encodeRune r).length ≤ 4 := by
  have := (Lib.encodeRuneZ_length r).2
  unfold Lib.encodeRune
  rw [List.length_map]
  exact this
def qR (i : Nat) : Except Nat (List UInt8 × Nat) → Int × Int × ByteArray × Int
  | .ok (l, q) => (4, (i : Int), ⟨l.toArray⟩, (q : Int))
  | .error a => (1, (a : Int), ⟨#[]⟩, (a : Int))
theorem ql0_step (k : Nat) (x0 : ByteArray) (x7 : List Int) (x8 a b : Int) (c : ByteArray) : replicaref12_quoted.l0 (k + 1) x0 x7 x8 a b c = if x8 < (x0.size : Int) then (if 0 ≤ x8 then (if (bt x0 x8) = 34 then (some (a, b, strOfNums x7, wrap64 (x8 + 1))) else (if (bt x0 x8) = 92 then ((replicaref12_escape.f k x0 x8).bind fun bt121 => (if bt121.1 = 0 then (some (1, x8, (⟨#[]⟩ : ByteArray), x8)) else ((replicaref12_utf.f bt121.2).bind fun t123 => (if x7.length + t123.length < 140737488355328 then (replicaref12_quoted.l0 k x0 (x7 ++ t123) (wrap64 (x8 + bt121.1)) a b c) else (none))))) else ((replicaref12_wide.f k x0 x8).bind fun bt129 => (if bt129.2 < 32 then (replicaref12_quoted.j1 k x0 x7 x8 bt129.1 bt129.2 true a b c) else (replicaref12_quoted.j1 k x0 x7 x8 bt129.1 bt129.2 (bt129.2 == 127) a b c))))) else (none)) else (some (1, (x0.size : Int), (⟨#[]⟩ : ByteArray), x8)) := rfl
theorem qj1_step (k : Nat) (x0 : ByteArray) (x7 : List Int) (x8 x9 x10 : Int) (x50 : Bool) (a b : Int) (c : ByteArray) : replicaref12_quoted.j1 (k + 1) x0 x7 x8 x9 x10 x50 a b c = if x50 = true then (if 0 = 0 then (some (1, x8, (⟨#[]⟩ : ByteArray), x8)) else ((replicaref12_utf.f x10).bind fun t131 => (if x7.length + t131.length < 140737488355328 then (replicaref12_quoted.l0 k x0 (x7 ++ t131) (wrap64 (x8 + 0)) a b c) else (none)))) else (if x9 = 0 then (some (1, x8, (⟨#[]⟩ : ByteArray), x8)) else ((replicaref12_utf.f x10).bind fun t137 => (if x7.length + t137.length < 140737488355328 then (replicaref12_quoted.l0 k x0 (x7 ++ t137) (wrap64 (x8 + x9)) a b c) else (none)))) := rfl
theorem ints_app (l m : List UInt8) : intsOf l ++ intsOf m = intsOf (l ++ m) := by unfold intsOf; rw [List.map_append]
theorem ints_len (l : List UInt8) : (intsOf l).length = l.length := by unfold intsOf; rw [List.length_map]
theorem rquoted_l0 (s : ByteArray) (hs : s.size ≤ 10000) (i : Nat) : ∀ (f k p : Nat) (acc : List UInt8), p ≤ s.size → s.size < p + f → 2 * f + 60 ≤ k → acc.length ≤ 4 * p → replicaref12_quoted.l0 k s (intsOf acc) (p : Int) 4 (i : Int) ⟨#[]⟩ = some (qR i (qS s f p acc))
  | 0, k, p, acc, hp, hf, _, _ => by omega
  | f + 1, k, p, acc, hp, hf, hk, ha => by
    obtain ⟨k, rfl⟩ : ∃ k', k = k' + 1 + 1 := ⟨k - 2, by omega⟩
    rw [ql0_step]
    simp only [qS]
    by_cases hlt : p < s.size
    · have hbt := bt_cA s p hlt
      have hne : (bl s).drop p ≠ [] := fun e => by
        have := congrArg List.length e
        rw [List.length_drop, bl_length] at this
        simp at this
        omega
      have hlen : ((bl s).drop p).length = s.size - p := by rw [List.length_drop, bl_length]
      rw [if_pos (by omega), if_pos (by omega), if_pos hlt, hbt]
      by_cases h34 : cA s p = 34
      · rw [if_pos (by omega), if_pos h34, str_ints, w_1 p (by omega)]
        rfl
      · rw [if_neg (by omega), if_neg h34]
        by_cases h92 : cA s p = 92
        · rw [if_pos (by omega), if_pos h92, rescape s hs (k + 1) p hlt h92 (by omega), Option.bind_some]
          cases he : escS ((bl s).drop p) with
          | none => rfl
          | some xn =>
            obtain ⟨x, n⟩ := xn
            have hn := escS_is _ x n he
            have hsc := escS_sc _ x n he
            have hl4 := enc_len4 (x : Int)
            rw [show prE (some (x, n)) = ((n : Int), (x : Int)) from rfl]
            dsimp only
            rw [if_neg (by omega), rutf x hsc, Option.bind_some, ints_len, ints_len, if_pos (by omega), ints_app, w_at p n (by omega)]
            exact rquoted_l0 s hs i f (k + 1) (p + n) _ (by omega) (by omega) (by omega) (by rw [List.length_append]; omega)
        · rw [if_neg (by omega), if_neg h92, wide_at s hs (k + 1) p (by omega) hlt, Option.bind_some]
          have hle := wd_le _ hne
          have hsc := wd_scalar ((bl s).drop p)
          have hl4 := enc_len4 ((wdL ((bl s).drop p)).2 : Int)
          generalize (wdL ((bl s).drop p)).1 = wn at *
          generalize (wdL ((bl s).drop p)).2 = wc at *
          have bad : ∀ b : Bool, b = true → replicaref12_quoted.j1 (k + 1) s (intsOf acc) p wn wc b 4 i ⟨#[]⟩ = some (qR i (.error p)) := by
            intro b hb
            rw [qj1_step, hb]
            rfl
          simp only
          by_cases h32 : wc < 32
          · rw [if_pos (by omega), bad true rfl, if_pos (.inr (.inl h32))]
          · rw [if_neg (by omega)]
            by_cases h127 : wc = 127
            · rw [bad _ (by rw [h127]; rfl), if_pos (.inr (.inr h127))]
            · rw [qj1_step, show ((wc : Int) == 127) = false from beq_eq_false_iff_ne.2 (by omega), if_neg (by decide)]
              by_cases h0 : wn = 0
              · rw [if_pos (by omega), if_pos (.inl h0)]
                rfl
              · rw [if_neg (by omega), if_neg (by omega), rutf wc hsc, Option.bind_some, ints_len, ints_len, if_pos (by omega), ints_app, w_at p wn (by omega)]
                exact rquoted_l0 s hs i f k (p + wn) _ (by omega) (by omega) (by omega) (by rw [List.length_append]; omega)
    · have hpe : p = s.size := by omega
      subst hpe
      rw [if_neg (by omega), if_neg hlt]
      rfl
theorem rquoted (s : ByteArray) (hs : s.size ≤ 10000) (k i : Nat) (hi : i < s.size) (hk : 2 * s.size + 62 ≤ k) : replicaref12_quoted.f k s (i : Int) = some (qR i (qS s (s.size + 1) (i + 1) [])) := by
  unfold replicaref12_quoted.f
  rw [w_1 i (by omega)]
  exact rquoted_l0 s hs i (s.size + 1) k (i + 1) [] (by omega) (by omega) (by omega) (by simp)

abbrev TkT := S63
/-- The tokens from a place on, up to the end or the first fault. -/
def tkL (s : ByteArray) : Nat → Nat → List TkT
  | 0, _ => []
  | f + 1, p => match nextP s p with
    | .ok (kd, a, v, q) => ⟨((kd + 2 : Nat) : Int), (a : Int), v⟩ :: tkL s f q
    | .error a => [⟨if skp s p < s.size then 1 else 0, (a : Int), ⟨#[]⟩⟩]
theorem cl0_step (k : Nat) (x0 : ByteArray) (x3 : List TkT) (x4 : Int) : replicaref12_cut.l0 (k + 1) x0 x3 x4 = if x4 < (x0.size : Int) then (if 0 ≤ x4 then ((replicaref12_wordy.f (bt x0 x4)).bind fun t148 => (if t148 = true then (replicaref12_cut.l1 k x0 x3 x4 t148 x4 2 x4 (⟨#[]⟩ : ByteArray)) else (if (bt x0 x4) = 123 then (replicaref12_cut.j2 k x0 x3 x4 true 2 x4 (⟨#[]⟩ : ByteArray)) else (if (bt x0 x4) = 125 then (replicaref12_cut.j2 k x0 x3 x4 true 2 x4 (⟨#[]⟩ : ByteArray)) else (replicaref12_cut.j2 k x0 x3 x4 ((bt x0 x4) == 59) 2 x4 (⟨#[]⟩ : ByteArray)))))) else (none)) else (if x3.length < 4398046511104 then (some (x3 ++ [(⟨0, (x0.size : Int), (⟨#[]⟩ : ByteArray)⟩ : TkT)])) else (none)) := rfl
theorem cl1_step (k : Nat) (x0 : ByteArray) (x3 : List TkT) (x4 : Int) (x6 : Bool) (x7 c0 c1 : Int) (c2 : ByteArray) : replicaref12_cut.l1 (k + 1) x0 x3 x4 x6 x7 c0 c1 c2 = if x6 = true then (if (wrap64 (x7 + 1)) < (x0.size : Int) then (if 0 ≤ (wrap64 (x7 + 1)) then ((replicaref12_wordy.f (bt x0 (wrap64 (x7 + 1)))).bind fun t149 => (replicaref12_cut.l1 k x0 x3 x4 t149 (wrap64 (x7 + 1)) c0 c1 c2)) else (none)) else (replicaref12_cut.l1 k x0 x3 x4 false (wrap64 (x7 + 1)) c0 c1 c2)) else (if 0 ≤ x4 then (if x4 ≤ x7 then (if x7 ≤ (x0.size : Int) then (if x3.length < 4398046511104 then ((some (x3 ++ [(⟨c0, c1, x0.extract (x4 : Int).toNat (x7 : Int).toNat⟩ : TkT)] : List TkT)).bind fun y150 => (if c0 = 1 then (some y150) else ((replicaref12_blank.f k x0 x7).bind fun t153 => (replicaref12_cut.l0 k x0 y150 t153)))) else (none)) else (none)) else (none)) else (none)) := rfl
theorem cj2_step (k : Nat) (x0 : ByteArray) (x3 : List TkT) (x4 : Int) (x43 : Bool) (c0 c1 : Int) (c2 : ByteArray) : replicaref12_cut.j2 (k + 1) x0 x3 x4 x43 c0 c1 c2 = if x43 = true then (if 0 ≤ x4 then (if x4 ≤ (wrap64 (x4 + 1)) then (if (wrap64 (x4 + 1)) ≤ (x0.size : Int) then (if x3.length < 4398046511104 then ((some (x3 ++ [(⟨3, c1, x0.extract (x4 : Int).toNat ((wrap64 (x4 + 1)) : Int).toNat⟩ : TkT)] : List TkT)).bind fun y154 => (if (3 : Int) = 1 then (some y154) else ((replicaref12_blank.f k x0 (wrap64 (x4 + 1))).bind fun t157 => (replicaref12_cut.l0 k x0 y154 t157)))) else (none)) else (none)) else (none)) else (none)) else (if 0 ≤ x4 then (if x4 < (x0.size : Int) then (if (bt x0 x4) = 34 then ((replicaref12_quoted.f k x0 x4).bind fun bt158 => (if x3.length < 4398046511104 then ((some (x3 ++ [(⟨bt158.1, bt158.2.1, bt158.2.2.1⟩ : TkT)] : List TkT)).bind fun y162 => (if bt158.1 = 1 then (some y162) else ((replicaref12_blank.f k x0 bt158.2.2.2).bind fun t165 => (replicaref12_cut.l0 k x0 y162 t165)))) else (none))) else (if x3.length < 4398046511104 then ((some (x3 ++ [(⟨1, c1, c2⟩ : TkT)] : List TkT)).bind fun y166 => (if (1 : Int) = 1 then (some y166) else ((replicaref12_blank.f k x0 x4).bind fun t169 => (replicaref12_cut.l0 k x0 y166 t169)))) else (none))) else (none)) else (none)) := rfl
theorem rcut_l1 (s : ByteArray) (hs : s.size ≤ 10000) (acc : List TkT) (a : Nat) (hacc : acc.length ≤ 10000) : ∀ (d k j : Nat), s.size - j = d → a ≤ j → j ≤ s.size → replicaref12_cut.l1 (k + d + 2) s acc (a : Int) (decide (j < s.size) && inW (cA s j)) (j : Int) 2 (a : Int) ⟨#[]⟩ = (replicaref12_blank.f (k + d + 1 - (wEnd s j - j)) s (wEnd s j : Int)).bind fun t => replicaref12_cut.l0 (k + d + 1 - (wEnd s j - j)) s (acc ++ [⟨2, (a : Int), s.extract a (wEnd s j)⟩]) t := by
  intro d
  induction d with
  | zero =>
    intro k j hd ha hj
    have hlt : ¬ j < s.size := by omega
    rw [cl1_step, decide_eq_false hlt, Bool.false_and, if_neg (by decide), if_pos (by omega), if_pos (by omega), if_pos (by omega), if_pos (by omega), Option.bind_some, if_neg (by decide), wEnd_at s j (fun h => absurd h hlt)]
    simp only [Int.toNat_natCast, Nat.sub_self, Nat.sub_zero]
  | succ d ih =>
    intro k j hd ha hj
    have hlt : j < s.size := by omega
    rw [cl1_step, decide_eq_true hlt, Bool.true_and]
    cases hw : inW (cA s j) with
    | false =>
      rw [if_neg (by decide), if_pos (by omega), if_pos (by omega), if_pos (by omega), if_pos (by omega), Option.bind_some, if_neg (by decide), wEnd_at s j (fun _ => hw)]
      simp only [Int.toNat_natCast, Nat.sub_self, Nat.sub_zero]
    | true =>
      rw [if_pos rfl, w_1 j (by omega), wEnd_go s j hlt hw]
      have hge : j + 1 ≤ wEnd s (j + 1) := by unfold wEnd; omega
      have e := ih k (j + 1) (by omega) (by omega) (by omega)
      have e1 : k + (d + 1) + 1 - (wEnd s (j + 1) - j) = k + d + 1 - (wEnd s (j + 1) - (j + 1)) := by omega
      rw [e1]
      by_cases hl2 : j + 1 < s.size
      · rw [if_pos (by omega), if_pos (by omega), rwordy_at s (j + 1) hl2, Option.bind_some]
        rw [decide_eq_true hl2, Bool.true_and] at e
        exact e
      · rw [if_neg (by omega)]
        rw [decide_eq_false hl2, Bool.false_and] at e
        exact e
theorem rcut_l0 (s : ByteArray) (hs : s.size ≤ 10000) (f : Nat) : ∀ (k p : Nat) (acc : List TkT), p ≤ s.size → s.size < p + f → acc.length ≤ p → 3 * (s.size - p) + 4 * s.size + 100 ≤ k → replicaref12_cut.l0 k s acc (skp s p : Int) = some (acc ++ tkL s f p) := by
  induction f with
  | zero => intro k p acc hp hf; omega
  | succ f ih =>
    intro k p acc hp hf hacc hk
    obtain ⟨k, rfl⟩ : ∃ k', k = k' + 1 + 1 := ⟨k - 2, by omega⟩
    have hle := skp_le s p hp
    have hge : p ≤ skp s p := by
      have : ∀ (g q : Nat), q ≤ skipP s g q := by
        intro g
        induction g with
        | zero => intro q; exact Nat.le_refl _
        | succ g ih =>
          intro q
          rw [skipP_step]
          split
          · split
            · have := ih (q + 1); omega
            · split
              · have := ih (lineEnd s q)
                have h2 : q ≤ lineEnd s q := by unfold lineEnd; omega
                omega
              · exact Nat.le_refl _
          · exact Nat.le_refl _
      exact this _ _
    simp only [tkL]
    unfold nextP
    rw [cl0_step]
    by_cases hlt : skp s p < s.size
    · have hbt := bt_cA s (skp s p) hlt
      rw [if_pos (show (skp s p : Int) < (s.size : Int) by omega), if_pos (show (0 : Int) ≤ (skp s p : Int) by omega), if_neg (show ¬ s.size ≤ skp s p by omega), rwordy_at s _ hlt, Option.bind_some, hbt]
      obtain ⟨a, ha⟩ : ∃ a, skp s p = a := ⟨_, rfl⟩
      rw [ha] at hlt hle hge hbt ⊢
      have next : ∀ (K q : Nat) (t : TkT), a < q → q ≤ s.size → 3 * (s.size - q) + 4 * s.size + 100 ≤ K → ((replicaref12_blank.f K s (q : Int)).bind fun x => replicaref12_cut.l0 K s (acc ++ [t]) x) = some (acc ++ (t :: tkL s f q)) := by
        intro K q t h1 h2 h3
        rw [rblank s hs K q h2 (by omega), Option.bind_some, ih K q (acc ++ [t]) h2 (by omega) (by simp; omega) h3, List.append_assoc]
        rfl
      cases hw : inW (cA s a) with
      | true =>
        rw [if_pos rfl, if_pos rfl]
        have hwl := wEnd_le s a hle
        have hwg : a < wEnd s a := by
          rw [wEnd_go s a hlt hw]
          unfold wEnd
          omega
        obtain ⟨k1, hk1⟩ : ∃ k1, k + 1 = k1 + (s.size - a) + 2 := ⟨k + 1 - (s.size - a) - 2, by omega⟩
        have e := rcut_l1 s hs acc a (by omega) (s.size - a) k1 a rfl (Nat.le_refl _) hle
        rw [decide_eq_true hlt, Bool.true_and, hw, ← hk1] at e
        rw [e]
        refine next _ _ _ hwg hwl ?_
        omega
      | false =>
        rw [if_neg Bool.false_ne_true, if_neg Bool.false_ne_true]
        have hj : ∀ b : Bool, b = decide (cA s a = 123 ∨ cA s a = 125 ∨ cA s a = 59) → replicaref12_cut.j2 (k + 1) s acc (a : Int) b 2 (a : Int) ⟨#[]⟩ = some (acc ++ match (if cA s a = 123 ∨ cA s a = 125 ∨ cA s a = 59 then (Except.ok (1, a, s.extract a (a + 1), a + 1) : Except Nat (Nat × Nat × ByteArray × Nat))
            else if cA s a = 34 then match qS s (s.size + 1) (a + 1) [] with
              | .ok (l, q) => .ok (2, a, ⟨l.toArray⟩, q)
              | .error e => .error e
            else .error a) with
          | .ok (kd, a, v, q) => ⟨((kd + 2 : Nat) : Int), (a : Int), v⟩ :: tkL s f q
          | .error b => [⟨if a < s.size then 1 else 0, (b : Int), ⟨#[]⟩⟩]) := by
          intro b hb
          rw [hb, cj2_step]
          by_cases hm : cA s a = 123 ∨ cA s a = 125 ∨ cA s a = 59
          · rw [decide_eq_true hm, if_pos rfl, if_pos (by omega), w_1 a (by omega), if_pos (by omega), if_pos (by omega), if_pos (by omega), Option.bind_some, if_neg (by decide), if_pos hm]
            simp only [Int.toNat_natCast]
            refine next _ _ _ ?_ ?_ ?_ <;> omega
          · rw [decide_eq_false hm, if_neg (by decide), if_pos (by omega), if_pos (by omega), hbt, if_neg hm]
            by_cases h34 : cA s a = 34
            · rw [if_pos (by omega), if_pos h34, rquoted s hs k a hlt (by omega), Option.bind_some, if_pos (by omega), Option.bind_some]
              cases hq : qS s (s.size + 1) (a + 1) [] with
              | error e =>
                rw [show qR a (.error e) = (1, (e : Int), ⟨#[]⟩, (e : Int)) from rfl]
                dsimp only
                rw [if_pos rfl, if_pos hlt]
              | ok lq =>
                obtain ⟨l, q⟩ := lq
                have hb := qS_le s (s.size + 1) (a + 1) [] l q hq
                rw [show qR a (.ok (l, q)) = (4, (a : Int), ⟨l.toArray⟩, (q : Int)) from rfl]
                dsimp only
                rw [if_neg (by decide)]
                refine next _ _ _ ?_ hb.2 ?_ <;> omega
            · rw [if_neg (by omega), if_pos (by omega), Option.bind_some, if_pos rfl, if_neg h34]
              simp only
              rw [if_pos hlt]
        by_cases h1 : cA s a = 123
        · rw [if_pos (by omega)]
          exact hj true (decide_eq_true (.inl h1)).symm
        · rw [if_neg (by omega)]
          by_cases h2 : cA s a = 125
          · rw [if_pos (by omega)]
            exact hj true (decide_eq_true (.inr (.inl h2))).symm
          · rw [if_neg (by omega)]
            refine hj _ ?_
            by_cases h3 : cA s a = 59
            · rw [h3]; rfl
            · rw [decide_eq_false (by omega), show ((cA s a : Int) == 59) = false from beq_eq_false_iff_ne.2 (by omega)]
    · rw [if_neg (by omega), if_pos (by omega), if_pos (by omega)]
      simp only
      rw [if_neg hlt]
/-- The reference's cut gives the program's tokens. -/
theorem rcut (s : ByteArray) (hs : s.size ≤ 10000) (k : Nat) (hk : 7 * s.size + 100 ≤ k) : replicaref12_cut.f k s = some (tkL s (s.size + 1) 0) := by
  unfold replicaref12_cut.f
  have := rblank s hs k 0 (by omega) (by omega)
  rw [show ((0 : Nat) : Int) = 0 from rfl] at this
  rw [this, Option.bind_some]
  have h2 := rcut_l0 s hs (s.size + 1) k 0 [] (by omega) (by omega) (by simp) (by omega)
  rw [List.nil_append] at h2
  exact h2
end Go.Proofs.YtfecfgimfjcbdaaGreatDoor.Cf
