/- Status and ParseStatus are each other's way back, in plain words: no program in sight. -/
import Derived.Test.YtfecfgimfjcbdaaDoorConfT
namespace Go.Proofs.YtfecfgimfjcbdaaDoor.Cf
open Go.RowKit Go.Proofs.YtfecfgimfjcbdaaDoorW.PrintWords

/-! ### The beginning of a list -/
theorem com_self : ∀ (t r : List UInt8), com (t ++ r) t = t.length
  | [], r => by cases r <;> rfl
  | a :: t, r => by simp [com, com_self t r]
theorem com_part : ∀ (l r t : List UInt8), com l t < l.length → com (l ++ r) t = com l t
  | [], _, _, h => by simp at h
  | a :: l, r, [], _ => by simp [com]
  | a :: l, r, b :: t, h => by
    by_cases e : a = b
    · simp only [List.cons_append, com, if_pos e] at h ⊢
      rw [com_part l r t (by simpa using h)]
    · simp [com, if_neg e]
theorem com_take : ∀ (l t : List UInt8), com l t = t.length → l.take t.length = t
  | _, [], _ => by simp
  | [], b :: t, h => by simp [com] at h
  | a :: l, b :: t, h => by
    by_cases e : a = b
    · simp only [com, if_pos e, List.length_cons] at h
      simp [e, com_take l t (by omega)]
    · simp [com, if_neg e] at h

/-! ### The words -/
/-- No word is the beginning of another. -/
def Apart (ws : List ByteArray) : Prop := ws.Pairwise fun a b => com (bl b) (bl a) < (bl b).length ∧ com (bl b) (bl a) < a.size
theorem pick_hit : ∀ (ws : List ByteArray) (i j far : Nat) (w : ByteArray) (r : List UInt8), Apart ws → ws[i]? = some w → pick (bl w ++ r) ws j far = (w.size, some (j + i))
  | [], _, _, _, _, _, _, h => by simp at h
  | x :: ws, 0, j, far, w, r, _, h => by
    obtain rfl : x = w := by simpa using h
    simp only [pick]
    rw [if_pos (by rw [com_self, bl_length])]
    rfl
  | x :: ws, i + 1, j, far, w, r, ha, h => by
    have hi : ws[i]? = some w := by simpa using h
    have hx := (List.pairwise_cons.1 ha).1 w (List.mem_of_getElem? hi)
    simp only [pick]
    rw [if_neg (by rw [com_part _ _ _ hx.1]; omega), pick_hit ws i (j + 1) _ w r (List.pairwise_cons.1 ha).2 hi]
    congr 2
    omega
theorem pick_is : ∀ (l : List UInt8) (ws : List ByteArray) (j far m i : Nat), pick l ws j far = (m, some i) → ∃ (k : Nat) (w : ByteArray), i = j + k ∧ ws[k]? = some w ∧ m = w.size ∧ l.take m = bl w
  | l, [], j, far, m, i, h => by simp [pick] at h
  | l, x :: ws, j, far, m, i, h => by
    simp only [pick] at h
    split at h
    · rename_i e
      simp only [Prod.mk.injEq, Option.some.injEq] at h
      obtain ⟨rfl, rfl⟩ := h
      refine ⟨0, x, by omega, rfl, rfl, ?_⟩
      have := com_take l (bl x) (by rw [bl_length]; exact e)
      rw [bl_length] at this
      exact this
    · obtain ⟨k, w, rfl, hk, hm, ht⟩ := pick_is l ws (j + 1) _ m i h
      exact ⟨k + 1, w, by omega, by simpa using hk, hm, ht⟩

/-! ### The numbers -/
theorem byte_of {b : UInt8} (h : 48 ≤ b.toNat ∧ b.toNat ≤ 57) : UInt8.ofNat (48 + (b.toNat - 48)) = b := by
  rw [show 48 + (b.toNat - 48) = b.toNat by omega]
  simp
theorem ofNat_toNat {d : Nat} (h : d < 10) : (UInt8.ofNat (48 + d)).toNat = 48 + d := by
  simp
  omega
theorem nm_dec (u : Nat) : u ≤ MX → ∀ r, nm (Lib.decDigits u ++ r) 0 0 = nm r (Lib.nDigits u) u := by
  induction u using Nat.strongRecOn with
  | _ u ih =>
    intro hu r
    by_cases h : u < 10
    · have e := ofNat_toNat h
      rw [Lib.decDigits_one h, Lib.nDigits_small h, List.singleton_append, nm_on (by rw [e]; omega) (by rw [e]; omega), e]
      congr 1
      omega
    · have h10 : u % 10 < 10 := Nat.mod_lt _ (by decide)
      have e := ofNat_toNat h10
      have hp := Lib.nDigits_pos (u / 10)
      rw [show Lib.decDigits u = Lib.decDigits (u / 10) ++ [UInt8.ofNat (48 + u % 10)] by rw [Lib.decDigits, dif_neg h], List.append_assoc, ih (u / 10) (by omega) (by omega), Lib.nDigits_big h,
        List.singleton_append, nm_on (by rw [e]; omega) (by rw [e]; omega), e]
      congr 1
      omega
/-- What stands behind a number is no digit. -/
def Good (r : List UInt8) : Prop := ∀ c t, r = c :: t → ¬ (48 ≤ c.toNat ∧ c.toNat ≤ 57)
theorem nm_good {r : List UInt8} (h : Good r) (k v : Nat) : nm r k v = (k, v, false) := by
  cases r with
  | nil => rfl
  | cons c t => exact nm_stop (h c t rfl)
theorem decDigits_step {n d : Nat} (hn : n ≠ 0) (hd : d < 10) : Lib.decDigits (10 * n + d) = Lib.decDigits n ++ [UInt8.ofNat (48 + d)] := by
  rw [Lib.decDigits, dif_neg (by omega), show (10 * n + d) / 10 = n by omega, show (10 * n + d) % 10 = d by omega]
theorem nm_back : ∀ (l : List UInt8) (k n : Nat) (p : List UInt8), (k = 0 ∧ n = 0 ∧ p = []) ∨ (0 < k ∧ p = Lib.decDigits n) → 0 < (nm l k n).1 → p ++ l.take ((nm l k n).1 - k) = Lib.decDigits (nm l k n).2.1
  | [], k, n, p, hp, h => by
    simp only [nm] at h ⊢
    rcases hp with ⟨rfl, _⟩ | ⟨_, rfl⟩
    · omega
    · simp
  | b :: l, k, n, p, hp, h => by
    have hend : 0 < k → p ++ (b :: l).take (k - k) = Lib.decDigits n := fun hk => by
      rcases hp with ⟨rfl, _⟩ | ⟨_, rfl⟩
      · omega
      · simp
    by_cases hd : 48 ≤ b.toNat ∧ b.toNat ≤ 57
    · by_cases hs : 0 < k ∧ n = 0 ∨ MX < 10 * n + (b.toNat - 48)
      · rw [nm_stuck hd hs] at h ⊢
        exact hend h
      · rw [nm_on hd hs] at h ⊢
        have hge := (nm_ge l (k + 1) (10 * n + (b.toNat - 48))).1
        have ih := nm_back l (k + 1) (10 * n + (b.toNat - 48)) (p ++ [b]) (.inr ⟨by omega, ?_⟩) h
        · rw [← ih, show (nm l (k + 1) (10 * n + (b.toNat - 48))).1 - k = (nm l (k + 1) (10 * n + (b.toNat - 48))).1 - (k + 1) + 1 by omega]
          simp
        · rcases hp with ⟨rfl, rfl, rfl⟩ | ⟨hk, rfl⟩
          · rw [show 10 * 0 + (b.toNat - 48) = b.toNat - 48 by omega, Lib.decDigits_one (by omega), byte_of hd]
            rfl
          · rw [decDigits_step (fun e => hs (.inl ⟨hk, e⟩)) (by omega), byte_of hd]
    · rw [nm_stop hd] at h ⊢
      exact hend h

/-! ### A piece -/
def Nice (t : ByteArray × Option (List ByteArray) × Int) : Prop :=
  (∃ c r, bl t.1 = c :: r ∧ ¬ (48 ≤ c.toNat ∧ c.toNat ≤ 57)) ∧ 0 ≤ t.2.2 ∧ (∀ ws, t.2.1 = some ws → Apart ws) ∧ (t.2.1 = none → t.2.2 = 0)
theorem cTab_nice : ∀ t ∈ cTab, Nice t := by
  intro t ht
  obtain ⟨i, hi⟩ := List.mem_iff_getElem?.1 ht
  have hl : i < 15 := (List.getElem?_eq_some_iff.1 hi).1
  rcases i with _ | _ | _ | _ | _ | _ | _ | _ | _ | _ | _ | _ | _ | _ | _ | i
  case succ.succ.succ.succ.succ.succ.succ.succ.succ.succ.succ.succ.succ.succ.succ => omega
  all_goals
    obtain rfl := Option.some.inj hi
    refine ⟨⟨_, _, rfl, by decide⟩, by decide, fun ws hw => ?_, fun hw => ?_⟩
    · first
        | cases hw; done
        | (obtain rfl := Option.some.inj hw; unfold Apart; decide +kernel)
    · first
        | rfl
        | (cases hw; done)

theorem itoa_pos {n : Int} (h : 0 ≤ n) : Lib.itoa n = Lib.decDigits n.toNat := by
  unfold Lib.itoa
  rw [if_neg (by omega)]
theorem step_fwd (t : ByteArray × Option (List ByteArray) × Int) (hn : Nice t) (n : Int) (h1 : n ≤ 9223372036854775807) (x : List UInt8) (hx : wrI t n = some x) (r : List UInt8) (hr : Good r) : stepI (x ++ r) t = (x.length, true, n - t.2.2) := by
  obtain ⟨ta, two, tl⟩ := t
  obtain ⟨_, htl, hap, hz⟩ := hn
  cases two with
  | none =>
    obtain rfl : tl = 0 := hz rfl
    simp only [wrI] at hx
    split at hx
    · rename_i h0
      obtain rfl := Option.some.inj hx
      rw [itoa_pos h0]
      have hm : n.toNat ≤ MX := by rw [MX_eq]; omega
      have ec : com ((bl ta ++ Lib.decDigits n.toNat) ++ r) (bl ta) = ta.size := by rw [List.append_assoc, com_self, bl_length]
      have ed : ((bl ta ++ Lib.decDigits n.toNat) ++ r).drop ta.size = Lib.decDigits n.toNat ++ r := by
        rw [List.append_assoc, ← bl_length, List.drop_left]
      have en := nm_dec n.toNat hm r
      rw [nm_good hr] at en
      have hp := Lib.nDigits_pos n.toNat
      unfold stepI
      simp only
      rw [if_pos ec, ed, en]
      simp only [nok, nval, List.length_append, bl_length, Lib.decDigits_length]
      rw [decide_eq_true (by omega)]
      simp
      omega
    · cases hx
  | some ws =>
    simp only [wrI] at hx
    split at hx
    · rename_i hc
      obtain rfl := Option.some.inj hx
      have hi : (n - tl).toNat < ws.length := by omega
      have hw : ws[(n - tl).toNat]? = some (ws.getD (n - tl).toNat ByteArray.empty) := by
        rw [List.getD_eq_getElem?_getD, List.getElem?_eq_getElem hi]
        rfl
      generalize ws.getD (n - tl).toNat ByteArray.empty = w at *
      have ec : com ((bl ta ++ bl w) ++ r) (bl ta) = ta.size := by rw [List.append_assoc, com_self, bl_length]
      have ed : ((bl ta ++ bl w) ++ r).drop ta.size = bl w ++ r := by
        rw [List.append_assoc, ← bl_length, List.drop_left]
      have ep := pick_hit ws (n - tl).toNat 0 0 w r (hap ws rfl) hw
      unfold stepI
      simp only
      rw [if_pos ec, ed, ep]
      simp only [List.length_append, bl_length, Option.isSome_some, Option.getD_some, Prod.mk.injEq, true_and]
      omega
    · cases hx
theorem step_back (t : ByteArray × Option (List ByteArray) × Int) (hn : Nice t) (l : List UInt8) (m : Nat) (v : Int) (h : stepI l t = (m, true, v)) : wrI t (v + t.2.2) = some (l.take m) ∧ m ≤ l.length := by
  obtain ⟨ta, two, tl⟩ := t
  obtain ⟨_, htl, hap, hz⟩ := hn
  unfold stepI at h
  simp only at h
  split at h
  · rename_i ec
    have hta : l.take ta.size = bl ta := by
      have := com_take l (bl ta) (by rw [bl_length]; exact ec)
      rw [bl_length] at this
      exact this
    have hle : ta.size ≤ l.length := by rw [← ec]; exact com_le_left _ _
    have htk : ∀ k, l.take (ta.size + k) = bl ta ++ (l.drop ta.size).take k := fun k => by rw [List.take_add, hta]
    cases two with
    | none =>
      obtain rfl : tl = 0 := hz rfl
      simp only [Prod.mk.injEq] at h
      obtain ⟨rfl, hok, rfl⟩ := h
      have hb := nm_back (l.drop ta.size) 0 0 [] (.inl ⟨rfl, rfl, rfl⟩)
      have hg := (nm_ge (l.drop ta.size) 0 0).2
      generalize nm (l.drop ta.size) 0 0 = o at *
      obtain ⟨k, u, f⟩ := o
      simp only [nok, Bool.and_eq_true, decide_eq_true_eq, Bool.not_eq_true'] at hok
      obtain ⟨hk, rfl⟩ := hok
      have hb := hb hk
      simp only [Nat.sub_zero, List.nil_append] at hb
      simp only [nval, wrI, List.length_drop, Bool.false_eq_true, if_false] at hg ⊢
      rw [if_pos (by omega), htk, hb, itoa_pos (by omega)]
      refine ⟨?_, by omega⟩
      congr 3
    | some ws =>
      simp only [Prod.mk.injEq] at h
      obtain ⟨rfl, hok, rfl⟩ := h
      cases hp : pick (l.drop ta.size) ws 0 0 with
      | mk k o =>
        rw [hp] at hok
        cases o with
        | none => cases hok
        | some i =>
          obtain ⟨j, w, rfl, hw, rfl, ht⟩ := pick_is _ _ _ _ _ _ hp
          have hlt : j < ws.length := (List.getElem?_eq_some_iff.1 hw).1
          have hle2 := (pick_le (l.drop ta.size) ws 0 0 (Nat.zero_le _)).1
          rw [hp, List.length_drop] at hle2
          simp only at hle2
          simp only [Option.getD_some, wrI, Nat.zero_add]
          rw [if_pos (by omega), htk, ht, show ((j : Int) + tl - tl).toNat = j by omega, List.getD_eq_getElem?_getD, hw]
          exact ⟨rfl, by omega⟩
  · simp at h

/-! ### The line -/
theorem good_nil : Good [] := fun _ _ h => by cases h
theorem wr_head {t : ByteArray × Option (List ByteArray) × Int} (hn : Nice t) {n : Int} {x : List UInt8} (hx : wrI t n = some x) (r : List UInt8) : Good (x ++ r) := by
  obtain ⟨⟨c, q, hc, hd⟩, _⟩ := hn
  have : ∃ z, x = bl t.1 ++ z := by
    unfold wrI at hx
    split at hx
    · split at hx
      · exact ⟨_, (Option.some.inj hx).symm⟩
      · cases hx
    · split at hx
      · exact ⟨_, (Option.some.inj hx).symm⟩
      · cases hx
  obtain ⟨z, rfl⟩ := this
  rw [hc]
  intro a b h
  obtain ⟨rfl, _⟩ := List.cons.inj h
  exact hd

/-- What is written is read: from any place on, whatever good thing stands behind. -/
theorem run_fwd : ∀ (ts : List (ByteArray × Option (List ByteArray) × Int)) (ns : List Int) (l l' : List UInt8), (∀ t ∈ ts, Nice t) → (∀ n ∈ ns, n ≤ 9223372036854775807) → ns.length = ts.length → outI ts ns l = some l' →
    ∃ y, l' = l ++ y ∧ ∀ (r s : List UInt8) (n j : Nat) (xs : List Int), Good r → (ts = [] → True) → s.drop n = y ++ r → xs.length = j + ts.length → runI s ts n j xs = (n + y.length, some (xs.take j ++ ns))
  | [], [], l, l', _, _, _, h => by
    obtain rfl := Option.some.inj h
    refine ⟨[], by simp, fun r s n j xs _ _ _ hx => ?_⟩
    simp only [runI, List.length_nil, Nat.add_zero, List.append_nil]
    rw [List.take_of_length_le (by simp at hx; omega)]
  | [], _ :: _, _, _, _, _, h, _ => by cases h
  | _ :: _, [], _, _, _, _, h, _ => by cases h
  | t :: ts, m :: ns, l, l', hn, hb, hl, h => by
    have ht := hn t (List.mem_cons_self ..)
    have h' : (wrI t m).bind (fun x => outI ts ns (l ++ x)) = some l' := h
    cases hx : wrI t m with
    | none => rw [hx] at h'; cases h'
    | some x =>
      rw [hx, Option.bind_some] at h'
      obtain ⟨y, rfl, hy⟩ := run_fwd ts ns (l ++ x) l' (fun t h => hn t (List.mem_cons_of_mem _ h)) (fun n h => hb n (List.mem_cons_of_mem _ h)) (by simpa using hl) h'
      refine ⟨x ++ y, by rw [List.append_assoc], fun r s n j xs hr _ hs hxs => ?_⟩
      have hg : Good (y ++ r) := by
        cases ts with
        | nil =>
          cases ns with
          | nil =>
            have : l ++ x = l ++ x ++ y := by simpa [outI] using h'
            have : y = [] := by simpa using this
            subst this
            exact hr
          | cons _ _ => simp at hl
        | cons t2 ts =>
          cases ns with
          | nil => simp at hl
          | cons m2 ns =>
            have h2 : (wrI t2 m2).bind (fun x' => outI ts ns (l ++ x ++ x')) = some (l ++ x ++ y) := h'
            cases hx2 : wrI t2 m2 with
            | none => rw [hx2] at h2; cases h2
            | some x2 =>
              rw [hx2, Option.bind_some] at h2
              obtain ⟨y2, hy2, _⟩ := run_fwd ts ns (l ++ x ++ x2) _ (fun t h => hn t (List.mem_cons_of_mem _ (List.mem_cons_of_mem _ h))) (fun n h => hb n (List.mem_cons_of_mem _ (List.mem_cons_of_mem _ h))) (by simpa using hl) h2
              have hyy : y = x2 ++ y2 := by
                rw [List.append_assoc (l ++ x)] at hy2
                exact List.append_cancel_left hy2
              rw [hyy, List.append_assoc]
              exact wr_head (hn t2 (List.mem_cons_of_mem _ (List.mem_cons_self ..))) hx2 _
      have hst := step_fwd t ht m (hb m (List.mem_cons_self ..)) x hx (y ++ r) hg
      rw [List.append_assoc] at hs
      have hd : s.drop (n + x.length) = y ++ r := by rw [← List.drop_drop, hs, List.drop_left]
      have hj : j < xs.length := by rw [hxs, List.length_cons]; omega
      have hrun := hy r s (n + x.length) (j + 1) (xs.set j m) hr (fun _ => trivial) hd (by rw [List.length_set, hxs, List.length_cons]; omega)
      simp only [runI]
      rw [hs, hst]
      simp only [if_true]
      rw [Int.sub_add_cancel, hrun, List.length_append, Nat.add_assoc]
      congr 2
      rw [List.take_add_one, List.take_set_of_le (Nat.le_refl j), List.getElem?_set_self hj]
      simp

theorem out_back : ∀ (ts : List (ByteArray × Option (List ByteArray) × Int)) (s : List UInt8) (n j : Nat) (xs : List Int) (n' : Nat) (ys : List Int), (∀ t ∈ ts, Nice t) → xs.length = j + ts.length → n ≤ s.length → runI s ts n j xs = (n', some ys) →
    ys.take j = xs.take j ∧ ys.length = xs.length ∧ n ≤ n' ∧ n' ≤ s.length ∧ ∀ l, outI ts (ys.drop j) l = some (l ++ (s.drop n).take (n' - n))
  | [], s, n, j, xs, n', ys, _, hx, hn, h => by
    simp only [runI, Prod.mk.injEq, Option.some.injEq] at h
    obtain ⟨rfl, rfl⟩ := h
    refine ⟨rfl, rfl, Nat.le_refl _, hn, fun l => ?_⟩
    rw [List.drop_of_length_le (by simp at hx; omega)]
    simp [outI]
  | t :: ts, s, n, j, xs, n', ys, hN, hx, hn, h => by
    simp only [runI] at h
    split at h
    · rename_i hok
      cases hst : stepI (s.drop n) t with
      | mk m o =>
        obtain ⟨ok, v⟩ := o
        rw [hst] at h hok
        simp only at h hok
        subst hok
        obtain ⟨hw, hm⟩ := step_back t (hN t (List.mem_cons_self ..)) _ m v hst
        rw [List.length_drop] at hm
        rw [List.length_cons] at hx
        obtain ⟨h1, h2, h3, h3', h4⟩ := out_back ts s (n + m) (j + 1) (xs.set j (v + t.2.2)) n' ys (fun t h => hN t (List.mem_cons_of_mem _ h)) (by rw [List.length_set, hx]; omega) (by omega) h
        rw [List.length_set] at h2
        have hj : j < ys.length := by omega
        have h5 : ys[j]? = some (v + t.2.2) := by
          have e : (ys.take (j + 1))[j]? = ((xs.set j (v + t.2.2)).take (j + 1))[j]? := by rw [h1]
          rw [List.getElem?_take_of_lt (by omega), List.getElem?_take_of_lt (by omega), List.getElem?_set_self (by omega)] at e
          exact e
        refine ⟨?_, h2, by omega, h3', fun l => ?_⟩
        · have e : (ys.take (j + 1)).take j = ((xs.set j (v + t.2.2)).take (j + 1)).take j := by rw [h1]
          rw [List.take_take, List.take_take, Nat.min_eq_left (by omega), List.take_set_of_le (Nat.le_refl j)] at e
          exact e
        · have e : ys.drop j = (v + t.2.2) :: ys.drop (j + 1) := by rw [List.drop_eq_getElem?_toList_append, h5]; rfl
          rw [e]
          show (wrI t (v + t.2.2)).bind _ = _
          rw [hw, Option.bind_some, h4, List.append_assoc, ← List.drop_drop, show n' - n = m + (n' - (n + m)) by omega, List.take_add]
    · cases h
end Go.Proofs.YtfecfgimfjcbdaaDoor.Cf
