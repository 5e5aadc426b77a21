/- What the program prints is what the reference prints. (Several texts in one: The reference's way to write a secret is the program's, where the secret is well-formed. · replicaref12.Print, walked. · What the program prints is what the reference prints.) -/
import Derived.Test.YtfecfgimfjcbdaaDoorMgE
import Derived.Test.YtfecfgimfjcbdaaDoorQRShown
import Derived.Test.YtfecfgimfjcbdaaDoorMgF
import Derived.Test.YtfecfgimfjcbdaaDoorMgA
namespace Go.Proofs.YtfecfgimfjcbdaaDoor.Cf
open Go.RowKit Go.Proofs.YtfecfgimfjcbdaaDoorW.PrintWords Go.Proofs.YtfecfgimfjcbdaaDoorW.PrintLast Go.Proofs.YtfecfgimfjcbdaaDoorW.PrintMore Go.Proofs.YtfecfgimfjcbdaaDoor.QRCheck

theorem wide_more (s : ByteArray) (i : Int) (r : Int × Int) (h : replicaref12_wide.f 30 s i = some r) : ∀ d, replicaref12_wide.f (30 + d) s i = some r
  | 0 => h
  | d + 1 => replicaref12_wide.mono s i (30 + d) r (wide_more s i r h d)
theorem wide_at (s : ByteArray) (hs : s.size ≤ 1125899906842624) (i : Nat) (hi : i < s.size) (k : Nat) (hk : 30 ≤ k) : replicaref12_wide.f k s (i : Int) = some (((wdL ((bl s).drop i)).1 : Int), ((wdL ((bl s).drop i)).2 : Int)) := by
  have := wide_more s i _ (wide_spec s hs i hi) (k - 30)
  rwa [show 30 + (k - 30) = k by omega] at this
theorem blA (a b : ByteArray) : bl (a ++ b) = bl a ++ bl b := by simp [bl]
theorem blX (s : ByteArray) (a b : Nat) : bl (s.extract a b) = ((bl s).drop a).take (b - a) := by
  unfold bl
  rw [ByteArray.data_extract, Array.toList_extract, List.extract_eq_take_drop]
theorem dg_ext : ∀ q : Fin 16, (⟨#[48, 49, 50, 51, 52, 53, 54, 55, 56, 57, 97, 98, 99, 100, 101, 102]⟩ : ByteArray).extract q.val (q.val + 1) = ⟨#[dgS.get! q.val]⟩ := by decide +kernel
theorem dg_x (q : Nat) (hq : q < 16) : (⟨#[48, 49, 50, 51, 52, 53, 54, 55, 56, 57, 97, 98, 99, 100, 101, 102]⟩ : ByteArray).extract q (q + 1) = ⟨#[dgS.get! q]⟩ := dg_ext ⟨q, hq⟩

theorem two_bytes (a b : UInt8) : (⟨#[a, b]⟩ : ByteArray) = (⟨#[a]⟩ : ByteArray) ++ (⟨#[b]⟩ : ByteArray) := rfl

set_option maxHeartbeats 1000000 in
theorem shown_l0 (s : ByteArray) (hs : s.size ≤ 1000) : ∀ (n pos : Nat) (z : ByteArray) (k : Nat), s.size - pos ≤ n → pos ≤ s.size → 3 * n + 40 ≤ k → z.size + 10 * n ≤ 100000 → Lib.validD ((bl s).drop pos) = true →
    ∃ y, replicaref12_shown.l0 k s z (pos : Int) = some y ∧ bl y = bl z ++ (qFrom s n pos ++ [34])
  | n, pos, z, 0, _, _, hk, _, _ => by omega
  | n, pos, z, k + 1, hn, hp, hk, hz, hv => by
    unfold replicaref12_shown.l0
    by_cases hlt : pos < s.size
    · cases n with
      | zero => omega
      | succ n =>
        have hne : (bl s).drop pos ≠ [] := fun e => by
          have := congrArg List.length e
          rw [List.length_drop, bl_length, List.length_nil] at this
          omega
        rw [if_pos (by omega), wide_at s (by omega) pos hlt k (by omega), Option.bind_some]
        rw [valid_on _ hne] at hv
        have hle := wd_le _ hne
        rw [List.length_drop, bl_length] at hle
        have hdec : Utf8.decode s pos = ((wdL ((bl s).drop pos)).2, (wdL ((bl s).drop pos)).1) ∧ Lib.encodeRune ((wdL ((bl s).drop pos)).2 : Int) = ((bl s).drop pos).take (wdL ((bl s).drop pos)).1 := by
          have e1 := Lib.decodeL_drop s pos
          rw [← e1]
          unfold wdL at hv ⊢
          by_cases hb : (Lib.decodeL ((bl s).drop pos)).1 = 65533 ∧ (Lib.decodeL ((bl s).drop pos)).2 = 1
          · rw [if_pos hb] at hv
            simp at hv
          · rw [if_neg hb]
            exact ⟨rfl, Lib.encode_decode _ hne hb⟩
        have hq : qFrom s (n + 1) pos = escR (wdL ((bl s).drop pos)).2 ++ qFrom s n (pos + (wdL ((bl s).drop pos)).1) := by
          simp only [qFrom, if_pos hlt, hdec.1]
        rw [hq]
        have henc := hdec.2
        clear hdec hq
        have hel := enc_le ((wdL ((bl s).drop pos)).2 : Int)
        generalize (wdL ((bl s).drop pos)).1 = m at *
        generalize (wdL ((bl s).drop pos)).2 = r at *
        by_cases hm : m = 0
        · rw [if_pos hm] at hv
          cases hv
        rw [if_neg hm, List.drop_drop] at hv
        have EW : Aside0 (wrap64 ((pos : Int) + (m : Int)) = ((pos + m : Nat) : Int)) := ⟨by rw [wrap_id (by omega) (by omega)]; omega⟩
        have ee : bl (s.extract pos (pos + m)) = Lib.encodeRune (r : Int) := by rw [blX, henc]; congr 1; omega
        have es : (s.extract pos (pos + m)).size ≤ 4 := by rw [← bl_length, ee]; exact hel
        have ih := fun z' hz' => shown_l0 s hs n (pos + m) z' (k - 1) (by omega) (by omega) (by omega) hz' hv
        have ih2 := fun z' hz' => shown_l0 s hs n (pos + m) z' (k - 2) (by omega) (by omega) (by omega) hz' hv
        obtain ⟨k, rfl⟩ : ∃ q, k = q + 2 := ⟨k - 2, by omega⟩
        rw [show k + 2 - 1 = k + 1 by omega] at ih
        rw [show k + 2 - 2 = k by omega] at ih2
        simp only
        by_cases h34 : r = 34 ∨ r = 92
        · have hesc : escR r = 92 :: Lib.encodeRune (r : Int) := by unfold escR; rw [if_pos h34]
          have hsz : (z ++ (⟨#[92]⟩ : ByteArray)).size = z.size + 1 := by rw [ByteArray.size_append]; rfl
          have key : replicaref12_shown.j1 (k + 2) s z (pos : Int) (m : Int) (r : Int) true = replicaref12_shown.l0 (k + 1) s ((z ++ (⟨#[92]⟩ : ByteArray)) ++ s.extract pos (pos + m)) ((pos + m : Nat) : Int) := by
            unfold replicaref12_shown.j1
            rw [EW.out, if_pos rfl, if_pos (by omega), if_pos (by omega), if_pos (by omega), if_pos (by omega), Int.toNat_natCast, Int.toNat_natCast, if_pos (by rw [hsz]; omega)]
          obtain ⟨y, hy, hb⟩ := ih ((z ++ (⟨#[92]⟩ : ByteArray)) ++ s.extract pos (pos + m)) (by rw [ByteArray.size_append, hsz]; omega)
          refine ⟨y, ?_, ?_⟩
          · by_cases h : (r : Int) = 34
            · rw [if_pos h, key, hy]
            · rw [if_neg h, show ((r : Int) == 92) = true by simp; omega, key, hy]
          · rw [hb, hesc, blA, blA, ee]
            simp [bl]
        · have hr34 : ¬ (r : Int) = 34 := by omega
          have hr92 : ((r : Int) == 92) = false := by simp; omega
          rw [if_neg hr34, hr92]
          unfold replicaref12_shown.j1
          rw [if_neg (by simp), EW.out]
          by_cases h10 : r = 10
          · have hesc : escR r = [92, 110] := by unfold escR; rw [if_neg h34, if_pos h10]
            rw [if_pos (by omega), if_pos (by omega)]
            obtain ⟨y, hy, hb⟩ := ih (z ++ (⟨#[92, 110]⟩ : ByteArray)) (by rw [ByteArray.size_append]; show z.size + 2 + _ ≤ _; omega)
            refine ⟨y, hy, ?_⟩
            rw [hb, hesc, blA]
            simp [bl]
          · rw [if_neg (by omega)]
            by_cases h9 : r = 9
            · have hesc : escR r = [92, 116] := by unfold escR; rw [if_neg h34, if_neg h10, if_pos h9]
              rw [if_pos (by omega), if_pos (by omega)]
              obtain ⟨y, hy, hb⟩ := ih (z ++ (⟨#[92, 116]⟩ : ByteArray)) (by rw [ByteArray.size_append]; show z.size + 2 + _ ≤ _; omega)
              refine ⟨y, hy, ?_⟩
              rw [hb, hesc, blA]
              simp [bl]
            · rw [if_neg (by omega)]
              by_cases hc : r < 32 ∨ r = 127
              · have hesc : escR r = [92, 117, 123] ++ bl (hexS r) ++ [125] := by unfold escR; rw [if_neg h34, if_neg h10, if_neg h9, if_pos hc]
                have hz3 : (z ++ (⟨#[92, 117, 123]⟩ : ByteArray)).size = z.size + 3 := by rw [ByteArray.size_append]; rfl
                have et : Int.tmod (r : Int) 16 = ((r % 16 : Nat) : Int) := by rw [Int.tmod_eq_emod_of_nonneg (by omega)]; rfl
                have ED : Aside0 (wrap64 (Int.tdiv (r : Int) 16) = ((r / 16 : Nat) : Int)) := ⟨by rw [Int.tdiv_eq_ediv_of_nonneg (by omega), wrap_id (by omega) (by omega)]; rfl⟩
                have E1 : Aside0 (wrap64 (((r % 16 : Nat) : Int) + 1) = ((r % 16 + 1 : Nat) : Int)) := ⟨by rw [wrap_id (by omega) (by omega)]; omega⟩
                have E2 : Aside0 (wrap64 (((r / 16 : Nat) : Int) + 1) = ((r / 16 + 1 : Nat) : Int)) := ⟨by rw [wrap_id (by omega) (by omega)]; omega⟩
                have x1 := dg_x (r % 16) (by omega)
                have x2 := dg_x (r / 16) (by omega)
                have key : replicaref12_shown.j2 (k + 1) s z (pos : Int) (m : Int) (r : Int) true = replicaref12_shown.l0 k s ((z ++ (⟨#[92, 117, 123]⟩ : ByteArray)) ++ hexS r ++ (⟨#[125]⟩ : ByteArray)) ((pos + m : Nat) : Int) := by
                  unfold replicaref12_shown.j2
                  rw [EW.out, if_pos rfl, if_pos (by omega), et, ED.out, E1.out, E2.out]
                  simp only [Int.toNat_natCast, x1, x2]
                  have hb1 : ∀ c : UInt8, (⟨#[c]⟩ : ByteArray).size = 1 := fun _ => rfl
                  by_cases h15 : r < 16
                  · have hx : hexS r = ⟨#[dgS.get! (r % 16)]⟩ := by unfold hexS; rw [if_pos h15, Nat.mod_eq_of_lt h15]
                    rw [if_neg (by omega), if_pos (by omega), if_pos (by omega), if_pos (by omega), if_pos (by rw [hz3, hb1]; omega), if_pos (by rw [ByteArray.size_append, hz3, hb1]; omega), hx]
                  · have hx : hexS r = (⟨#[dgS.get! (r / 16)]⟩ : ByteArray) ++ (⟨#[dgS.get! (r % 16)]⟩ : ByteArray) := by unfold hexS; rw [if_neg h15]; exact two_bytes _ _
                    rw [if_pos (by omega), if_pos (by omega), if_pos (by omega), if_pos (by omega), if_pos (by rw [hz3, hb1]; omega), if_pos (by omega), if_pos (by omega), if_pos (by omega), if_pos (by rw [ByteArray.size_append, hz3, hb1, hb1]; omega), if_pos (by rw [ByteArray.size_append, ByteArray.size_append, hz3, hb1, hb1]; omega), hx]
                    simp only [ByteArray.append_assoc]
                have hh := hex_le r
                rw [bl_length] at hh
                obtain ⟨y, hy, hb⟩ := ih2 ((z ++ (⟨#[92, 117, 123]⟩ : ByteArray)) ++ hexS r ++ (⟨#[125]⟩ : ByteArray)) (by rw [ByteArray.size_append, ByteArray.size_append, hz3]; show z.size + 3 + (hexS r).size + 1 + _ ≤ _; omega)
                refine ⟨y, ?_, ?_⟩
                · by_cases h32 : (r : Int) < 32
                  · rw [if_pos h32, key, hy]
                  · rw [if_neg h32, show ((r : Int) == 127) = true by simp; omega, key, hy]
                · rw [hb, hesc, blA, blA, blA]
                  simp [bl]
              · have hesc : escR r = Lib.encodeRune (r : Int) := by unfold escR; rw [if_neg h34, if_neg h10, if_neg h9, if_neg hc]
                rw [if_neg (by omega), show ((r : Int) == 127) = false by simp; omega]
                unfold replicaref12_shown.j2
                rw [if_neg (by simp), EW.out, if_pos (by omega), if_pos (by omega), if_pos (by omega), Int.toNat_natCast, Int.toNat_natCast, if_pos (by omega)]
                obtain ⟨y, hy, hb⟩ := ih2 (z ++ s.extract pos (pos + m)) (by rw [ByteArray.size_append]; omega)
                refine ⟨y, hy, ?_⟩
                rw [hb, hesc, blA, ee, List.append_assoc, List.append_assoc]
    · rw [if_neg (by omega), if_pos (by omega)]
      refine ⟨_, rfl, ?_⟩
      rw [qFrom_end s n pos hlt, blA]
      rfl
theorem shown_f (s : ByteArray) (hs : s.size ≤ 1000) (hv : Lib.validD (bl s) = true) : replicaref12_shown.f (3 * s.size + 40) s = some ⟨(quoteL s).toArray⟩ := by
  obtain ⟨y, hy, hb⟩ := shown_l0 s hs s.size 0 (⟨#[34]⟩ : ByteArray) (3 * s.size + 40) (by omega) (by omega) (by omega) (by show 1 + _ ≤ _; omega) hv
  unfold replicaref12_shown.f
  rw [show (0 : Int) = ((0 : Nat) : Int) from rfl, hy]
  congr 1
  apply ByteArray.ext
  apply Array.ext'
  show bl y = quoteL s
  rw [hb]
  unfold quoteL
  simp [bl]
theorem refshown_any (s : ByteArray) (hs : s.size ≤ 1000) (hv : Lib.validD (bl s) = true) (w : World) : Calls Tryd.prog 54 #[.string s] w fun e w' => e = .returned (.string ⟨(quoteL s).toArray⟩) ∧ Below w.heap.size w w' :=
  replicaref12_shown.calls _ s _ w (shown_f s hs hv)
end Go.Proofs.YtfecfgimfjcbdaaDoor.Cf

namespace Go.Proofs.YtfecfgimfjcbdaaDoor.Cf
open Go.RowKit Go.Proofs.YtfecfgimfjcbdaaDoorW.PrintWords Go.Proofs.YtfecfgimfjcbdaaDoorW.PrintLast Go.Proofs.YtfecfgimfjcbdaaDoorW.PrintMore Go.Proofs.YtfecfgimfjcbdaaDoor.QRCheck

/-- All the words that stand for n. -/
def wcat (n : Int) : List Int → List ByteArray → List UInt8
  | v :: vs, w :: ws => (if v = n then bl w else []) ++ wcat n vs ws
  | _, _ => []
def rV (t : KeyT) (n : Int) : List UInt8 := match t.2.2.2.2.2 with | some p => wcat n p.2 p.1 | none => Lib.itoa n
def rD (t : KeyT) (n : Int) : List UInt8 := bl ((⟨#[32, 32]⟩ : ByteArray) ++ t.2.1 ++ (⟨#[32]⟩ : ByteArray)) ++ (rV t n ++ [59, 10])
def rS (sc : ByteArray) (t : KeyT) : List UInt8 := if (t.2.1.toList == [109, 97, 120, 45, 113, 117, 101, 117, 101]) = true then bl ((⟨#[32, 32, 32, 32, 115, 104, 97, 114, 101, 100, 45, 115, 101, 99, 114, 101, 116, 32]⟩ : ByteArray) ++ ⟨(quoteL sc).toArray⟩ ++ (⟨#[59, 10]⟩ : ByteArray)) else []
def rOne (k : Nat → Int) (sc : ByteArray) (j : Nat) (t : KeyT) (op : ByteArray) : List UInt8 := pA t op ++ (pC t ++ (rD t (k j) ++ rS sc t))
def rFrom (k : Nat → Int) (sc : ByteArray) : Nat → Nat → ByteArray → List UInt8
  | 0, _, _ => []
  | n + 1, j, op => match kTab[j]? with
    | some t => rOne k sc j t op ++ rFrom k sc n (j + 1) t.1
    | none => []
def printR (nm sc : ByteArray) (k : Nat → Int) : List UInt8 := bl ((⟨#[114, 101, 115, 111, 117, 114, 99, 101, 32]⟩ : ByteArray) ++ nm ++ (⟨#[32, 123, 10]⟩ : ByteArray)) ++ rFrom k sc 16 0 (⟨#[]⟩ : ByteArray) ++ bl (⟨#[32, 32, 125, 10, 125, 10]⟩ : ByteArray)

theorem words_f (i : Nat) (t : KeyT) (p : List ByteArray × List Int) (ht : kTab[i]? = some t) (hp : t.2.2.2.2.2 = some p) : replicaref12_words.f t.2.1 = some (p.1, p.2) ∧ t.2.2.2.1 = 0 := by
  have hl : i < 16 := (List.getElem?_eq_some_iff.1 ht).1
  rcases i with _ | _ | _ | _ | _ | _ | _ | _ | _ | _ | _ | _ | _ | _ | _ | _ | i
  case succ.succ.succ.succ.succ.succ.succ.succ.succ.succ.succ.succ.succ.succ.succ.succ => omega
  all_goals
    obtain rfl := Option.some.inj ht
    first
      | (cases hp; done)
      | (obtain rfl := Option.some.inj hp; exact ⟨by decide +kernel, rfl⟩)
theorem words_len (i : Nat) (t : KeyT) (p : List ByteArray × List Int) (ht : kTab[i]? = some t) (hp : t.2.2.2.2.2 = some p) : 0 < p.1.length ∧ p.1.length ≤ 5 := by
  have hl : i < 16 := (List.getElem?_eq_some_iff.1 ht).1
  rcases i with _ | _ | _ | _ | _ | _ | _ | _ | _ | _ | _ | _ | _ | _ | _ | _ | i
  case succ.succ.succ.succ.succ.succ.succ.succ.succ.succ.succ.succ.succ.succ.succ.succ => omega
  all_goals
    obtain rfl := Option.some.inj ht
    first
      | (cases hp; done)
      | (obtain rfl := Option.some.inj hp; exact ⟨by decide, by decide⟩)
theorem num_hi (i : Nat) (t : KeyT) (ht : kTab[i]? = some t) (hp : t.2.2.2.2.2 = none) : 0 < t.2.2.2.1 ∧ 0 < t.2.2.1 := by
  have hl : i < 16 := (List.getElem?_eq_some_iff.1 ht).1
  rcases i with _ | _ | _ | _ | _ | _ | _ | _ | _ | _ | _ | _ | _ | _ | _ | _ | i
  case succ.succ.succ.succ.succ.succ.succ.succ.succ.succ.succ.succ.succ.succ.succ.succ => omega
  all_goals
    obtain rfl := Option.some.inj ht
    first
      | (cases hp; done)
      | exact ⟨by decide, by decide⟩
theorem okFrom_at (k : Nat → Int) : ∀ (n j i : Nat) (t : KeyT), okFrom k n j = true → j ≤ i → i < j + n → kTab[i]? = some t → tk t (k i) = true
  | 0, j, i, t, _, h1, h2, _ => by omega
  | n + 1, j, i, t, h, h1, h2, ht => by
    simp only [okFrom, Bool.and_eq_true] at h
    by_cases he : i = j
    · subst he
      rw [ht] at h
      exact h.1
    · exact okFrom_at k n (j + 1) i t h.2 (by omega) (by omega) ht
theorem itoa_le (n : Int) (hn : -9223372036854775808 ≤ n ∧ n ≤ 9223372036854775807) : (Lib.itoa n).length ≤ 100 := by
  unfold Lib.itoa
  have d : ∀ u : Nat, u ≤ 9223372036854775808 → (Lib.decDigits u).length ≤ 20 := fun u hu => by rw [Lib.decDigits_length]; exact nDigits_le 20 u (by decide) (by omega)
  have d1 := d n.natAbs (by omega)
  have d2 := d n.toNat (by omega)
  have d3 := d (-n).toNat (by omega)
  split
  all_goals
    try simp only [List.length_cons]
    omega
theorem wcat_le (n : Int) : ∀ (vs : List Int) (ws : List ByteArray), (∀ x ∈ ws, x.size ≤ 100) → (wcat n vs ws).length ≤ 100 * ws.length
  | [], _, _ => by simp [wcat]
  | _ :: _, [], _ => by simp [wcat]
  | v :: vs, w :: ws, h => by
    have ih := wcat_le n vs ws (fun x hx => h x (List.mem_cons_of_mem _ hx))
    have hw := h w (List.mem_cons_self ..)
    simp only [wcat, List.length_append, List.length_cons]
    split
    · rw [bl_length]; omega
    · simp only [List.length_nil]; omega

set_option maxRecDepth 100000 in
set_option maxHeartbeats 2000000 in
theorem refprint_any (nm sc : ByteArray) (k : Nat → Int) (hk : ∀ i, -9223372036854775808 ≤ k i ∧ k i ≤ 9223372036854775807) (w : World) :
    Calls Tryd.prog 23 #[.agg (cfgC nm sc k)] w fun e w' => e = .returned (.tuple #[.string (if chkI nm sc k = 0 then ⟨(printR nm sc k).toArray⟩ else (⟨#[]⟩ : ByteArray)), .int .i64 (chkI nm sc k)]) ∧ Below w.heap.size w w' := by
  have K1 := Aside0.mk (blk_new w (.cells (cfgC nm sc k) 23))
  have HB1 := Aside0.mk ((Below.refl w.heap.size w).alloc (Nat.le_refl _) (.cells (cfgC nm sc k) 23))
  go_enter Tryd.func23, Tryd.ntmps23
  go_wp2_with ((with_reducible refine gate_dst (N := 14) rfl ?_); refine wpList_load_row rfl 23 _ rfl w.heap.size rfl 23 (cfgC nm sc k) (0, 0) _ K1.out Tryd.underlying23 rfl (by kernel_rfl) ?_)
  generalize w.alloc (.cells (cfgC nm sc k) 23) = w1 at *
  refine (refcheck_any nm sc k w1).mono ?_
  rintro e w2 ⟨rfl, hB2⟩
  have K2 := Aside0.mk (blk_below K1.out hB2)
  have HB2 := Aside0.mk (below_then HB1.out HB1.out.size hB2)
  have hlt2 : w.heap.size < w2.heap.size := blk_lt K2.out
  clear hB2 K1 HB1
  by_cases hck : chkI nm sc k = 0
  case neg =>
    have hck1 : chkI nm sc k = 124 := by
      unfold chkI at hck ⊢
      split
      · rename_i h; rw [if_pos h] at hck; exact absurd rfl hck
      · rfl
    rw [hck1]
    go_wp2
    go_ret2
    exact ⟨rfl, HB2.out⟩
  case pos =>
    rw [hck]
    obtain ⟨hnm, hOK, hV⟩ : (nm.size ≤ 31 ∧ sc.size ≤ 64) ∧ okK k = true ∧ Lib.validD (bl sc) = true := by
      unfold chkI at hck
      split at hck
      · rename_i h
        simp only [restI, nameI, Bool.and_eq_true, decide_eq_true_eq] at h
        exact ⟨⟨h.2.1.1.1.1.1.2, h.2.1.1.2⟩, h.1, h.2.1.2⟩
      · cases hck
    have HOK := Aside0.mk hOK
    have HVD := Aside0.mk hV
    clear hOK hV
    go_wp2_with fail
    refine (table_any w2).mono ?_
    rintro e w3 ⟨rfl, hB3⟩
    have K3 := Aside0.mk (blk_below K2.out hB3)
    have HB3 := Aside0.mk (below_then HB2.out (by omega) hB3)
    have hlt3 : w.heap.size < w3.heap.size := blk_lt K3.out
    have hn := blk_new w3 (.cells Tryd.zeroCells61 61)
    have K4 := Aside0.mk (blk_alloc K3.out (.cells Tryd.zeroCells61 61))
    have HB4 := Aside0.mk (HB3.out.alloc (by omega) (.cells Tryd.zeroCells61 61))
    clear hB3 K2 HB2 K3 HB3
    go_upto_region 5 with (refine store_whole rfl rfl rfl (g := w3.heap.size) rfl rTabC rfl hn (by kernel_rfl) (by kernel_rfl) (by decide +kernel) ?_; intro w5 h5 hg5)
    have K5 := Aside0.mk (grown_blk hg5 K4.out (by omega))
    have HB5 := Aside0.mk (pw_below_grown HB4.out (some w3.heap.size) (by have := HB4.out.size; omega) hg5 (fun q hq => by obtain rfl := Option.some.inj hq; omega))
    have HL := Aside0.mk h5
    clear K4 HB4 hg5 h5 hn
    go_wp2_with ((with_reducible refine gate_dst (N := 20) rfl ?_); refine wpList_load_row rfl 23 _ rfl w.heap.size rfl 23 (cfgC nm sc k) (0, 0) _ K5.out Tryd.underlying23 rfl (by kernel_rfl) ?_)
    refine (numbers_any nm sc k w5).mono ?_
    rintro e w6 ⟨rfl, hB6⟩
    have hw5 : w.heap.size + 1 ≤ w5.heap.size := blk_lt K5.out
    have hl5 : w3.heap.size < w5.heap.size := blk_lt HL.out
    have K6 := Aside0.mk (blk_below K5.out hB6)
    have HL6 := Aside0.mk (blk_below HL.out hB6)
    have HB6 := Aside0.mk (below_then HB5.out (by omega) hB6)
    clear hB6 K5 HL HB5
    have hw6 : w.heap.size + 1 ≤ w6.heap.size := blk_lt K6.out
    have hl6 : w3.heap.size < w6.heap.size := blk_lt HL6.out
    have hn := blk_new w6 (.cells #[.int .i64 0, .int .i64 0, .int .i64 0, .int .i64 0, .int .i64 0, .int .i64 0, .int .i64 0, .int .i64 0, .int .i64 0, .int .i64 0, .int .i64 0, .int .i64 0, .int .i64 0, .int .i64 0, .int .i64 0, .int .i64 0] 63)
    have K7 := Aside0.mk (blk_alloc K6.out (.cells #[.int .i64 0, .int .i64 0, .int .i64 0, .int .i64 0, .int .i64 0, .int .i64 0, .int .i64 0, .int .i64 0, .int .i64 0, .int .i64 0, .int .i64 0, .int .i64 0, .int .i64 0, .int .i64 0, .int .i64 0, .int .i64 0] 63))
    have HL7 := Aside0.mk (blk_alloc HL6.out (.cells #[.int .i64 0, .int .i64 0, .int .i64 0, .int .i64 0, .int .i64 0, .int .i64 0, .int .i64 0, .int .i64 0, .int .i64 0, .int .i64 0, .int .i64 0, .int .i64 0, .int .i64 0, .int .i64 0, .int .i64 0, .int .i64 0] 63))
    have HB7 := Aside0.mk (HB6.out.alloc (by omega) (.cells #[.int .i64 0, .int .i64 0, .int .i64 0, .int .i64 0, .int .i64 0, .int .i64 0, .int .i64 0, .int .i64 0, .int .i64 0, .int .i64 0, .int .i64 0, .int .i64 0, .int .i64 0, .int .i64 0, .int .i64 0, .int .i64 0] 63))
    clear K6 HL6 HB6
    go_upto_region 6 with (refine store_whole rfl rfl rfl (g := w6.heap.size) rfl (numC k) rfl hn (by kernel_rfl) (by rfl) (num_one k) ?_; intro w8 h8 hg8)
    have K8 := Aside0.mk (grown_blk hg8 K7.out (by omega))
    have HL8 := Aside0.mk (grown_blk hg8 HL7.out (by omega))
    have HB8 := Aside0.mk (pw_below_grown HB7.out (some w6.heap.size) (by have := HB7.out.size; omega) hg8 (fun q hq => by obtain rfl := Option.some.inj hq; omega))
    have HN8 := Aside0.mk h8
    clear K7 HL7 HB7 hg8 h8 hn
    generalize w3.heap.size = gl at *
    generalize w6.heap.size = gn at *
    have c0 : w8.cell? ⟨w.heap.size, 0, none⟩ = some (.string nm) := (blk_cell K8.out 0).trans rfl
    have hgl : gl < w8.heap.size := blk_lt HL8.out
    have hgn : gn < w8.heap.size := blk_lt HN8.out
    have hgb : w.heap.size < w8.heap.size := blk_lt K8.out
    go_wp2
    clear c0
    have HW := Aside0.mk (Below.refl w8.heap.size w8)
    obtain ⟨A0, hA0⟩ : ∃ A0, (⟨#[114, 101, 115, 111, 117, 114, 99, 101, 32]⟩ : ByteArray) ++ nm ++ (⟨#[32, 123, 10]⟩ : ByteArray) = A0 := ⟨_, rfl⟩
    have hlen0 : A0.size ≤ 1000 := by
      rw [← hA0, ByteArray.size_append, ByteArray.size_append]
      show 9 + nm.size + 3 ≤ _
      omega
    rw [hA0]
    have HA0 := Aside0.mk hA0
    clear hA0
    go_loopg [7, 8, 9] 16 (fun kq v7 v8 v9 wr => ∃ (j : Nat) (op z : ByteArray), j ≤ 16 ∧ kq = 16 - j ∧ v7 = .string z ∧ v8 = .string op ∧ v9 = .int .i64 j ∧ z.size ≤ 1000 + 3000 * j ∧ Aside0 (bl z ++ rFrom k sc (16 - j) j op = bl A0 ++ rFrom k sc 16 0 (⟨#[]⟩ : ByteArray)) ∧ Aside0 (Below w8.heap.size w8 wr))
    case atStart => exact ⟨0, (⟨#[]⟩ : ByteArray), A0, by omega, rfl, rfl, rfl, rfl, by omega, ⟨rfl⟩, HW⟩
    case round =>
      clear HW
      obtain ⟨j, op, z, hj, rfl, rfl, rfl, rfl, hz, HA, HW⟩ := hrel
      by_cases hlt : j < 16
      · have hd : decide ((j : Int) < 16) = true := decide_eq_true (by omega)
        have hjl : (j : Int) < 16 := by omega
        obtain ⟨t, ht⟩ : ∃ t, kTab[j]? = some t := ⟨_, List.getElem?_eq_getElem hlt⟩
        obtain ⟨els, e0, e1, e2, e3, e4⟩ := rTab_key j t ht
        have KL := Aside0.mk (blk_below HL8.out HW.out)
        have l0 : wr.cell? ⟨gl, j * 5, none⟩ = some (.string t.2.1) := (blk_cell KL.out _).trans e0
        have l1 : wr.cell? ⟨gl, j * 5 + 1, none⟩ = some (.string t.1) := (blk_cell KL.out _).trans e1
        have l2 : wr.cell? ⟨gl, j * 5 + 2, none⟩ = some (.int .i64 t.2.2.1) := (blk_cell KL.out _).trans e2
        have l3 : wr.cell? ⟨gl, j * 5 + 3, none⟩ = some (.int .i64 t.2.2.2.1) := (blk_cell KL.out _).trans e3
        have l4 : wr.cell? ⟨gl, j * 5 + 4, none⟩ = some (.int .i64 els) := (blk_cell KL.out _).trans e4
        obtain ⟨z1, z2, z3⟩ := kTab_small j t ht
        clear e0 e1 e2 e3 e4 KL
        go_upto_region 12 with fail
        have KK := Aside0.mk (blk_new wr (.cells #[.string t.2.1, .string t.1, .int .i64 t.2.2.1, .int .i64 t.2.2.2.1, .int .i64 els] 60))
        have HW1 := Aside0.mk (HW.out.alloc HW.out.size (.cells #[.string t.2.1, .string t.1, .int .i64 t.2.2.1, .int .i64 t.2.2.2.1, .int .i64 els] 60))
        have hsr : w8.heap.size ≤ wr.heap.size := HW.out.size
        clear l0 l1 l2 l3 l4 HW
        generalize wr.alloc (.cells #[.string t.2.1, .string t.1, .int .i64 t.2.2.1, .int .i64 t.2.2.2.1, .int .i64 els] 60) = wk at *
        generalize wr.heap.size = gk at *
        have k0 : wk.cell? ⟨gk, 0, none⟩ = some (.string t.2.1) := (blk_cell KK.out _).trans rfl
        have k1 : wk.cell? ⟨gk, 1, none⟩ = some (.string t.1) := (blk_cell KK.out _).trans rfl
        have k3 : wk.cell? ⟨gk, 3, none⟩ = some (.int .i64 t.2.2.2.1) := (blk_cell KK.out _).trans rfl
        obtain ⟨xa, hxa⟩ : ∃ xa, pA t op = xa := ⟨_, rfl⟩
        have hlA : xa.length ≤ 100 := by rw [← hxa]; exact pA_le t op z1
        obtain ⟨q, hq⟩ : ∃ q, 16 - j = q + 1 := ⟨15 - j, by omega⟩
        have HA2 : Aside0 (bl z ++ (xa ++ (pC t ++ (rD t (k j) ++ rS sc t))) ++ rFrom k sc (16 - (j + 1)) (j + 1) t.1 = bl A0 ++ rFrom k sc 16 0 (⟨#[]⟩ : ByteArray)) := ⟨by
          rw [← HA.out, ← hxa, List.append_assoc, hq, show 16 - (j + 1) = q by omega]
          simp only [rFrom, ht, rOne]⟩
        clear HA hq
        go_upto_if 36 with fail
        go_cut [7, 8] from 26 to 104 (fun v7 v8 wx => ∃ z' : ByteArray, v7 = .string z' ∧ v8 = .string t.1 ∧ z'.size ≤ z.size + 100 ∧ Aside0 (bl z' = bl z ++ xa) ∧ wk = wx)
        case first =>
          cases hso : (t.1.toList == op.toList)
          case true =>
            have hop : op = t.1 := by
              have h := eq_of_beq hso
              rw [toList_bl, toList_bl] at h
              exact (ByteArray.ext (Array.ext' h)).symm
            have HX : Aside0 (bl z = bl z ++ xa) := ⟨by rw [← hxa]; unfold pA; rw [if_pos hso, List.append_nil]⟩
            go_wp2_with fail
            go_meet
            exact ⟨z, rfl, by rw [hop], by omega, HX, rfl⟩
          case false =>
            have eA : (bl ((⟨#[32, 32]⟩ : ByteArray) ++ t.1 ++ (⟨#[32, 123, 10]⟩ : ByteArray))) = bl (⟨#[32, 32]⟩ : ByteArray) ++ bl t.1 ++ bl (⟨#[32, 123, 10]⟩ : ByteArray) := by rw [blA, blA]
            cases hop : op.toList.isEmpty
            case true =>
              have HX : Aside0 (bl (z ++ (⟨#[32, 32]⟩ : ByteArray) ++ t.1 ++ (⟨#[32, 123, 10]⟩ : ByteArray)) = bl z ++ xa) := ⟨by rw [← hxa]; unfold pA; rw [if_neg (by rw [hso]; decide), if_pos hop, List.nil_append, eA]; simp only [blA, List.append_assoc]⟩
              have hzz : (z ++ (⟨#[32, 32]⟩ : ByteArray) ++ t.1 ++ (⟨#[32, 123, 10]⟩ : ByteArray)).size ≤ z.size + 100 := by simp only [ByteArray.size_append]; show z.size + 2 + t.1.size + 3 ≤ _; omega
              clear eA
              go_wp2_with fail
              go_meet
              exact ⟨_, rfl, rfl, hzz, HX, rfl⟩
            case false =>
              have HX : Aside0 (bl (z ++ (⟨#[32, 32, 125, 10]⟩ : ByteArray) ++ (⟨#[32, 32]⟩ : ByteArray) ++ t.1 ++ (⟨#[32, 123, 10]⟩ : ByteArray)) = bl z ++ xa) := ⟨by rw [← hxa]; unfold pA; rw [if_neg (by rw [hso]; decide), if_neg (by rw [hop]; decide), eA]; simp only [blA, List.append_assoc]⟩
              have hzz : (z ++ (⟨#[32, 32, 125, 10]⟩ : ByteArray) ++ (⟨#[32, 32]⟩ : ByteArray) ++ t.1 ++ (⟨#[32, 123, 10]⟩ : ByteArray)).size ≤ z.size + 100 := by simp only [ByteArray.size_append]; show z.size + 4 + 2 + t.1.size + 3 ≤ _; omega
              clear eA
              go_wp2_with fail
              go_meet
              exact ⟨_, rfl, rfl, hzz, HX, rfl⟩
        case rest =>
        obtain ⟨zA, rfl, rfl, hzA, HZA, rfl⟩ := hcut
        clear hxa
        obtain ⟨xc, hxc⟩ : ∃ xc, pC t = xc := ⟨_, rfl⟩
        rw [hxc] at HA2
        go_upto_if 49 with fail
        go_cut [7] from 26 to 104 (fun v7 wx => ∃ z' : ByteArray, v7 = .string z' ∧ z'.size ≤ z.size + 200 ∧ Aside0 (bl z' = bl z ++ xa ++ xc) ∧ wk = wx)
        case first =>
          cases hce : t.1.toList.isEmpty
          case true =>
            have HX : Aside0 (bl zA = bl z ++ xa ++ xc) := ⟨by rw [← hxc]; unfold pC; rw [if_pos hce, List.append_nil]; exact HZA.out⟩
            go_wp2_with fail
            go_meet
            exact ⟨zA, rfl, by omega, HX, rfl⟩
          case false =>
            have HX : Aside0 (bl (zA ++ (⟨#[32, 32]⟩ : ByteArray)) = bl z ++ xa ++ xc) := ⟨by rw [← hxc]; unfold pC; rw [if_neg (by rw [hce]; decide), blA, HZA.out]⟩
            have hzz : (zA ++ (⟨#[32, 32]⟩ : ByteArray)).size ≤ z.size + 200 := by simp only [ByteArray.size_append]; show zA.size + 2 ≤ _; omega
            go_wp2_with fail
            go_meet
            exact ⟨_, rfl, hzz, HX, rfl⟩
        case rest =>
        obtain ⟨zB, rfl, hzB, HZB, rfl⟩ := hcut
        clear hxc HZA hzA
        have hzC : (zB ++ (⟨#[32, 32]⟩ : ByteArray) ++ t.2.1 ++ (⟨#[32]⟩ : ByteArray)).size ≤ z.size + 300 := by simp only [ByteArray.size_append]; show zB.size + 2 + t.2.1.size + 1 ≤ _; omega
        have HZC : Aside0 (bl (zB ++ (⟨#[32, 32]⟩ : ByteArray) ++ t.2.1 ++ (⟨#[32]⟩ : ByteArray)) = bl z ++ xa ++ xc ++ bl ((⟨#[32, 32]⟩ : ByteArray) ++ t.2.1 ++ (⟨#[32]⟩ : ByteArray))) := ⟨by simp only [blA, HZB.out, List.append_assoc]⟩
        go_upto_if 60 with fail
        generalize zB ++ (⟨#[32, 32]⟩ : ByteArray) ++ t.2.1 ++ (⟨#[32]⟩ : ByteArray) = zC at *
        clear HZB hzB
        obtain ⟨xv, hxv⟩ : ∃ xv, rV t (k j) = xv := ⟨_, rfl⟩
        have HXV := Aside0.mk hxv
        have hsk : gk < wk.heap.size := blk_lt KK.out
        go_cut [7] from 26 to 104 (fun v7 wx => ∃ z' : ByteArray, v7 = .string z' ∧ z'.size ≤ z.size + 1000 ∧ Aside0 (bl z' = bl zC ++ xv) ∧ Aside0 (Below wk.heap.size wk wx))
        case first =>
          have HWk := Aside0.mk (Below.refl wk.heap.size wk)
          have n0 : wk.cell? ⟨gn, j, none⟩ = some (.int .i64 (k j)) := (blk_cell (blk_below HN8.out HW1.out) _).trans (num_key k j hlt)
          cases hp : t.2.2.2.2.2 with
          | none =>
            obtain ⟨hi0, hlo⟩ := num_hi j t ht hp
            have htk := okFrom_at k 16 0 j t HOK.out (by omega) (by omega) ht
            have hn0 : 0 ≤ k j := by
              unfold tk at htk
              rw [hp] at htk
              simp only at htk
              split at htk
              · cases htk
              · omega
            have hkj := (hk j).2
            have hil := itoa_le (k j) (hk j)
            have hdi : decide (0 < t.2.2.2.1) = true := decide_eq_true hi0
            have hrv : xv = Lib.itoa (k j) := by rw [← hxv]; unfold rV; rw [hp]
            have HRV := Aside0.mk hrv
            clear hrv hxv htk
            go_wp2_with fail
            refine (digits_any (k j) hn0 hkj wk).mono ?_
            rintro e wD ⟨rfl, hBD⟩
            have hsz : (⟨(Lib.itoa (k j)).toArray⟩ : ByteArray).size ≤ 100 := hil
            have HX : Aside0 (bl (zC ++ ⟨(Lib.itoa (k j)).toArray⟩) = bl zC ++ xv) := ⟨by rw [blA, HRV.out]; rfl⟩
            have hzz : (zC ++ ⟨(Lib.itoa (k j)).toArray⟩).size ≤ z.size + 1000 := by rw [ByteArray.size_append]; omega
            have HBD := Aside0.mk hBD
            clear hBD
            go_wp2_with fail
            go_meet
            exact ⟨_, rfl, hzz, HX, HBD⟩
          | some p =>
            obtain ⟨ws, ns⟩ := p
            obtain ⟨hwf, hhi⟩ := words_f j t (ws, ns) ht hp
            have hwl : ws.length = ns.length := (z3 _ hp).1
            have hw100 := (z3 _ hp).2
            obtain ⟨hws1, hws5⟩ := words_len j t (ws, ns) ht hp
            have hdi : decide (0 < t.2.2.2.1) = false := decide_eq_false (by omega)
            have hrv : wcat (k j) ns ws = xv := by rw [← hxv]; unfold rV; rw [hp]
            have HRV := Aside0.mk hrv
            have HW100 := Aside0.mk hw100
            clear hrv hxv hw100
            go_wp2_with fail
            refine (replicaref12_words.calls t.2.1 ws ns wk hwf).mono ?_
            rintro e wD ⟨v0, v1, rfl, hR0, hR1, hBD⟩
            obtain ⟨ad0, cp0, rfl⟩ := Kd.R_slice1 hR0 hws1
            obtain ⟨ad1, cp1, rfl⟩ := Kd.R_slice1 hR1 (by omega)
            have HC0 := Aside0.mk (Kd.R_reads' hR0).2.2
            have HC1 := Aside0.mk (Kd.R_reads' hR1).2.2
            have HBD := Aside0.mk hBD
            have HS0 := Aside0.mk (Below.refl wD.heap.size wD)
            have hD0 : wD.cell? ⟨gn, j, none⟩ = some (.int .i64 (k j)) := (blk_cell (blk_below (blk_below HN8.out HW1.out) HBD.out) _).trans (num_key k j hlt)
            have HN0 := Aside0.mk (blk_below (blk_below HN8.out HW1.out) HBD.out)
            clear hR0 hR1 hBD n0 hD0 hp hwf HWk
            go_wp2
            go_loopg [7, 13] ws.length (fun kq v7 v13 wx => ∃ (i : Nat) (z' : ByteArray), i ≤ ws.length ∧ kq = ws.length - i ∧ v7 = .string z' ∧ v13 = .int .i64 i ∧ z'.size ≤ zC.size + 100 * i ∧ Aside0 (bl z' ++ wcat (k j) (ns.drop i) (ws.drop i) = bl zC ++ xv) ∧ Aside0 (Below wD.heap.size wD wx))
            case atStart => exact ⟨0, zC, by omega, rfl, rfl, rfl, by omega, ⟨by rw [List.drop_zero, List.drop_zero, HRV.out]⟩, HS0⟩
            case round =>
              clear HS0
              obtain ⟨i, z', hi, rfl, rfl, rfl, hz', HI, HWx⟩ := hrel
              by_cases hlt2 : i < ws.length
              · have hd2 : decide ((i : Int) < ws.length) = true := decide_eq_true (by omega)
                obtain ⟨x, hx⟩ : ∃ x, ns[i]? = some x := ⟨_, List.getElem?_eq_getElem (by omega)⟩
                obtain ⟨y, hy⟩ : ∃ y, ws[i]? = some y := ⟨_, List.getElem?_eq_getElem (by omega)⟩
                have hysz := HW100.out y (List.mem_of_getElem? hy)
                obtain ⟨A1, ea1, cx⟩ := Kd.at_int HC1.out (i : Int) (by omega) (by omega)
                cases ea1
                obtain ⟨A0', ea0, cy⟩ := Kd.at_string HC0.out (i : Int) (by omega) (by omega)
                cases ea0
                rw [show rd ns (i : Int) = x by simp [rd, hx], Int.toNat_natCast] at cx
                rw [show rdOf ByteArray.empty ws (i : Int) = y by simp [rdOf, hy], Int.toNat_natCast] at cy
                have cx : wr.cell? (ad1.add i) = some (.int .i64 x) := pw_cell_below HWx.out cx
                have cy : wr.cell? (ad0.add i) = some (.string y) := pw_cell_below HWx.out cy
                have n0 : wr.cell? ⟨gn, j, none⟩ = some (.int .i64 (k j)) := (blk_cell (blk_below HN0.out HWx.out) _).trans (num_key k j hlt)
                have hdn : ns.drop i = x :: ns.drop (i + 1) := by rw [List.drop_eq_getElem?_toList_append, hx]; rfl
                have hdw : ws.drop i = y :: ws.drop (i + 1) := by rw [List.drop_eq_getElem?_toList_append, hy]; rfl
                rw [hdn, hdw] at HI
                have hiw : (i : Int) < ws.length := by omega
                have hin : (i : Int) < ns.length := by omega
                have hyd : wr.drew.cell? (ad0.add i) = some (.string y) := cy
                have CY := Aside0.mk hyd
                clear hdn hdw hx hy hyd cy
                go_upto_region 26 with fail
                refine wp_region_still_lit (by kernel_rfl) (by kernel_rfl) ?_
                repeat still_step
                refine wpStill_nil ?_
                change Exit.then _ _ Exit.normal _ wr.drew
                have HWd := Aside0.mk (below_drew HWx.out)
                have cy := CY.out
                clear cx n0 HWx CY
                generalize wr.drew = wd at *
                by_cases hxn : x = k j
                · have hxb : (x == k j) = true := by simpa using hxn
                  have HI2 : Aside0 (bl (z' ++ y) ++ wcat (k j) (ns.drop (i + 1)) (ws.drop (i + 1)) = bl zC ++ xv) := ⟨by rw [← HI.out]; simp only [wcat, if_pos hxn, blA, List.append_assoc]⟩
                  have hzy : (z' ++ y).size ≤ zC.size + 100 * (i + 1) := by rw [ByteArray.size_append]; omega
                  clear HI hxn
                  go_wp2
                  go_roundg (ws.length - (i + 1))
                  case measure => omega
                  case rel => exact ⟨i + 1, z' ++ y, by omega, rfl, rfl, by go_num, hzy, HI2, HWd⟩
                · have hxb : (x == k j) = false := by simpa using hxn
                  have HI2 : Aside0 (bl z' ++ wcat (k j) (ns.drop (i + 1)) (ws.drop (i + 1)) = bl zC ++ xv) := ⟨by rw [← HI.out]; simp only [wcat, if_neg hxn, List.nil_append]⟩
                  clear HI hxn
                  go_wp2
                  go_roundg (ws.length - (i + 1))
                  case measure => omega
                  case rel => exact ⟨i + 1, z', by omega, rfl, rfl, by go_num, by omega, HI2, HWd⟩
              · have hd2 : decide ((i : Int) < ws.length) = false := decide_eq_false (by omega)
                obtain rfl : i = ws.length := by omega
                have HX : Aside0 (bl z' = bl zC ++ xv) := ⟨by rw [← HI.out, List.drop_length]; cases ns.drop ws.length <;> simp [wcat]⟩
                have HY := Aside0.mk (below_then HBD.out HBD.out.size HWx.out)
                clear HI HWx
                go_wp2_with fail
                go_meet
                exact ⟨z', rfl, by omega, HX, HY⟩
        case rest =>
        obtain ⟨zD, rfl, hzD, HZD, HBk⟩ := hcut
        obtain ⟨wq, rfl⟩ : ∃ wq : World, wq = wc := ⟨_, rfl⟩
        have KQ := Aside0.mk (blk_below KK.out HBk.out)
        have HWq := Aside0.mk (below_then HW1.out HW1.out.size HBk.out)
        clear hxv k0 k1 k3 KK HW1
        have k0 : wq.cell? ⟨gk, 0, none⟩ = some (.string t.2.1) := (blk_cell KQ.out _).trans rfl
        have hzE : (zD ++ (⟨#[59, 10]⟩ : ByteArray)).size ≤ z.size + 1100 := by rw [ByteArray.size_append]; show zD.size + 2 ≤ _; omega
        have HZE : Aside0 (bl (zD ++ (⟨#[59, 10]⟩ : ByteArray)) = bl z ++ xa ++ xc ++ rD t (k j)) := ⟨by unfold rD; rw [blA, HZD.out, HZC.out, HXV.out]; simp only [List.append_assoc]; rfl⟩
        go_upto_if 97 with fail
        generalize zD ++ (⟨#[59, 10]⟩ : ByteArray) = zE at *
        clear HZD hzD HZC hzC
        obtain ⟨xs, hxs⟩ : ∃ xs, rS sc t = xs := ⟨_, rfl⟩
        rw [hxs] at HA2
        have hsq : w8.heap.size ≤ wq.heap.size := HWq.out.size
        cases hnb : (t.2.1.toList == [109, 97, 120, 45, 113, 117, 101, 117, 101])
        case true =>
          have c11 : wq.cell? ⟨w.heap.size, 11, none⟩ = some (.string sc) := (blk_cell (blk_below K8.out HWq.out) 11).trans rfl
          have hql := quote_le sc
          have hqs : (⟨(quoteL sc).toArray⟩ : ByteArray).size = (quoteL sc).length := rfl
          go_wp2_with fail
          refine (refshown_any sc (by omega) HVD.out wq).mono ?_
          rintro e wF ⟨rfl, hBF⟩
          have HX : Aside0 (bl (zE ++ (⟨#[32, 32, 32, 32, 115, 104, 97, 114, 101, 100, 45, 115, 101, 99, 114, 101, 116, 32]⟩ : ByteArray) ++ ⟨(quoteL sc).toArray⟩ ++ (⟨#[59, 10]⟩ : ByteArray)) = bl zE ++ xs) := ⟨by rw [← hxs]; unfold rS; rw [if_pos hnb]; simp only [blA, List.append_assoc]⟩
          have hzz : (zE ++ (⟨#[32, 32, 32, 32, 115, 104, 97, 114, 101, 100, 45, 115, 101, 99, 114, 101, 116, 32]⟩ : ByteArray) ++ ⟨(quoteL sc).toArray⟩ ++ (⟨#[59, 10]⟩ : ByteArray)).size ≤ z.size + 3000 := by simp only [ByteArray.size_append]; show zE.size + 18 + (quoteL sc).length + 2 ≤ _; omega
          have HBF := Aside0.mk (below_then HWq.out hsq hBF)
          clear hBF hxs
          go_wp2
          go_roundg (16 - (j + 1))
          case measure => omega
          case rel =>
            refine ⟨j + 1, t.1, _, by omega, rfl, rfl, rfl, by go_num, Nat.le_trans hzz (by omega), ⟨?_⟩, HBF⟩
            rw [← HA2.out, HX.out, HZE.out]
            simp only [List.append_assoc]
        case false =>
          have HX : Aside0 (bl zE = bl zE ++ xs) := ⟨by rw [← hxs]; unfold rS; rw [if_neg (by rw [hnb]; decide), List.append_nil]⟩
          go_wp2
          go_roundg (16 - (j + 1))
          case measure => omega
          case rel =>
            refine ⟨j + 1, t.1, zE, by omega, rfl, rfl, rfl, by go_num, by omega, ⟨?_⟩, HWq⟩
            rw [← HA2.out, HX.out, HZE.out]
            simp only [List.append_assoc]
      · have hd : decide ((j : Int) < 16) = false := decide_eq_false (by omega)
        obtain rfl : j = 16 := by omega
        have HY := Aside0.mk (below_then HB8.out HB8.out.size HW.out)
        have hfin : Aside0 (printR nm sc k = bl (z ++ (⟨#[32, 32, 125, 10, 125, 10]⟩ : ByteArray))) := ⟨by
          have := HA.out
          rw [show rFrom k sc (16 - 16) 16 op = [] from rfl, List.append_nil] at this
          unfold printR
          rw [HA0.out, blA, this]⟩
        clear HA HW
        go_wp2
        go_ret2
        refine ⟨?_, HY.out⟩
        rw [hfin.out]
        rfl
end Go.Proofs.YtfecfgimfjcbdaaDoor.Cf

namespace Go.Proofs.YtfecfgimfjcbdaaDoor.Cf
open Go.RowKit Go.Proofs.YtfecfgimfjcbdaaDoorW.PrintWords

theorem wcat_none (n : Int) : ∀ (vs : List Int) (ws : List ByteArray), n ∉ vs → wcat n vs ws = []
  | [], _, _ => by simp [wcat]
  | _ :: _, [], _ => by simp [wcat]
  | v :: vs, w :: ws, h => by
    have h1 : ¬ v = n := fun e => h (e ▸ List.mem_cons_self ..)
    have h2 : n ∉ vs := fun e => h (List.mem_cons_of_mem _ e)
    simp only [wcat, if_neg h1, List.nil_append]
    exact wcat_none n vs ws h2
theorem wcat_one (n : Int) (d : ByteArray) : ∀ (vs : List Int) (ws : List ByteArray), vs.Nodup → ws.length = vs.length → n ∈ vs → wcat n vs ws = bl ((wordOf n vs ws).getD d)
  | [], _, _, _, h => by simp at h
  | _ :: _, [], _, hl, _ => by simp at hl
  | v :: vs, w :: ws, hd, hl, h => by
    rw [List.nodup_cons] at hd
    by_cases e : v = n
    · subst e
      simp only [wcat, wordOf, Option.getD_some, if_true]
      rw [wcat_none v vs ws hd.1, List.append_nil]
    · have h2 : n ∈ vs := by
        rcases List.mem_cons.1 h with h | h
        · exact absurd h.symm e
        · exact h
      simp only [wcat, wordOf, if_neg e, List.nil_append]
      exact wcat_one n d vs ws hd.2 (by simpa using hl) h2
theorem kTab_nodup (i : Nat) (t : KeyT) (p : List ByteArray × List Int) (ht : kTab[i]? = some t) (hp : t.2.2.2.2.2 = some p) : p.2.Nodup := by
  have hl : i < 16 := (List.getElem?_eq_some_iff.1 ht).1
  rcases i with _ | _ | _ | _ | _ | _ | _ | _ | _ | _ | _ | _ | _ | _ | _ | _ | i
  case succ.succ.succ.succ.succ.succ.succ.succ.succ.succ.succ.succ.succ.succ.succ.succ => omega
  all_goals
    obtain rfl := Option.some.inj ht
    first
      | (cases hp; done)
      | (obtain rfl := Option.some.inj hp; decide)
theorem rV_shS (i : Nat) (t : KeyT) (n : Int) (ht : kTab[i]? = some t) (hk : tk t n = true) : rV t n = bl (shS t n) := by
  unfold rV shS
  cases hp : t.2.2.2.2.2 with
  | none => rfl
  | some p =>
    simp only
    unfold tk at hk
    rw [hp] at hk
    simp only [List.any_eq_true, beq_iff_eq] at hk
    obtain ⟨x, hx, rfl⟩ := hk
    exact wcat_one x _ p.2 p.1 (kTab_nodup i t p ht hp) ((kTab_small i t ht).2.2 p hp).1 hx
theorem pD_rD (i : Nat) (t : KeyT) (k : Nat → Int) (ht : kTab[i]? = some t) (hk : tk t (k i) = true) : pD k i t = rD t (k i) := by
  unfold pD rD
  rw [rV_shS i t (k i) ht hk]
  simp only [blA, List.append_assoc]
  rfl
theorem pB_no (sc : ByteArray) (i : Nat) (t : KeyT) (ht : kTab[i]? = some t) (hi : i ≠ 10) : pB sc t = [] := by
  have hl : i < 16 := (List.getElem?_eq_some_iff.1 ht).1
  unfold pB
  rw [if_neg]
  rcases i with _ | _ | _ | _ | _ | _ | _ | _ | _ | _ | _ | _ | _ | _ | _ | _ | i
  case succ.succ.succ.succ.succ.succ.succ.succ.succ.succ.succ.succ.succ.succ.succ.succ => omega
  all_goals
    obtain rfl := Option.some.inj ht
    first
      | (exact absurd rfl hi)
      | (decide +kernel)
theorem rS_no (sc : ByteArray) (i : Nat) (t : KeyT) (ht : kTab[i]? = some t) (hi : i ≠ 9) : rS sc t = [] := by
  have hl : i < 16 := (List.getElem?_eq_some_iff.1 ht).1
  unfold rS
  rw [if_neg]
  rcases i with _ | _ | _ | _ | _ | _ | _ | _ | _ | _ | _ | _ | _ | _ | _ | _ | i
  case succ.succ.succ.succ.succ.succ.succ.succ.succ.succ.succ.succ.succ.succ.succ.succ => omega
  all_goals
    obtain rfl := Option.some.inj ht
    first
      | (exact absurd rfl hi)
      | (decide +kernel)
theorem same_from (nm sc : ByteArray) (k : Nat → Int) (hok : okK k = true) : ∀ (n j : Nat) (op : ByteArray), n + j = 16 → j ≠ 10 → prFrom k sc n j op = rFrom k sc n j op
  | 0, _, _, _, _ => rfl
  | n + 1, j, op, hj, h10 => by
    have hlt : j < 16 := by omega
    obtain ⟨t, ht⟩ : ∃ t, kTab[j]? = some t := ⟨_, List.getElem?_eq_getElem hlt⟩
    have hD := pD_rD j t k ht (okFrom_at k 16 0 j t hok (by omega) (by omega) ht)
    by_cases h9 : j = 9
    · subst h9
      obtain rfl : n = 6 := by omega
      have hk10 := okFrom_at k 16 0 10 _ hok (by omega) (by omega) (rfl : kTab[10]? = some _)
      have hD10 := pD_rD 10 _ k (rfl : kTab[10]? = some _) hk10
      have ih := same_from nm sc k hok 5 11 (⟨#[110, 101, 116]⟩ : ByteArray) (by omega) (by omega)
      have e1 : prFrom k sc 7 9 op = prOne k sc 9 t op ++ prFrom k sc 6 10 t.1 := by simp only [prFrom, ht]
      have e2 : rFrom k sc 7 9 op = rOne k sc 9 t op ++ rFrom k sc 6 10 t.1 := by simp only [rFrom, ht]
      obtain rfl := Option.some.inj ht
      rw [e1, e2]
      obtain ⟨u, hu⟩ : ∃ u, kTab[10]? = some u := ⟨_, rfl⟩
      have hu1 : u.1 = (⟨#[110, 101, 116]⟩ : ByteArray) := by obtain rfl := Option.some.inj hu; rfl
      have e3 : ∀ op, prFrom k sc 6 10 op = prOne k sc 10 u op ++ prFrom k sc 5 11 u.1 := fun op => by simp only [prFrom, hu]
      have e4 : ∀ op, rFrom k sc 6 10 op = rOne k sc 10 u op ++ rFrom k sc 5 11 u.1 := fun op => by simp only [rFrom, hu]
      have hDu : pD k 10 u = rD u (k 10) := by obtain rfl := Option.some.inj hu; exact hD10
      have hAu : pA u (⟨#[110, 101, 116]⟩ : ByteArray) = [] := by
        unfold pA
        rw [hu1, if_pos (by decide +kernel)]
      have hBu : pB sc u = bl ((⟨#[32, 32, 32, 32, 115, 104, 97, 114, 101, 100, 45, 115, 101, 99, 114, 101, 116, 32]⟩ : ByteArray) ++ ⟨(quoteL sc).toArray⟩ ++ (⟨#[59, 10]⟩ : ByteArray)) := by
        unfold pB
        rw [if_pos]
        obtain rfl := Option.some.inj hu
        decide +kernel
      have hSu := rS_no sc 10 u hu (by omega)
      rw [e3, e4, hu1, ih]
      unfold prOne rOne
      rw [pB_no sc 9 _ rfl (by omega), hD, hDu, hSu]
      generalize hE : pA _ op = xa
      have hS9 : rS sc ((⟨#[110, 101, 116]⟩ : ByteArray), (⟨#[109, 97, 120, 45, 113, 117, 101, 117, 101]⟩ : ByteArray), 1, 256, false, none) = bl ((⟨#[32, 32, 32, 32, 115, 104, 97, 114, 101, 100, 45, 115, 101, 99, 114, 101, 116, 32]⟩ : ByteArray) ++ ⟨(quoteL sc).toArray⟩ ++ (⟨#[59, 10]⟩ : ByteArray)) := by
        unfold rS
        rw [if_pos (by decide +kernel)]
      show xa ++ ([] ++ (pC ((⟨#[110, 101, 116]⟩ : ByteArray), (⟨#[109, 97, 120, 45, 113, 117, 101, 117, 101]⟩ : ByteArray), 1, 256, false, none) ++ rD ((⟨#[110, 101, 116]⟩ : ByteArray), (⟨#[109, 97, 120, 45, 113, 117, 101, 117, 101]⟩ : ByteArray), 1, 256, false, none) (k 9))) ++ (pA u (⟨#[110, 101, 116]⟩ : ByteArray) ++ (pB sc u ++ (pC u ++ rD u (k 10))) ++ rFrom k sc 5 11 (⟨#[110, 101, 116]⟩ : ByteArray)) =
        xa ++ (pC ((⟨#[110, 101, 116]⟩ : ByteArray), (⟨#[109, 97, 120, 45, 113, 117, 101, 117, 101]⟩ : ByteArray), 1, 256, false, none) ++ (rD ((⟨#[110, 101, 116]⟩ : ByteArray), (⟨#[109, 97, 120, 45, 113, 117, 101, 117, 101]⟩ : ByteArray), 1, 256, false, none) (k 9) ++ rS sc ((⟨#[110, 101, 116]⟩ : ByteArray), (⟨#[109, 97, 120, 45, 113, 117, 101, 117, 101]⟩ : ByteArray), 1, 256, false, none))) ++ (pA u (⟨#[110, 101, 116]⟩ : ByteArray) ++ (pC u ++ (rD u (k 10) ++ [])) ++ rFrom k sc 5 11 (⟨#[110, 101, 116]⟩ : ByteArray))
      rw [hAu, hBu, hS9]
      simp only [List.append_assoc, List.nil_append, List.append_nil]
    · have ih := same_from nm sc k hok n (j + 1) t.1 (by omega) (by omega)
      have e1 : prFrom k sc (n + 1) j op = prOne k sc j t op ++ prFrom k sc n (j + 1) t.1 := by simp only [prFrom, ht]
      have e2 : rFrom k sc (n + 1) j op = rOne k sc j t op ++ rFrom k sc n (j + 1) t.1 := by simp only [rFrom, ht]
      rw [e1, e2, ih]
      unfold prOne rOne
      rw [pB_no sc j t ht h10, rS_no sc j t ht h9, hD, List.nil_append, List.append_nil]
theorem print_same (nm sc : ByteArray) (k : Nat → Int) (h : chkI nm sc k = 0) : printR nm sc k = printL nm sc k := by
  have hok : okK k = true := by
    unfold chkI at h
    split at h
    · rename_i hq
      simp only [Bool.and_eq_true] at hq
      exact hq.1
    · cases h
  unfold printR printL
  rw [same_from nm sc k hok 16 0 _ rfl (by omega)]
theorem refprint_same (nm sc : ByteArray) (k : Nat → Int) (hk : ∀ i, -9223372036854775808 ≤ k i ∧ k i ≤ 9223372036854775807) (w : World) :
    Calls Tryd.prog 23 #[.agg (cfgC nm sc k)] w fun e w' => e = .returned (.tuple #[.string (if chkI nm sc k = 0 then ⟨(printL nm sc k).toArray⟩ else (⟨#[]⟩ : ByteArray)), .int .i64 (chkI nm sc k)]) ∧ Below w.heap.size w w' := by
  refine (refprint_any nm sc k hk w).mono ?_
  rintro e w' ⟨rfl, h⟩
  refine ⟨?_, h⟩
  by_cases hc : chkI nm sc k = 0
  · rw [if_pos hc, if_pos hc, print_same nm sc k hc]
  · rw [if_neg hc, if_neg hc]
end Go.Proofs.YtfecfgimfjcbdaaDoor.Cf
