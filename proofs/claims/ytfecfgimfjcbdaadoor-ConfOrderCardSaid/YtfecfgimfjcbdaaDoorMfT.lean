/- Plain: lists turned about; a printed resource whose parts and keys are turned about is read back; the lines of a printed text. (Several texts in one: Plain: texts made of pieces: each piece gives its tokens wherever it stands. · Plain: a quoted text is read back as it was; what is read between quotation marks is well-formed. · Plain: sections and parts, read from their tokens: in whatever order they come. · Plain: a printed resource's lines, and the tokens of each. · Plain: a printed resource is its lines; each line gives its tokens. · Plain: what Check takes is read back from its print; with gaps around the lines; with parts and keys in another order. · Plain: lists turned about; a printed resource whose parts and keys are turned about is read back; the lines of a printed text.) -/
import Derived.Test.YtfecfgimfjcbdaaDoorMfM
import Derived.Test.YtfecfgimfjcbdaaDoorMfF
namespace Go.Proofs.YtfecfgimfjcbdaaDoor.Cf
open Go.RowKit Go.Proofs.YtfecfgimfjcbdaaDoorW.PrintWords Go.Proofs.YtfecfgimfjcbdaaDoorW.PrintLast Go.Proofs.YtfecfgimfjcbdaaDoorW.PrintMore Go.Proofs.YtfecfgimfjcbdaaDoor.QCParse

/-! ### Over blanks and comments -/
theorem skipP_more (s : ByteArray) : ∀ (f g p : Nat), s.size < p + f → f ≤ g → p ≤ s.size → skipP s g p = skipP s f p
  | 0, g, p, hf, _, hp => by omega
  | f + 1, g, p, hf, hg, hp => by
    obtain ⟨g, rfl⟩ : ∃ g', g = g' + 1 := ⟨g - 1, by omega⟩
    rw [skipP_step, skipP_step]
    split
    · rename_i hlt
      split
      · exact skipP_more s f g (p + 1) (by omega) (by omega) (by omega)
      · split
        · rename_i h35
          have h1 := lineEnd_gt s p hlt h35
          have h2 := lineEnd_le s p hp
          exact skipP_more s f g _ (by omega) (by omega) h2
        · rfl
    · rfl
theorem skp_blank (s : ByteArray) (p : Nat) (h : p < s.size) (hb : blankC (cA s p) = true) : skp s p = skp s (p + 1) := by
  unfold skp
  rw [skipP_step, if_pos h, if_pos hb]
  exact (skipP_more s s.size (s.size + 1) (p + 1) (by omega) (by omega) (by omega)).symm
theorem skp_note (s : ByteArray) (p : Nat) (h : p < s.size) (hb : cA s p = 35) : skp s p = skp s (lineEnd s p) := by
  unfold skp
  have h1 := lineEnd_gt s p h hb
  have h2 := lineEnd_le s p (Nat.le_of_lt h)
  have h3 : ¬ blankC (cA s p) = true := by rw [hb]; decide
  rw [skipP_step, if_pos h, if_neg h3, if_pos hb]
  exact (skipP_more s s.size (s.size + 1) _ (by omega) (by omega) h2).symm
theorem skp_stop (s : ByteArray) (p : Nat) (h : p < s.size) (h1 : blankC (cA s p) = false) (h2 : cA s p ≠ 35) : skp s p = p := by
  unfold skp
  rw [skipP_step, if_pos h, h1, if_neg (by decide), if_neg h2]
theorem skp_end (s : ByteArray) (p : Nat) (h : ¬ p < s.size) : skp s p = p := by
  unfold skp
  rw [skipP_step, if_neg h]
theorem next_skp (s : ByteArray) (p q : Nat) (h : skp s p = skp s q) : nextP s p = nextP s q := by unfold nextP; rw [h]

/-! ### Tokens -/
/-- From p on come the tokens l; then it goes on as from q. -/
def Toks (s : ByteArray) : Nat → List (Nat × ByteArray) → Nat → Prop
  | p, [], q => skp s p = skp s q
  | p, t :: l, q => ∃ a r, nextP s p = .ok (t.1, a, t.2, r) ∧ Toks s r l q
theorem Toks.from {s : ByteArray} {p q r : Nat} (h : skp s p = skp s q) : ∀ {l : List (Nat × ByteArray)}, Toks s q l r → Toks s p l r
  | [], k => h.trans k
  | _ :: _, ⟨a, r', hn, ht⟩ => ⟨a, r', (next_skp s p q h).trans hn, ht⟩
theorem Toks.app {s : ByteArray} : ∀ {l m : List (Nat × ByteArray)} {p q r : Nat}, Toks s p l q → Toks s q m r → Toks s p (l ++ m) r
  | [], _, _, _, _, h, k => k.from h
  | _ :: _, _, _, _, _, ⟨a, r', hn, ht⟩, k => ⟨a, r', hn, ht.app k⟩
/-- The text x gives the tokens l, wherever it stands. -/
def Chunk (x : List UInt8) (l : List (Nat × ByteArray)) : Prop := ∀ (s : ByteArray) (p : Nat) (rest : List UInt8), (bl s).drop p = x ++ rest → p ≤ s.size → Toks s p l (p + x.length)
theorem at_len {s : ByteArray} {p : Nat} {x rest : List UInt8} (h : (bl s).drop p = x ++ rest) (hp : p ≤ s.size) : p + x.length + rest.length = s.size := by
  have := congrArg List.length h
  rw [List.length_drop, bl_length, List.length_append] at this
  omega
theorem at_next {s : ByteArray} {p : Nat} {x rest : List UInt8} (h : (bl s).drop p = x ++ rest) : (bl s).drop (p + x.length) = rest := by
  rw [← List.drop_drop, h, List.drop_left]
theorem at_cA {s : ByteArray} {p : Nat} {c : UInt8} {rest : List UInt8} (h : (bl s).drop p = c :: rest) : cA s p = c.toNat := by
  have := cA_drop s p 0
  rw [h] at this
  exact this.symm
theorem Chunk.nil : Chunk [] [] := fun _ _ _ _ _ => rfl
theorem Chunk.app {x y : List UInt8} {l m : List (Nat × ByteArray)} (h : Chunk x l) (k : Chunk y m) : Chunk (x ++ y) (l ++ m) := by
  intro s p rest hs hp
  rw [List.append_assoc] at hs
  have hl := at_len hs hp
  have h1 := h s p _ hs hp
  have h2 := k s (p + x.length) rest (at_next hs) (by omega)
  rw [List.length_append, ← Nat.add_assoc]
  exact h1.app h2
theorem Chunk.blank {c : UInt8} (hc : blankC c.toNat = true) : Chunk [c] [] := by
  intro s p rest hs hp
  have hl := at_len hs hp
  simp only [List.length_cons, List.length_nil] at hl
  exact skp_blank s p (by omega) (by rw [at_cA hs]; exact hc)
theorem Chunk.blanks : ∀ {x : List UInt8}, (x.all fun c => blankC c.toNat) = true → Chunk x []
  | [], _ => Chunk.nil
  | c :: x, h => by
    rw [List.all_cons, Bool.and_eq_true] at h
    exact (Chunk.blank h.1).app (Chunk.blanks h.2)
theorem Chunk.note {b : List UInt8} (hb : ∀ c ∈ b, c ≠ 10) : Chunk (35 :: b ++ [10]) [] := by
  intro s p rest hs hp
  have hl := at_len hs hp
  simp only [List.length_append, List.length_cons, List.length_nil] at hl ⊢
  rw [List.append_assoc, List.cons_append] at hs
  have h35 : cA s p = 35 := at_cA hs
  have he : lineEnd s p = p + (b.length + 1) := by
    unfold lineEnd
    rw [hs, List.findIdx_cons]
    simp only [show ((35 : UInt8) == 10) = false from rfl, cond_false, Nat.add_left_cancel_iff, Nat.add_right_cancel_iff]
    rw [List.findIdx_append, if_neg]
    · show List.findIdx (fun c : UInt8 => c == 10) (10 :: rest) + b.length = b.length
      rw [List.findIdx_cons]
      simp
    · intro h
      have := List.findIdx_lt_length.1 h
      obtain ⟨c, hc, h10⟩ := this
      exact hb c hc (by simpa using h10)
  have hd : (bl s).drop (p + (b.length + 1)) = 10 :: rest := by
    have := at_next (x := 35 :: b) (rest := 10 :: rest) (by simpa using hs)
    simpa using this
  show skp s p = _
  rw [skp_note s p (by omega) h35, he, skp_blank s _ (by omega) (by rw [at_cA hd]; decide)]
  congr 1
/-- Blanks, and comments that end. -/
def looseL : List UInt8 → Bool → Bool
  | [], i => !i
  | c :: l, i => if c = 10 then looseL l false else if c = 35 then looseL l true else if i = false ∧ c ≠ 32 ∧ c ≠ 9 ∧ c ≠ 13 then false else looseL l i
theorem loose_chunk : ∀ (l : List UInt8), (looseL l false = true → Chunk l []) ∧ (looseL l true = true → ∀ b : List UInt8, (∀ c ∈ b, c ≠ 10) → Chunk (35 :: b ++ l) [])
  | [] => ⟨fun _ => Chunk.nil, fun h => by cases h⟩
  | c :: l => by
    have ih := loose_chunk l
    constructor
    · intro h
      simp only [looseL] at h
      split at h
      · rename_i hc
        subst hc
        exact (Chunk.blank (c := 10) (by decide)).app (ih.1 h)
      · split at h
        · rename_i hc
          subst hc
          exact ih.2 h [] (fun c hc => by cases hc)
        · split at h
          · cases h
          · rename_i h10 h35 hn
            refine (Chunk.blank (c := c) ?_).app (ih.1 h)
            by_cases h1 : c = 32
            · subst h1; decide
            · by_cases h2 : c = 9
              · subst h2; decide
              · by_cases h3 : c = 13
                · subst h3; decide
                · exact absurd ⟨trivial, h1, h2, h3⟩ hn
    · intro h b hb
      simp only [looseL] at h
      split at h
      · rename_i hc
        subst hc
        have := (Chunk.note hb).app (ih.1 h)
        simpa using this
      · have go : looseL l true = true := by
          split at h
          · exact h
          · simpa using h
        have := ih.2 go (b ++ [c]) (fun x hx => by
          rcases List.mem_append.1 hx with hx | hx
          · exact hb x hx
          · rw [List.mem_singleton.1 hx]; assumption)
        simpa using this
theorem Chunk.loose {x : List UInt8} (h : looseL x false = true) : Chunk x [] := (loose_chunk x).1 h
theorem inW_blank (c : Nat) (h : inW c = true) : blankC c = false ∧ c ≠ 35 := by
  unfold inW at h
  have := of_decide_eq_true h
  unfold blankC
  refine ⟨?_, by omega⟩
  simp only [Bool.or_eq_false_iff, beq_eq_false_iff_ne]
  omega
/-- A mark. -/
theorem Chunk.mark {c : UInt8} (hc : c = 123 ∨ c = 125 ∨ c = 59) : Chunk [c] [(1, ⟨#[c]⟩)] := by
  intro s p rest hs hp
  have hl := at_len hs hp
  simp only [List.length_cons, List.length_nil] at hl ⊢
  have hcA : cA s p = c.toNat := at_cA hs
  have hk : skp s p = p := skp_stop s p (by omega) (by rw [hcA]; rcases hc with rfl | rfl | rfl <;> rfl) (by rw [hcA]; rcases hc with rfl | rfl | rfl <;> decide)
  refine ⟨p, p + 1, ?_, rfl⟩
  unfold nextP
  rw [hk, if_neg (by omega), hcA, if_neg (by rcases hc with rfl | rfl | rfl <;> decide), if_pos (by rcases hc with rfl | rfl | rfl <;> decide)]
  have : s.extract p (p + 1) = ⟨#[c]⟩ := by
    apply ByteArray.ext
    apply Array.ext'
    show bl _ = _
    rw [bl_cut, hs, Nat.add_sub_cancel_left]
    rfl
  rw [this]
theorem takeWhile_at (q : UInt8 → Bool) : ∀ (w : List UInt8) (c : UInt8) (r : List UInt8), (∀ x ∈ w, q x = true) → q c = false → (w ++ c :: r).takeWhile q = w
  | [], c, r, _, hc => by rw [List.nil_append, List.takeWhile_cons, hc]; rfl
  | a :: w, c, r, hw, hc => by
    rw [List.cons_append, List.takeWhile_cons, hw a (List.mem_cons_self ..), takeWhile_at q w c r (fun x hx => hw x (List.mem_cons_of_mem _ hx)) hc]
    rfl
/-- A word, and a piece behind it that begins with no letter of a word. -/
theorem Chunk.word {w : List UInt8} {c : UInt8} {y : List UInt8} {m : List (Nat × ByteArray)} (hw : (w.all fun x => inW x.toNat) = true) (hne : w ≠ []) (hc : inW c.toNat = false) (h : Chunk (c :: y) m) : Chunk (w ++ c :: y) ((0, ⟨w.toArray⟩) :: m) := by
  intro s p rest hs hp
  have hall : ∀ x ∈ w, inW x.toNat = true := fun x hx => List.all_eq_true.1 hw x hx
  have hl := at_len hs hp
  rw [List.append_assoc] at hs
  obtain ⟨a, w', rfl⟩ : ∃ a w', w = a :: w' := List.exists_cons_of_ne_nil hne
  rw [List.length_append] at hl ⊢
  simp only [List.length_cons] at hl ⊢
  have hcA : cA s p = a.toNat := at_cA (rest := w' ++ (c :: y ++ rest)) hs
  have ha := hall a (List.mem_cons_self ..)
  have hb := inW_blank _ ha
  have hk : skp s p = p := skp_stop s p (by omega) (by rw [hcA]; exact hb.1) (by rw [hcA]; exact hb.2)
  have he : wEnd s p = p + (a :: w').length := by
    unfold wEnd
    rw [hs, List.cons_append (bs := rest), takeWhile_at _ _ _ _ hall hc]
  have h2 := h s (p + (a :: w').length) rest (at_next hs) (by simp only [List.length_cons]; omega)
  refine ⟨p, p + (a :: w').length, ?_, ?_⟩
  · unfold nextP
    rw [hk, if_neg (by omega), hcA, if_pos ha, he]
    have : s.extract p (p + (a :: w').length) = ⟨(a :: w').toArray⟩ := by
      apply ByteArray.ext
      apply Array.ext'
      show bl _ = _
      rw [bl_cut, hs, Nat.add_sub_cancel_left, List.take_left]
    rw [this]
  · have e : p + (w'.length + 1 + (y.length + 1)) = p + (a :: w').length + (c :: y).length := by simp only [List.length_cons]; omega
    rw [e]
    exact h2
end Go.Proofs.YtfecfgimfjcbdaaDoor.Cf

namespace Go.Proofs.YtfecfgimfjcbdaaDoor.Cf
open Go.RowKit Go.Proofs.YtfecfgimfjcbdaaDoorW.PrintWords Go.Proofs.YtfecfgimfjcbdaaDoorW.PrintLast Go.Proofs.YtfecfgimfjcbdaaDoorW.PrintMore Go.Proofs.YtfecfgimfjcbdaaDoor.QCParse

/-- A character's number. -/
def Sc (r : Nat) : Prop := r ≤ 1114111 ∧ (r < 55296 ∨ 57343 < r)
theorem wd_ar (l : List UInt8) : wdL l = (if (l.getD 0 0).toNat < 128 then (1, (l.getD 0 0).toNat) else if 2 ≤ l.length ∧ (l.getD 0 0).toNat / 32 = 6 ∧ (l.getD 1 0).toNat / 64 = 2 ∧ 128 ≤ (l.getD 0 0).toNat % 32 * 64 + (l.getD 1 0).toNat % 64 then (2, (l.getD 0 0).toNat % 32 * 64 + (l.getD 1 0).toNat % 64)
    else if 3 ≤ l.length ∧ (l.getD 0 0).toNat / 16 = 14 ∧ (l.getD 1 0).toNat / 64 = 2 ∧ (l.getD 2 0).toNat / 64 = 2 ∧ 2048 ≤ (l.getD 0 0).toNat % 16 * 4096 + (l.getD 1 0).toNat % 64 * 64 + (l.getD 2 0).toNat % 64 ∧ ((l.getD 0 0).toNat % 16 * 4096 + (l.getD 1 0).toNat % 64 * 64 + (l.getD 2 0).toNat % 64 < 55296 ∨ 57344 ≤ (l.getD 0 0).toNat % 16 * 4096 + (l.getD 1 0).toNat % 64 * 64 + (l.getD 2 0).toNat % 64) then (3, (l.getD 0 0).toNat % 16 * 4096 + (l.getD 1 0).toNat % 64 * 64 + (l.getD 2 0).toNat % 64)
    else if 4 ≤ l.length ∧ (l.getD 0 0).toNat / 8 = 30 ∧ (l.getD 1 0).toNat / 64 = 2 ∧ (l.getD 2 0).toNat / 64 = 2 ∧ (l.getD 3 0).toNat / 64 = 2 ∧ 65536 ≤ (l.getD 0 0).toNat % 8 * 262144 + (l.getD 1 0).toNat % 64 * 4096 + (l.getD 2 0).toNat % 64 * 64 + (l.getD 3 0).toNat % 64 ∧ (l.getD 0 0).toNat % 8 * 262144 + (l.getD 1 0).toNat % 64 * 4096 + (l.getD 2 0).toNat % 64 * 64 + (l.getD 3 0).toNat % 64 ≤ 1114111 then (4, (l.getD 0 0).toNat % 8 * 262144 + (l.getD 1 0).toNat % 64 * 4096 + (l.getD 2 0).toNat % 64 * 64 + (l.getD 3 0).toNat % 64) else (0, 0)) := by
  unfold wdL
  rw [Lib.decodeL_N, wd_arith _ _ _ _ _ (UInt8.toNat_lt _)]
theorem u8_toNat (x : Int) (h0 : 0 ≤ x) (h1 : x < 256) : (x.toNat.toUInt8).toNat = x.toNat := by
  rw [show x.toNat.toUInt8 = UInt8.ofNat x.toNat from rfl, UInt8.toNat_ofNat']
  omega
theorem wd_enc (r : Nat) (h : Sc r) (t : List UInt8) : wdL (Lib.encodeRune (r : Int) ++ t) = ((Lib.encodeRune (r : Int)).length, r) := by
  obtain ⟨h1, h2⟩ := h
  rw [wd_ar]
  unfold Lib.encodeRune
  by_cases c1 : r < 128
  · rw [Lib.encodeRuneZ_one (by omega) (by omega)]
    simp only [List.map_cons, List.map_nil, List.cons_append, List.nil_append, List.getD_cons_zero, List.length_cons, List.length_nil]
    rw [u8_toNat _ (by omega) (by omega), if_pos (by omega)]
    simp
  · by_cases c2 : r < 2048
    · rw [Lib.encodeRuneZ_two (by omega) (by omega)]
      simp only [List.map_cons, List.map_nil, List.cons_append, List.nil_append, List.getD_cons_zero, List.getD_cons_succ, List.length_cons, List.length_nil]
      rw [u8_toNat _ (by omega) (by omega), u8_toNat _ (by omega) (by omega), if_neg (by omega), if_pos (by omega)]
      congr 1
      omega
    · by_cases c3 : r < 65536
      · rw [Lib.encodeRuneZ_three (by omega)]
        simp only [List.map_cons, List.map_nil, List.cons_append, List.nil_append, List.getD_cons_zero, List.getD_cons_succ, List.length_cons, List.length_nil]
        rw [u8_toNat _ (by omega) (by omega), u8_toNat _ (by omega) (by omega), u8_toNat _ (by omega) (by omega), if_neg (by omega), if_neg (by omega), if_pos (by omega)]
        congr 1
        omega
      · rw [Lib.encodeRuneZ_four (by omega) (by omega)]
        simp only [List.map_cons, List.map_nil, List.cons_append, List.nil_append, List.getD_cons_zero, List.getD_cons_succ, List.length_cons, List.length_nil]
        rw [u8_toNat _ (by omega) (by omega), u8_toNat _ (by omega) (by omega), u8_toNat _ (by omega) (by omega), u8_toNat _ (by omega) (by omega), if_neg (by omega), if_neg (by omega), if_neg (by omega), if_pos (by omega)]
        congr 1
        omega
theorem wd_scalar (l : List UInt8) : Sc (wdL l).2 := by
  rw [wd_ar]
  have h0 := UInt8.toNat_lt (l.getD 0 0)
  unfold Sc
  repeat' split
  all_goals
    simp only
    omega
theorem enc_pos (r : Int) : 1 ≤ (Lib.encodeRune r).length := by
  have := (Lib.encodeRuneZ_length r).1
  unfold Lib.encodeRune
  rw [List.length_map]
  exact this
theorem valid_enc (r : Nat) (h : Sc r) (t : List UInt8) : Lib.validD (Lib.encodeRune (r : Int) ++ t) = Lib.validD t := by
  have hp := enc_pos (r : Int)
  rw [valid_on _ (fun e => by rw [List.append_eq_nil_iff] at e; rw [e.1] at hp; simp at hp), wd_enc r h t, if_neg (by simp only; omega)]
  simp only
  rw [List.drop_left]
/-- A well-formed text begins with a character, and goes on well-formed. -/
theorem valid_head (l : List UInt8) (hl : l ≠ []) (h : Lib.validD l = true) : ∃ r t, Sc r ∧ l = Lib.encodeRune (r : Int) ++ t ∧ Lib.validD t = true ∧ Lib.decodeL l = (r, (Lib.encodeRune (r : Int)).length) := by
  have hv := valid_on l hl
  have hw0 : (wdL l).1 ≠ 0 := fun e => by rw [if_pos e, h] at hv; cases hv
  rw [if_neg hw0, h] at hv
  have hsc := wd_scalar l
  have hn : ¬ ((Lib.decodeL l).1 = 65533 ∧ (Lib.decodeL l).2 = 1) := fun e => hw0 (by unfold wdL; rw [if_pos e])
  have he := Lib.encode_decode l hl hn
  have hle := Lib.decodeL_le l hl
  have e1 : wdL l = ((Lib.decodeL l).2, (Lib.decodeL l).1) := by unfold wdL; rw [if_neg hn]
  rw [e1] at hsc hv
  refine ⟨(Lib.decodeL l).1, l.drop (Lib.decodeL l).2, hsc, ?_, hv.symm, ?_⟩
  · rw [he, List.take_append_drop]
  · rw [he, List.length_take, Nat.min_eq_left hle]
theorem valid_app : ∀ (n : Nat) (a b : List UInt8), a.length ≤ n → Lib.validD a = true → Lib.validD (a ++ b) = Lib.validD b
  | 0, a, b, hn, _ => by
    have : a = [] := List.eq_nil_of_length_eq_zero (by omega)
    rw [this, List.nil_append]
  | n + 1, a, b, hn, h => by
    by_cases ha : a = []
    · rw [ha, List.nil_append]
    · obtain ⟨r, t, hs, rfl, ht, _⟩ := valid_head a ha h
      have hp := enc_pos (r : Int)
      rw [List.length_append] at hn
      rw [List.append_assoc, valid_enc r hs, valid_app n t b (by omega) ht]
theorem valid_snoc (a : List UInt8) (r : Nat) (hr : Sc r) (h : Lib.validD a = true) : Lib.validD (a ++ Lib.encodeRune (r : Int)) = true := by
  rw [valid_app a.length a _ (Nat.le_refl _) h]
  have := valid_enc r hr []
  rw [List.append_nil] at this
  rw [this]
  rfl
theorem escS_sc (l : List UInt8) (x n : Nat) (h : escS l = some (x, n)) : Sc x := by
  have h128 : ∀ y : Nat, y < 256 → Sc y := fun y hy => ⟨by omega, by omega⟩
  unfold escS at h
  split at h
  · rename_i a c t
    have hc := UInt8.toNat_lt c
    split at h
    · simp only [Option.some.injEq, Prod.mk.injEq] at h
      exact h.1 ▸ h128 _ hc
    · split at h
      · simp only [Option.some.injEq, Prod.mk.injEq] at h
        exact h.1 ▸ h128 _ (by decide)
      · split at h
        · simp only [Option.some.injEq, Prod.mk.injEq] at h
          exact h.1 ▸ h128 _ (by decide)
        · split at h
          · unfold numS at h
            split at h
            · split at h
              · split at h
                · rename_i hv
                  simp only [Option.some.injEq, Prod.mk.injEq] at h
                  rw [← h.1]
                  unfold vR at hv
                  have := of_decide_eq_true hv
                  exact ⟨by omega, by omega⟩
                · cases h
              · cases h
            · cases h
          · cases h
  · cases h
/-- What is read between quotation marks is well-formed. -/
theorem qS_valid (s : ByteArray) : ∀ (f k : Nat) (acc l : List UInt8) (q : Nat), Lib.validD acc = true → qS s f k acc = .ok (l, q) → Lib.validD l = true
  | 0, _, _, _, _, _, h => by cases h
  | f + 1, k, acc, l, q, ha, h => by
    simp only [qS] at h
    split at h
    · split at h
      · obtain ⟨rfl, _⟩ := Prod.mk.inj (Except.ok.inj h)
        exact ha
      · split at h
        · split at h
          · rename_i x n he
            exact qS_valid s f _ _ l q (valid_snoc _ _ (escS_sc _ _ _ he) ha) h
          · cases h
        · split at h
          · cases h
          · exact qS_valid s f _ _ l q (valid_snoc _ _ (wd_scalar _) ha) h
    · cases h

/-! ### What is quoted is read back -/
theorem hex_ok : ∀ c : Fin 128, (bl (hexS c.val)).all (fun x => x != 125) = true ∧ 1 ≤ (bl (hexS c.val)).length ∧ (bl (hexS c.val)).length ≤ 2 ∧ hexFold (bl (hexS c.val)) 0 = some c.val := by decide +kernel
theorem numS_hex (r : Nat) (hr : r < 128) (t : List UInt8) : numS (92 :: 117 :: 123 :: (bl (hexS r) ++ 125 :: t)) = some (r, (bl (hexS r)).length + 4) := by
  obtain ⟨h1, h2, h3, h4⟩ := hex_ok ⟨r, hr⟩
  simp only at h1 h2 h3 h4
  generalize bl (hexS r) = w at *
  have hi : (92 :: 117 :: 123 :: (w ++ 125 :: t)).findIdx (fun c : UInt8 => c == 125) = w.length + 3 := by
    rw [List.findIdx_cons, List.findIdx_cons, List.findIdx_cons, List.findIdx_append, if_neg, List.findIdx_cons]
    · simp
    · intro h
      obtain ⟨c, hc, hx⟩ := List.findIdx_lt_length.1 h
      have := List.all_eq_true.1 h1 c hc
      simp at this hx
      exact this hx
  unfold numS
  rw [hi, if_pos ⟨rfl, by simp, by omega, by omega⟩]
  have e : ((92 :: 117 :: 123 :: (w ++ 125 :: t)).take (w.length + 3)).drop 3 = w := by
    simp
  rw [e, h4]
  simp only
  rw [if_pos (by unfold vR; exact decide_eq_true (by omega))]
theorem esc_one (r : Nat) (hr : r < 128) : Lib.encodeRune (r : Int) = [UInt8.ofNat r] := by
  unfold Lib.encodeRune
  rw [Lib.encodeRuneZ_one (by omega) (by omega)]
  simp
theorem cA_lead (s : ByteArray) (k : Nat) (h : (wdL ((bl s).drop k)).2 < 128 → False) : 128 ≤ cA s k := by
  rw [wd_ar] at h
  rw [cA_drop] at h
  simp only [Nat.add_zero] at h
  by_cases hc : cA s k < 128
  · rw [if_pos hc] at h
    exact absurd hc (fun x => h x)
  · omega
/-- One character of a quoted text, read. -/
theorem qS_step1 (s : ByteArray) (f k r : Nat) (acc t : List UInt8) (hr : Sc r) (hd : (bl s).drop k = escR r ++ t) (hk : k < s.size) : qS s (f + 1) k acc = qS s f (k + (escR r).length) (acc ++ Lib.encodeRune (r : Int)) := by
  have esc : ∀ x n, cA s k = 92 → escS ((bl s).drop k) = some (x, n) → (escR r).length = n → x = r → qS s (f + 1) k acc = qS s f (k + (escR r).length) (acc ++ Lib.encodeRune (r : Int)) := by
    intro x n h1 h2 h3 h4
    subst h4
    simp only [qS]
    rw [if_pos hk, h1, if_neg (by decide), if_pos rfl, h2, h3]
  unfold escR at hd ⊢
  unfold escR at esc
  split at hd
  · rename_i h
    have hr8 : r < 128 := by omega
    rw [if_pos h] at esc ⊢
    rw [esc_one r hr8] at hd esc ⊢
    have hb : (UInt8.ofNat r).toNat = r := by rw [UInt8.toNat_ofNat']; omega
    refine esc r 2 (at_cA hd) ?_ rfl rfl
    rw [hd]
    simp only [List.cons_append, escS]
    rw [hb, if_pos h]
  · split at hd
    · rename_i h0 h
      rw [if_neg h0, if_pos h] at esc ⊢
      refine esc 10 2 (at_cA hd) ?_ rfl h.symm
      rw [hd]
      rfl
    · split at hd
      · rename_i h0 h1 h
        rw [if_neg h0, if_neg h1, if_pos h] at esc ⊢
        refine esc 9 2 (at_cA hd) ?_ rfl h.symm
        rw [hd]
        rfl
      · split at hd
        · rename_i h0 h1 h2 h
          rw [if_neg h0, if_neg h1, if_neg h2, if_pos h] at esc ⊢
          have hd' : (bl s).drop k = 92 :: 117 :: 123 :: (bl (hexS r) ++ 125 :: t) := by rw [hd]; simp
          refine esc r ((bl (hexS r)).length + 4) (at_cA hd') ?_ (by simp only [List.length_append, List.length_cons, List.length_nil]; omega) rfl
          rw [hd']
          have := numS_hex r (by omega) t
          simp only [escS]
          rw [this]
          rfl
        · rename_i h0 h1 h2 h3
          rw [if_neg h0, if_neg h1, if_neg h2, if_neg h3] at ⊢
          have hw := wd_enc r hr t
          rw [← hd] at hw
          have hp := enc_pos (r : Int)
          have h34 : cA s k ≠ 34 ∧ cA s k ≠ 92 := by
            by_cases h8 : r < 128
            · rw [esc_one r h8] at hd
              have hb : (UInt8.ofNat r).toNat = r := by rw [UInt8.toNat_ofNat']; omega
              have := at_cA hd
              omega
            · have := cA_lead s k (by rw [hw]; exact h8)
              omega
          simp only [qS]
          rw [if_pos hk, if_neg h34.1, if_neg h34.2, hw, if_neg (by simp only; omega)]
theorem qS_from (s sc : ByteArray) : ∀ (n pos f k : Nat) (acc t : List UInt8), (bl s).drop k = qFrom sc n pos ++ 34 :: t → Lib.validD ((bl sc).drop pos) = true → sc.size ≤ pos + n → s.size < k + f → k ≤ s.size → qS s f k acc = .ok (acc ++ (bl sc).drop pos, k + (qFrom sc n pos).length + 1)
  | n, pos, f, k, acc, t, hd, hv, hn, hf, hk => by
    have hl := at_len hd hk
    rw [List.length_cons] at hl
    obtain ⟨f, rfl⟩ : ∃ f', f = f' + 1 := ⟨f - 1, by omega⟩
    by_cases hp : pos < sc.size
    · obtain ⟨n, rfl⟩ : ∃ n', n = n' + 1 := ⟨n - 1, by omega⟩
      have hne : (bl sc).drop pos ≠ [] := fun e => by
        have := congrArg List.length e
        rw [List.length_drop, bl_length] at this
        simp at this
        omega
      obtain ⟨r, u, hs, e1, e2, e3⟩ := valid_head _ hne hv
      have e4 : Utf8.decode sc pos = (r, (Lib.encodeRune (r : Int)).length) := (Lib.decodeL_drop sc pos).symm.trans e3
      have hq : qFrom sc (n + 1) pos = escR r ++ qFrom sc n (pos + (Lib.encodeRune (r : Int)).length) := by
        simp only [qFrom]
        rw [if_pos hp, e4]
      rw [hq] at hd hl ⊢
      rw [List.append_assoc] at hd
      have e5 : (bl sc).drop (pos + (Lib.encodeRune (r : Int)).length) = u := by rw [← List.drop_drop, e1, List.drop_left]
      have hpe := enc_pos (r : Int)
      rw [List.length_append] at hl
      rw [qS_step1 s f k r acc _ hs hd (by omega)]
      have hr1 : 1 ≤ (escR r).length := by
        unfold escR
        repeat' split
        all_goals first | (simp only [List.length_append, List.length_cons]; omega) | exact hpe
      rw [qS_from s sc n _ f _ _ t (at_next hd) (by rw [e5]; exact e2) (by omega) (by omega) (by omega), e5, e1, List.append_assoc, List.length_append, Nat.add_assoc k]
    · have hq : qFrom sc n pos = [] := by
        cases n with
        | zero => rfl
        | succ n => simp only [qFrom]; rw [if_neg hp]
      rw [hq] at hd ⊢
      have h34 : cA s k = 34 := at_cA hd
      simp only [qS]
      rw [if_pos (by rw [hq] at hl; simp at hl; omega), if_pos h34, List.drop_eq_nil_of_le (by rw [bl_length]; omega), List.append_nil]
      rfl
/-- A quoted text. -/
theorem Chunk.text (sc : ByteArray) (hv : Lib.validD (bl sc) = true) : Chunk (quoteL sc) [(2, sc)] := by
  intro s p rest hs hp
  have hl := at_len hs hp
  unfold quoteL at hs hl ⊢
  simp only [List.length_append, List.length_cons, List.length_nil] at hl ⊢
  have hs' : (bl s).drop p = 34 :: (qFrom sc sc.size 0 ++ 34 :: rest) := by rw [hs]; simp
  have hcA : cA s p = 34 := at_cA hs'
  have hk : skp s p = p := skp_stop s p (by omega) (by rw [hcA]; rfl) (by rw [hcA]; decide)
  have hd1 : (bl s).drop (p + 1) = qFrom sc sc.size 0 ++ 34 :: rest := at_next (x := [34]) hs'
  have hq := qS_from s sc sc.size 0 (s.size + 1) (p + 1) [] rest hd1 (by rw [List.drop_zero]; exact hv) (by omega) (by omega) (by omega)
  rw [List.nil_append, List.drop_zero] at hq
  refine ⟨p, p + 1 + (qFrom sc sc.size 0).length + 1, ?_, ?_⟩
  · unfold nextP
    rw [hk, if_neg (by omega), hcA, if_neg (by decide), if_neg (by decide), if_pos rfl, hq]
    rfl
  · show skp s _ = skp s _
    congr 1
    omega
end Go.Proofs.YtfecfgimfjcbdaaDoor.Cf

namespace Go.Proofs.YtfecfgimfjcbdaaDoor.Cf
open Go.RowKit Go.Proofs.YtfecfgimfjcbdaaDoorW.PrintWords Go.Proofs.YtfecfgimfjcbdaaDoorW.PrintLast Go.Proofs.YtfecfgimfjcbdaaDoorW.PrintMore Go.Proofs.YtfecfgimfjcbdaaDoor.QCParse

theorem bl_inj {x y : ByteArray} (h : bl x = bl y) : x = y := ByteArray.ext (Array.ext' h)
theorem seen_iff (L : List ByteArray) (x : ByteArray) : seen L x = true ↔ x ∈ L := by
  unfold seen
  rw [List.any_eq_true]
  constructor
  · rintro ⟨y, hy, h⟩
    have := eq_of_beq h
    rw [toList_blN, toList_blN] at this
    rw [← bl_inj this]
    exact hy
  · intro h
    exact ⟨x, h, beq_self_eq_true _⟩
def closeB : ByteArray := (⟨#[125]⟩ : ByteArray)
/-- A key's name, its value's kind, its value. -/
abbrev EnT := ByteArray × Nat × ByteArray
def toksE (e : EnT) : List (Nat × ByteArray) := [(0, e.1), (e.2.1, e.2.2), (1, semiB)]
def GoodV (scT : ByteArray) (kT : Nat → Int) (key : Option Nat) (kd : Nat) (v : ByteArray) : Prop :=
  kd ≠ 1 ∧ match key with
  | none => v = scT ∧ v.size ≤ 64
  | some i => ∃ t, kTab[i]? = some t ∧ readP t kd v = some (kT i)
def Has (scT : ByteArray) (kT : Nat → Int) (key : Option Nat) (sc : ByteArray) (k : Nat → Int) : Prop :=
  match key with
  | none => sc = scT
  | some i => k i = kT i
/-- What is as it should be stays so. -/
def Keeps (scT : ByteArray) (kT : Nat → Int) (sc : ByteArray) (k : Nat → Int) (sc' : ByteArray) (k' : Nat → Int) : Prop := ∀ key, Has scT kT key sc k → Has scT kT key sc' k'
theorem want_tok {s : ByteArray} {p z : Nat} {kd : Nat} {v : ByteArray} {l : List (Nat × ByteArray)} (h : Toks s p ((kd, v) :: l) z) : ∃ a r, wantP s p kd v = .ok (a, r) ∧ Toks s r l z := by
  obtain ⟨a, r, hn, ht⟩ := h
  refine ⟨a, r, ?_, ht⟩
  unfold wantP
  rw [hn]
  simp only
  rw [if_pos ⟨trivial, trivial⟩]
theorem value_tok {s : ByteArray} {p z : Nat} {kd : Nat} {v : ByteArray} {l : List (Nat × ByteArray)} {scT : ByteArray} {kT : Nat → Int} {key : Option Nat} (sc : ByteArray) (k : Nat → Int)
    (hg : GoodV scT kT key kd v) (h : Toks s p ((kd, v) :: (1, semiB) :: l) z) : ∃ sc' k' r, valueP s p key sc k = .ok (sc', k', r) ∧ Toks s r l z ∧ Keeps scT kT sc k sc' k' ∧ Has scT kT key sc' k' := by
  obtain ⟨a, q, hn, ht⟩ := h
  obtain ⟨a2, r, hw, ht2⟩ := want_tok ht
  obtain ⟨h1, hg⟩ := hg
  simp only at hn
  unfold valueP
  rw [hn]
  simp only
  rw [if_neg h1]
  cases key with
  | none =>
    obtain ⟨rfl, hs⟩ := hg
    refine ⟨v, k, r, ?_, ht2, ?_, rfl⟩
    · simp only
      rw [if_neg (by omega), hw]
    · intro key hk
      cases key with
      | none => rfl
      | some i => exact hk
  | some i =>
    obtain ⟨t, hkt, hr⟩ := hg
    refine ⟨sc, setK k i (kT i), r, ?_, ht2, ?_, ?_⟩
    · simp only [hkt]
      rw [hr]
      simp only
      rw [hw]
    · intro key hk
      cases key with
      | none => exact hk
      | some j =>
        show (if j = i then _ else _) = _
        split
        · rename_i e
          rw [e]
        · exact hk
    · show (if i = i then _ else _) = _
      rw [if_pos rfl]
theorem Toks.lt {s : ByteArray} {p z : Nat} {t : Nat × ByteArray} {l : List (Nat × ByteArray)} (h : Toks s p (t :: l) z) (hp : p ≤ s.size) : p < s.size := by
  obtain ⟨a, r, hn, _⟩ := h
  have := nextP_le s p t.1 a t.2 r hp hn
  omega
def GoodE (sec scT : ByteArray) (kT : Nat → Int) (e : EnT) : Prop := ∃ key, findP sec e.1 = some key ∧ GoodV scT kT key e.2.1 e.2.2
theorem sect_tok (s sec scT : ByteArray) (kT : Nat → Int) (l : List (Nat × ByteArray)) (z : Nat) : ∀ (es : List EnT) (f p : Nat) (L : List ByteArray) (sc : ByteArray) (k : Nat → Int),
    (∀ e ∈ es, GoodE sec scT kT e) → (es.map Prod.fst).Nodup → (∀ e ∈ es, e.1 ∉ L) → Toks s p (es.flatMap toksE ++ (1, closeB) :: l) z → s.size < p + f → p ≤ s.size →
    ∃ L' sc' k' r, sectP s sec f p L sc k = .ok (L', sc', k', r) ∧ Toks s r l z ∧ Keeps scT kT sc k sc' k' ∧ (∀ e ∈ es, ∀ key, findP sec e.1 = some key → Has scT kT key sc' k') ∧ (∀ e ∈ es, e.1 ∈ L') ∧ (∀ x ∈ L, x ∈ L') ∧ r ≤ s.size ∧ p < r
  | [], f, p, L, sc, k, _, _, _, ht, hf, hp => by
    obtain ⟨f, rfl⟩ : ∃ f', f = f' + 1 := ⟨f - 1, by omega⟩
    obtain ⟨a, q, hn, ht⟩ := ht
    have hq := nextP_le s p 1 a closeB q hp hn
    simp only at hn
    refine ⟨L, sc, k, q, ?_, ht, fun key h => h, (fun e he => by cases he), (fun e he => by cases he), fun x hx => hx, hq.2.2, by omega⟩
    simp only [sectP]
    rw [hn]
    simp only
    rw [if_pos ⟨trivial, by rw [toList_blN]; rfl⟩]
  | e :: es, f, p, L, sc, k, hg, hnd, hL, ht, hf, hp => by
    obtain ⟨f, rfl⟩ : ∃ f', f = f' + 1 := ⟨f - 1, by omega⟩
    obtain ⟨key, hk, hv⟩ := hg e (List.mem_cons_self ..)
    rw [List.flatMap_cons, List.append_assoc] at ht
    obtain ⟨a, q, hn, ht⟩ := ht
    have hq := nextP_le s p 0 a e.1 q hp hn
    simp only at hn
    obtain ⟨sc1, k1, r1, hv1, ht1, hkeep, hhas⟩ := value_tok sc k hv ht
    have hr1 := valueP_le s q key sc k _ hq.2.2 hv1
    simp only at hr1
    have hnL := hL e (List.mem_cons_self ..)
    rw [List.map_cons, List.nodup_cons] at hnd
    obtain ⟨L', sc', k', r, h1, h2, h3, h4, h5, h6, h7, h8⟩ := sect_tok s sec scT kT l z es f r1 (e.1 :: L) sc1 k1 (fun x hx => hg x (List.mem_cons_of_mem _ hx)) hnd.2 (fun x hx hm => by
      rcases List.mem_cons.1 hm with h | h
      · exact hnd.1 (h ▸ List.mem_map_of_mem hx)
      · exact hL x (List.mem_cons_of_mem _ hx) h) ht1 (by omega) hr1.2
    have hc : ¬ ((0 : Nat) = 1 ∧ e.1.toList = [125]) := fun h => by omega
    refine ⟨L', sc', k', r, ?_, h2, fun key h => h3 key (hkeep key h), ?_, ?_, fun x hx => h6 x (List.mem_cons_of_mem _ hx), h7, by omega⟩
    · simp only [sectP]
      rw [hn]
      simp only
      rw [if_neg (by omega), if_neg (by omega), hk]
      simp only
      rw [if_neg (fun h => hnL ((seen_iff L e.1).1 h)), hv1]
      exact h1
    · intro x hx key2 hk2
      rcases List.mem_cons.1 hx with rfl | hx
      · rw [hk] at hk2
        obtain rfl := Option.some.inj hk2
        exact h3 key hhas
      · exact h4 x hx key2 hk2
    · intro x hx
      rcases List.mem_cons.1 hx with rfl | hx
      · exact h6 _ (List.mem_cons_self ..)
      · exact h5 x hx

/-- A part of a resource: a key, or a section. -/
inductive PaT where
  | key (e : EnT)
  | sec (nm : ByteArray) (es : List EnT)
def PaT.name : PaT → ByteArray
  | .key e => e.1
  | .sec nm _ => nm
def PaT.toks : PaT → List (Nat × ByteArray)
  | .key e => toksE e
  | .sec nm es => (0, nm) :: (1, openB) :: (es.flatMap toksE ++ [(1, closeB)])
def PaT.Good (scT : ByteArray) (kT : Nat → Int) : PaT → Prop
  | .key e => isPart e.1 = true ∧ GoodE ⟨#[]⟩ scT kT e
  | .sec nm es => isPart nm = true ∧ findP ⟨#[]⟩ nm = none ∧ (∀ e ∈ es, GoodE nm scT kT e) ∧ (es.map Prod.fst).Nodup
def PaT.Hs (scT : ByteArray) (kT : Nat → Int) (sc : ByteArray) (k : Nat → Int) : PaT → Prop
  | .key e => ∀ key, findP ⟨#[]⟩ e.1 = some key → Has scT kT key sc k
  | .sec nm es => ∀ e ∈ es, ∀ key, findP nm e.1 = some key → Has scT kT key sc k
theorem PaT.Hs.keep {scT : ByteArray} {kT : Nat → Int} {sc sc' : ByteArray} {k k' : Nat → Int} (h : Keeps scT kT sc k sc' k') : ∀ {P : PaT}, P.Hs scT kT sc k → P.Hs scT kT sc' k'
  | .key _, hp => fun key hk => h key (hp key hk)
  | .sec _ _, hp => fun e he key hk => h key (hp e he key hk)
def Dev (ps : List PaT) (D : List ByteArray) : Prop := ∀ nm es, PaT.sec nm es ∈ ps → nm.toList = devB → ∀ e ∈ es, e.1 ∈ D
theorem parts_tok (s scT : ByteArray) (kT : Nat → Int) (l : List (Nat × ByteArray)) (z : Nat) : ∀ (ps : List PaT) (f p : Nat) (L D : List ByteArray) (sc : ByteArray) (k : Nat → Int),
    (∀ P ∈ ps, P.Good scT kT) → (ps.map PaT.name).Nodup → (∀ P ∈ ps, P.name ∉ L) → Toks s p (ps.flatMap PaT.toks ++ (1, closeB) :: l) z → s.size < p + f → p ≤ s.size →
    ∃ a D' sc' k' r, partsP s f p L D sc k = .ok (a, D', sc', k', r) ∧ Toks s r l z ∧ Keeps scT kT sc k sc' k' ∧ (∀ P ∈ ps, P.Hs scT kT sc' k') ∧ Dev ps D' ∧ ((∀ P ∈ ps, P.name.toList ≠ devB) → D' = D) ∧ r ≤ s.size
  | [], f, p, L, D, sc, k, _, _, _, ht, hf, hp => by
    obtain ⟨f, rfl⟩ : ∃ f', f = f' + 1 := ⟨f - 1, by omega⟩
    obtain ⟨a, q, hn, ht⟩ := ht
    have hq := nextP_le s p 1 a closeB q hp hn
    simp only at hn
    refine ⟨a, D, sc, k, q, ?_, ht, fun key h => h, (fun e he => by cases he), (fun nm es he => by cases he), fun _ => rfl, hq.2.2⟩
    simp only [partsP]
    rw [hn]
    simp only
    rw [if_pos ⟨trivial, by rw [toList_blN]; rfl⟩]
  | .key e :: ps, f, p, L, D, sc, k, hg, hnd, hL, ht, hf, hp => by
    obtain ⟨f, rfl⟩ : ∃ f', f = f' + 1 := ⟨f - 1, by omega⟩
    obtain ⟨hpart, key, hk, hv⟩ := hg _ (List.mem_cons_self ..)
    rw [List.flatMap_cons, List.append_assoc] at ht
    obtain ⟨a, q, hn, ht⟩ := ht
    have hq := nextP_le s p 0 a e.1 q hp hn
    simp only at hn
    obtain ⟨sc1, k1, r1, hv1, ht1, hkeep, hhas⟩ := value_tok sc k hv ht
    have hr1 := valueP_le s q key sc k _ hq.2.2 hv1
    simp only at hr1
    have hnL : e.1 ∉ L := hL _ (List.mem_cons_self ..)
    rw [List.map_cons, List.nodup_cons] at hnd
    obtain ⟨a2, D', sc', k', r, h1, h2, h3, h4, h5, h6, h7⟩ := parts_tok s scT kT l z ps f r1 (e.1 :: L) D sc1 k1 (fun x hx => hg x (List.mem_cons_of_mem _ hx)) hnd.2 (fun x hx hm => by
      rcases List.mem_cons.1 hm with h | h
      · exact hnd.1 (by show e.1 ∈ _; rw [← h]; exact List.mem_map_of_mem hx)
      · exact hL x (List.mem_cons_of_mem _ hx) h) ht1 (by omega) hr1.2
    refine ⟨a2, D', sc', k', r, ?_, h2, fun key h => h3 key (hkeep key h), ?_, ?_, fun h => h6 (fun P hP => h P (List.mem_cons_of_mem _ hP)), h7⟩
    · simp only [partsP]
      rw [hn]
      simp only
      rw [if_neg (by omega), if_neg (by omega), if_neg (by rw [hpart]; decide), if_neg (fun h => hnL ((seen_iff L e.1).1 h)), hk]
      simp only
      rw [hv1]
      exact h1
    · intro P hP
      rcases List.mem_cons.1 hP with rfl | hP
      · intro key2 hk2
        rw [hk] at hk2
        obtain rfl := Option.some.inj hk2
        exact h3 key hhas
      · exact h4 P hP
    · intro nm es hP hd e2 he2
      rcases List.mem_cons.1 hP with h | h
      · cases h
      · exact h5 nm es h hd e2 he2
  | .sec nm es :: ps, f, p, L, D, sc, k, hg, hnd, hL, ht, hf, hp => by
    obtain ⟨f, rfl⟩ : ∃ f', f = f' + 1 := ⟨f - 1, by omega⟩
    obtain ⟨hpart, hnone, hge, hnde⟩ := hg _ (List.mem_cons_self ..)
    rw [List.flatMap_cons, List.append_assoc] at ht
    obtain ⟨a, q, hn, ht⟩ := ht
    have hq := nextP_le s p 0 a nm q hp hn
    simp only at hn
    obtain ⟨a1, q1, hw, ht1⟩ := want_tok ht
    have hq1 := wantP_le s q 1 openB a1 q1 hq.2.2 hw
    have ht1 : Toks s q1 (es.flatMap toksE ++ (1, closeB) :: (ps.flatMap PaT.toks ++ (1, closeB) :: l)) z := by
      have e : (es.flatMap toksE ++ [(1, closeB)]) ++ (ps.flatMap PaT.toks ++ (1, closeB) :: l) = es.flatMap toksE ++ (1, closeB) :: (ps.flatMap PaT.toks ++ (1, closeB) :: l) := by rw [List.append_assoc]; rfl
      rw [← e]
      exact ht1
    obtain ⟨L1, sc1, k1, r1, hs1, ht2, hkeep, hhas, hin, _, hr1, hpr⟩ := sect_tok s nm scT kT _ z es (s.size + 1) q1 [] sc k hge hnde (fun e _ h => by cases h) ht1 (by omega) hq1.2
    have hnL : nm ∉ L := hL _ (List.mem_cons_self ..)
    rw [List.map_cons, List.nodup_cons] at hnd
    obtain ⟨a2, D', sc', k', r, h1, h2, h3, h4, h5, h6, h7⟩ := parts_tok s scT kT l z ps f r1 (nm :: L) (if (nm.toList == devB) = true then L1 else D) sc1 k1 (fun x hx => hg x (List.mem_cons_of_mem _ hx)) hnd.2 (fun x hx hm => by
      rcases List.mem_cons.1 hm with h | h
      · exact hnd.1 (by show nm ∈ _; rw [← h]; exact List.mem_map_of_mem hx)
      · exact hL x (List.mem_cons_of_mem _ hx) h) ht2 (by omega) hr1
    refine ⟨a2, D', sc', k', r, ?_, h2, fun key h => h3 key (hkeep key h), ?_, ?_, ?_, h7⟩
    · simp only [partsP]
      rw [hn]
      simp only
      rw [if_neg (by omega), if_neg (by omega), if_neg (by rw [hpart]; decide), if_neg (fun h => hnL ((seen_iff L nm).1 h)), hnone]
      simp only
      rw [hw]
      simp only
      rw [hs1]
      exact h1
    · intro P hP
      rcases List.mem_cons.1 hP with rfl | hP
      · exact PaT.Hs.keep h3 (P := .sec nm es) hhas
      · exact h4 P hP
    · intro nm2 es2 hP hd e2 he2
      rcases List.mem_cons.1 hP with h | h
      · injection h with e1 e3
        subst e1 e3
        have hD : D' = L1 := by
          rw [h6, if_pos (beq_iff_eq.2 hd)]
          intro P hP2 hd2
          have : P.name = nm2 := bl_inj (by rw [← toList_blN, ← toList_blN, hd2, hd])
          exact hnd.1 (by show nm2 ∈ _; rw [← this]; exact List.mem_map_of_mem hP2)
        rw [hD]
        exact hin e2 he2
      · exact h5 nm2 es2 h hd e2 he2
    · intro h
      have hne : nm.toList ≠ devB := h _ (List.mem_cons_self ..)
      rw [h6 (fun P hP => h P (List.mem_cons_of_mem _ hP)), if_neg (fun x => hne (eq_of_beq x))]
/-- A whole resource, read from its tokens. -/
theorem res_tok (s nm scT : ByteArray) (kT : Nat → Int) (ps : List PaT) (hnm : nameI nm = true) (hg : ∀ P ∈ ps, P.Good scT kT) (hnd : (ps.map PaT.name).Nodup)
    (hdev : ∀ D, Dev ps D → blkB ∈ D ∧ sizB ∈ D) (hall : ∀ sc k, (∀ P ∈ ps, P.Hs scT kT sc k) → sc = scT ∧ ∀ i, i < 16 → k i = kT i) (htog : togI kT = true)
    (ht : Toks s 0 ((0, resB) :: (0, nm) :: (1, openB) :: (ps.flatMap PaT.toks ++ [(1, closeB)])) s.size) : ∃ k, resP s = .ok (nm, scT, k) ∧ ∀ i, i < 16 → k i = kT i := by
  obtain ⟨a0, q0, hw, ht⟩ := want_tok ht
  have hq0 := wantP_le s 0 0 resB a0 q0 (Nat.zero_le _) hw
  obtain ⟨a1, q1, hn, ht⟩ := ht
  have hq1 := nextP_le s q0 0 a1 nm q1 hq0.2 hn
  simp only at hn
  obtain ⟨a2, q2, hw2, ht⟩ := want_tok ht
  have hq2 := wantP_le s q1 1 openB a2 q2 hq1.2.2 hw2
  obtain ⟨a, D, sc, k, r, h1, h2, _, h4, h5, _, h7⟩ := parts_tok s scT kT [] s.size ps (s.size + 1) q2 [] [] ⟨#[]⟩ kU hg hnd (fun P _ h => by cases h) ht (by omega) hq2.2
  obtain ⟨rfl, hk⟩ := hall sc k h4
  have hD := hdev D h5
  have hend : skp s r = s.size := by
    have : skp s r = skp s s.size := h2
    rw [this, skp_end s s.size (by omega)]
  have htog' : togI k = true := by
    rw [← htog]
    unfold togI
    rw [hk 5 (by omega), hk 6 (by omega), hk 7 (by omega), hk 8 (by omega), hk 9 (by omega), hk 15 (by omega)]
  refine ⟨k, ?_, hk⟩
  unfold resP
  rw [hw]
  simp only
  rw [hn]
  simp only
  rw [if_neg (by decide), if_neg (by rw [hnm]; decide), hw2]
  simp only
  rw [h1]
  simp only [endP]
  rw [if_neg (by rw [(seen_iff D blkB).2 hD.1, (seen_iff D sizB).2 hD.2]; decide), if_neg (by rw [htog']; decide), hend, if_neg (by omega)]
end Go.Proofs.YtfecfgimfjcbdaaDoor.Cf

namespace Go.Proofs.YtfecfgimfjcbdaaDoor.Cf
open Go.RowKit Go.Proofs.YtfecfgimfjcbdaaDoorW.PrintWords Go.Proofs.YtfecfgimfjcbdaaDoorW.PrintLast Go.Proofs.YtfecfgimfjcbdaaDoorW.PrintMore Go.Proofs.YtfecfgimfjcbdaaDoor.QCParse

theorem decFrom_snoc : ∀ (l : List UInt8) (a n d : Nat) (b : UInt8), Lib.decFrom a l = some n → Lib.digitVal b = some d → Lib.decFrom a (l ++ [b]) = some (n * 10 + d)
  | [], a, n, d, b, h, hb => by
    obtain rfl := Option.some.inj h
    simp only [List.nil_append, Lib.decFrom, hb]
  | c :: l, a, n, d, b, h, hb => by
    simp only [List.cons_append, Lib.decFrom] at h ⊢
    cases hd : Lib.digitVal c with
    | none => rw [hd] at h; cases h
    | some x =>
      rw [hd] at h
      simp only
      exact decFrom_snoc l _ n d b h hb
theorem dig_val (d : Nat) (h : d < 10) : Lib.digitVal (UInt8.ofNat (48 + d)) = some d := by
  have e : (UInt8.ofNat (48 + d)).toNat = 48 + d := by rw [UInt8.toNat_ofNat']; omega
  unfold Lib.digitVal
  rw [e, if_pos (by omega)]
  congr 1
  omega
def isDig (c : UInt8) : Bool := decide (48 ≤ c.toNat ∧ c.toNat ≤ 57)
theorem dec_back (u : Nat) : Lib.decFrom 0 (Lib.decDigits u) = some u ∧ ((Lib.decDigits u).all isDig) = true := by
  induction u using Nat.strongRecOn with
  | _ u ih =>
    have hb : ∀ d, d < 10 → isDig (UInt8.ofNat (48 + d)) = true := fun d hd => by
      have e : (UInt8.ofNat (48 + d)).toNat = 48 + d := by rw [UInt8.toNat_ofNat']; omega
      unfold isDig
      rw [e]
      exact decide_eq_true (by omega)
    by_cases h : u < 10
    · rw [Lib.decDigits_one h]
      refine ⟨?_, by rw [List.all_cons, hb u h]; rfl⟩
      simp only [Lib.decFrom, dig_val u h]
      congr 1
      omega
    · obtain ⟨h1, h2⟩ := ih (u / 10) (by omega)
      rw [Lib.decDigits, dif_neg h]
      refine ⟨?_, by rw [List.all_append, h2, List.all_cons, hb _ (by omega)]; rfl⟩
      rw [decFrom_snoc _ _ _ _ _ h1 (dig_val (u % 10) (by omega))]
      congr 1
      omega
theorem nDig_le (u : Nat) (h : u < 10000) : 1 ≤ (Lib.decDigits u).length ∧ (Lib.decDigits u).length ≤ 4 := by
  rw [Lib.decDigits_length]
  refine ⟨Lib.nDigits_pos u, ?_⟩
  have s1 : ∀ v, v < 10 → Lib.nDigits v = 1 := fun v hv => Lib.nDigits_small hv
  by_cases h1 : u < 10
  · rw [s1 u h1]; decide
  · rw [Lib.nDigits_big h1]
    by_cases h2 : u / 10 < 10
    · rw [s1 _ h2]; decide
    · rw [Lib.nDigits_big h2]
      by_cases h3 : u / 10 / 10 < 10
      · rw [s1 _ h3]; decide
      · rw [Lib.nDigits_big h3, s1 _ (by omega)]
        decide
theorem dig_inW (c : UInt8) (h : isDig c = true) : inW c.toNat = true := by
  unfold isDig at h
  have := of_decide_eq_true h
  unfold inW
  exact decide_eq_true (by omega)
theorem all_imp {l : List UInt8} {p q : UInt8 → Bool} (h : ∀ c, p c = true → q c = true) (hl : l.all p = true) : l.all q = true := List.all_eq_true.2 fun c hc => h c (List.all_eq_true.1 hl c hc)
/-- A number, as it is written, is read as itself. -/
theorem num_back (n : Int) (h0 : 0 ≤ n) (h1 : n < 10000) : numP ⟨(Lib.itoa n).toArray⟩ = some n.toNat ∧ ((Lib.itoa n).all fun c => inW c.toNat) = true ∧ Lib.itoa n ≠ [] := by
  have e : Lib.itoa n = Lib.decDigits n.toNat := by unfold Lib.itoa; rw [if_neg (by omega)]
  rw [e]
  obtain ⟨d1, d2⟩ := dec_back n.toNat
  obtain ⟨l1, l2⟩ := nDig_le n.toNat (by omega)
  have hne : Lib.decDigits n.toNat ≠ [] := fun x => by rw [x] at l1; simp at l1
  refine ⟨?_, all_imp dig_inW d2, hne⟩
  generalize Lib.decDigits n.toNat = w at *
  have hbig : bigN ⟨w.toArray⟩ = false := by
    unfold bigN
    rw [Bool.and_eq_false_iff]
    right
    have hsz : (⟨w.toArray⟩ : ByteArray).size = w.length := by show w.toArray.size = _; simp
    rw [hsz]
    have hlt : w.length - 1 < w.length := by omega
    have hc : isDig w[w.length - 1] = true := List.all_eq_true.1 d2 _ (List.getElem_mem _)
    have hcA : cA ⟨w.toArray⟩ (w.length - 1) = (w[w.length - 1]).toNat := by
      unfold cA bl
      rw [List.getD_eq_getElem?_getD, List.getElem?_eq_getElem (by simpa using hlt), Option.getD_some]
    rw [hcA]
    unfold isDig at hc
    have := of_decide_eq_true hc
    rw [Bool.or_eq_false_iff]
    exact ⟨decide_eq_false (by omega), decide_eq_false (by omega)⟩
  unfold numP cutN digN
  simp only [hbig]
  have hsz : (⟨w.toArray⟩ : ByteArray).size = w.length := by show w.toArray.size = _; simp
  simp only [Bool.false_eq_true, if_false]
  rw [if_pos (by rw [hsz]; omega), show bl (⟨w.toArray⟩ : ByteArray) = w from rfl, d1]
  simp
theorem val_num (t : KeyT) (n : Int) (ht : t.2.2.2.2.2 = none) (h0 : 0 ≤ t.2.2.1) (h1 : t.2.2.2.1 < 10000) (h : tk t n = true) : readP t 0 (shS t n) = some n ∧ ((bl (shS t n)).all fun c => inW c.toNat) = true ∧ bl (shS t n) ≠ [] := by
  have hr : t.2.2.1 ≤ n ∧ n ≤ t.2.2.2.1 := by
    unfold tk at h
    rw [ht] at h
    simp only at h
    split at h
    · cases h
    · split at h
      · cases h
      · exact ⟨by omega, by omega⟩
  obtain ⟨b1, b2, b3⟩ := num_back n (by omega) (by omega)
  have e : shS t n = ⟨(Lib.itoa n).toArray⟩ := by unfold shS; rw [ht]
  refine ⟨?_, by rw [e]; exact b2, by rw [e]; exact b3⟩
  unfold readP
  rw [if_pos rfl, ht]
  simp only
  rw [e, b1]
  simp only
  rw [show ((n.toNat : Nat) : Int) = n by omega, if_pos h]
theorem val_back (i : Nat) (t : KeyT) (hi : kTab[i]? = some t) (n : Int) (h : tk t n = true) : readP t 0 (shS t n) = some n ∧ ((bl (shS t n)).all fun c => inW c.toNat) = true ∧ bl (shS t n) ≠ [] := by
  have hl : i < 16 := (List.getElem?_eq_some_iff.1 hi).1
  rcases i with _ | _ | _ | _ | _ | _ | _ | _ | _ | _ | _ | _ | _ | _ | _ | _ | i
  case succ.succ.succ.succ.succ.succ.succ.succ.succ.succ.succ.succ.succ.succ.succ.succ => omega
  all_goals
    obtain rfl := Option.some.inj hi
    first
      | exact val_num _ n rfl (by decide) (by decide) h
      | (simp only [tk, List.any_cons, List.any_nil, Bool.or_false, Bool.or_eq_true, beq_iff_eq] at h
         rcases h with rfl | rfl | rfl | rfl | rfl <;> decide +kernel)
      | (simp only [tk, List.any_cons, List.any_nil, Bool.or_false, Bool.or_eq_true, beq_iff_eq] at h
         rcases h with rfl | rfl | rfl <;> decide +kernel)
      | (simp only [tk, List.any_cons, List.any_nil, Bool.or_false, Bool.or_eq_true, beq_iff_eq] at h
         subst h
         decide +kernel)
end Go.Proofs.YtfecfgimfjcbdaaDoor.Cf

namespace Go.Proofs.YtfecfgimfjcbdaaDoor.Cf
open Go.RowKit Go.Proofs.YtfecfgimfjcbdaaDoorW.PrintWords Go.Proofs.YtfecfgimfjcbdaaDoorW.PrintLast Go.Proofs.YtfecfgimfjcbdaaDoorW.PrintMore Go.Proofs.YtfecfgimfjcbdaaDoor.QCParse

/-- Key i's line. -/
def lnK (k : Nat → Int) (ind : List UInt8) (i : Nat) (t : KeyT) : List UInt8 := ind ++ (bl t.2.1 ++ 32 :: (bl (shS t (k i)) ++ 59 :: []))
def lnS (sc : ByteArray) : List UInt8 := bl (⟨#[32, 32, 32, 32]⟩ : ByteArray) ++ (bl (⟨#[115, 104, 97, 114, 101, 100, 45, 115, 101, 99, 114, 101, 116]⟩ : ByteArray) ++ 32 :: (quoteL sc ++ 59 :: []))
def lnH (nm : ByteArray) : List UInt8 := bl (⟨#[32, 32]⟩ : ByteArray) ++ (bl nm ++ 32 :: 123 :: [])
def lnC : List UInt8 := bl (⟨#[32, 32, 125]⟩ : ByteArray)
def lnR (nm : ByteArray) : List UInt8 := bl resB ++ 32 :: (bl nm ++ 32 :: 123 :: [])
def tE (i : Nat) : KeyT := kTab.getD i (⟨#[]⟩, ⟨#[]⟩, 0, 0, false, none)
def enK (k : Nat → Int) (i : Nat) : EnT := ((tE i).2.1, 0, shS (tE i) (k i))
def enS (sc : ByteArray) : EnT := ((⟨#[115, 104, 97, 114, 101, 100, 45, 115, 101, 99, 114, 101, 116]⟩ : ByteArray), 2, sc)
def in2 : List UInt8 := bl (⟨#[32, 32]⟩ : ByteArray)
def in4 : List UInt8 := bl (⟨#[32, 32, 32, 32]⟩ : ByteArray)
def devN : ByteArray := (⟨#[100, 101, 118, 105, 99, 101]⟩ : ByteArray)
def netN : ByteArray := (⟨#[110, 101, 116]⟩ : ByteArray)
def synN : ByteArray := (⟨#[115, 121, 110, 99, 101, 114]⟩ : ByteArray)
def lK (k : Nat → Int) (i : Nat) : List UInt8 := lnK k in4 i (tE i)
def lnsDev (k : Nat → Int) : List (List UInt8) := [lK k 1, lK k 2, lK k 3]
def lnsNet (sc : ByteArray) (k : Nat → Int) : List (List UInt8) := [lK k 4, lK k 5, lK k 6, lK k 7, lK k 8, lK k 9, lnS sc, lK k 10, lK k 11, lK k 12]
def lnsSyn (k : Nat → Int) : List (List UInt8) := [lK k 13, lK k 14, lK k 15]
def enDev (k : Nat → Int) : List EnT := [enK k 1, enK k 2, enK k 3]
def enNet (sc : ByteArray) (k : Nat → Int) : List EnT := [enK k 4, enK k 5, enK k 6, enK k 7, enK k 8, enK k 9, enS sc, enK k 10, enK k 11, enK k 12]
def enSyn (k : Nat → Int) : List EnT := [enK k 13, enK k 14, enK k 15]
/-- A printed resource's lines. -/
def linesP (nm sc : ByteArray) (k : Nat → Int) : List (List UInt8) :=
  lnR nm :: lnK k in2 0 (tE 0) :: lnH devN :: (lnsDev k ++ lnC :: lnH netN :: (lnsNet sc k ++ lnC :: lnH synN :: (lnsSyn k ++ lnC :: [125] :: [])))
theorem bl_app (x y : ByteArray) : bl (x ++ y) = bl x ++ bl y := by
  unfold bl
  rw [ByteArray.data_append, Array.toList_append]
def joinN (ls : List (List UInt8)) : List UInt8 := ls.flatMap fun l => l ++ [10]
theorem toList_emp : (⟨#[]⟩ : ByteArray).toList = [] := by rw [toList_blN]; rfl
theorem pr_one (k : Nat → Int) (sc : ByteArray) (j : Nat) (t : KeyT) (op : ByteArray) (hd : List UInt8) (ind : List UInt8) (hA : pA t op = hd) (hB : (bl t.2.1 == bl (⟨#[97, 102, 116, 101, 114, 45, 115, 98, 45, 48, 112, 114, 105]⟩ : ByteArray)) = false) (hC : pC t ++ bl (⟨#[32, 32]⟩ : ByteArray) = ind) :
    prOne k sc j t op = hd ++ (lnK k ind j t ++ [10]) := by
  have hB' : pB sc t = [] := by
    unfold pB
    rw [toList_blN, if_neg]
    intro h
    rw [show ([97, 102, 116, 101, 114, 45, 115, 98, 45, 48, 112, 114, 105] : List UInt8) = bl (⟨#[97, 102, 116, 101, 114, 45, 115, 98, 45, 48, 112, 114, 105]⟩ : ByteArray) from rfl, hB] at h
    cases h
  unfold prOne
  rw [hA, hB', List.nil_append, ← hC]
  have a1 : bl (⟨#[32]⟩ : ByteArray) = [32] := rfl
  have a2 : bl (⟨#[59, 10]⟩ : ByteArray) = [59, 10] := rfl
  unfold pD lnK
  simp only [bl_app, List.append_assoc, a1, a2, List.cons_append, List.nil_append]
theorem pA_same (t : KeyT) (op : ByteArray) (h : t.1 = op) : pA t op = [] := by
  subst h
  unfold pA
  rw [if_pos (beq_self_eq_true _)]
theorem printL_lines (nm sc : ByteArray) (k : Nat → Int) : printL nm sc k = joinN (linesP nm sc k) := by
  have e : prFrom k sc 16 0 (⟨#[]⟩ : ByteArray) = prOne k sc 0 (tE 0) ⟨#[]⟩ ++ (prOne k sc 1 (tE 1) (tE 0).1 ++ (prOne k sc 2 (tE 2) (tE 1).1 ++ (prOne k sc 3 (tE 3) (tE 2).1 ++ (prOne k sc 4 (tE 4) (tE 3).1 ++ (prOne k sc 5 (tE 5) (tE 4).1 ++ (prOne k sc 6 (tE 6) (tE 5).1 ++ (prOne k sc 7 (tE 7) (tE 6).1 ++ (prOne k sc 8 (tE 8) (tE 7).1 ++ (prOne k sc 9 (tE 9) (tE 8).1 ++ (prOne k sc 10 (tE 10) (tE 9).1 ++ (prOne k sc 11 (tE 11) (tE 10).1 ++ (prOne k sc 12 (tE 12) (tE 11).1 ++ (prOne k sc 13 (tE 13) (tE 12).1 ++ (prOne k sc 14 (tE 14) (tE 13).1 ++ (prOne k sc 15 (tE 15) (tE 14).1 ++ []))))))))))))))) := rfl
  have e0 : prOne k sc 0 (tE 0) ⟨#[]⟩ = [] ++ (lnK k in2 0 (tE 0) ++ [10]) := pr_one k sc 0 _ _ _ _ (pA_same _ _ rfl) (by decide +kernel) (by decide +kernel)
  have e1 : prOne k sc 1 (tE 1) (tE 0).1 = (lnH devN ++ [10]) ++ (lK k 1 ++ [10]) := pr_one k sc 1 _ _ _ _ (by decide +kernel) (by decide +kernel) (by decide +kernel)
  have e4 : prOne k sc 4 (tE 4) (tE 3).1 = (lnC ++ [10] ++ (lnH netN ++ [10])) ++ (lK k 4 ++ [10]) := pr_one k sc 4 _ _ _ _ (by decide +kernel) (by decide +kernel) (by decide +kernel)
  have e13 : prOne k sc 13 (tE 13) (tE 12).1 = (lnC ++ [10] ++ (lnH synN ++ [10])) ++ (lK k 13 ++ [10]) := pr_one k sc 13 _ _ _ _ (by decide +kernel) (by decide +kernel) (by decide +kernel)
  have e2 : prOne k sc 2 (tE 2) (tE 1).1 = [] ++ (lK k 2 ++ [10]) := pr_one k sc 2 _ _ _ _ (pA_same _ _ rfl) (by decide +kernel) (by decide +kernel)
  have e3 : prOne k sc 3 (tE 3) (tE 2).1 = [] ++ (lK k 3 ++ [10]) := pr_one k sc 3 _ _ _ _ (pA_same _ _ rfl) (by decide +kernel) (by decide +kernel)
  have e5 : prOne k sc 5 (tE 5) (tE 4).1 = [] ++ (lK k 5 ++ [10]) := pr_one k sc 5 _ _ _ _ (pA_same _ _ rfl) (by decide +kernel) (by decide +kernel)
  have e6 : prOne k sc 6 (tE 6) (tE 5).1 = [] ++ (lK k 6 ++ [10]) := pr_one k sc 6 _ _ _ _ (pA_same _ _ rfl) (by decide +kernel) (by decide +kernel)
  have e7 : prOne k sc 7 (tE 7) (tE 6).1 = [] ++ (lK k 7 ++ [10]) := pr_one k sc 7 _ _ _ _ (pA_same _ _ rfl) (by decide +kernel) (by decide +kernel)
  have e8 : prOne k sc 8 (tE 8) (tE 7).1 = [] ++ (lK k 8 ++ [10]) := pr_one k sc 8 _ _ _ _ (pA_same _ _ rfl) (by decide +kernel) (by decide +kernel)
  have e9 : prOne k sc 9 (tE 9) (tE 8).1 = [] ++ (lK k 9 ++ [10]) := pr_one k sc 9 _ _ _ _ (pA_same _ _ rfl) (by decide +kernel) (by decide +kernel)
  have e11 : prOne k sc 11 (tE 11) (tE 10).1 = [] ++ (lK k 11 ++ [10]) := pr_one k sc 11 _ _ _ _ (pA_same _ _ rfl) (by decide +kernel) (by decide +kernel)
  have e12 : prOne k sc 12 (tE 12) (tE 11).1 = [] ++ (lK k 12 ++ [10]) := pr_one k sc 12 _ _ _ _ (pA_same _ _ rfl) (by decide +kernel) (by decide +kernel)
  have e14 : prOne k sc 14 (tE 14) (tE 13).1 = [] ++ (lK k 14 ++ [10]) := pr_one k sc 14 _ _ _ _ (pA_same _ _ rfl) (by decide +kernel) (by decide +kernel)
  have e15 : prOne k sc 15 (tE 15) (tE 14).1 = [] ++ (lK k 15 ++ [10]) := pr_one k sc 15 _ _ _ _ (pA_same _ _ rfl) (by decide +kernel) (by decide +kernel)
  have e10 : prOne k sc 10 (tE 10) (tE 9).1 = (lnS sc ++ [10]) ++ (lK k 10 ++ [10]) := by
    have hB : pB sc (tE 10) = lnS sc ++ [10] := by
      unfold pB
      rw [toList_blN, if_pos (by decide +kernel)]
      have a1 : bl (⟨#[32, 32, 32, 32, 115, 104, 97, 114, 101, 100, 45, 115, 101, 99, 114, 101, 116, 32]⟩ : ByteArray) = bl (⟨#[32, 32, 32, 32]⟩ : ByteArray) ++ (bl (⟨#[115, 104, 97, 114, 101, 100, 45, 115, 101, 99, 114, 101, 116]⟩ : ByteArray) ++ [32]) := rfl
      have a2 : bl (⟨#[59, 10]⟩ : ByteArray) = [59, 10] := rfl
      have a3 : bl (⟨(quoteL sc).toArray⟩ : ByteArray) = quoteL sc := rfl
      unfold lnS
      simp only [bl_app, List.append_assoc, a1, a2, a3, List.cons_append, List.nil_append]
    unfold prOne
    rw [pA_same (tE 10) (tE 9).1 rfl, hB, List.nil_append]
    have hC : pC (tE 10) ++ bl (⟨#[32, 32]⟩ : ByteArray) = in4 := by decide +kernel
    have a1 : bl (⟨#[32]⟩ : ByteArray) = [32] := rfl
    have a2 : bl (⟨#[59, 10]⟩ : ByteArray) = [59, 10] := rfl
    unfold lK lnK
    rw [← hC]
    unfold pD
    simp only [bl_app, List.append_assoc, a1, a2, List.cons_append, List.nil_append]
  unfold printL
  rw [e, e0, e1, e2, e3, e4, e5, e6, e7, e8, e9, e10, e11, e12, e13, e14, e15]
  unfold joinN linesP lnsDev lnsNet lnsSyn
  simp only [List.flatMap_cons, List.flatMap_nil, List.cons_append, List.nil_append, List.append_nil, List.append_assoc]
  have er : bl ((⟨#[114, 101, 115, 111, 117, 114, 99, 101, 32]⟩ : ByteArray) ++ nm ++ (⟨#[32, 123, 10]⟩ : ByteArray)) = lnR nm ++ [10] := by
    have a1 : bl (⟨#[114, 101, 115, 111, 117, 114, 99, 101, 32]⟩ : ByteArray) = bl resB ++ [32] := rfl
    have a2 : bl (⟨#[32, 123, 10]⟩ : ByteArray) = [32, 123, 10] := rfl
    unfold lnR
    simp only [bl_app, List.append_assoc, a1, a2, List.cons_append, List.nil_append]
  have ec : bl (⟨#[32, 32, 125, 10, 125, 10]⟩ : ByteArray) = lnC ++ [10, 125, 10] := by decide +kernel
  rw [er, ec]
  simp only [List.append_assoc, List.cons_append, List.nil_append]

/-! ### The lines' tokens -/
theorem Chunk.key (ind : List UInt8) (hind : (ind.all fun c => blankC c.toNat) = true) (nm v : List UInt8) (h1 : (nm.all fun c => inW c.toNat) = true) (h2 : nm ≠ []) (h3 : (v.all fun c => inW c.toNat) = true) (h4 : v ≠ []) :
    Chunk (ind ++ (nm ++ 32 :: (v ++ 59 :: []))) [(0, ⟨nm.toArray⟩), (0, ⟨v.toArray⟩), (1, semiB)] := by
  have hv : Chunk (v ++ 59 :: []) [(0, ⟨v.toArray⟩), (1, semiB)] := Chunk.word h3 h4 (by decide) (Chunk.mark (.inr (.inr rfl)))
  have hs : Chunk (32 :: (v ++ 59 :: [])) [(0, ⟨v.toArray⟩), (1, semiB)] := (Chunk.blank (c := 32) (by decide)).app hv
  exact (Chunk.blanks hind).app (Chunk.word h1 h2 (by decide) hs)
theorem bl_mk (x : ByteArray) : (⟨(bl x).toArray⟩ : ByteArray) = x := bl_inj rfl
theorem tE_at (i : Nat) (hi : i < 16) : kTab[i]? = some (tE i) := by
  unfold tE
  rw [List.getD_eq_getElem?_getD, List.getElem?_eq_getElem (show i < kTab.length from hi)]
  rfl
theorem tE_name : ∀ i : Fin 16, ((bl (tE i.val).2.1).all fun c => inW c.toNat) = true ∧ bl (tE i.val).2.1 ≠ [] := by decide +kernel
theorem lnK_chunk (k : Nat → Int) (ind : List UInt8) (hind : (ind.all fun c => blankC c.toNat) = true) (i : Nat) (hi : i < 16) (hk : tk (tE i) (k i) = true) : Chunk (lnK k ind i (tE i)) (toksE (enK k i)) := by
  obtain ⟨h1, h2⟩ := tE_name ⟨i, hi⟩
  obtain ⟨_, h3, h4⟩ := val_back i (tE i) (tE_at i hi) (k i) hk
  have := Chunk.key ind hind (bl (tE i).2.1) (bl (shS (tE i) (k i))) h1 h2 h3 h4
  rw [bl_mk, bl_mk] at this
  exact this
theorem lnS_chunk (sc : ByteArray) (hv : Lib.validD (bl sc) = true) : Chunk (lnS sc) (toksE (enS sc)) := by
  have h1 : Chunk (quoteL sc ++ 59 :: []) [(2, sc), (1, semiB)] := (Chunk.text sc hv).app (Chunk.mark (.inr (.inr rfl)))
  have h2 : Chunk (32 :: (quoteL sc ++ 59 :: [])) [(2, sc), (1, semiB)] := (Chunk.blank (c := 32) (by decide)).app h1
  exact (Chunk.blanks (x := bl (⟨#[32, 32, 32, 32]⟩ : ByteArray)) (by decide)).app (Chunk.word (w := bl (⟨#[115, 104, 97, 114, 101, 100, 45, 115, 101, 99, 114, 101, 116]⟩ : ByteArray)) (by decide) (by decide) (by decide) h2)
theorem lnH_chunk (nm : ByteArray) (h1 : ((bl nm).all fun c => inW c.toNat) = true) (h2 : bl nm ≠ []) : Chunk (lnH nm) [(0, nm), (1, openB)] := by
  have h4 : Chunk (32 :: 123 :: []) [(1, openB)] := (Chunk.blank (c := 32) (by decide)).app (Chunk.mark (c := 123) (.inl rfl))
  have := (Chunk.blanks (x := bl (⟨#[32, 32]⟩ : ByteArray)) (by decide)).app (Chunk.word h1 h2 (by decide) h4)
  rw [bl_mk] at this
  exact this
theorem lnC_chunk : Chunk lnC [(1, closeB)] := (Chunk.blanks (x := bl (⟨#[32, 32]⟩ : ByteArray)) (by decide)).app (Chunk.mark (c := 125) (.inr (.inl rfl)))
theorem lnR_chunk (nm : ByteArray) (h1 : ((bl nm).all fun c => inW c.toNat) = true) (h2 : bl nm ≠ []) : Chunk (lnR nm) [(0, resB), (0, nm), (1, openB)] := by
  have h4 : Chunk (32 :: 123 :: []) [(1, openB)] := (Chunk.blank (c := 32) (by decide)).app (Chunk.mark (c := 123) (.inl rfl))
  have h5 := (Chunk.blank (c := 32) (by decide)).app (Chunk.word h1 h2 (by decide) h4)
  rw [bl_mk] at h5
  exact Chunk.word (w := bl resB) (by decide) (by decide) (by decide) h5
/-- Pieces, one behind the other. -/
inductive Chunks : List (List UInt8) → List (List (Nat × ByteArray)) → Prop where
  | nil : Chunks [] []
  | cons {x l xs ls} : Chunk x l → Chunks xs ls → Chunks (x :: xs) (l :: ls)
theorem Chunks.app {xs ls ys ms} (h : Chunks xs ls) (k : Chunks ys ms) : Chunks (xs ++ ys) (ls ++ ms) := by
  induction h with
  | nil => exact k
  | cons hx _ ih => exact .cons hx ih
/-- With something that gives no tokens around each. -/
theorem Chunks.flat {pre post : List UInt8} (hpre : Chunk pre []) (hpost : Chunk post []) {xs ls} (h : Chunks xs ls) : Chunk (xs.flatMap fun x => pre ++ x ++ post) ls.flatten := by
  induction h with
  | nil => exact Chunk.nil
  | cons hx _ ih =>
    rw [List.flatMap_cons, List.flatten_cons]
    have := ((hpre.app hx).app hpost).app ih
    simpa using this
theorem lK_chunks (k : Nat → Int) (hk : ∀ i, i < 16 → tk (tE i) (k i) = true) : ∀ (is : List Nat), (∀ i ∈ is, i < 16) → Chunks (is.map (lK k)) (is.map fun i => toksE (enK k i))
  | [], _ => .nil
  | i :: is, h => .cons (lnK_chunk k in4 (by decide) i (h i (List.mem_cons_self ..)) (hk i (h i (List.mem_cons_self ..)))) (lK_chunks k hk is (fun j hj => h j (List.mem_cons_of_mem _ hj)))
theorem dev_chunks (k : Nat → Int) (hk : ∀ i, i < 16 → tk (tE i) (k i) = true) : Chunks (lnsDev k) ((enDev k).map toksE) := lK_chunks k hk [1, 2, 3] (by decide)
theorem net_chunks (sc : ByteArray) (k : Nat → Int) (hv : Lib.validD (bl sc) = true) (hk : ∀ i, i < 16 → tk (tE i) (k i) = true) : Chunks (lnsNet sc k) ((enNet sc k).map toksE) :=
  (lK_chunks k hk [4, 5, 6, 7, 8, 9] (by decide)).app (.cons (lnS_chunk sc hv) (lK_chunks k hk [10, 11, 12] (by decide)))
theorem syn_chunks (k : Nat → Int) (hk : ∀ i, i < 16 → tk (tE i) (k i) = true) : Chunks (lnsSyn k) ((enSyn k).map toksE) := lK_chunks k hk [13, 14, 15] (by decide)
theorem all_chunks (nm sc : ByteArray) (k : Nat → Int) (h1 : ((bl nm).all fun c => inW c.toNat) = true) (h2 : bl nm ≠ []) (hv : Lib.validD (bl sc) = true) (hk : ∀ i, i < 16 → tk (tE i) (k i) = true) :
    Chunks (linesP nm sc k) ([(0, resB), (0, nm), (1, openB)] :: toksE (enK k 0) :: [(0, devN), (1, openB)] :: ((enDev k).map toksE ++ [(1, closeB)] :: [(0, netN), (1, openB)] :: ((enNet sc k).map toksE ++ [(1, closeB)] :: [(0, synN), (1, openB)] :: ((enSyn k).map toksE ++ [(1, closeB)] :: [(1, closeB)] :: [])))) :=
  .cons (lnR_chunk nm h1 h2) (.cons (lnK_chunk k in2 (by decide) 0 (by decide) (hk 0 (by decide))) (.cons (lnH_chunk devN (by decide) (by decide)) ((dev_chunks k hk).app (.cons lnC_chunk (.cons (lnH_chunk netN (by decide) (by decide)) ((net_chunks sc k hv hk).app (.cons lnC_chunk (.cons (lnH_chunk synN (by decide) (by decide)) ((syn_chunks k hk).app (.cons lnC_chunk (.cons (Chunk.mark (c := 125) (.inr (.inl rfl))) .nil)))))))))))
end Go.Proofs.YtfecfgimfjcbdaaDoor.Cf

namespace Go.Proofs.YtfecfgimfjcbdaaDoor.Cf
open Go.RowKit Go.Proofs.YtfecfgimfjcbdaaDoorW.PrintWords Go.Proofs.YtfecfgimfjcbdaaDoorW.PrintLast Go.Proofs.YtfecfgimfjcbdaaDoorW.PrintMore Go.Proofs.YtfecfgimfjcbdaaDoor.QCParse

theorem okFrom_all (k : Nat → Int) : ∀ (n j : Nat), okFrom k n j = true → ∀ i, j ≤ i → i < j + n → ∀ t, kTab[i]? = some t → tk t (k i) = true
  | 0, j, _, i, h1, h2, _, _ => by omega
  | n + 1, j, h, i, h1, h2, t, ht => by
    simp only [okFrom, Bool.and_eq_true] at h
    by_cases e : i = j
    · subst e
      have := h.1
      rw [ht] at this
      exact this
    · exact okFrom_all k n (j + 1) h.2 i (by omega) (by omega) t ht
theorem okK_tk (k : Nat → Int) (h : okK k = true) : ∀ i, i < 16 → tk (tE i) (k i) = true := fun i hi => okFrom_all k 16 0 h i (by omega) (by omega) _ (tE_at i hi)
theorem mid_inW (c : UInt8) (h : mid (c.toNat : Int) = true) : inW c.toNat = true := by
  unfold mid at h
  have := of_decide_eq_true h
  unfold inW
  exact decide_eq_true (by omega)
theorem name_inW (nm : ByteArray) (h : nameI nm = true) : ((bl nm).all fun c => inW c.toNat) = true ∧ bl nm ≠ [] := by
  unfold nameI at h
  rw [Bool.and_eq_true, Bool.and_eq_true] at h
  obtain ⟨⟨h1, h2⟩, h3⟩ := h
  have h1 := of_decide_eq_true h1
  obtain ⟨c, e, hb⟩ := bl_drop nm 0 (by omega)
  rw [List.drop_zero] at e
  refine ⟨?_, by rw [e]; simp⟩
  rw [e, List.all_cons, Bool.and_eq_true]
  refine ⟨?_, all_imp mid_inW h3⟩
  have hb' : bt nm 0 = (c.toNat : Int) := hb
  rw [hb'] at h2
  unfold ltr at h2
  have := of_decide_eq_true h2
  unfold inW
  exact decide_eq_true (by omega)
/-- The keys' values are in their domains, the secret is short and well-formed. -/
structure Fine (nm sc : ByteArray) (k : Nat → Int) : Prop where
  keys : ∀ i, i < 16 → tk (tE i) (k i) = true
  name : nameI nm = true
  short : sc.size ≤ 64
  valid : Lib.validD (bl sc) = true
  tog : togI k = true
theorem Fine.of {nm sc : ByteArray} {k : Nat → Int} (h : chkI nm sc k = 0) : Fine nm sc k := by
  unfold chkI at h
  split at h
  · rename_i hx
    unfold restI at hx
    simp only [Bool.and_eq_true] at hx
    obtain ⟨h1, ⟨⟨h2, h3⟩, h4⟩, h5⟩ := hx
    exact ⟨okK_tk k h1, h2, of_decide_eq_true h3, h4, h5⟩
  · cases h
section
variable {nm sc : ByteArray} {k : Nat → Int}
theorem find_key : ∀ i : Fin 16, findP (tE i.val).1 (tE i.val).2.1 = some (some i.val) := by decide +kernel
theorem Fine.goodK (h : Fine nm sc k) (i : Nat) (hi : i < 16) (sec : ByteArray) (hs : (tE i).1 = sec) : GoodE sec sc k (enK k i) := by
  subst hs
  exact ⟨some i, find_key ⟨i, hi⟩, (by decide : (0 : Nat) ≠ 1), tE i, tE_at i hi, (val_back i (tE i) (tE_at i hi) (k i) (h.keys i hi)).1⟩
theorem find_sec : findP netN (⟨#[115, 104, 97, 114, 101, 100, 45, 115, 101, 99, 114, 101, 116]⟩ : ByteArray) = some none := by decide +kernel
theorem part0 : isPart (tE 0).2.1 = true := by decide +kernel
theorem Fine.goodS (h : Fine nm sc k) : GoodE netN sc k (enS sc) := ⟨none, find_sec, (by decide : (2 : Nat) ≠ 1), rfl, h.short⟩
def psP (k : Nat → Int) (es1 es2 es3 : List EnT) : List PaT := [.key (enK k 0), .sec devN es1, .sec netN es2, .sec synN es3]
theorem Fine.good (h : Fine nm sc k) {es1 es2 es3 : List EnT} (p1 : es1.Perm (enDev k)) (p2 : es2.Perm (enNet sc k)) (p3 : es3.Perm (enSyn k)) : ∀ P ∈ psP k es1 es2 es3, P.Good sc k := by
  intro P hP
  simp only [psP, List.mem_cons, List.not_mem_nil, or_false] at hP
  rcases hP with rfl | rfl | rfl | rfl
  · exact ⟨part0, h.goodK 0 (by decide) _ rfl⟩
  · refine ⟨by decide +kernel, by decide +kernel, fun e he => ?_, (p1.map Prod.fst).nodup_iff.2 (by show [(tE 1).2.1, (tE 2).2.1, (tE 3).2.1].Nodup; decide +kernel)⟩
    have he := p1.mem_iff.1 he
    simp only [enDev, List.mem_cons, List.not_mem_nil, or_false] at he
    rcases he with rfl | rfl | rfl
    · exact h.goodK 1 (by decide) _ rfl
    · exact h.goodK 2 (by decide) _ rfl
    · exact h.goodK 3 (by decide) _ rfl
  · refine ⟨by decide +kernel, by decide +kernel, fun e he => ?_, (p2.map Prod.fst).nodup_iff.2 (by show [(tE 4).2.1, (tE 5).2.1, (tE 6).2.1, (tE 7).2.1, (tE 8).2.1, (tE 9).2.1, (⟨#[115, 104, 97, 114, 101, 100, 45, 115, 101, 99, 114, 101, 116]⟩ : ByteArray), (tE 10).2.1, (tE 11).2.1, (tE 12).2.1].Nodup; decide +kernel)⟩
    have he := p2.mem_iff.1 he
    simp only [enNet, List.mem_cons, List.not_mem_nil, or_false] at he
    rcases he with rfl | rfl | rfl | rfl | rfl | rfl | rfl | rfl | rfl | rfl
    · exact h.goodK 4 (by decide) _ rfl
    · exact h.goodK 5 (by decide) _ rfl
    · exact h.goodK 6 (by decide) _ rfl
    · exact h.goodK 7 (by decide) _ rfl
    · exact h.goodK 8 (by decide) _ rfl
    · exact h.goodK 9 (by decide) _ rfl
    · exact h.goodS
    · exact h.goodK 10 (by decide) _ rfl
    · exact h.goodK 11 (by decide) _ rfl
    · exact h.goodK 12 (by decide) _ rfl
  · refine ⟨by decide +kernel, by decide +kernel, fun e he => ?_, (p3.map Prod.fst).nodup_iff.2 (by show [(tE 13).2.1, (tE 14).2.1, (tE 15).2.1].Nodup; decide +kernel)⟩
    have he := p3.mem_iff.1 he
    simp only [enSyn, List.mem_cons, List.not_mem_nil, or_false] at he
    rcases he with rfl | rfl | rfl
    · exact h.goodK 13 (by decide) _ rfl
    · exact h.goodK 14 (by decide) _ rfl
    · exact h.goodK 15 (by decide) _ rfl
/-- The parts of a printed resource, in whatever order: read as they were. -/
theorem Fine.read (h : Fine nm sc k) {es1 es2 es3 : List EnT} (p1 : es1.Perm (enDev k)) (p2 : es2.Perm (enNet sc k)) (p3 : es3.Perm (enSyn k)) {ps : List PaT} (hp : ps.Perm (psP k es1 es2 es3)) (s : ByteArray)
    (ht : Toks s 0 ((0, resB) :: (0, nm) :: (1, openB) :: (ps.flatMap PaT.toks ++ [(1, closeB)])) s.size) : ∃ k', resP s = .ok (nm, sc, k') ∧ ∀ i, i < 16 → k' i = k i := by
  have m : ∀ P ∈ psP k es1 es2 es3, P ∈ ps := fun P hP => hp.mem_iff.2 hP
  have m1 : PaT.sec devN es1 ∈ ps := m _ (List.mem_cons_of_mem _ (List.mem_cons_self ..))
  have m2 : PaT.sec netN es2 ∈ ps := m _ (List.mem_cons_of_mem _ (List.mem_cons_of_mem _ (List.mem_cons_self ..)))
  have m3 : PaT.sec synN es3 ∈ ps := m _ (List.mem_cons_of_mem _ (List.mem_cons_of_mem _ (List.mem_cons_of_mem _ (List.mem_cons_self ..))))
  refine res_tok s nm sc k ps h.name (fun P hP => h.good p1 p2 p3 P (hp.mem_iff.1 hP)) ((hp.map PaT.name).nodup_iff.2 (by show [(tE 0).2.1, devN, netN, synN].Nodup; decide +kernel)) ?_ ?_ h.tog ht
  · intro D hD
    have hd := hD devN es1 m1 (by decide +kernel)
    exact ⟨hd (enK k 1) (p1.mem_iff.2 (List.mem_cons_self ..)), hd (enK k 2) (p1.mem_iff.2 (List.mem_cons_of_mem _ (List.mem_cons_self ..)))⟩
  · intro sc' k' hall
    have g0 := hall _ (m _ (List.mem_cons_self ..))
    have g1 := hall _ m1
    have g2 := hall _ m2
    have g3 := hall _ m3
    refine ⟨g2 (enS sc) (p2.mem_iff.2 (by simp [enNet])) none find_sec, fun i hi => ?_⟩
    have fk := find_key ⟨i, hi⟩
    rcases i with _ | _ | _ | _ | _ | _ | _ | _ | _ | _ | _ | _ | _ | _ | _ | _ | i
    case succ.succ.succ.succ.succ.succ.succ.succ.succ.succ.succ.succ.succ.succ.succ.succ => omega
    · exact g0 _ fk
    · exact g1 (enK k 1) (p1.mem_iff.2 (by simp [enDev])) _ fk
    · exact g1 (enK k 2) (p1.mem_iff.2 (by simp [enDev])) _ fk
    · exact g1 (enK k 3) (p1.mem_iff.2 (by simp [enDev])) _ fk
    · exact g2 (enK k 4) (p2.mem_iff.2 (by simp [enNet])) _ fk
    · exact g2 (enK k 5) (p2.mem_iff.2 (by simp [enNet])) _ fk
    · exact g2 (enK k 6) (p2.mem_iff.2 (by simp [enNet])) _ fk
    · exact g2 (enK k 7) (p2.mem_iff.2 (by simp [enNet])) _ fk
    · exact g2 (enK k 8) (p2.mem_iff.2 (by simp [enNet])) _ fk
    · exact g2 (enK k 9) (p2.mem_iff.2 (by simp [enNet])) _ fk
    · exact g2 (enK k 10) (p2.mem_iff.2 (by simp [enNet])) _ fk
    · exact g2 (enK k 11) (p2.mem_iff.2 (by simp [enNet])) _ fk
    · exact g2 (enK k 12) (p2.mem_iff.2 (by simp [enNet])) _ fk
    · exact g3 (enK k 13) (p3.mem_iff.2 (by simp [enSyn])) _ fk
    · exact g3 (enK k 14) (p3.mem_iff.2 (by simp [enSyn])) _ fk
    · exact g3 (enK k 15) (p3.mem_iff.2 (by simp [enSyn])) _ fk
theorem Chunk.whole {s : ByteArray} {l : List (Nat × ByteArray)} (h : Chunk (bl s) l) : Toks s 0 l s.size := by
  have := h s 0 [] (by simp) (Nat.zero_le _)
  rwa [Nat.zero_add, bl_length] at this
theorem flat_all (nm sc : ByteArray) (k : Nat → Int) : ([(0, resB), (0, nm), (1, openB)] :: toksE (enK k 0) :: [(0, devN), (1, openB)] :: ((enDev k).map toksE ++ [(1, closeB)] :: [(0, netN), (1, openB)] :: ((enNet sc k).map toksE ++ [(1, closeB)] :: [(0, synN), (1, openB)] :: ((enSyn k).map toksE ++ [(1, closeB)] :: [(1, closeB)] :: [])))).flatten
    = (0, resB) :: (0, nm) :: (1, openB) :: ((psP k (enDev k) (enNet sc k) (enSyn k)).flatMap PaT.toks ++ [(1, closeB)]) := by
  simp only [List.flatten_cons, List.flatten_append, List.flatten_nil, ← List.flatMap_def, psP, List.flatMap_cons, List.flatMap_nil, PaT.toks, List.append_assoc, List.cons_append, List.nil_append, List.append_nil]
/-- The lines with something that gives no tokens around each. -/
theorem Fine.gaps (h : Fine nm sc k) {pre post : List UInt8} (hpre : Chunk pre []) (hpost : Chunk post []) (s : ByteArray) (hs : bl s = (linesP nm sc k).flatMap fun x => pre ++ x ++ post) : ∃ k', resP s = .ok (nm, sc, k') ∧ ∀ i, i < 16 → k' i = k i := by
  obtain ⟨n1, n2⟩ := name_inW nm h.name
  have hc := (all_chunks nm sc k n1 n2 h.valid h.keys).flat hpre hpost
  rw [flat_all, ← hs] at hc
  exact h.read (List.Perm.refl _) (List.Perm.refl _) (List.Perm.refl _) (List.Perm.refl _) s hc.whole
/-- A printed resource is read back. -/
theorem Fine.back (h : Fine nm sc k) (s : ByteArray) (hs : bl s = printL nm sc k) : ∃ k', resP s = .ok (nm, sc, k') ∧ ∀ i, i < 16 → k' i = k i := by
  refine h.gaps Chunk.nil (Chunk.blank (c := 10) (by decide)) s ?_
  rw [hs, printL_lines]
  unfold joinN
  simp
end
end Go.Proofs.YtfecfgimfjcbdaaDoor.Cf

namespace Go.Proofs.YtfecfgimfjcbdaaDoor.Cf
open Go.RowKit Go.Proofs.YtfecfgimfjcbdaaDoorW.PrintWords Go.Proofs.YtfecfgimfjcbdaaDoorW.PrintLast Go.Proofs.YtfecfgimfjcbdaaDoorW.PrintMore Go.Proofs.YtfecfgimfjcbdaaDoor.QCParse

/-- A list from the place k on, then its beginning; the other way about, if k is odd. -/
def turnedL {α : Type} (l : List α) (k : Int) : List α := (if k % 2 = 0 then l else l.reverse).drop (k % (l.length : Int)).toNat ++ (if k % 2 = 0 then l else l.reverse).take (k % (l.length : Int)).toNat
theorem turned_perm {α : Type} (l : List α) (k : Int) : (turnedL l k).Perm l := by
  unfold turnedL
  refine List.perm_append_comm.trans ?_
  rw [List.take_append_drop]
  split
  · exact List.Perm.refl _
  · exact List.reverse_perm l
theorem turned_map {α β : Type} (f : α → β) (l : List α) (k : Int) : (turnedL l k).map f = turnedL (l.map f) k := by
  unfold turnedL
  rw [List.map_append, List.map_drop, List.map_take, List.length_map]
  split
  · rfl
  · rw [List.map_reverse]
theorem turned_length {α : Type} (l : List α) (k : Int) : (turnedL l k).length = l.length := (turned_perm l k).length_eq
/-- Which element stands at place i. -/
theorem turned_at {α : Type} (l : List α) (k : Int) (i r : Nat) (hi : i < l.length) (hr : (k % (l.length : Int)).toNat = r) :
    (turnedL l k)[i]? = l[if k % 2 = 0 then (i + r) % l.length else l.length - 1 - (i + r) % l.length]? := by
  have hrl : r < l.length := by
    have h1 := Int.emod_lt_of_pos k (show (0 : Int) < (l.length : Int) by omega)
    have h0 := Int.emod_nonneg k (show (l.length : Int) ≠ 0 by omega)
    omega
  have key : ∀ m : List α, m.length = l.length → (m.drop r ++ m.take r)[i]? = m[(i + r) % l.length]? := by
    intro m hm
    by_cases h : i + r < l.length
    · rw [List.getElem?_append_left (by rw [List.length_drop]; omega), List.getElem?_drop, Nat.mod_eq_of_lt h, Nat.add_comm]
    · rw [List.getElem?_append_right (by rw [List.length_drop]; omega), List.length_drop, List.getElem?_take, if_pos (by omega), Nat.mod_eq_sub_mod (by omega), Nat.mod_eq_of_lt (by omega)]
      congr 1
      omega
  unfold turnedL
  rw [hr]
  split
  · exact key l rfl
  · have hm := Nat.mod_lt (i + r) (show 0 < l.length by omega)
    rw [key l.reverse (by simp), List.getElem?_reverse hm]

/-- A section whose closing brace stands at the line's beginning. -/
def secTx (nm : ByteArray) (ls : List (List UInt8)) : List UInt8 := lnH nm ++ [10] ++ joinN ls ++ [125]
def partTx (sc : ByteArray) (k : Nat → Int) (q : Int) : List (List UInt8) := [lnK k in2 0 (tE 0), secTx devN (turnedL (lnsDev k) q), secTx netN (turnedL (lnsNet sc k) q), secTx synN (turnedL (lnsSyn k) q)]
def orderL (nm sc : ByteArray) (k : Nat → Int) (q q7 : Int) : List UInt8 := lnR nm ++ [10] ++ joinN (turnedL (partTx sc k q) q7) ++ [125]
theorem join_chunk {α : Type} (f : α → List (Nat × ByteArray)) : ∀ L : List (List UInt8 × α), (∀ p ∈ L, Chunk p.1 (f p.2)) → Chunk (joinN (L.map Prod.fst)) ((L.map Prod.snd).flatMap f)
  | [], _ => Chunk.nil
  | p :: L, h => by
    have h1 := (h p (List.mem_cons_self ..)).app (Chunk.blank (c := 10) (by decide))
    rw [List.append_nil] at h1
    have h2 := h1.app (join_chunk f L fun x hx => h x (List.mem_cons_of_mem _ hx))
    unfold joinN at h2 ⊢
    simp only [List.map_cons, List.flatMap_cons]
    exact h2
theorem sec_chunk (nm : ByteArray) (h1 : ((bl nm).all fun c => inW c.toNat) = true) (h2 : bl nm ≠ []) (L : List (List UInt8 × EnT)) (q : Int) (h : ∀ p ∈ L, Chunk p.1 (toksE p.2)) : Chunk (secTx nm (turnedL (L.map Prod.fst) q)) (PaT.sec nm (turnedL (L.map Prod.snd) q)).toks := by
  have hj := join_chunk toksE (turnedL L q) (fun p hp => h p ((turned_perm L q).mem_iff.1 hp))
  rw [turned_map, turned_map] at hj
  have h3 := ((lnH_chunk nm h1 h2).app (Chunk.blank (c := 10) (by decide))).app hj
  have h4 := h3.app (Chunk.mark (c := 125) (.inr (.inl rfl)))
  unfold secTx
  refine (show ∀ {x l l'}, Chunk x l → l = l' → Chunk x l' from fun h e => e ▸ h) h4 ?_
  simp [PaT.toks]
  rfl
section
variable {nm sc : ByteArray} {k : Nat → Int}
def prKE (k : Nat → Int) (i : Nat) : List UInt8 × EnT := (lK k i, enK k i)
theorem Fine.pair (h : Fine nm sc k) (i : Nat) (hi : i < 16) : Chunk (prKE k i).1 (toksE (prKE k i).2) := lnK_chunk k in4 (by decide) i hi (h.keys i hi)
/-- Parts and keys in another order. -/
theorem Fine.order (h : Fine nm sc k) (q q7 : Int) (s : ByteArray) (hs : bl s = orderL nm sc k q q7) : ∃ k', resP s = .ok (nm, sc, k') ∧ ∀ i, i < 16 → k' i = k i := by
  obtain ⟨n1, n2⟩ := name_inW nm h.name
  have c1 := sec_chunk devN (by decide) (by decide) [prKE k 1, prKE k 2, prKE k 3] q (by
    intro p hp
    simp only [List.mem_cons, List.not_mem_nil, or_false] at hp
    rcases hp with rfl | rfl | rfl
    · exact h.pair 1 (by decide)
    · exact h.pair 2 (by decide)
    · exact h.pair 3 (by decide))
  have c2 := sec_chunk netN (by decide) (by decide) [prKE k 4, prKE k 5, prKE k 6, prKE k 7, prKE k 8, prKE k 9, (lnS sc, enS sc), prKE k 10, prKE k 11, prKE k 12] q (by
    intro p hp
    simp only [List.mem_cons, List.not_mem_nil, or_false] at hp
    rcases hp with rfl | rfl | rfl | rfl | rfl | rfl | rfl | rfl | rfl | rfl
    · exact h.pair 4 (by decide)
    · exact h.pair 5 (by decide)
    · exact h.pair 6 (by decide)
    · exact h.pair 7 (by decide)
    · exact h.pair 8 (by decide)
    · exact h.pair 9 (by decide)
    · exact lnS_chunk sc h.valid
    · exact h.pair 10 (by decide)
    · exact h.pair 11 (by decide)
    · exact h.pair 12 (by decide))
  have c3 := sec_chunk synN (by decide) (by decide) [prKE k 13, prKE k 14, prKE k 15] q (by
    intro p hp
    simp only [List.mem_cons, List.not_mem_nil, or_false] at hp
    rcases hp with rfl | rfl | rfl
    · exact h.pair 13 (by decide)
    · exact h.pair 14 (by decide)
    · exact h.pair 15 (by decide))
  have c0 := lnK_chunk k in2 (by decide) 0 (by decide) (h.keys 0 (by decide))
  have cp := join_chunk PaT.toks (turnedL [(lnK k in2 0 (tE 0), PaT.key (enK k 0)), (secTx devN (turnedL (lnsDev k) q), PaT.sec devN (turnedL (enDev k) q)), (secTx netN (turnedL (lnsNet sc k) q), PaT.sec netN (turnedL (enNet sc k) q)), (secTx synN (turnedL (lnsSyn k) q), PaT.sec synN (turnedL (enSyn k) q))] q7) (by
    intro p hp
    have hp := (turned_perm _ _).mem_iff.1 hp
    simp only [List.mem_cons, List.not_mem_nil, or_false] at hp
    rcases hp with rfl | rfl | rfl | rfl
    · exact c0
    · exact c1
    · exact c2
    · exact c3)
  rw [turned_map, turned_map] at cp
  have cw := (((lnR_chunk nm n1 n2).app (Chunk.blank (c := 10) (by decide))).app cp).app (Chunk.mark (c := 125) (.inr (.inl rfl)))
  have hb : bl s = lnR nm ++ [10] ++ joinN (turnedL (partTx sc k q) q7) ++ [125] := hs
  rw [show partTx sc k q = List.map Prod.fst [(lnK k in2 0 (tE 0), PaT.key (enK k 0)), (secTx devN (turnedL (lnsDev k) q), PaT.sec devN (turnedL (enDev k) q)), (secTx netN (turnedL (lnsNet sc k) q), PaT.sec netN (turnedL (enNet sc k) q)), (secTx synN (turnedL (lnsSyn k) q), PaT.sec synN (turnedL (enSyn k) q))] from rfl] at hb
  rw [← hb] at cw
  have hw := cw.whole
  refine h.read (turned_perm _ q) (turned_perm _ q) (turned_perm _ q) (ps := turnedL (psP k (turnedL (enDev k) q) (turnedL (enNet sc k) q) (turnedL (enSyn k) q)) q7) (turned_perm _ q7) s ?_
  simpa [psP, closeB] using hw
end

/-! ### Lines -/
/-- A text's lines, each without its line feed. -/
def linesF : List UInt8 → List UInt8 → List (List UInt8)
  | _, [] => []
  | cur, c :: t => if c = 10 then cur :: linesF [] t else linesF (cur ++ [c]) t
theorem linesF_line : ∀ (l cur t : List UInt8), (∀ c ∈ l, c ≠ 10) → linesF cur (l ++ 10 :: t) = (cur ++ l) :: linesF [] t
  | [], cur, t, _ => by simp [linesF]
  | c :: l, cur, t, h => by
    rw [List.cons_append]
    simp only [linesF]
    rw [if_neg (h c (List.mem_cons_self ..)), linesF_line l _ t (fun x hx => h x (List.mem_cons_of_mem _ hx))]
    simp
theorem lines_join : ∀ ls : List (List UInt8), (∀ l ∈ ls, ∀ c ∈ l, c ≠ 10) → linesF [] (joinN ls) = ls
  | [], _ => rfl
  | l :: ls, h => by
    have ih := lines_join ls (fun x hx => h x (List.mem_cons_of_mem _ hx))
    unfold joinN at ih ⊢
    rw [List.flatMap_cons, List.append_assoc, List.singleton_append, linesF_line l [] _ (h l (List.mem_cons_self ..)), ih, List.nil_append]
theorem no10_word {w : List UInt8} (h : (w.all fun c => inW c.toNat) = true) : ∀ c ∈ w, c ≠ 10 := by
  intro c hc e
  have := List.all_eq_true.1 h c hc
  subst e
  exact absurd this (by decide)
theorem enc_no10 (r : Nat) (h : r ≠ 10) : ∀ c ∈ Lib.encodeRune (r : Int), c ≠ 10 := by
  intro c hc e
  subst e
  unfold Lib.encodeRune at hc
  obtain ⟨x, hx, hx2⟩ := List.mem_map.1 hc
  have hb := Lib.encodeRuneZ_byte _ x hx
  have h10 : x.toNat = 10 := by
    have := congrArg UInt8.toNat hx2
    rw [u8_toNat x hb.1 hb.2] at this
    exact this
  unfold Lib.encodeRuneZ at hx
  repeat' split at hx
  all_goals
    simp only [List.mem_cons, List.not_mem_nil, or_false] at hx
    omega
theorem hex_no10 : ∀ c : Fin 128, (bl (hexS c.val)).all (fun x => x != 10) = true := by decide +kernel
theorem escR_no10 (r : Nat) : ∀ c ∈ escR r, c ≠ 10 := by
  intro c hc
  unfold escR at hc
  split at hc
  · rename_i h
    rcases List.mem_cons.1 hc with rfl | hc
    · decide
    · exact enc_no10 r (by omega) c hc
  · split at hc
    · simp only [List.mem_cons, List.not_mem_nil, or_false] at hc
      rcases hc with rfl | rfl <;> decide
    · split at hc
      · simp only [List.mem_cons, List.not_mem_nil, or_false] at hc
        rcases hc with rfl | rfl <;> decide
      · split at hc
        · rename_i h
          simp only [List.mem_append, List.mem_cons, List.not_mem_nil, or_false] at hc
          rcases hc with ((rfl | rfl | rfl) | hc) | rfl
          · decide
          · decide
          · decide
          · have := List.all_eq_true.1 (hex_no10 ⟨r, by omega⟩) c hc
            simpa using this
          · decide
        · exact enc_no10 r (by assumption) c hc
theorem qFrom_no10 (s : ByteArray) : ∀ f pos, ∀ c ∈ qFrom s f pos, c ≠ 10
  | 0, _, c, hc => by cases hc
  | f + 1, pos, c, hc => by
    simp only [qFrom] at hc
    split at hc
    · rcases List.mem_append.1 hc with hc | hc
      · exact escR_no10 _ c hc
      · exact qFrom_no10 s f _ c hc
    · cases hc
def no10 (l : List UInt8) : Bool := l.all fun c => c != 10
theorem no10_iff (l : List UInt8) : no10 l = true ↔ ∀ c ∈ l, c ≠ 10 := by
  unfold no10
  rw [List.all_eq_true]
  constructor
  · intro h c hc; simpa using h c hc
  · intro h c hc; simpa using h c hc
theorem Fine.no10K {nm sc : ByteArray} {k : Nat → Int} (h : Fine nm sc k) (ind : List UInt8) (hind : no10 ind = true) (i : Nat) (hi : i < 16) : ∀ c ∈ lnK k ind i (tE i), c ≠ 10 := by
  obtain ⟨_, h3, _⟩ := val_back i (tE i) (tE_at i hi) (k i) (h.keys i hi)
  have h1 := no10_word (tE_name ⟨i, hi⟩).1
  have h4 := no10_word h3
  intro c hc
  unfold lnK at hc
  simp only [List.mem_append, List.mem_cons, List.not_mem_nil, or_false] at hc
  rcases hc with hc | hc | rfl | hc | rfl
  · exact (no10_iff ind).1 hind c hc
  · exact h1 c hc
  · decide
  · exact h4 c hc
  · decide
theorem Fine.lines {nm sc : ByteArray} {k : Nat → Int} (h : Fine nm sc k) : linesF [] (printL nm sc k) = linesP nm sc k := by
  rw [printL_lines]
  refine lines_join _ ?_
  have hk := fun i hi => h.no10K in4 (by decide) i hi
  have hn := no10_word (name_inW nm h.name).1
  intro l hl
  simp only [linesP, lnsDev, lnsNet, lnsSyn, List.cons_append, List.nil_append, List.mem_cons, List.not_mem_nil, or_false] at hl
  rcases hl with rfl | rfl | rfl | rfl | rfl | rfl | rfl | rfl | rfl | rfl | rfl | rfl | rfl | rfl | rfl | rfl | rfl | rfl | rfl | rfl | rfl | rfl | rfl | rfl | rfl
  · intro c hc
    unfold lnR at hc
    simp only [List.mem_append, List.mem_cons, List.not_mem_nil, or_false] at hc
    rcases hc with hc | rfl | hc | rfl | rfl
    · exact (no10_iff (bl resB)).1 (by decide) c hc
    · decide
    · exact hn c hc
    · decide
    · decide
  · exact h.no10K in2 (by decide) 0 (by decide)
  · exact (no10_iff _).1 (by decide)
  · exact hk 1 (by decide)
  · exact hk 2 (by decide)
  · exact hk 3 (by decide)
  · exact (no10_iff _).1 (by decide)
  · exact (no10_iff _).1 (by decide)
  · exact hk 4 (by decide)
  · exact hk 5 (by decide)
  · exact hk 6 (by decide)
  · exact hk 7 (by decide)
  · exact hk 8 (by decide)
  · exact hk 9 (by decide)
  · intro c hc
    unfold lnS quoteL at hc
    simp only [List.mem_append, List.mem_cons, List.not_mem_nil, or_false] at hc
    rcases hc with hc | hc | rfl | (((rfl | hc) | rfl) | rfl)
    · exact (no10_iff (bl (⟨#[32, 32, 32, 32]⟩ : ByteArray))).1 (by decide) c hc
    · exact (no10_iff (bl (⟨#[115, 104, 97, 114, 101, 100, 45, 115, 101, 99, 114, 101, 116]⟩ : ByteArray))).1 (by decide) c hc
    · decide
    · decide
    · exact qFrom_no10 sc _ _ c hc
    · decide
    · decide
  · exact hk 10 (by decide)
  · exact hk 11 (by decide)
  · exact hk 12 (by decide)
  · exact (no10_iff _).1 (by decide)
  · exact (no10_iff _).1 (by decide)
  · exact hk 13 (by decide)
  · exact hk 14 (by decide)
  · exact hk 15 (by decide)
  · exact (no10_iff _).1 (by decide)
  · exact (no10_iff _).1 (by decide)
end Go.Proofs.YtfecfgimfjcbdaaDoor.Cf
