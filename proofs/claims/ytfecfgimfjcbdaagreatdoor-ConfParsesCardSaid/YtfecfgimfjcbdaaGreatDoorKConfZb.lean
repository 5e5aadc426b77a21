/- conf.Parse, walked: of the texts ConfA .. ConfNn what it leans on. -/
import Derived.Test.YtfecfgimfjcbdaaGreatDoorKConfZa
import Derived.Test.YtfecfgimfjcbdaaGreatDoorKQCRead
import Derived.Lib.OthersKept
import Derived.Deep.CutRange
import Derived.Test.YtfecfgimfjcbdaaGreatDoorKShelfN
import Derived.WalkLawsBesides
import Derived.Test.YtfecfgimfjcbdaaGreatDoorKShelfR
import Derived.Lib.MapLaws
import Derived.Laws.IdiomStrings
import Derived.Lib.BufferRead
namespace Go.Proofs.YtfecfgimfjcbdaaGreatDoor.Cf
open Go.RowKit Go.Proofs.YtfecfgimfjcbdaaGreatDoorW.PrintWords Go.Proofs.YtfecfgimfjcbdaaGreatDoor.QCParse

def ltr (x : Int) : Bool := decide ((65 ≤ x ∧ x ≤ 90) ∨ (97 ≤ x ∧ x ≤ 122))
def mid (x : Int) : Bool := decide (((65 ≤ x ∧ x ≤ 90) ∨ (97 ≤ x ∧ x ≤ 122)) ∨ (48 ≤ x ∧ x ≤ 57) ∨ x = 45 ∨ x = 95)
def nameI (s : ByteArray) : Bool := decide (1 ≤ s.size ∧ s.size ≤ 31) && ltr (bt s 0) && ((bl s).drop 1).all fun c => mid (c.toNat : Int)
theorem letter_f (x : Int) : conf_letter.f x = some (ltr x) := by
  unfold conf_letter.f ltr
  repeat' split
  all_goals
    congr 1
    first
      | (exact (decide_eq_true (by omega)).symm)
      | (exact (decide_eq_false (by omega)).symm)
      | (exact decide_eq_decide.2 (by omega))
theorem digit_f (x : Int) : conf_digit.f x = some (decide (48 ≤ x ∧ x ≤ 57)) := by
  unfold conf_digit.f
  repeat' split
  all_goals
    congr 1
    first
      | (exact (decide_eq_true (by omega)).symm)
      | (exact (decide_eq_false (by omega)).symm)
      | (exact decide_eq_decide.2 (by omega))
theorem isName_step (s : ByteArray) (k : Nat) (x : Int) (h0 : 0 ≤ x) (h1 : x < (s.size : Int)) : conf_isName.l0 (k + 1) s x = if mid (bt s x) = true then conf_isName.l0 k s (wrap64 (x + 1)) else some false := by
  simp only [conf_isName.l0]
  rw [if_pos h1, if_pos h0, letter_f, Option.bind_some, digit_f, Option.bind_some]
  generalize bt s x = b
  unfold ltr mid
  by_cases h : ((65 ≤ b ∧ b ≤ 90) ∨ (97 ≤ b ∧ b ≤ 122)) ∨ (48 ≤ b ∧ b ≤ 57) ∨ b = 45 ∨ b = 95
  · rw [if_pos (decide_eq_true h)]
    repeat' split
    all_goals first
      | rfl
      | (exfalso; simp only [decide_eq_true_eq] at *; omega)
  · rw [decide_eq_false h, if_neg Bool.false_ne_true]
    repeat' split
    all_goals first
      | rfl
      | (exfalso; simp only [decide_eq_true_eq] at *; omega)
theorem isName_l0 (s : ByteArray) (hs : s.size ≤ 1125899906842624) (d : Nat) : ∀ (k j : Nat), s.size - j = d → d < k → j ≤ s.size → conf_isName.l0 k s (j : Int) = some (((bl s).drop j).all fun c => mid (c.toNat : Int)) := by
  induction d with
  | zero =>
    intro k j hd hk hj
    obtain ⟨k, rfl⟩ : ∃ k', k = k' + 1 := ⟨k - 1, by omega⟩
    simp only [conf_isName.l0]
    rw [if_neg (by omega), List.drop_eq_nil_of_le (by rw [bl_length]; omega)]
    rfl
  | succ d ih =>
    intro k j hd hk hj
    obtain ⟨k, rfl⟩ : ∃ k', k = k' + 1 := ⟨k - 1, by omega⟩
    obtain ⟨c, hc, hb⟩ := bl_drop s j (by omega)
    rw [isName_step s k _ (by omega) (by omega), hb, hc, List.all_cons, wrap_at (by omega) (by omega), show (j : Int) + 1 = ((j + 1 : Nat) : Int) by omega, ih k (j + 1) (by omega) (by omega) (by omega)]
    by_cases h : mid (c.toNat : Int) = true
    · rw [if_pos h, h, Bool.true_and]
    · rw [if_neg h, (by simpa using h : mid (c.toNat : Int) = false), Bool.false_and]
theorem isName_f (s : ByteArray) : conf_isName.f (s.size + 4) s = some (nameI s) := by
  unfold conf_isName.f nameI
  by_cases h1 : (s.size : Int) < 1
  · rw [if_pos h1, decide_eq_false (by omega)]
    simp [conf_isName.j0]
  · rw [if_neg h1]
    by_cases h2 : (s.size : Int) > 31
    · rw [if_pos h2, decide_eq_false (by omega)]
      simp [conf_isName.j0]
    · rw [if_neg h2, if_pos (by omega), decide_eq_true (by omega), letter_f, Option.bind_some]
      simp only [conf_isName.j0, Bool.true_and]
      have h := isName_l0 s (by omega) (s.size - 1) (s.size + 3) 1 rfl (by omega) (by omega)
      rw [show ((1 : Nat) : Int) = 1 from rfl] at h
      cases ltr (bt s 0) with
      | false => rfl
      | true => simpa using h
end Go.Proofs.YtfecfgimfjcbdaaGreatDoor.Cf

namespace Go.Proofs.YtfecfgimfjcbdaaGreatDoor.Cf
open Go.RowKit Go.Proofs.YtfecfgimfjcbdaaGreatDoorW.PrintWords Go.Proofs.YtfecfgimfjcbdaaGreatDoorW.PrintLast Go.Proofs.YtfecfgimfjcbdaaGreatDoorW.PrintMore Go.Proofs.YtfecfgimfjcbdaaGreatDoor.QCParse

/-- A Config's cells: the keys' values in the keys' order, and the two texts. -/
def cfgC (nm sc : ByteArray) (k : Nat → Int) : Array Value := #[.string nm, .int .i64 (k 1), .int .i64 (k 2), .int .i64 (k 3), .int .i64 (k 0), .int .i64 (k 4), .int .i64 (k 5), .int .i64 (k 6), .int .i64 (k 7), .int .i64 (k 8), .int .i64 (k 9), .string sc, .int .i64 (k 10), .int .i64 (k 11), .int .i64 (k 12), .int .i64 (k 13), .int .i64 (k 14), .int .i64 (k 15)]
theorem cfg_key (nm sc : ByteArray) (k : Nat → Int) (i : Nat) (hi : i < 16) : (cfgC nm sc k)[kOff i]? = some (.int .i64 (k i)) := by
  rcases i with _ | _ | _ | _ | _ | _ | _ | _ | _ | _ | _ | _ | _ | _ | _ | _ | i
  case succ.succ.succ.succ.succ.succ.succ.succ.succ.succ.succ.succ.succ.succ.succ.succ => omega
  all_goals rfl
theorem kOff_lt (i : Nat) (hi : i < 16) : kOff i < 18 := by
  unfold kOff
  repeat' split
  all_goals omega

def togI (k : Nat → Int) : Bool := if k 7 > k 6 then decide (k 5 ≥ wrap64 (wrap64 (wrap64 (16 + wrap64 (2 * k 15)) + wrap64 (2 * k 9)) + wrap64 (8 * k 8))) else false
theorem tog_f (nm sc : ByteArray) (k : Nat → Int) : conf_together.f nm (k 1) (k 2) (k 3) (k 0) (k 4) (k 5) (k 6) (k 7) (k 8) (k 9) sc (k 10) (k 11) (k 12) (k 13) (k 14) (k 15) = some (togI k) := by
  unfold conf_together.f togI
  split <;> rfl

theorem call_kfield (j : Nat) (hj : j < 16) (args : Array Value) (W : World) : (callFunc (48 + j) args).run Tryz.prog W = .ok (.enter (48 + j) args) W := by
  rcases j with _ | _ | _ | _ | _ | _ | _ | _ | _ | _ | _ | _ | _ | _ | _ | _ | j
  case succ.succ.succ.succ.succ.succ.succ.succ.succ.succ.succ.succ.succ.succ.succ.succ => omega
  all_goals go_simp

end Go.Proofs.YtfecfgimfjcbdaaGreatDoor.Cf

namespace Go.Proofs.YtfecfgimfjcbdaaGreatDoor.Cf
open Go.RowKit Go.Proofs.YtfecfgimfjcbdaaGreatDoorW.PrintWords

theorem results_c1 {P : Program} {fn : Func} {p : Tmp} {ty : TypeId} (h : fn.results = #[.cell p ty]) (tmps : Array Value) (w : World) (g : Nat) (t : TypeId) (cs : Array Value) (fr : Nat × Nat) (d : TypeDesc)
    (hp : tmps.getD p undef = .pointer (some ⟨g, 0, none⟩)) (hg : w.heap[g]? = some (.cells cs t fr))
    (hu : P.underlying ty = some d) (hd : (match d with | .struct _ | .array _ _ => true | _ => false) = true) (hi : (P.info? ty).map (·.size) = some cs.size) :
    (results fn tmps).run P w = .ok (.agg cs) w := by
  have hp' : tmps[p]?.getD undef = .pointer (some ⟨g, 0, none⟩) := by simpa using hp
  simp [results, h, hp', asAddr, run_loadVar_row w g t ty cs fr d hg hu hd hi]
end Go.Proofs.YtfecfgimfjcbdaaGreatDoor.Cf

namespace Go.Proofs.YtfecfgimfjcbdaaGreatDoor.Cf
open Go.RowKit Go.Proofs.YtfecfgimfjcbdaaGreatDoorW.PrintWords

theorem BKeep.iter {w w1 : World} {b k : Nat} {s : ByteArray} {pos : Nat} (h : BKeep w w1 b) (hk : w.heap[k]? = some (.stringIter s pos)) (hb : k ≠ b) : w1.heap[k]? = some (.stringIter s pos) := h.2 k _ hk hb (fun cs fr e => by cases e)

theorem enc_le (r : Int) : (Lib.encodeRune r).length ≤ 4 := by have := (Lib.runeCells_le r).2; rwa [Lib.runeCells_length] at this

end Go.Proofs.YtfecfgimfjcbdaaGreatDoor.Cf

namespace Go.Proofs.YtfecfgimfjcbdaaGreatDoor.Cf
open Go.RowKit Go.Proofs.YtfecfgimfjcbdaaGreatDoorW.PrintWords Go.Proofs.YtfecfgimfjcbdaaGreatDoorW.PrintLast Go.Proofs.YtfecfgimfjcbdaaGreatDoorW.PrintMore

theorem kTab_small (i : Nat) (t : KeyT) (ht : kTab[i]? = some t) : t.1.size ≤ 20 ∧ t.2.1.size ≤ 20 ∧ ∀ p, t.2.2.2.2.2 = some p → p.1.length = p.2.length ∧ ∀ x ∈ p.1, x.size ≤ 100 := by
  have hl : i < 16 := (List.getElem?_eq_some_iff.1 ht).1
  rcases i with _ | _ | _ | _ | _ | _ | _ | _ | _ | _ | _ | _ | _ | _ | _ | _ | i
  case succ.succ.succ.succ.succ.succ.succ.succ.succ.succ.succ.succ.succ.succ.succ.succ => omega
  all_goals
    obtain rfl := Option.some.inj ht
    refine ⟨by decide, by decide, fun p hp => ?_⟩
    first
      | cases hp; done
      | (obtain rfl := Option.some.inj hp; exact ⟨by decide, by decide⟩)

end Go.Proofs.YtfecfgimfjcbdaaGreatDoor.Cf

namespace Go.Proofs.YtfecfgimfjcbdaaGreatDoor.Cf
open Go.RowKit Go.Proofs.YtfecfgimfjcbdaaGreatDoorW.PrintWords Go.Proofs.YtfecfgimfjcbdaaGreatDoorW.PrintLast Go.Proofs.YtfecfgimfjcbdaaGreatDoorW.PrintMore

/-- Behind a call only the blocks of L may have turned, of those that were there. -/
structure Ch (L : List Nat) (w w' : World) : Prop where
  os : w'.os = w.os
  tape : w'.tape = w.tape
  output : w'.output = w.output
  size : w.heap.size ≤ w'.heap.size
  block : ∀ k, k < w.heap.size → k ∉ L → w'.heap[k]? = w.heap[k]?

section
variable {L : List Nat} {w w1 w2 : World}
theorem Ch.refl (L : List Nat) (w : World) : Ch L w w := ⟨rfl, rfl, rfl, Nat.le_refl _, fun _ _ _ => rfl⟩
theorem Ch.trans (h : Ch L w w1) (k : Ch L w1 w2) : Ch L w w2 := ⟨k.os.trans h.os, k.tape.trans h.tape, k.output.trans h.output, Nat.le_trans h.size k.size, fun i hi hl => (k.block i (Nat.lt_of_lt_of_le hi h.size) hl).trans (h.block i hi hl)⟩
theorem Ch.more {L' : List Nat} (h : Ch L w w1) (hl : ∀ k ∈ L, k ∈ L') : Ch L' w w1 := ⟨h.os, h.tape, h.output, h.size, fun i hi hn => h.block i hi (fun e => hn (hl i e))⟩
theorem Ch.of_below (h : Below w.heap.size w w1) (L : List Nat) : Ch L w w1 := ⟨h.os, h.tape, h.output, h.size, fun k hk _ => h.block k hk⟩
theorem Ch.then (h : Ch L w w1) (k : Below w1.heap.size w1 w2) : Ch L w w2 := h.trans (Ch.of_below k L)
theorem Ch.blk {k : Nat} {o : Obj} (h : Ch L w w1) (hk : w.heap[k]? = some o) (hn : k ∉ L) : w1.heap[k]? = some o := (h.block k (Array.getElem?_eq_some_iff.1 hk).1 hn).trans hk
theorem Ch.drew (h : Ch L w w1) : Ch L w w1.drew := ⟨h.os, h.tape, h.output, h.size, h.block⟩
theorem Ch.alloc (h : Ch L w w1) (o : Obj) : Ch L w (w1.alloc o) := h.then ((Below.refl _ w1).alloc (Nat.le_refl _) o)
theorem Ch.set {r : Nat} (h : Ch L w w1) (hr : r ∈ L) (i : Nat) (v : Value) : Ch L w (w1.setCell ⟨r, i, none⟩ v) :=
  h.trans ⟨rfl, rfl, rfl, by simp [World.setCell], fun k _ hn => Below.heap_setCell w1 ⟨r, i, none⟩ v k (fun e => hn (by rw [e]; exact hr))⟩
theorem Ch.below {B : Nat} (h : Ch L w w1) (hB : ∀ k ∈ L, B ≤ k) {w0 : World} (h0 : Below B w0 w) (h1 : B ≤ w.heap.size) : Below B w0 w1 :=
  ⟨h.os.trans h0.os, h.tape.trans h0.tape, h.output.trans h0.output, Nat.le_trans h0.size h.size, fun k hk => (h.block k (by omega) (fun e => by have := hB k e; omega)).trans (h0.block k hk)⟩
theorem Ch.grown {b : Nat} (h : Ch L w w1) (hg : w1.grownBy w2 (some b)) (hb : b ∈ L ∨ w.heap.size ≤ b) : Ch L w w2 :=
  ⟨hg.os.trans h.os, hg.tape.trans h.tape, hg.output.trans h.output, Nat.le_trans h.size hg.size, fun k hk hn => (hg.block k (Nat.lt_of_lt_of_le hk h.size) (fun e => by
    obtain rfl := Option.some.inj e
    rcases hb with hb | hb
    · exact hn hb
    · omega)).trans (h.block k hk hn)⟩
end

/-- The reader: its text, and the place from which it is read on. -/
def Rd (w : World) (r : Nat) (s : ByteArray) (p : Nat) : Prop := w.heap[r]? = some (.cells #[.string s, .int .i64 (p : Int)] 32 (0, 0))
theorem Rd.c0 {w : World} {r p : Nat} {s : ByteArray} (h : Rd w r s p) : w.cell? ⟨r, 0, none⟩ = some (.string s) := (blk_cell h 0).trans rfl
theorem Rd.c1 {w : World} {r p : Nat} {s : ByteArray} (h : Rd w r s p) : w.cell? ⟨r, 1, none⟩ = some (.int .i64 (p : Int)) := (blk_cell h 1).trans rfl
theorem Rd.f {w : World} {r p : Nat} {s : ByteArray} (h : Rd w r s p) (i : Nat) : w.frozen? ⟨r, i, none⟩ = false := blk_frozen h i
theorem Rd.set {w : World} {r p : Nat} {s : ByteArray} (h : Rd w r s p) (q : Nat) : Rd (w.setCell ⟨r, 1, none⟩ (.int .i64 (q : Int))) r s q := blk_put h 1 _ rfl

/-- What is wrong, and where. -/
def fltV (a : Nat) (er : Int) : Value := .iface 46 (.agg #[.int .i64 (a : Int), .int .i64 er])
def Faults (e : Ending) (a : Nat) (er : Int) : Prop := e = .panicked [{ v := fltV a er, recovered := false }]
theorem give_any (a : Nat) (er : Int) (w : World) : Calls Tryz.prog 15 #[.int .i64 (a : Int), .int .i64 er] w fun e w' => Faults e a er ∧ w = w' := by
  go_enter Tryz.func15, Tryz.ntmps15
  go_wp2
  exact ⟨rfl, rfl, rfl⟩

/-- The byte at a place. -/
def cA (s : ByteArray) (p : Nat) : Nat := ((bl s).getD p 0).toNat
def lineEnd (s : ByteArray) (p : Nat) : Nat := p + ((bl s).drop p).findIdx (fun c => c == 10)
def blankC (c : Nat) : Bool := c == 32 || c == 9 || c == 10 || c == 13
/-- Over blanks and comments. -/
def skipP (s : ByteArray) : Nat → Nat → Nat
  | 0, p => p
  | f + 1, p => if p < s.size then (if blankC (cA s p) = true then skipP s f (p + 1) else if cA s p = 35 then skipP s f (lineEnd s p) else p) else p

theorem cA_at (s : ByteArray) (p : Nat) (h : p < s.size) : cA s p = (s[p]'h).toNat := by
  unfold cA bl
  rw [List.getD_eq_getElem?_getD, List.getElem?_eq_getElem (by simpa using h), Option.getD_some]
  rfl
theorem idx_find (c : UInt8) : ∀ l : List UInt8, Lib.indexByte l c = if l.findIdx (fun x => x == c) < l.length then ((l.findIdx (fun x => x == c) : Nat) : Int) else -1
  | [] => rfl
  | x :: l => by
    simp only [Lib.indexByte, List.findIdx_cons, List.length_cons]
    cases hx : x == c with
    | true => simp
    | false =>
      rw [idx_find c l]
      simp only [cond_false, Bool.false_eq_true, if_false]
      by_cases h : l.findIdx (fun x => x == c) < l.length
      · rw [if_pos h, if_neg (by simp), if_pos (by omega)]
        omega
      · rw [if_neg h, if_pos (by decide), if_neg (by omega)]
theorem idx_any (s : ByteArray) (c : UInt8) (w : World) : Calls Tryz.prog 66 #[.string s, .int .u8 (c.toNat : Int)] w fun e w' => e = .returned (.int .i64 (Lib.indexByte (bl s) c)) ∧ w' = w := by
  refine (Any.strings_IndexByte Tryz.laysIndexByte s (c.toNat : Int) w).mono ?_
  rintro e w' ⟨rfl, h⟩
  refine ⟨?_, h⟩
  rw [Int.toNat_natCast, show c.toNat.toUInt8 = c by simp]
  rfl
theorem bl_ext (s : ByteArray) (p : Nat) : bl (s.extract p s.size) = (bl s).drop p := by
  unfold bl
  rw [ByteArray.data_extract, Array.toList_extract, List.extract_eq_take_drop, List.take_of_length_le]
  rw [List.length_drop]
  exact Nat.le_refl _
theorem skipP_step (s : ByteArray) (f p : Nat) : skipP s (f + 1) p = if p < s.size then (if blankC (cA s p) = true then skipP s f (p + 1) else if cA s p = 35 then skipP s f (lineEnd s p) else p) else p := rfl
theorem lineEnd_le (s : ByteArray) (p : Nat) (h : p ≤ s.size) : lineEnd s p ≤ s.size := by
  unfold lineEnd
  have := @List.findIdx_le_length _ (fun c : UInt8 => c == 10) ((bl s).drop p)
  rw [List.length_drop, bl_length] at this
  omega
theorem lineEnd_gt (s : ByteArray) (p : Nat) (h : p < s.size) (hc : cA s p = 35) : p < lineEnd s p := by
  unfold lineEnd
  obtain ⟨b, e, hb⟩ := bl_drop s p h
  have h35 : b.toNat = 35 := by
    rw [cA_at s p h] at hc
    unfold bt at hb
    rw [dif_pos (by simpa using h)] at hb
    simp only [Int.toNat_natCast] at hb
    omega
  rw [e, List.findIdx_cons]
  have : (b == 10) = false := by
    apply beq_eq_false_iff_ne.2
    intro e
    rw [e] at h35
    exact absurd h35 (by decide)
  rw [this]
  simp
theorem skipP_le (s : ByteArray) : ∀ (f p : Nat), p ≤ s.size → skipP s f p ≤ s.size
  | 0, p, h => h
  | f + 1, p, h => by
    rw [skipP_step]
    repeat' split
    · exact skipP_le s f _ (by omega)
    · exact skipP_le s f _ (lineEnd_le s p h)
    · exact h
    · exact h

set_option maxRecDepth 100000 in
set_option maxHeartbeats 1000000 in
theorem skip_any (s : ByteArray) (hs : s.size ≤ 1000000) (r p0 : Nat) (hp0 : p0 ≤ s.size) (w : World) (hr : Rd w r s p0) :
    Calls Tryz.prog 38 #[.pointer (some ⟨r, 0, none⟩)] w fun e w' => e = .returned (.tuple #[]) ∧ Rd w' r s (skipP s (s.size + 1) p0) ∧ Ch [r] w w' := by
  have HR := Aside0.mk hr
  have HC := Aside0.mk (Ch.refl [r] w)
  clear hr
  go_enter Tryz.func38, Tryz.ntmps38
  go_wp2
  go_loopg [] (s.size + 1) (fun kq wr => ∃ p : Nat, p ≤ s.size ∧ s.size - p < kq ∧ Aside0 (Rd wr r s p) ∧ Aside0 (Ch [r] w wr) ∧ Aside0 (skipP s kq p = skipP s (s.size + 1) p0))
  case atStart => exact ⟨p0, hp0, by omega, HR, HC, ⟨rfl⟩⟩
  case round =>
    clear HR HC
    obtain ⟨p, hp, hk, HR, HC, HS⟩ := hrel
    obtain ⟨k, rfl⟩ : ∃ k, gk = k + 1 := ⟨gk - 1, by omega⟩
    have c0 := HR.out.c0
    have c1 := HR.out.c1
    go_upto_region 0 with fail
    refine wp_region_still_lit (by kernel_rfl) (by kernel_rfl) ?_
    repeat still_step
    refine wpStill_nil ?_
    change Exit.then _ _ Exit.normal _ wr.drew
    have HRd : Aside0 (Rd wr.drew r s p) := ⟨HR.out⟩
    have HCd := Aside0.mk HC.out.drew
    clear c0 c1 HR HC
    generalize wr.drew = wd at *
    rw [skipP_step] at HS
    by_cases hlt : p < s.size
    · have hd : decide ((p : Int) < (s.size : Int)) = true := decide_eq_true (by omega)
      rw [if_pos hlt] at HS
      have c0 := HRd.out.c0
      have c1 := HRd.out.c1
      have HA := Aside0.mk (cA_at s p hlt)
      go_upto_region 1 with fail
      refine wp_region_still_lit (by kernel_rfl) (by kernel_rfl) ?_
      repeat still_step
      refine wpStill_nil ?_
      change Exit.then _ _ Exit.normal _ wd.drew
      have HR2 : Aside0 (Rd wd.drew r s p) := ⟨HRd.out⟩
      have HC2 := Aside0.mk HCd.out.drew
      clear c0 c1 HRd HCd
      generalize wd.drew = we at *
      generalize (s[p]'hlt).toNat = c at *
      rw [HA.out] at HS
      have c0 := HR2.out.c0
      have c1 := HR2.out.c1
      have f1 := HR2.out.f 1
      by_cases hb : blankC c = true
      · have hb' : ((c = 32 ∨ c = 9) ∨ c = 10) ∨ c = 13 := by simpa [blankC] using hb
        rw [if_pos hb] at HS
        clear hb
        rcases hb' with ((rfl | rfl) | rfl) | rfl
        all_goals
          go_wp2
          go_roundg k
          case measure => omega
          case rel => exact ⟨p + 1, by omega, by omega, ⟨HR2.out.set (p + 1)⟩, ⟨HC2.out.set (by simp) 1 _⟩, HS⟩
      · have n32 : ((c : Int) == 32) = false := by simp [blankC] at hb; simp; omega
        have n9 : ((c : Int) == 9) = false := by simp [blankC] at hb; simp; omega
        have n10 : ((c : Int) == 10) = false := by simp [blankC] at hb; simp; omega
        have n13 : ((c : Int) == 13) = false := by simp [blankC] at hb; simp; omega
        rw [if_neg hb] at HS
        clear hb
        by_cases h35 : c = 35
        · subst h35
          rw [if_pos rfl] at HS
          have hle := lineEnd_le s p hp
          have hgt := lineEnd_gt s p hlt HA.out
          have HI : Aside0 (Lib.indexByte (bl (s.extract p s.size)) 10 = if lineEnd s p < s.size then ((lineEnd s p - p : Nat) : Int) else -1) := ⟨by
            rw [bl_ext s p, idx_find, List.length_drop, bl_length]
            unfold lineEnd
            by_cases h : ((bl s).drop p).findIdx (fun c => c == 10) < s.size - p
            · rw [if_pos h, if_pos (by omega), Nat.add_sub_cancel_left]
            · rw [if_neg h, if_neg (by omega)]⟩
          generalize lineEnd s p = le at *
          have hI := idx_any (s.extract p s.size) 10 we.drew
          rw [HI.out] at hI
          go_upto_region 8 with fail
          refine wp_region_still_lit (by kernel_rfl) (by kernel_rfl) ?_
          repeat still_step
          still_call hI
          repeat still_step
          refine wpStill_nil ?_
          change Exit.then _ _ Exit.normal _ we.drew
          have HR3 : Aside0 (Rd we.drew r s p) := ⟨HR2.out⟩
          have HC3 := Aside0.mk HC2.out.drew
          clear c0 c1 f1 HR2 HC2 hI HI
          generalize we.drew = wf at *
          have c0 := HR3.out.c0
          have c1 := HR3.out.c1
          have f1 := HR3.out.f 1
          by_cases hn : le < s.size
          · rw [if_pos hn]
            have hnn : decide (((le - p : Nat) : Int) < 0) = false := decide_eq_false (by omega)
            go_wp2
            go_roundg k
            case measure => omega
            case rel => exact ⟨le, by omega, by omega, ⟨by have := HR3.out.set le; rwa [show (le : Int) = (p : Int) + ((le - p : Nat) : Int) by omega] at this⟩, ⟨HC3.out.set (by simp) 1 _⟩, HS⟩
          · rw [if_neg hn]
            obtain rfl : le = s.size := by omega
            go_wp2
            go_roundg k
            case measure => omega
            case rel => exact ⟨s.size, by omega, by omega, ⟨HR3.out.set s.size⟩, ⟨HC3.out.set (by simp) 1 _⟩, HS⟩
        · have n35 : ((c : Int) == 35) = false := by simp; omega
          rw [if_neg h35] at HS
          go_wp2
          refine bodyPost_ret (results_none rfl _ _ _) rfl ?_
          exact ⟨rfl, by rw [← HS.out]; exact HR2.out, HC2.out⟩
    · have hd : decide ((p : Int) < (s.size : Int)) = false := decide_eq_false (by omega)
      rw [if_neg hlt] at HS
      go_wp2
      go_end0
      exact ⟨rfl, by rw [← HS.out]; exact HRd.out, HCd.out⟩
end Go.Proofs.YtfecfgimfjcbdaaGreatDoor.Cf

namespace Go.Proofs.YtfecfgimfjcbdaaGreatDoor.Cf
open Go.RowKit Go.Proofs.YtfecfgimfjcbdaaGreatDoorW.PrintWords Go.Proofs.YtfecfgimfjcbdaaGreatDoorW.PrintLast Go.Proofs.YtfecfgimfjcbdaaGreatDoorW.PrintMore Go.Proofs.YtfecfgimfjcbdaaGreatDoor.QCParse

def skp (s : ByteArray) (p : Nat) : Nat := skipP s (s.size + 1) p
theorem skp_le (s : ByteArray) (p : Nat) (h : p ≤ s.size) : skp s p ≤ s.size := skipP_le s _ p h
set_option maxRecDepth 100000 in
theorem more_any (s : ByteArray) (hs : s.size ≤ 1000000) (r p : Nat) (hp : p ≤ s.size) (w : World) (hr : Rd w r s p) :
    Calls Tryz.prog 21 #[.pointer (some ⟨r, 0, none⟩)] w fun e w' => e = .returned (.bool (decide (skp s p < s.size))) ∧ Rd w' r s (skp s p) ∧ Ch [r] w w' := by
  have HR := Aside0.mk hr
  clear hr
  go_enter Tryz.func21, Tryz.ntmps21
  go_wp2_with fail
  refine (skip_any s hs r p hp w HR.out).mono ?_
  rintro e w1 ⟨rfl, hr1, hc1⟩
  have HR1 := Aside0.mk hr1
  have HC1 := Aside0.mk hc1
  clear hr1 hc1 HR
  have hq : skipP s (s.size + 1) p = skp s p := rfl
  rw [hq] at HR1
  clear hq
  have hle := skp_le s p hp
  obtain ⟨q, hq⟩ : ∃ q, skp s p = q := ⟨_, rfl⟩
  rw [hq] at HR1 hle
  have HQ := Aside0.mk hq
  clear hq
  have c0 := HR1.out.c0
  have c1 := HR1.out.c1
  go_upto_region 2 with fail
  refine wp_region_still_lit (by kernel_rfl) (by kernel_rfl) ?_
  repeat still_step
  refine wpStill_nil ?_
  change Exit.then _ _ Exit.normal _ w1.drew
  have HR2 : Aside0 (Rd w1.drew r s q) := ⟨HR1.out⟩
  have HC2 := Aside0.mk HC1.out.drew
  clear c0 c1 HR1 HC1
  generalize w1.drew = w2 at *
  go_wp2
  go_ret
  rw [HQ.out]
  refine ⟨?_, HR2.out, HC2.out⟩
  simp

theorem toList_blN (s : ByteArray) : s.toList = bl s := ByteArray.toList_eq s
/-- A hexadecimal digit's value. -/
def hexV (c : Nat) : Option Nat := if 48 ≤ c ∧ c ≤ 57 then some (c - 48) else if 97 ≤ c ∧ c ≤ 102 then some (c - 87) else if 65 ≤ c ∧ c ≤ 70 then some (c - 55) else none
def hexI (c : Nat) : Int := match hexV c with | some v => (v : Int) | none => -1
theorem hex_f : ∀ c : Fin 256, conf_hexadecimal.f 4 (c.val : Int) = some (hexI c.val) := by decide +kernel
theorem hexdig_any (c : UInt8) (w : World) : Calls Tryz.prog 79 #[.int .u8 (c.toNat : Int)] w fun e w' => e = .returned (.int .i32 (hexI c.toNat)) ∧ Drawn0 w w' :=
  conf_hexadecimal.calls 4 (c.toNat : Int) _ w (hex_f ⟨c.toNat, UInt8.toNat_lt c⟩)
theorem hexV_lt (c v : Nat) (h : hexV c = some v) : v < 16 := by
  unfold hexV at h
  repeat' split at h
  all_goals first | (obtain rfl := Option.some.inj h; omega) | (cases h; done)
/-- A character's number? -/
def vR (x : Nat) : Bool := decide (x < 55296 ∨ (57343 < x ∧ x ≤ 1114111))
theorem vR_f (x : Nat) : utf8_ValidRune.f 4 (x : Int) = some (vR x) := by
  unfold utf8_ValidRune.f vR
  rw [if_pos (by omega)]
  by_cases h1 : x < 55296
  · rw [decide_eq_true (by omega), decide_eq_true (.inl h1)]
    rfl
  · rw [decide_eq_false (by omega)]
    simp only [utf8_ValidRune.j0, Bool.false_eq_true, if_false]
    by_cases h2 : 57343 < x
    · rw [if_pos (by omega)]
      congr 1
      by_cases h3 : x ≤ 1114111
      · rw [if_pos (by omega), decide_eq_true (by omega)]
      · rw [if_neg (by omega), decide_eq_false (by omega)]
    · rw [if_neg (by omega), decide_eq_false (by omega)]
theorem hp_f (b p : ByteArray) : strings_HasPrefix.f b p = some ((bl b).take p.size == bl p) := by
  unfold strings_HasPrefix.f stringslite_HasPrefix.f
  by_cases h : (b.size : Int) ≥ (p.size : Int)
  · rw [if_pos h, if_pos (by omega), if_pos (by omega), Option.bind_some, Int.toNat_natCast, toList_blN, toList_blN]
    congr 2
    unfold bl
    rw [ByteArray.data_extract, Array.toList_extract, List.extract_eq_take_drop, Nat.sub_zero, List.drop_zero]
  · rw [if_neg h, Option.bind_some]
    congr 1
    symm
    apply beq_eq_false_iff_ne.2
    intro e
    have := congrArg List.length e
    rw [List.length_take, bl_length, bl_length] at this
    omega
def hexFold : List UInt8 → Nat → Option Nat
  | [], x => some x
  | c :: l, x => match hexV c.toNat with | some d => hexFold l (16 * x + d) | none => none
/-- An escape that gives a character's number: the character, and how long it is. -/
def numS (l : List UInt8) : Option (Nat × Nat) :=
  if l.take 3 = [92, 117, 123] ∧ l.findIdx (fun c => c == 125) < l.length ∧ 4 ≤ l.findIdx (fun c => c == 125) ∧ l.findIdx (fun c => c == 125) ≤ 9 then
    match hexFold ((l.take (l.findIdx fun c => c == 125)).drop 3) 0 with
    | some x => if vR x = true then some (x, l.findIdx (fun c => c == 125) + 1) else none
    | none => none
  else none
/-- An escape: the character, and how long it is. -/
def escS (l : List UInt8) : Option (Nat × Nat) :=
  match l with
  | _ :: c :: _ => if c.toNat = 34 ∨ c.toNat = 92 then some (c.toNat, 2) else if c.toNat = 110 then some (10, 2) else if c.toNat = 116 then some (9, 2) else if c.toNat = 117 then numS l else none
  | _ => none
def escV (o : Option (Nat × Nat)) : Value := .tuple #[.int .i32 (((o.getD (0, 0)).1 : Nat) : Int), .int .i64 (((o.getD (0, 0)).2 : Nat) : Int)]

theorem below_less' {A B : Nat} {w w1 : World} (h : Below A w w1) (hB : B ≤ A) : Below B w w1 := ⟨h.os, h.tape, h.output, h.size, fun k hk => h.block k (by omega)⟩
set_option maxRecDepth 100000 in
set_option maxHeartbeats 1000000 in
theorem numbered_any (b : ByteArray) (hs : b.size ≤ 1000000) (w : World) :
    Calls Tryz.prog 71 #[.string b] w fun e w' => e = .returned (escV (numS (bl b))) ∧ Below w.heap.size w w' := by
  have HI := Aside0.mk (idx_find 125 (bl b))
  rw [bl_length] at HI
  have hil := @List.findIdx_le_length _ (fun c : UInt8 => c == 125) (bl b)
  rw [bl_length] at hil
  have HN : Aside0 (numS (bl b) = if (bl b).take 3 = [92, 117, 123] ∧ (bl b).findIdx (fun c => c == 125) < b.size ∧ 4 ≤ (bl b).findIdx (fun c => c == 125) ∧ (bl b).findIdx (fun c => c == 125) ≤ 9 then
    match hexFold (((bl b).take ((bl b).findIdx fun c => c == 125)).drop 3) 0 with
    | some x => if vR x = true then some (x, (bl b).findIdx (fun c => c == 125) + 1) else none
    | none => none
  else none) := ⟨by unfold numS; rw [bl_length]⟩
  obtain ⟨n, hn⟩ : ∃ n, (bl b).findIdx (fun c => c == 125) = n := ⟨_, rfl⟩
  rw [hn] at HI hil HN
  clear hn
  have HP := Aside0.mk (hp_f b (⟨#[92, 117, 123]⟩ : ByteArray))
  obtain ⟨pb, hpb⟩ : ∃ pb, ((bl b).take ((⟨#[92, 117, 123]⟩ : ByteArray) : ByteArray).size == bl (⟨#[92, 117, 123]⟩ : ByteArray)) = pb := ⟨_, rfl⟩
  rw [hpb] at HP
  have hpb' : ((bl b).take 3 = [92, 117, 123]) ↔ pb = true := by rw [← hpb]; exact beq_iff_eq.symm
  clear hpb
  have HPB := Aside0.mk hpb'
  clear hpb'
  have HI1 := Aside0.mk (idx_any b 125 w)
  rw [HI.out] at HI1
  obtain ⟨m, hm⟩ : ∃ m : Int, (if n < b.size then (n : Int) else -1) = m := ⟨_, rfl⟩
  rw [hm] at HI1
  have hm1 : -1 ≤ m ∧ m ≤ 1000000 ∧ (n < b.size → m = n) ∧ (¬ n < b.size → m = -1) := by
    rw [← hm]
    split <;> omega
  clear hm HI
  go_enter Tryz.func71, Tryz.ntmps71
  go_wp2_with fail
  refine HI1.out.mono ?_
  rintro e w1 ⟨rfl, rfl⟩
  clear HI1
  by_cases hbad : pb = true ∧ n < b.size ∧ 4 ≤ n ∧ n ≤ 9
  case neg =>
    have HR : Aside0 (numS (bl b) = none) := ⟨by rw [HN.out, if_neg]; rw [HPB.out]; exact hbad⟩
    clear HN
    have hcs : pb = false ∨ (pb = true ∧ m < 4) ∨ (pb = true ∧ 4 ≤ m ∧ 9 < m) := by
      cases pb with
      | false => exact .inl rfl
      | true =>
        refine .inr ?_
        by_cases h4 : m < 4
        · exact .inl ⟨rfl, h4⟩
        · refine .inr ⟨rfl, by omega, ?_⟩
          by_cases h1 : n < b.size
          · have := hm1.2.2.1 h1
            have : ¬ n ≤ 9 := fun h => hbad ⟨rfl, h1, by omega, h⟩
            omega
          · have := hm1.2.2.2 h1
            omega
    obtain ⟨hm2, hm3, _⟩ := hm1
    clear hbad
    go_wp2_with fail
    refine (strings_HasPrefix.calls b _ _ _ HP.out).mono ?_
    rintro e w2 ⟨rfl, hD⟩
    have HB := Aside0.mk hD.below
    clear hD HPB HP
    rcases hcs with rfl | ⟨rfl, h4⟩ | ⟨rfl, h4, h9⟩
    · go_wp2
      go_ret2
      rw [HR.out]
      exact ⟨rfl, HB.out⟩
    · have d4 : decide (m < 4) = true := decide_eq_true h4
      go_wp2
      go_ret2
      rw [HR.out]
      exact ⟨rfl, HB.out⟩
    · have d4 : decide (m < 4) = false := decide_eq_false (by omega)
      have d9 : decide (9 < m) = true := decide_eq_true h9
      go_wp2
      go_ret2
      rw [HR.out]
      exact ⟨rfl, HB.out⟩
  case pos =>
    obtain ⟨rfl, h1, h4, h9⟩ := hbad
    obtain rfl := hm1.2.2.1 h1
    clear hm1
    have d4 : decide ((n : Int) < 4) = false := decide_eq_false (by omega)
    have d9 : decide (9 < (n : Int)) = false := decide_eq_false (by omega)
    have HN2 : Aside0 (numS (bl b) = match hexFold (((bl b).take n).drop 3) 0 with | some x => if vR x = true then some (x, n + 1) else none | none => none) := ⟨by
      rw [HN.out, if_pos ⟨HPB.out.2 rfl, h1, h4, h9⟩]⟩
    clear HN HPB
    go_wp2_with fail
    refine (strings_HasPrefix.calls b _ _ _ HP.out).mono ?_
    rintro e w2 ⟨rfl, hD⟩
    have HB := Aside0.mk hD.below
    clear hD HP
    go_wp2_with fail
    have HB2 := Aside0.mk (Below.refl w2.heap.size w2)
    go_loopg [5, 6] (n - 3) (fun kq v5 v6 wr => ∃ i x : Nat, 3 ≤ i ∧ i ≤ n ∧ kq = n - i ∧ v5 = .int .i32 x ∧ v6 = .int .i64 i ∧ x < 16 ^ (i - 3) ∧ Aside0 (hexFold (((bl b).take n).drop i) x = hexFold (((bl b).take n).drop 3) 0) ∧ Aside0 (Below w2.heap.size w2 wr))
    case atStart => exact ⟨3, 0, by omega, by omega, rfl, rfl, rfl, by decide, ⟨rfl⟩, HB2⟩
    case round =>
      clear HB2
      obtain ⟨i, x, hi3, hi, rfl, rfl, rfl, hx, HF, HW⟩ := hrel
      have HBr := Aside0.mk (HB.out.trans (below_less' HW.out HB.out.size))
      by_cases hlt : i < n
      · have hd : decide ((i : Int) < (n : Int)) = true := decide_eq_true (by omega)
        have hib : i < b.size := by omega
        have HD : Aside0 (((bl b).take n).drop i = (b[i]'hib) :: ((bl b).take n).drop (i + 1)) := ⟨by
          have hl : i < ((bl b).take n).length := by rw [List.length_take, bl_length]; omega
          rw [List.drop_eq_getElem_cons hl]
          congr 1
          rw [List.getElem_take]
          rfl⟩
        rw [HD.out] at HF
        clear HD
        obtain ⟨c, hc⟩ : ∃ c, (b[i]'hib) = c := ⟨_, rfl⟩
        rw [hc] at HF
        have HCc := Aside0.mk hc
        clear hc
        have hx5 : x < 1048576 := Nat.lt_of_lt_of_le hx (Nat.pow_le_pow_right (by decide) (by omega : i - 3 ≤ 5))
        go_wp2_with fail
        rw [HCc.out]
        refine (hexdig_any c _).mono ?_
        rintro e w3 ⟨rfl, hD⟩
        have HW3 := Aside0.mk (below_then HW.out HW.out.size hD.below)
        have HB3 := Aside0.mk (below_then HBr.out HBr.out.size hD.below)
        clear hD HW HBr HCc
        cases hv : hexV c.toNat with
        | none =>
          have HR : Aside0 (numS (bl b) = none) := ⟨by rw [HN2.out, ← HF.out]; simp only [hexFold, hv]⟩
          rw [show hexI c.toNat = -1 by unfold hexI; rw [hv]]
          clear hv HF
          go_wp2
          go_ret2
          rw [HR.out]
          exact ⟨rfl, HB3.out⟩
        | some v =>
          have hv16 := hexV_lt _ _ hv
          have HF2 : Aside0 (hexFold (((bl b).take n).drop (i + 1)) (16 * x + v) = hexFold (((bl b).take n).drop 3) 0) := ⟨by rw [← HF.out]; simp only [hexFold, hv]⟩
          have hx' : 16 * x + v < 16 ^ (i + 1 - 3) := by
            rw [show i + 1 - 3 = (i - 3) + 1 by omega, Nat.pow_succ]
            omega
          rw [show hexI c.toNat = (v : Int) by unfold hexI; rw [hv]]
          clear hv HF
          go_wp2
          go_roundg (n - (i + 1))
          case measure => omega
          case rel => exact ⟨i + 1, 16 * x + v, by omega, by omega, rfl, by go_num, by go_num, hx', HF2, HW3⟩
      · have hd : decide ((i : Int) < (n : Int)) = false := decide_eq_false (by omega)
        obtain rfl : i = n := by omega
        have HF2 : Aside0 (hexFold (((bl b).take i).drop 3) 0 = some x) := ⟨by
          rw [← HF.out, List.drop_eq_nil_of_le (by rw [List.length_take]; omega)]
          rfl⟩
        rw [HF2.out] at HN2
        have hx6 : x < 16777216 := Nat.lt_of_lt_of_le hx (Nat.pow_le_pow_right (by decide) (by omega : i - 3 ≤ 6))
        clear HF HF2
        go_wp2_with fail
        refine (utf8_ValidRune.calls 4 (x : Int) _ _ (vR_f x)).mono ?_
        rintro e w3 ⟨rfl, hD⟩
        have HB3 := Aside0.mk (below_then HBr.out HBr.out.size hD.below)
        clear hD HBr HW
        cases hv : vR x with
        | false =>
          have HR : Aside0 (numS (bl b) = none) := ⟨by rw [HN2.out]; simp only [hv, Bool.false_eq_true, if_false]⟩
          clear HN2 hv
          go_wp2
          go_ret2
          rw [HR.out]
          exact ⟨rfl, HB3.out⟩
        | true =>
          have HR : Aside0 (numS (bl b) = some (x, i + 1)) := ⟨by rw [HN2.out]; simp only [hv, if_true]⟩
          clear HN2 hv
          go_wp2
          go_ret2
          rw [HR.out]
          exact ⟨by unfold escV; simp, HB3.out⟩

set_option maxRecDepth 100000 in
theorem escape_any (b : ByteArray) (hs : b.size ≤ 1000000) (w : World) :
    Calls Tryz.prog 45 #[.string b] w fun e w' => e = .returned (escV (escS (bl b))) ∧ Below w.heap.size w w' := by
  by_cases h2 : b.size < 2
  · have HR : Aside0 (escS (bl b) = none) := ⟨by
      have hl := bl_length b
      unfold escS
      split
      · rename_i h
        rw [h] at hl
        simp only [List.length_cons] at hl
        omega
      · rfl⟩
    have hd : decide ((b.size : Int) < 2) = true := decide_eq_true (by omega)
    go_enter Tryz.func45, Tryz.ntmps45
    go_wp2
    go_ret2
    rw [HR.out]
    exact ⟨rfl, Below.refl _ _⟩
  · have hd : decide ((b.size : Int) < 2) = false := decide_eq_false (by omega)
    have h1 : 1 < b.size := by omega
    have HR : Aside0 (escS (bl b) = if (b[1]'h1).toNat = 34 ∨ (b[1]'h1).toNat = 92 then some ((b[1]'h1).toNat, 2) else if (b[1]'h1).toNat = 110 then some (10, 2) else if (b[1]'h1).toNat = 116 then some (9, 2) else if (b[1]'h1).toNat = 117 then numS (bl b) else none) := ⟨by
      obtain ⟨a0, e0, _⟩ := bl_drop b 0 (by omega)
      obtain ⟨a1, e1, hb1⟩ := bl_drop b 1 h1
      have ha : (b[1]'h1).toNat = a1.toNat := by
        unfold bt at hb1
        rw [dif_pos (by simpa using h1)] at hb1
        have : (b[1]'h1).toNat = a1.toNat := by exact_mod_cast hb1
        exact this
      rw [List.drop_zero] at e0
      rw [ha, e0, e1]
      rfl⟩
    have H6 : (b[1]'h1).toNat < 256 := UInt8.toNat_lt _
    obtain ⟨c, hc⟩ : ∃ c, (b[1]'h1).toNat = c := ⟨_, rfl⟩
    rw [hc] at HR H6
    have HC := Aside0.mk hc
    have hcc := hc
    clear hc
    by_cases q1 : c = 34 ∨ c = 92
    · rw [if_pos q1] at HR
      rcases q1 with rfl | rfl
      all_goals
        go_enter Tryz.func45, Tryz.ntmps45
        go_wp2
        go_ret2
        rw [HR.out]
        exact ⟨rfl, Below.refl _ _⟩
    · rw [if_neg q1] at HR
      have n34 : ((c : Int) == 34) = false := by simp; omega
      have n92 : ((c : Int) == 92) = false := by simp; omega
      by_cases q2 : c = 110
      · rw [if_pos q2] at HR
        subst q2
        go_enter Tryz.func45, Tryz.ntmps45
        go_wp2
        go_ret2
        rw [HR.out]
        exact ⟨rfl, Below.refl _ _⟩
      · rw [if_neg q2] at HR
        have n110 : ((c : Int) == 110) = false := by simp; omega
        by_cases q3 : c = 116
        · rw [if_pos q3] at HR
          subst q3
          go_enter Tryz.func45, Tryz.ntmps45
          go_wp2
          go_ret2
          rw [HR.out]
          exact ⟨rfl, Below.refl _ _⟩
        · rw [if_neg q3] at HR
          have n116 : ((c : Int) == 116) = false := by simp; omega
          by_cases q4 : c = 117
          · rw [if_pos q4] at HR
            subst q4
            go_enter Tryz.func45, Tryz.ntmps45
            go_wp2_with fail
            refine (numbered_any b hs _).mono ?_
            rintro e w2 ⟨rfl, hB⟩
            have HB := Aside0.mk hB
            clear hB
            obtain ⟨o1, ho1⟩ : ∃ o1 : Int, ((((numS (bl b)).getD (0, 0)).1 : Nat) : Int) = o1 := ⟨_, rfl⟩
            obtain ⟨o2, ho2⟩ : ∃ o2 : Int, ((((numS (bl b)).getD (0, 0)).2 : Nat) : Int) = o2 := ⟨_, rfl⟩
            have HV : Aside0 (escV (numS (bl b)) = .tuple #[.int .i32 o1, .int .i64 o2]) := ⟨by rw [← ho1, ← ho2]; rfl⟩
            rw [HV.out]
            clear ho1 ho2
            go_wp2
            go_ret2
            rw [HR.out, HV.out]
            exact ⟨rfl, HB.out⟩
          · rw [if_neg q4] at HR
            have n117 : ((c : Int) == 117) = false := by simp; omega
            go_enter Tryz.func45, Tryz.ntmps45
            go_wp2
            go_ret2
            rw [HR.out]
            exact ⟨rfl, Below.refl _ _⟩
end Go.Proofs.YtfecfgimfjcbdaaGreatDoor.Cf

namespace Go.Proofs.YtfecfgimfjcbdaaGreatDoor.Cf
open Go.RowKit Go.Proofs.YtfecfgimfjcbdaaGreatDoorW.PrintWords Go.Proofs.YtfecfgimfjcbdaaGreatDoorW.PrintLast Go.Proofs.YtfecfgimfjcbdaaGreatDoorW.PrintMore Go.Proofs.YtfecfgimfjcbdaaGreatDoor.QCParse

/-- A quoted text from a place behind its first mark on: its bytes, and the place behind it; or the place of what is wrong. -/
def qS (s : ByteArray) : Nat → Nat → List UInt8 → Except Nat (List UInt8 × Nat)
  | 0, _, _ => .error s.size
  | f + 1, k, acc =>
    if k < s.size then
      if cA s k = 34 then .ok (acc, k + 1)
      else if cA s k = 92 then match escS ((bl s).drop k) with
        | some (x, n) => qS s f (k + n) (acc ++ Lib.encodeRune (x : Int))
        | none => .error k
      else if (wdL ((bl s).drop k)).1 = 0 ∨ (wdL ((bl s).drop k)).2 < 32 ∨ (wdL ((bl s).drop k)).2 = 127 then .error k
      else qS s f (k + (wdL ((bl s).drop k)).1) (acc ++ Lib.encodeRune ((wdL ((bl s).drop k)).2 : Int))
    else .error s.size
theorem cA_drop (s : ByteArray) (k j : Nat) : (((bl s).drop k).getD j 0).toNat = cA s (k + j) := by
  unfold cA
  rw [List.getD_eq_getElem?_getD, List.getD_eq_getElem?_getD, List.getElem?_drop]
theorem cA_lt (s : ByteArray) (k : Nat) : cA s k < 256 := UInt8.toNat_lt _
/-- What an escape is made of. -/
theorem hexFold_ascii : ∀ (l : List UInt8) (x y : Nat), hexFold l x = some y → ∀ c ∈ l, c.toNat < 128
  | [], _, _, _, c, hc => by cases hc
  | a :: l, x, y, h, c, hc => by
    simp only [hexFold] at h
    cases hv : hexV a.toNat with
    | none => rw [hv] at h; cases h
    | some v =>
      rw [hv] at h
      rcases List.mem_cons.1 hc with rfl | hc
      · unfold hexV at hv
        repeat' split at hv
        all_goals first | omega | (cases hv; done)
      · exact hexFold_ascii l _ _ h c hc
theorem findIdx_is (c : UInt8) : ∀ l : List UInt8, l.findIdx (fun x => x == c) < l.length → l.getD (l.findIdx fun x => x == c) 0 = c
  | [], h => by simp at h
  | x :: l, h => by
    rw [List.findIdx_cons] at h ⊢
    cases hx : x == c with
    | true => simpa using hx
    | false =>
      rw [hx] at h
      simp only [cond_false, List.length_cons] at h ⊢
      simpa using findIdx_is c l (by omega)
theorem escS_is (l : List UInt8) (x n : Nat) (h : escS l = some (x, n)) : 2 ≤ n ∧ n ≤ l.length ∧ n ≤ 10 ∧ (∀ j, 1 ≤ j → j < n → (l.getD j 0).toNat < 128) ∧ x ≤ 1114111 := by
  unfold escS at h
  split at h
  · rename_i a c t
    have h2 : ∀ y : Nat, c.toNat < 128 → y ≤ 1114111 → 2 ≤ 2 ∧ 2 ≤ (a :: c :: t).length ∧ 2 ≤ 10 ∧ (∀ j, 1 ≤ j → j < 2 → ((a :: c :: t).getD j 0).toNat < 128) ∧ y ≤ 1114111 := fun y hc hy =>
      ⟨by omega, by simp, by omega, fun j h1 h2 => by obtain rfl : j = 1 := by omega
                                                      exact hc, hy⟩
    split at h
    · obtain ⟨rfl, rfl⟩ := Prod.mk.inj (Option.some.inj h)
      exact h2 _ (by omega) (by omega)
    · split at h
      · obtain ⟨rfl, rfl⟩ := Prod.mk.inj (Option.some.inj h)
        exact h2 _ (by omega) (by omega)
      · split at h
        · obtain ⟨rfl, rfl⟩ := Prod.mk.inj (Option.some.inj h)
          exact h2 _ (by omega) (by omega)
        · split at h
          · generalize a :: c :: t = l at *
            unfold numS at h
            split at h
            · rename_i hc
              obtain ⟨h3, hlt, h4, h9⟩ := hc
              have hat := findIdx_is 125 l hlt
              generalize l.findIdx (fun c => c == 125) = e at *
              split at h
              · rename_i y hy
                split at h
                · rename_i hv
                  obtain ⟨rfl, rfl⟩ := Prod.mk.inj (Option.some.inj h)
                  refine ⟨by omega, by omega, by omega, fun j h1 hj => ?_, ?_⟩
                  · by_cases he : j = e
                    · rw [he, hat]
                      decide
                    · by_cases hj3 : j < 3
                      · have : l.getD j 0 = (l.take 3).getD j 0 := by
                          rw [List.getD_eq_getElem?_getD, List.getD_eq_getElem?_getD, List.getElem?_take, if_pos hj3]
                        rw [this, h3]
                        rcases j with _ | _ | _ | j
                        · decide
                        · decide
                        · decide
                        · omega
                      · refine hexFold_ascii _ _ _ hy _ ?_
                        have hl : j - 3 < ((l.take e).drop 3).length := by rw [List.length_drop, List.length_take]; omega
                        have : l.getD j 0 = ((l.take e).drop 3)[j - 3]'hl := by
                          rw [List.getElem_drop, List.getElem_take, List.getD_eq_getElem?_getD, List.getElem?_eq_getElem (by omega), Option.getD_some]
                          congr 1
                          omega
                        rw [this]
                        exact List.getElem_mem _
                  · unfold vR at hv
                    have := of_decide_eq_true hv
                    omega
                · cases h
              · cases h
            · cases h
          · cases h
  · cases h
/-- The replacement character's own bytes, and what is no character. -/
theorem dec_fffd (l : List UInt8) (h : l.take 3 = [239, 191, 189]) : Lib.decodeL l = (65533, 3) := by
  match l, h with
  | a :: b :: c :: t, h =>
    simp only [List.take_succ_cons, List.take_zero, List.cons.injEq, and_true] at h
    obtain ⟨rfl, rfl, rfl⟩ := h
    rw [Lib.decodeL_N]
    simp only [List.getD_cons_zero, List.getD_cons_succ, List.length_cons]
    show Lib.decodeN (t.length + 1 + 1 + 1) 239 191 189 (((239 : UInt8) :: 191 :: 189 :: t).getD 3 0).toNat = (65533, 3)
    have e := Lib.decodeN_more 3 (t.length + 1 + 1 + 1) 239 191 189 0 191 189 (((239 : UInt8) :: 191 :: 189 :: t).getD 3 0).toNat (by omega) (by omega) (by decide) (fun _ => rfl) (fun _ => rfl) (fun h => by omega)
    rw [e]
    decide
theorem wd_bad (l : List UInt8) (hne : l ≠ []) (hr : (Lib.decodeL l).1 = 65533) : ((wdL l).1 = 0) ↔ (l.take 3 == [239, 191, 189]) = false := by
  constructor
  · intro h
    apply beq_eq_false_iff_ne.2
    intro e
    have hd := dec_fffd l e
    unfold wdL at h
    rw [hd] at h
    simp at h
  · intro h
    have h := beq_eq_false_iff_ne.1 h
    unfold wdL
    by_cases hb : (Lib.decodeL l).1 = 65533 ∧ (Lib.decodeL l).2 = 1
    · rw [if_pos hb]
    · exfalso
      have he := Lib.encode_decode l hne hb
      rw [hr] at he
      have e3 : Lib.encodeRune ((65533 : Nat) : Int) = [239, 191, 189] := by decide +kernel
      rw [e3] at he
      have hl := congrArg List.length he
      rw [List.length_take] at hl
      have hle := Lib.decodeL_le l hne
      simp only [List.length_cons, List.length_nil] at hl
      have : (Lib.decodeL l).2 = 3 := by omega
      rw [this] at he
      exact h he.symm
theorem wd_good (l : List UInt8) (h : (wdL l).1 ≠ 0) : wdL l = ((Lib.decodeL l).2, (Lib.decodeL l).1) := by
  unfold wdL at h ⊢
  split
  · rename_i hb
    rw [if_pos hb] at h
    exact absurd rfl h
  · rfl
theorem wd_rune (l : List UInt8) : (Lib.decodeL l).1 ≠ 65533 → wdL l = ((Lib.decodeL l).2, (Lib.decodeL l).1) := by
  intro h
  unfold wdL
  rw [if_neg (fun e => h e.1)]

/-- What quoted hands back. -/
def QPost (r : Nat) (s : ByteArray) (w : World) (o : Except Nat (List UInt8 × Nat)) (e : Ending) (w' : World) : Prop :=
  match o with
  | .ok (l, q) => e = .returned (.string ⟨l.toArray⟩) ∧ Rd w' r s q ∧ Ch [r] w w'
  | .error a => Faults e a 121 ∧ Ch [r] w w'

theorem Ch.grownV {L : List Nat} {w w1 w2 : World} {o : Obj} {v : Value} {e : TypeId} {n : Nat} {xs : List Value} (h : Ch L w w1) (hg : (w1.alloc o).grownBy w2 v.ownBlock) (hv : w1.ownsRow w.heap.size e 1 v n xs) : Ch L w w2 := by
  have h1 := h.alloc o
  refine ⟨hg.os.trans h1.os, hg.tape.trans h1.tape, hg.output.trans h1.output, Nat.le_trans h1.size hg.size, fun k hk hn => ?_⟩
  refine (hg.block k (Nat.lt_of_lt_of_le hk h1.size) (fun e => ?_)).trans (h1.block k hk hn)
  have := (hv.lt k e.symm).1
  omega
end Go.Proofs.YtfecfgimfjcbdaaGreatDoor.Cf

namespace Go.Proofs.YtfecfgimfjcbdaaGreatDoor.Cf
open Go.RowKit Go.Proofs.YtfecfgimfjcbdaaGreatDoorW.PrintWords Go.Proofs.YtfecfgimfjcbdaaGreatDoorW.PrintLast Go.Proofs.YtfecfgimfjcbdaaGreatDoorW.PrintMore Go.Proofs.YtfecfgimfjcbdaaGreatDoor.QCParse

theorem conv_any (w : World) (B : Nat) (v : Value) (l : List UInt8) (h : w.ownsRow B 5 1 v l.length (Lib.byteCells l)) :
    (convert 86 9 v).run Tryz.prog w = .ok (.string ⟨l.toArray⟩) w := by
  rcases h.2 with ⟨rfl, h0⟩ | ⟨g, cap, cur, rfl, _, hg, h4, h5, h6, h7⟩
  · have : l = [] := List.eq_nil_of_length_eq_zero h0
    subst this
    exact Lib.run_convert_nil_bytes w 86 9 5 0 Tryz.underlying86 Tryz.underlying5 Tryz.underlying9
  · refine run_convert_bytes_back w 86 9 5 ⟨g, 0, none⟩ cap l Tryz.underlying86 Tryz.underlying5 Tryz.underlying9 (fun j hj => ?_)
    have hc := World.ownsRow.cellAt h j (by omega)
    rw [show (⟨g, 0, none⟩ : Addr).add j = ⟨g, j, none⟩ by unfold Addr.add; split <;> simp_all]
    rw [hc]
    unfold Lib.byteCells
    rw [List.getElem?_map, List.getElem?_eq_getElem hj]
    rfl
theorem appRune_any (B : Nat) (v : Value) (l : List UInt8) (r : Nat) (hr : r ≤ 1114111) (w : World) (hown : w.ownsRow B 5 1 v l.length (Lib.byteCells l)) (hlen : l.length ≤ 10000000) (hBw : B ≤ w.heap.size) :
    Calls Tryz.prog 46 #[v, .int .i32 (r : Int)] w fun e w' => ∃ v', e = .returned v' ∧ w'.ownsRow B 5 1 v' (l ++ Lib.encodeRune (r : Int)).length (Lib.byteCells (l ++ Lib.encodeRune (r : Int))) ∧ ∃ o, (w.alloc o).grownBy w' v.ownBlock := by
  refine (Any.utf8_AppendRune_plain Tryz.laysRune info_byte B v l.length (Lib.byteCells l) (r : Int) (by omega) (by omega) w hown (by omega) hBw).mono ?_
  rintro e w' ⟨v', rfl, h, hg⟩
  refine ⟨v', rfl, ?_, hg⟩
  rw [List.length_append, Lib.byteCells_append, Lib.byteCells_encodeRune, ← Lib.runeCells_length]
  exact h
theorem iter_grown {w w1 : World} {B K n pos : Nat} {v : Value} {xs : List Value} {s : ByteArray} {o : Obj} (hk : w.heap[K]? = some (.stringIter s pos)) (hv : w.ownsRow B 5 1 v n xs) (hg : (w.alloc o).grownBy w1 v.ownBlock) : w1.heap[K]? = some (.stringIter s pos) := by
  have h1 := blk_alloc hk o
  refine (hg.block K (blk_lt h1) (fun e => ?_)).trans h1
  obtain ⟨cs, fr, hc⟩ := own_bytes hv K e.symm
  rw [hk] at hc
  cases hc
theorem blk_own {w w1 : World} {B k n : Nat} {v : Value} {xs : List Value} {o oo : Obj} (hk : w.heap[k]? = some oo) (hB : k < B) (hv : w.ownsRow B 5 1 v n xs) (hg : (w.alloc o).grownBy w1 v.ownBlock) : w1.heap[k]? = some oo := by
  have h1 := blk_alloc hk o
  refine (hg.block k (blk_lt h1) (fun e => ?_)).trans h1
  have := (hv.lt k e.symm).1
  omega
theorem own_iterAt {w : World} {B K n pos pos' : Nat} {v : Value} {xs : List Value} {s : ByteArray} (hk : w.heap[K]? = some (.stringIter s pos)) (hv : w.ownsRow B 5 1 v n xs) : (w.iterAt K s pos').ownsRow B 5 1 v n xs := by
  refine ⟨hv.1, ?_⟩
  rcases hv.2 with h0 | ⟨g, cap, cur, hv, hg, hgk, hr⟩
  · exact .inl h0
  · refine .inr ⟨g, cap, cur, hv, hg, (Lib.iterAt_other w K g s pos' (fun e => ?_)).trans hgk, hr⟩
    subst e
    rw [hk] at hgk
    cases hgk
theorem Ch.iterAt {L : List Nat} {w w1 : World} {K : Nat} (h : Ch L w w1) (hK : w.heap.size ≤ K) (s : ByteArray) (pos : Nat) : Ch L w (w1.iterAt K s pos) :=
  ⟨h.os, h.tape, h.output, by rw [Lib.iterAt_size]; exact h.size, fun k hk hn => (Lib.iterAt_other w1 K k s pos (by omega)).trans (h.block k hk hn)⟩

theorem own_set {w : World} {B r i n : Nat} {v u : Value} {xs : List Value} (hv : w.ownsRow B 5 1 v n xs) (hr : r < B) : (w.setCell ⟨r, i, none⟩ u).ownsRow B 5 1 v n xs := by
  refine ⟨hv.1, ?_⟩
  rcases hv.2 with h0 | ⟨g, cap, cur, hv, hg, hgk, hq⟩
  · exact .inl h0
  · exact .inr ⟨g, cap, cur, hv, hg, (Below.heap_setCell w ⟨r, i, none⟩ u g (by show g ≠ r; omega)).trans hgk, hq⟩
theorem own_below {w w1 : World} {B n : Nat} {v : Value} {xs : List Value} (hv : w.ownsRow B 5 1 v n xs) (hb : Below w.heap.size w w1) : w1.ownsRow B 5 1 v n xs := by
  refine ⟨hv.1, ?_⟩
  rcases hv.2 with h0 | ⟨g, cap, cur, hv, hg, hgk, hq⟩
  · exact .inl h0
  · exact .inr ⟨g, cap, cur, hv, hg, blk_below hgk hb, hq⟩
theorem decN_hi (n b0 b1 b2 b3 : Nat) (h : 128 ≤ b0) : 128 ≤ (Lib.decodeN n b0 b1 b2 b3).1 := by
  unfold Lib.decodeN
  repeat' split
  all_goals first | (exfalso; omega) | (simp only; omega)
theorem dec_hi (l : List UInt8) (h : 128 ≤ (l.getD 0 0).toNat) : 128 ≤ (Lib.decodeL l).1 := by
  rw [Lib.decodeL_N]
  exact decN_hi _ _ _ _ _ h
theorem dec_lo (l : List UInt8) (hne : l ≠ []) (h : (l.getD 0 0).toNat < 128) : Lib.decodeL l = ((l.getD 0 0).toNat, 1) := by
  rcases l with _ | ⟨a, l⟩
  · exact absurd rfl hne
  · exact Lib.decodeL_ascii a l h
theorem q_cases (l : List UInt8) (hne : l ≠ []) (rr m : Nat) (HD : Lib.decodeL l = (rr, m)) :
    (((wdL l).1 = 0 ∨ (wdL l).2 < 32 ∨ (wdL l).2 = 127) → (rr < 32 ∨ rr = 127) ∨ (rr = 65533 ∧ (l.take 3 == [239, 191, 189]) = false)) ∧
    (¬ ((wdL l).1 = 0 ∨ (wdL l).2 < 32 ∨ (wdL l).2 = 127) → wdL l = (m, rr) ∧ ¬ rr < 32 ∧ rr ≠ 127 ∧ (rr = 65533 → (l.take 3 == [239, 191, 189]) = true)) := by
  have hw := Lib.decodeL_width l
  rw [HD] at hw
  by_cases h0 : (wdL l).1 = 0
  · have hr : rr = 65533 := by
      by_cases hr : rr = 65533
      · exact hr
      · have h := wd_rune l (by rw [HD]; exact hr)
        rw [HD] at h
        rw [h] at h0
        simp only at h0 hw
        omega
    refine ⟨fun _ => .inr ⟨hr, (wd_bad l hne (by rw [HD]; exact hr)).1 h0⟩, fun hn => absurd (.inl h0) hn⟩
  · have h := wd_good l h0
    rw [HD] at h
    rw [h]
    refine ⟨fun hb => .inl ?_, fun hb => ⟨rfl, ?_, ?_, fun hr => ?_⟩⟩
    · rcases hb with hb | hb | hb
      · simp only at hb hw
        omega
      · exact .inl hb
      · exact .inr hb
    · exact fun hh => hb (.inr (.inl hh))
    · exact fun hh => hb (.inr (.inr hh))
    · cases hx : (l.take 3 == [239, 191, 189]) with
      | true => rfl
      | false => exact absurd ((wd_bad l hne (by rw [HD]; exact hr)).2 hx) h0
theorem give_at (a : Int) (n : Nat) (h : a = (n : Int)) (er : Int) (w : World) : Calls Tryz.prog 15 #[.int .i64 a, .int .i64 er] w fun e w' => Faults e n er ∧ w = w' := by
  subst h
  exact give_any n er w
theorem qS_step (s : ByteArray) (f k : Nat) (acc : List UInt8) : qS s (f + 1) k acc =
    if k < s.size then
      if cA s k = 34 then .ok (acc, k + 1)
      else if cA s k = 92 then match escS ((bl s).drop k) with
        | some (x, n) => qS s f (k + n) (acc ++ Lib.encodeRune (x : Int))
        | none => .error k
      else if (wdL ((bl s).drop k)).1 = 0 ∨ (wdL ((bl s).drop k)).2 < 32 ∨ (wdL ((bl s).drop k)).2 = 127 then .error k
      else qS s f (k + (wdL ((bl s).drop k)).1) (acc ++ Lib.encodeRune ((wdL ((bl s).drop k)).2 : Int))
    else .error s.size := rfl

set_option maxRecDepth 100000 in
set_option maxHeartbeats 2000000 in
theorem quoted_out (s : ByteArray) (hs : s.size ≤ 1000000) (r p : Nat) (hp : p < s.size) (w : World) (hr : Rd w r s p) (out : Except Nat (List UInt8 × Nat)) (hout : qS s (s.size + 1) (p + 1) [] = out) :
    Calls Tryz.prog 33 #[.pointer (some ⟨r, 0, none⟩)] w (QPost r s w out) := by
  have HOUT := Aside0.mk hout
  clear hout
  have HR := Aside0.mk hr
  have hrw : r < w.heap.size := blk_lt hr
  have HC := Aside0.mk (Ch.refl [r] w)
  clear hr
  have c0 := HR.out.c0
  have c1 := HR.out.c1
  have e1 : IntKind.i64.wrap ((p : Int) + 1) = (p : Int) + 1 := by rw [IntKind.wrap_i64]; omega
  have e2 : ((p : Int) + 1).toNat = p + 1 := by omega
  have e3 : (0 : Int) ≤ (p : Int) + 1 := by omega
  have e4 : (p : Int) + 1 ≤ (s.size : Int) := by omega
  go_enter Tryz.func33, Tryz.ntmps33
  go_upto_region 1 with fail
  refine wp_region_still_lit (by kernel_rfl) (by kernel_rfl) ?_
  repeat still_step
  refine wpStill_nil ?_
  change Exit.then _ _ Exit.normal _ w.drew
  have HR1 : Aside0 (Rd w.drew r s p) := ⟨HR.out⟩
  have HC1 := Aside0.mk HC.out.drew
  have hsz : w.drew.heap.size = w.heap.size := rfl
  clear c0 c1 HR HC e1 e2 e3 e4
  have c1 := HR1.out.c1
  go_upto_region 5 with fail
  have HO : Aside0 ((w.alloc (.cells #[] 5)).drew.ownsRow w.heap.size 5 1 (.slice (some ⟨w.heap.size, 0, none⟩) 0 0) 0 (Lib.byteCells [])) := ⟨World.ownsRow_lit w #[] 0 (Nat.le_refl _) (by decide) rfl⟩
  have HR2 : Aside0 (Rd (w.alloc (.cells #[] 5)).drew r s p) := ⟨blk_alloc HR1.out _⟩
  have HC2 : Aside0 (Ch [r] w (w.alloc (.cells #[] 5)).drew) := ⟨((Ch.refl [r] w).alloc _).drew⟩
  have hK2 : w.heap.size < (w.alloc (.cells #[] 5)).drew.heap.size := by simp
  clear c1 HR1 HC1 hsz
  generalize hv5 : (Value.slice (some ⟨w.heap.size, 0, none⟩) 0 0) = v0 at *
  clear hv5
  generalize (w.alloc (.cells #[] 5)).drew = w2 at *
  obtain ⟨b, hb⟩ : ∃ b, s.extract (p + 1) s.size = b := ⟨_, rfl⟩
  rw [hb]
  have hbs : b.size + (p + 1) ≤ s.size ∧ s.size ≤ b.size + (p + 1) := by
    have : b.size = s.size - (p + 1) := by rw [← hb]; simp
    omega
  have hbl : bl b = (bl s).drop (p + 1) := by rw [← hb]; exact bl_ext s (p + 1)
  have HBL := Aside0.mk hbl
  clear hb hbl
  go_upto_region 6 with fail
  have hit0 : Aside0 ((w2.iter b 0).heap[w2.heap.size]? = some (.stringIter b 0)) := ⟨World.iter_heap w2 b 0⟩
  have HO3 : Aside0 ((w2.iter b 0).ownsRow w.heap.size 5 1 v0 0 (Lib.byteCells [])) := ⟨HO.out.alloc _⟩
  have HR3 : Aside0 (Rd (w2.iter b 0) r s p) := ⟨blk_alloc HR2.out _⟩
  have HC3 : Aside0 (Ch [r] w (w2.iter b 0)) := ⟨HC2.out.alloc _⟩
  clear HO HR2 HC2
  generalize w2.iter b 0 = w3 at *
  generalize w2.heap.size = K at *
  go_loopg [5, 6] (b.size + 1) (fun kq v5 v6 wr => ∃ (pos c skip f : Nat) (acc : List UInt8), pos + c ≤ b.size ∧ kq = b.size + 1 - pos ∧ wr.ownsRow w.heap.size 5 1 v5 acc.length (Lib.byteCells acc) ∧ v6 = .int .i64 (skip : Int) ∧ ((c = 0 ∧ skip ≤ pos) ∨ skip = pos + c) ∧ skip ≤ 1000000 ∧ Aside0 (∀ j, j < c → cA s (p + 1 + (pos + j)) < 128) ∧ acc.length ≤ 4 * (pos + c) ∧ b.size < pos + c + f ∧ Aside0 (qS s f (p + 1 + (pos + c)) acc = out) ∧ wr.heap[K]? = some (.stringIter b pos) ∧ Aside0 (Rd wr r s p) ∧ Aside0 (Ch [r] w wr))
  case atStart => exact ⟨0, 0, 0, s.size + 1, [], by omega, rfl, HO3.out, rfl, .inl ⟨rfl, by omega⟩, by omega, ⟨fun j h => by omega⟩, by simp, by omega, HOUT, hit0.out, HR3, HC3⟩
  case round =>
    clear hit0 HO3 HR3 HC3 HOUT
    obtain ⟨pos, c, skip, f, acc, hpc, rfl, hown, rfl, hsk, hsk2, HAS, hal, hf, HQ, hit, HR, HC⟩ := hrel
    have HOW := Aside0.mk hown
    clear hown
    obtain ⟨f, rfl⟩ : ∃ q, f = q + 1 := ⟨f - 1, by omega⟩
    have hKlt : K < wr.heap.size := blk_lt hit
    by_cases hpos : pos < b.size
    · have hk : p + 1 + pos < s.size := by omega
      have hdl : (bl b).drop pos = (bl s).drop (p + 1 + pos) := by rw [HBL.out, List.drop_drop]
      have hne : (bl s).drop (p + 1 + pos) ≠ [] := fun e => by
        have := congrArg List.length e
        rw [List.length_drop, bl_length, List.length_nil] at this
        omega
      have hc0 : (((bl s).drop (p + 1 + pos)).getD 0 0).toNat = cA s (p + 1 + pos) := by rw [cA_drop]; rfl
      have hdec : Utf8.decode b pos = Lib.decodeL ((bl s).drop (p + 1 + pos)) := by rw [← hdl]; exact (Lib.decodeL_drop b pos).symm
      have hnx : ∀ ty, (Instr.next (.pointer (some ⟨K, 0, none⟩)) true ty).run Tryz.prog wr = _ := fun ty => Lib.run_next_any_at wr K b pos ty hit hpos
      rw [hdec] at hnx
      have hmw := Lib.decodeL_width ((bl s).drop (p + 1 + pos))
      have hml := Lib.decodeL_le _ hne
      rw [List.length_drop, bl_length] at hml
      have hrr := Lib.decodeL_rune ((bl s).drop (p + 1 + pos))
      obtain ⟨m, hm⟩ : ∃ m, (Lib.decodeL ((bl s).drop (p + 1 + pos))).2 = m := ⟨_, rfl⟩
      obtain ⟨rr, hr⟩ : ∃ rr, (Lib.decodeL ((bl s).drop (p + 1 + pos))).1 = rr := ⟨_, rfl⟩
      have HD : Aside0 (Lib.decodeL ((bl s).drop (p + 1 + pos)) = (rr, m)) := ⟨by rw [← hm, ← hr]⟩
      rw [hm] at hnx hmw hml
      rw [hr] at hnx hrr
      have HIi : Aside0 ((wr.iterAt K b (pos + m)).heap[K]? = some (.stringIter b (pos + m))) := ⟨Lib.iterAt_heap wr K b pos (pos + m) hit⟩
      have HOi : Aside0 ((wr.iterAt K b (pos + m)).ownsRow w.heap.size 5 1 u5 acc.length (Lib.byteCells acc)) := ⟨own_iterAt hit HOW.out⟩
      have HRi : Aside0 (Rd (wr.iterAt K b (pos + m)) r s p) := ⟨(Lib.iterAt_other wr K r b (pos + m) (by omega)).trans HR.out⟩
      have HCi : Aside0 (Ch [r] w (wr.iterAt K b (pos + m))) := ⟨HC.out.iterAt (by omega) b (pos + m)⟩
      have HC0 := Aside0.mk hc0
      have HNE := Aside0.mk hne
      have HDL := Aside0.mk hdl
      have hbig : ((rr : Nat) : Int) ≤ 1114111 := by omega
      clear hc0 hne hdl hdec hm hr HOW HR HC
      go_upto_region 8 with fail
      clear hnx hit
      generalize wr.iterAt K b (pos + m) = wi at *
      have hwi : w.heap.size ≤ wi.heap.size := HCi.out.size
      by_cases hc : c = 0
      · subst hc
        have hsp : skip ≤ pos := by omega
        have dsk : decide ((pos : Int) < (skip : Int)) = false := decide_eq_false (by omega)
        simp only [Nat.add_zero] at HQ hal hf
        rw [qS_step, if_pos hk] at HQ
        clear hsk HAS
        have hlo : cA s (p + 1 + pos) < 128 → rr = cA s (p + 1 + pos) ∧ m = 1 := fun h => by
          have := dec_lo _ HNE.out (by rw [HC0.out]; exact h)
          rw [HD.out, HC0.out] at this
          exact ⟨(Prod.mk.inj this).1, (Prod.mk.inj this).2⟩
        have hhi : 128 ≤ cA s (p + 1 + pos) → 128 ≤ rr := fun h => by
          have := dec_hi _ (by rw [HC0.out]; exact h)
          rw [HD.out] at this
          exact this
        have hbx : bl (b.extract pos b.size) = (bl s).drop (p + 1 + pos) := by rw [bl_ext, HDL.out]
        have HBX := Aside0.mk hbx
        clear hbx
        have hpb : (pos : Int) ≤ (b.size : Int) := by omega
        by_cases q34 : cA s (p + 1 + pos) = 34
        · rw [if_pos q34] at HQ
          obtain ⟨hr34, hm1⟩ := hlo (by omega)
          rw [q34] at hr34
          subst hr34 hm1
          obtain rfl : out = .ok (acc, p + 1 + pos + 1) := HQ.out.symm
          have c1 := HRi.out.c1
          have f1 := HRi.out.f 1
          clear HQ hlo hhi q34
          go_upto_region 12 with fail
          have hcv := conv_any _ w.heap.size u5 acc (own_set (i := 1) (u := .int .i64 ((p : Int) + 1 + (pos : Int) + 1)) HOi.out hrw)
          go_wp2
          go_ret
          refine ⟨rfl, ?_, HCi.out.set (by simp) 1 _⟩
          have hst := HRi.out.set (p + 1 + pos + 1)
          rw [show ((p + 1 + pos + 1 : Nat) : Int) = (p : Int) + 1 + (pos : Int) + 1 by omega] at hst
          exact hst
        · have n34 : ((rr : Int) == 34) = false := by
            have : rr ≠ 34 := fun e => by
              by_cases h : cA s (p + 1 + pos) < 128
              · exact q34 ((hlo h).1 ▸ e)
              · have := hhi (by omega)
                omega
            simp
            omega
          rw [if_neg q34] at HQ
          by_cases q92 : cA s (p + 1 + pos) = 92
          · rw [if_pos q92] at HQ
            obtain ⟨hr92, hm1⟩ := hlo (by omega)
            rw [q92] at hr92
            subst hr92 hm1
            clear hlo hhi n34 q34
            have hE := escape_any (b.extract pos b.size) (by rw [ByteArray.size_extract]; omega) wi
            rw [HBX.out] at hE
            have HE := Aside0.mk hE
            clear hE
            cases he : escS ((bl s).drop (p + 1 + pos)) with
            | none =>
              rw [he] at HE HQ
              obtain rfl : out = .error (p + 1 + pos) := HQ.out.symm
              clear HQ he
              go_wp2_with fail
              refine HE.out.mono ?_
              rintro e w4 ⟨rfl, hB4⟩
              have HC4 := Aside0.mk (HCi.out.then hB4)
              clear hB4 HE HCi
              rw [show escV none = .tuple #[.int .i32 0, .int .i64 0] from rfl]
              go_wp2_with fail
              refine (give_at _ (p + 1 + pos) (by omega) 121 _).mono ?_
              rintro e w5 ⟨rfl, rfl⟩
              go_wp2
              exact ⟨rfl, rfl, HC4.out⟩
            | some xn =>
              obtain ⟨x, n⟩ := xn
              rw [he] at HE HQ
              simp only at HQ
              obtain ⟨hn2, hnl, hn10, hna, hx⟩ := escS_is _ x n he
              rw [List.length_drop, bl_length] at hnl
              have HAS2 : Aside0 (∀ j, j < n - 1 → cA s (p + 1 + (pos + 1 + j)) < 128) := ⟨fun j hj => by
                have := hna (j + 1) (by omega) (by omega)
                rw [cA_drop] at this
                rwa [show p + 1 + pos + (j + 1) = p + 1 + (pos + 1 + j) by omega] at this⟩
              clear he hna
              go_wp2_with fail
              refine HE.out.mono ?_
              rintro e w4 ⟨rfl, hB4⟩
              have HC4 := Aside0.mk (HCi.out.then hB4)
              have HR4 : Aside0 (Rd w4 r s p) := ⟨blk_below HRi.out hB4⟩
              have HI4 := Aside0.mk (blk_below HIi.out hB4)
              have HO4 := Aside0.mk (own_below HOi.out hB4)
              have hw4 : w.heap.size ≤ w4.heap.size := HC4.out.size
              clear hB4 HE HCi HRi HIi HOi
              rw [show escV (some (x, n)) = .tuple #[.int .i32 (x : Int), .int .i64 (n : Int)] from rfl]
              have n0 : ((n : Int) == 0) = false := by simp; omega
              go_wp2_with fail
              refine (appRune_any w.heap.size u5 acc x hx w4 HO4.out (by omega) hw4).mono ?_
              rintro e w5 ⟨v', rfl, hown', o, hg⟩
              have HI5 := Aside0.mk (iter_grown HI4.out HO4.out hg)
              have HR5 : Aside0 (Rd w5 r s p) := ⟨blk_own HR4.out hrw HO4.out hg⟩
              have HC5 := Aside0.mk (Ch.grownV HC4.out hg HO4.out)
              have hel := enc_le (x : Int)
              have HOW5 := Aside0.mk hown'
              have hal5 : (acc ++ Lib.encodeRune (x : Int)).length ≤ 4 * (pos + 1 + (n - 1)) := by rw [List.length_append]; omega
              rw [show p + 1 + pos + n = p + 1 + (pos + 1 + (n - 1)) by omega] at HQ
              clear hg hown' HI4 HR4 HC4 HO4
              go_wp2
              go_roundg (b.size + 1 - (pos + 1))
              case measure => omega
              case rel => exact ⟨pos + 1, n - 1, pos + n, f, _, by omega, rfl, HOW5.out, by go_num, by omega, by omega, HAS2, hal5, by omega, HQ, HI5.out, HR5, HC5⟩
          · have n92 : ((rr : Int) == 92) = false := by
              have : rr ≠ 92 := fun e => by
                by_cases h : cA s (p + 1 + pos) < 128
                · exact q92 ((hlo h).1 ▸ e)
                · have := hhi (by omega)
                  omega
              simp
              omega
            rw [if_neg q92] at HQ
            obtain ⟨hqb, hqg⟩ := q_cases _ HNE.out rr m HD.out
            have HPX := Aside0.mk (hp_f (b.extract pos b.size) (⟨#[239, 191, 189]⟩ : ByteArray))
            rw [HBX.out] at HPX
            have e3 : (((bl s).drop (p + 1 + pos)).take (⟨#[239, 191, 189]⟩ : ByteArray).size == bl (⟨#[239, 191, 189]⟩ : ByteArray)) = (((bl s).drop (p + 1 + pos)).take 3 == [239, 191, 189]) := rfl
            rw [e3] at HPX
            clear e3 hlo hhi q34 q92
            by_cases hb : (wdL ((bl s).drop (p + 1 + pos))).1 = 0 ∨ (wdL ((bl s).drop (p + 1 + pos))).2 < 32 ∨ (wdL ((bl s).drop (p + 1 + pos))).2 = 127
            · rw [if_pos hb] at HQ
              obtain rfl : out = .error (p + 1 + pos) := HQ.out.symm
              have hcs := hqb hb
              clear HQ hqb hqg hb
              rcases hcs with (h32 | rfl) | ⟨rfl, hpx⟩
              · have d32 : decide ((rr : Int) < 32) = true := decide_eq_true (by omega)
                go_wp2_with fail
                refine (give_at _ (p + 1 + pos) (by omega) 121 _).mono ?_
                rintro e w5 ⟨rfl, rfl⟩
                go_wp2
                exact ⟨rfl, rfl, HCi.out⟩
              · go_wp2_with fail
                refine (give_at _ (p + 1 + pos) (by omega) 121 _).mono ?_
                rintro e w5 ⟨rfl, rfl⟩
                go_wp2
                exact ⟨rfl, rfl, HCi.out⟩
              · rw [hpx] at HPX
                clear hpx
                go_wp2_with fail
                refine (strings_HasPrefix.calls _ _ _ _ HPX.out).mono ?_
                rintro e w4 ⟨rfl, hD⟩
                have HC4 := Aside0.mk (HCi.out.then hD.below)
                clear hD HPX HCi
                go_wp2_with fail
                refine (give_at _ (p + 1 + pos) (by omega) 121 _).mono ?_
                rintro e w5 ⟨rfl, rfl⟩
                go_wp2
                exact ⟨rfl, rfl, HC4.out⟩
            · rw [if_neg hb] at HQ
              obtain ⟨hwd, h32, h127, hpx⟩ := hqg hb
              rw [hwd] at HQ
              simp only at HQ
              clear hqb hqg hb hwd
              have d32 : decide ((rr : Int) < 32) = false := decide_eq_false (by omega)
              have d127 : ((rr : Int) == 127) = false := by simp; omega
              have hel := enc_le (rr : Int)
              have hal5 : (acc ++ Lib.encodeRune (rr : Int)).length ≤ 4 * (pos + m + 0) := by rw [List.length_append]; omega
              rw [show p + 1 + pos + m = p + 1 + (pos + m + 0) by omega] at HQ
              have HAS2 : Aside0 (∀ j, j < 0 → cA s (p + 1 + (pos + m + j)) < 128) := ⟨fun j hj => by omega⟩
              by_cases hfd : rr = 65533
              · have HP2 := HPX
                rw [hpx hfd] at HP2
                clear HPX hpx
                subst hfd
                go_wp2_with fail
                refine (strings_HasPrefix.calls _ _ _ _ HP2.out).mono ?_
                rintro e w4 ⟨rfl, hD⟩
                have HC4 := Aside0.mk (HCi.out.then hD.below)
                have HR4 : Aside0 (Rd w4 r s p) := ⟨blk_below HRi.out hD.below⟩
                have HI4 := Aside0.mk (blk_below HIi.out hD.below)
                have HO4 := Aside0.mk (own_below HOi.out hD.below)
                have hw4 : w.heap.size ≤ w4.heap.size := HC4.out.size
                clear hD HP2 HCi HRi HIi HOi
                go_wp2_with fail
                refine (appRune_any w.heap.size u5 acc 65533 (by decide) w4 HO4.out (by omega) hw4).mono ?_
                rintro e w5 ⟨v', rfl, hown', o, hg⟩
                have HI5 := Aside0.mk (iter_grown HI4.out HO4.out hg)
                have HR5 : Aside0 (Rd w5 r s p) := ⟨blk_own HR4.out hrw HO4.out hg⟩
                have HC5 := Aside0.mk (Ch.grownV HC4.out hg HO4.out)
                have HOW5 := Aside0.mk hown'
                clear hg hown' HI4 HR4 HC4 HO4
                go_wp2
                go_roundg (b.size + 1 - (pos + m))
                case measure => omega
                case rel => exact ⟨pos + m, 0, skip, f, _, by omega, rfl, HOW5.out, rfl, by omega, hsk2, HAS2, hal5, by omega, HQ, HI5.out, HR5, HC5⟩
              · have nfd : ((rr : Int) == 65533) = false := by simp; omega
                clear HPX hpx
                go_wp2_with fail
                refine (appRune_any w.heap.size u5 acc rr hrr wi HOi.out (by omega) hwi).mono ?_
                rintro e w5 ⟨v', rfl, hown', o, hg⟩
                have HI5 := Aside0.mk (iter_grown HIi.out HOi.out hg)
                have HR5 : Aside0 (Rd w5 r s p) := ⟨blk_own HRi.out hrw HOi.out hg⟩
                have HC5 := Aside0.mk (Ch.grownV HCi.out hg HOi.out)
                have HOW5 := Aside0.mk hown'
                clear hg hown' HIi HRi HCi HOi
                go_wp2
                go_roundg (b.size + 1 - (pos + m))
                case measure => omega
                case rel => exact ⟨pos + m, 0, skip, f, _, by omega, rfl, HOW5.out, rfl, by omega, hsk2, HAS2, hal5, by omega, HQ, HI5.out, HR5, HC5⟩
      · have dsk : decide ((pos : Int) < (skip : Int)) = true := decide_eq_true (by omega)
        have h0 := HAS.out 0 (by omega)
        rw [Nat.add_zero] at h0
        have hm1 : m = 1 := by
          have := dec_lo _ HNE.out (by rw [HC0.out]; exact h0)
          rw [HD.out] at this
          exact (Prod.mk.inj this).2
        subst hm1
        have HAS2 : Aside0 (∀ j, j < c - 1 → cA s (p + 1 + (pos + 1 + j)) < 128) := ⟨fun j hj => by
          have := HAS.out (j + 1) (by omega)
          rwa [show pos + (j + 1) = pos + 1 + j by omega] at this⟩
        rw [show pos + c = pos + 1 + (c - 1) by omega] at HQ
        clear HAS h0
        go_wp2
        go_roundg (b.size + 1 - (pos + 1))
        case measure => omega
        case rel => exact ⟨pos + 1, c - 1, skip, f + 1, acc, by omega, rfl, HOi.out, rfl, by omega, hsk2, HAS2, by omega, by omega, HQ, HIi.out, HRi, HCi⟩
    · obtain rfl : c = 0 := by omega
      obtain rfl : pos = b.size := by omega
      have hnx : ∀ ty, (Instr.next (.pointer (some ⟨K, 0, none⟩)) true ty).run Tryz.prog wr = _ := fun ty => Lib.run_next_end_at wr K b b.size ty hit (by omega)
      rw [qS_step, if_neg (by omega)] at HQ
      obtain rfl : out = .error s.size := HQ.out.symm
      have c0 := HR.out.c0
      clear HQ HAS
      go_wp2_with fail
      refine (give_any s.size 121 wr).mono ?_
      rintro e w' ⟨rfl, rfl⟩
      go_wp2
      exact ⟨rfl, rfl, HC.out⟩
theorem quoted_any (s : ByteArray) (hs : s.size ≤ 1000000) (r p : Nat) (hp : p < s.size) (w : World) (hr : Rd w r s p) :
    Calls Tryz.prog 33 #[.pointer (some ⟨r, 0, none⟩)] w (QPost r s w (qS s (s.size + 1) (p + 1) [])) := quoted_out s hs r p hp w hr _ rfl
end Go.Proofs.YtfecfgimfjcbdaaGreatDoor.Cf
