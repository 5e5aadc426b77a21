/- conf.Status, walked. (Several texts in one: Plain words on lists of bytes, for the status line: how far two texts agree. No program in sight. · What the printed functions of the status line come to, in plain words. · oneOf: which of some words stands at a line's place. · The printed functions of the status line's numbers and words, in plain words. · The table of a status line's pieces, as the program makes it. · The reading of a status line, in plain words: the program's way, piece by piece. · Small laws of the walk: a struct stored over a whole block. · ParseStatus, walked. · strings.Builder in the call's own block, walked at this translation (copyCheck bears a refused statement here, so the shelf's contract does not lay; lines turned from the kit's worked Builder1). · conf.Status, walked.) -/
import Derived.Test.YtfecfgimfjcbdaaDoorWWords
import Derived.Test.YtfecfgimfjcbdaaDoorQCParseStatus0
import Derived.Test.YtfecfgimfjcbdaaDoorQCParseStatus1
import Derived.WalkLawsBesides
import Derived.WalkSpells
import Derived.BigRegion
import Derived.Test.YtfecfgimfjcbdaaDoorWLast
import Derived.StillTailTactics
import Derived.Test.YtfecfgimfjcbdaaDoorProg
import Derived.Lib.Builder
import Derived.Shelf.Strings.Builder1
import Derived.Test.YtfecfgimfjcbdaaDoorShelfA
import Derived.IntWalk
namespace Go.Proofs.YtfecfgimfjcbdaaDoor.Cf
open Go.RowKit Go.Proofs.YtfecfgimfjcbdaaDoorW.PrintWords

/-- How many bytes two lists begin with alike. -/
def com : List UInt8 → List UInt8 → Nat
  | a :: l, b :: t => if a = b then com l t + 1 else 0
  | _, _ => 0

theorem com_le_left : ∀ l t, com l t ≤ l.length
  | [], _ => by simp [com]
  | _ :: _, [] => by simp [com]
  | a :: l, b :: t => by
    have := com_le_left l t
    by_cases h : a = b <;> simp [com, h]; omega
theorem com_le_right : ∀ l t, com l t ≤ t.length
  | [], _ => by simp [com]
  | _ :: _, [] => by simp [com]
  | a :: l, b :: t => by
    have := com_le_right l t
    by_cases h : a = b <;> simp [com, h]; omega

/-- A string's bytes. -/
def bl (s : ByteArray) : List UInt8 := s.data.toList
theorem bl_length (s : ByteArray) : (bl s).length = s.size := data_length s
theorem bl_drop (s : ByteArray) (i : Nat) (h : i < s.size) : ∃ b : UInt8, (bl s).drop i = b :: (bl s).drop (i + 1) ∧ bt s (i : Int) = (b.toNat : Int) := by
  have h' : i < (bl s).length := by rw [bl_length]; exact h
  refine ⟨(bl s)[i], (List.drop_eq_getElem_cons h'), ?_⟩
  have := bt_at s (i : Int) (by simpa using h)
  rw [← this]
  simp [bl]
  rfl
theorem bt_ne {a b : UInt8} (h : a ≠ b) : ¬ ((a.toNat : Int) = (b.toNat : Int)) := fun e => h (UInt8.toNat.inj (by omega))
theorem wrap_id {i : Int} (h0 : -9223372036854775808 ≤ i) (h1 : i ≤ 9223372036854775807) : wrap64 i = i := by
  unfold wrap64
  omega
end Go.Proofs.YtfecfgimfjcbdaaDoor.Cf

namespace Go.Proofs.YtfecfgimfjcbdaaDoor.Cf
open Go.RowKit Go.Proofs.YtfecfgimfjcbdaaDoorW.PrintWords Go.Proofs.YtfecfgimfjcbdaaDoor.QCParseStatus

theorem literal_l0 (s t : ByteArray) (hs : s.size ≤ 1125899906842624) (ht : t.size ≤ 1125899906842624) (d : Nat) : ∀ (k i n : Nat), t.size - i = d → d < k → i ≤ t.size → n ≤ s.size →
    conf_line_literal.l0 k t (t.size : Int) (i : Int) s (n : Int) = some (decide (com ((bl s).drop n) ((bl t).drop i) = t.size - i), s, ((n + com ((bl s).drop n) ((bl t).drop i) : Nat) : Int)) := by
  induction d with
  | zero =>
    intro k i n hd hk hi hn
    obtain ⟨k, rfl⟩ : ∃ m, k = m + 1 := ⟨k - 1, by omega⟩
    have hie : i = t.size := by omega
    have e0 : (bl t).drop i = [] := List.drop_of_length_le (by rw [bl_length]; omega)
    simp only [conf_line_literal.l0]
    rw [if_neg (by omega), e0]
    simp [com]
    cases (bl s).drop n <;> simp [hie]
  | succ d ih =>
    intro k i n hd hk hi hn
    obtain ⟨k, rfl⟩ : ∃ m, k = m + 1 := ⟨k - 1, by omega⟩
    obtain ⟨b, hb, hbt⟩ := bl_drop t i (by omega)
    simp only [conf_line_literal.l0]
    rw [if_pos (by omega), hb]
    by_cases hlt : n < s.size
    · obtain ⟨a, ha, hat⟩ := bl_drop s n hlt
      rw [if_neg (by omega), if_pos (by omega), if_pos (by omega), if_pos (by omega), if_pos (by omega), hat, hbt, ha]
      by_cases hab : a = b
      · subst hab
        rw [if_pos rfl, wrap_id (by omega) (by omega), wrap_id (by omega) (by omega)]
        have h := ih k (i + 1) (n + 1) (by omega) (by omega) (by omega) (by omega)
        rw [show ((i : Int) + 1) = ((i + 1 : Nat) : Int) by omega, show ((n : Int) + 1) = ((n + 1 : Nat) : Int) by omega, h]
        simp only [com, if_true]
        congr 2
        · congr 1
          apply propext
          omega
        · congr 1
          omega
      · rw [if_neg (bt_ne hab)]
        simp only [com, if_neg hab]
        rw [decide_eq_false (by omega)]
        rfl
    · have e0 : (bl s).drop n = [] := List.drop_of_length_le (by rw [bl_length]; omega)
      rw [if_pos (by omega), e0]
      have hz : ∀ x, com [] x = 0 := fun x => by cases x <;> rfl
      rw [hz, decide_eq_false (by omega)]
      rfl

/-- A line's state: its text and the place. -/
def IsLine (w0 w : World) (g : Nat) (s : ByteArray) (n : Nat) : Prop := IsS91 w0 w g s (n : Int)

theorem literal_any (w0 w : World) (g n : Nat) (s t : ByteArray) (hs : s.size ≤ 1125899906842624) (ht : t.size ≤ 1125899906842624) (hn : n ≤ s.size) (hI : IsLine w0 w g s n) (hB : Below w0.heap.size w0 w) :
    Calls Tryd.prog 48 #[.pointer (some ⟨g, 0, none⟩), .string t] w fun e w' =>
      e = .returned (.bool (decide (com ((bl s).drop n) (bl t) = t.size))) ∧ IsLine w0 w' g s (n + com ((bl s).drop n) (bl t)) ∧ Below w0.heap.size w0 w' ∧ KeepBut w w' g none := by
  have h := literal_l0 s t hs ht t.size (t.size + 1) 0 n (by omega) (by omega) (by omega) hn
  simp only [List.drop_zero, Nat.sub_zero] at h
  exact conf_line_literal.calls (t.size + 1) g s (n : Int) t _ _ _ w0 w hI hB h
end Go.Proofs.YtfecfgimfjcbdaaDoor.Cf

namespace Go.Proofs.YtfecfgimfjcbdaaDoor.Cf
open Go.RowKit Go.Proofs.YtfecfgimfjcbdaaDoorW.PrintWords Go.Proofs.YtfecfgimfjcbdaaDoorW.PrintLast Go.Proofs.YtfecfgimfjcbdaaDoorW.PrintMore Go.Proofs.YtfecfgimfjcbdaaDoor.QCParseStatus
attribute [local go_sem] max2_int min2_int

/-- The first of the words that stands at l's beginning; else how far the words and l go together. -/
def pick (l : List UInt8) : List ByteArray → Nat → Nat → Nat × Option Nat
  | [], _, far => (far, none)
  | x :: xs, i, far => if com l (bl x) = x.size then (x.size, some i) else pick l xs (i + 1) (max far (com l (bl x)))

theorem below_keep {w0 w wq w1 : World} {g : Nat} (hW : Below w.heap.size w wq) (hB : Below w0.heap.size w0 wq) (hB1 : Below w0.heap.size w0 w1) (hK : KeepBut wq w1 g none) (hg : w.heap.size ≤ g) : Below w.heap.size w w1 :=
  ⟨hB1.os.trans (hB.os.symm.trans hW.os), hB1.tape.trans (hB.tape.symm.trans hW.tape), hB1.output.trans (hB.output.symm.trans hW.output), Nat.le_trans hW.size hK.1, fun i hi => (hK.2 i (Nat.lt_of_lt_of_le hi hW.size) (by omega) (by simp)).trans (hW.block i hi)⟩
theorem keep_keep {w wq w1 : World} {g gt : Nat} (h : KeepBut w wq g none) (k : KeepBut wq w1 gt none) (hg : w.heap.size ≤ gt) : KeepBut w w1 g none :=
  ⟨Nat.le_trans h.1 k.1, fun i hi h1 h2 => (k.2 i (Nat.lt_of_lt_of_le hi h.1) (by omega) h2).trans (h.2 i hi h1 h2)⟩

set_option maxRecDepth 100000 in
set_option maxHeartbeats 1000000 in
theorem oneOf_any (w0 w : World) (g n : Nat) (s : ByteArray) (A : Option Addr) (c : Nat) (ws : List ByteArray) (hs : s.size ≤ 1125899906842624) (hws : ∀ x ∈ ws, x.size ≤ 1125899906842624) (hn : n ≤ s.size) (hwl : ws.length ≤ 1000)
    (hr : Kd.C Kd.string w A ws.length ws) (hI : IsLine w0 w g s n) (hB : Below w0.heap.size w0 w) :
    Calls Tryd.prog 50 #[.pointer (some ⟨g, 0, none⟩), .slice A ws.length c] w fun e w' =>
      e = .returned (.tuple #[.int .i64 (((pick ((bl s).drop n) ws 0 0).2.getD 0 : Nat) : Int), .bool (pick ((bl s).drop n) ws 0 0).2.isSome]) ∧ IsLine w0 w' g s (n + (pick ((bl s).drop n) ws 0 0).1) ∧ Below w0.heap.size w0 w' ∧ KeepBut w w' g none := by
  have HB := Aside0.mk hB
  have HI := Aside0.mk hI
  have c0 : w.cell? ⟨g, 0, none⟩ = some (.string s) := cellS91_0 hI.1
  have c1 : w.cell? ⟨g, 1, none⟩ = some (.int .i64 n) := cellS91_1 hI.1
  clear hB hI
  go_enter Tryd.func50, Tryd.ntmps50
  go_wp2
  go_loopg [6, 16] ws.length (fun kq v6 v16 w' => ∃ (j far : Nat), j ≤ ws.length ∧ kq = ws.length - j ∧ v6 = .int .i64 (n + far : Nat) ∧ v16 = .int .i64 j ∧ far ≤ s.size - n ∧ Aside0 (pick ((bl s).drop n) (ws.drop j) j far = pick ((bl s).drop n) ws 0 0) ∧ Aside0 (IsLine w0 w' g s n) ∧ Aside0 (Below w0.heap.size w0 w') ∧ Aside0 (KeepBut w w' g none) ∧ Aside0 (Below w.heap.size w w'))
  case atStart => exact ⟨0, 0, by omega, by omega, rfl, rfl, by omega, ⟨rfl⟩, HI, HB, ⟨KeepBut.refl w g none⟩, ⟨Below.refl _ _⟩⟩
  case round =>
    clear HB HI c0 c1
    obtain ⟨j, far, hj, rfl, rfl, rfl, hfar, HP, HI, HB, HK, HW⟩ := hrel
    have c0 : wr.cell? ⟨g, 0, none⟩ = some (.string s) := cellS91_0 HI.out.1
    have c1 : wr.cell? ⟨g, 1, none⟩ = some (.int .i64 n) := cellS91_1 HI.out.1
    by_cases hlt : j < ws.length
    · have hltb : decide ((j : Int) < (ws.length : Int)) = true := decide_eq_true (by omega)
      obtain ⟨ad, hA, hx⟩ := Kd.at_string (Kd.C_below hr HW.out) (j : Int) (by omega) (by omega)
      cases hA
      rw [Int.toNat_natCast] at hx
      generalize hxe : rdOf ByteArray.empty ws (j : Int) = x at hx
      have hgl : g < wr.heap.size := blk_lt HI.out.1
      go_wp2
      go_region
      have hdj : ws.drop j = x :: ws.drop (j + 1) := by
        rw [List.drop_eq_getElem_cons hlt, ← hxe]
        simp [rdOf, hlt]
      have hxm : x ∈ ws := List.mem_of_mem_drop (i := j) (by rw [hdj]; exact List.mem_cons_self)
      have hcl := com_le_left ((bl s).drop n) (bl x)
      have hcr := com_le_right ((bl s).drop n) (bl x)
      rw [List.length_drop, bl_length] at hcl
      rw [bl_length] at hcr
      have hwx := hws x hxm
      go_wp2_with fail
      generalize hwq : (wr.alloc (Obj.cells #[Value.string s, Value.int IntKind.i64 (n : Int)] 91)).drew = wq
      have hIq : IsLine w0 wq g s n := by subst hwq; exact IsS91.drew (IsS91.alloc HI.out _)
      have hIt : IsLine w0 wq wr.heap.size s n := by subst hwq; exact IsS91.drew (IsS91.new w0 wr s n HB.out)
      have hBq : Below w0.heap.size w0 wq := by subst hwq; exact below_drew (below_alloc HB.out _)
      have hKq : KeepBut w wq g none := by subst hwq; exact keep_drew (keep_alloc HK.out _)
      have hWq : Below w.heap.size w wq := by subst hwq; exact below_drew (below_alloc HW.out _)
      have hgn : g ≠ wr.heap.size := by omega
      refine (literal_any w0 _ _ n s x hs hwx hn hIt hBq).mono ?_
      rintro e w1 ⟨rfl, hI1, hB1, hK1⟩
      have hIg : IsLine w0 w1 g s n := ⟨hK1.blk hIq.1 hgn (by simp), hIq.2⟩
      have HW1 : Aside0 (Below w.heap.size w w1) := ⟨below_keep hWq hBq hB1 hK1 HW.out.size⟩
      have HKw : Aside0 (KeepBut w w1 g none) := ⟨keep_keep hKq hK1 HW.out.size⟩
      have HIg := Aside0.mk hIg
      have HI1 := Aside0.mk hI1
      have HB1 := Aside0.mk hB1
      clear hIq hIt hBq hKq hWq hK1 hIg hB1 c0 c1 hx HK HW HB HI hwq hxe
      have c0 : w1.cell? ⟨wr.heap.size, 1, none⟩ = some (.int .i64 (n + com ((bl s).drop n) (bl x) : Nat)) := cellS91_1 hI1.1
      have f1 : w1.frozen? ⟨g, 1, none⟩ = false := blk_frozen HIg.out.1 1
      have c1 : w1.cell? ⟨g, 1, none⟩ = some (.int .i64 n) := cellS91_1 HIg.out.1
      clear hI1
      have HD := Aside0.mk hdj
      clear hdj
      generalize hme0 : com ((bl s).drop n) (bl x) = m at *
      have hme := Aside0.mk hme0
      clear hme0
      by_cases hm : m = x.size
      · have hmb : decide (m = x.size) = true := decide_eq_true hm
        have hmx := Aside0.mk hm
        clear hm
        go_wp2
        go_ret2
        have hp : pick ((bl s).drop n) ws 0 0 = (x.size, some j) := by rw [← HP.out, HD.out]; simp only [pick]; rw [if_pos (hme.out.trans hmx.out)]
        rw [hp]
        exact ⟨rfl, by rw [← hmx.out]; exact IsS91.set_1 HIg.out _, below_set HB1.out HIg.out.2, KeepBut.set_ HKw.out 1 _⟩
      · have hmb : decide (m = x.size) = false := decide_eq_false hm
        have hp : pick ((bl s).drop n) (ws.drop (j + 1)) (j + 1) (max far m) = pick ((bl s).drop n) ws 0 0 := by rw [← HP.out, HD.out]; simp only [pick]; rw [if_neg (by rw [hme.out]; exact hm), hme.out]
        have HP' := Aside0.mk hp
        clear hm hp
        by_cases hf : far < m
        · go_wp2
          go_roundg (ws.length - (j + 1))
          case measure => omega
          case rel => exact ⟨j + 1, max far m, by omega, rfl, by rw [Nat.max_eq_right (by omega)]; go_num, by go_num, by omega, HP', HIg, HB1, HKw, HW1⟩
        · go_wp2
          go_roundg (ws.length - (j + 1))
          case measure => omega
          case rel => exact ⟨j + 1, max far m, by omega, rfl, by rw [Nat.max_eq_left (by omega)]; go_num, by go_num, by omega, HP', HIg, HB1, HKw, HW1⟩
    · have hltb : decide ((j : Int) < (ws.length : Int)) = false := decide_eq_false (by omega)
      have f1 : wr.frozen? ⟨g, 1, none⟩ = false := blk_frozen HI.out.1 1
      go_wp2
      go_ret2
      have hp : pick ((bl s).drop n) ws 0 0 = (far, none) := by rw [← HP.out, List.drop_of_length_le (show ws.length ≤ j by omega)]; rfl
      rw [hp]
      exact ⟨rfl, IsS91.set_1 HI.out _, below_set HB.out HI.out.2, KeepBut.set_ HK.out 1 _⟩
end Go.Proofs.YtfecfgimfjcbdaaDoor.Cf

namespace Go.Proofs.YtfecfgimfjcbdaaDoor.Cf
open Go.RowKit Go.Proofs.YtfecfgimfjcbdaaDoorW.PrintWords Go.Proofs.YtfecfgimfjcbdaaDoor.QCParseStatus

/-- The greatest number. -/
@[irreducible] def MX : Nat := 9223372036854775807
theorem MX_eq : MX = 9223372036854775807 := by unfold MX; rfl

/-- The digits that can stand at the beginning of l, k of them having stood, of the value n: how many have stood then, their value, and whether a digit follows that cannot stand. -/
def nm : List UInt8 → Nat → Nat → Nat × Nat × Bool
  | [], k, n => (k, n, false)
  | b :: l, k, n => if 48 ≤ b.toNat ∧ b.toNat ≤ 57 then (if 0 < k ∧ n = 0 ∨ MX < 10 * n + (b.toNat - 48) then (k, n, true) else nm l (k + 1) (10 * n + (b.toNat - 48))) else (k, n, false)

theorem nm_ge : ∀ (l : List UInt8) (k n : Nat), k ≤ (nm l k n).1 ∧ (nm l k n).1 ≤ k + l.length
  | [], k, n => by simp [nm]
  | b :: l, k, n => by
    simp only [nm]
    split
    · split
      · simp
      · have := nm_ge l (k + 1) (10 * n + (b.toNat - 48))
        simp only [List.length_cons]; omega
    · simp
theorem nm_lt : ∀ (l : List UInt8) (k n : Nat), n ≤ MX → (nm l k n).2.1 ≤ MX
  | [], k, n, h => by simpa [nm] using h
  | b :: l, k, n, h => by
    simp only [nm]
    split
    · split
      · exact h
      · rename_i hd hs
        exact nm_lt l (k + 1) _ (by omega)
    · exact h

theorem wrap_small (x : Int) (h0 : 0 ≤ x) (h1 : x ≤ 9223372036854775807) : wrap64 x = x := wrap_id (by omega) h1
theorem mod256 (b : UInt8) (h : 48 ≤ b.toNat) : ((b.toNat : Int) - 48) % 256 = ((b.toNat - 48 : Nat) : Int) := by
  have := b.toNat_lt
  omega

theorem over_iff (n d : Nat) (_ : d ≤ 9) : ((n : Int) > (9223372036854775807 - (d : Int)) / 10) ↔ MX < 10 * n + d := by rw [MX_eq]; omega
theorem wrap_10 (n d : Nat) (h : ¬ MX < 10 * n + d) : wrap64 (wrap64 (10 * (n : Int)) + (d : Int)) = ((10 * n + d : Nat) : Int) := by
  rw [MX_eq] at h
  rw [wrap_small (10 * (n : Int)) (by omega) (by omega), wrap_small (10 * (n : Int) + (d : Int)) (by omega) (by omega)]
  omega
theorem wrap_1 (n : Nat) (h : n ≤ 1125899906842624) : wrap64 ((n : Int) + 1) = ((n + 1 : Nat) : Int) := by
  rw [wrap_small ((n : Int) + 1) (by omega) (by omega)]
  omega

theorem nm_stop {b : UInt8} {l : List UInt8} {k n : Nat} (h : ¬ (48 ≤ b.toNat ∧ b.toNat ≤ 57)) : nm (b :: l) k n = (k, n, false) := by simp only [nm]; rw [if_neg h]
theorem nm_stuck {b : UInt8} {l : List UInt8} {k n : Nat} (h : 48 ≤ b.toNat ∧ b.toNat ≤ 57) (hs : 0 < k ∧ n = 0 ∨ MX < 10 * n + (b.toNat - 48)) : nm (b :: l) k n = (k, n, true) := by simp only [nm]; rw [if_pos h, if_pos hs]
theorem nm_on {b : UInt8} {l : List UInt8} {k n : Nat} (h : 48 ≤ b.toNat ∧ b.toNat ≤ 57) (hs : ¬ (0 < k ∧ n = 0 ∨ MX < 10 * n + (b.toNat - 48))) : nm (b :: l) k n = nm l (k + 1) (10 * n + (b.toNat - 48)) := by simp only [nm]; rw [if_pos h, if_neg hs]

def nval (t : Nat × Nat × Bool) : Int := if t.2.2 = true then 0 else (t.2.1 : Int)
def nok (t : Nat × Nat × Bool) : Bool := decide (0 < t.1) && !t.2.2

theorem number_l0 (s : ByteArray) (hs : s.size ≤ 1125899906842624) (f : Nat) (d : Nat) : ∀ (r k n : Nat), s.size - (f + k) = d → 2 * d + 1 < r → f + k ≤ s.size → n ≤ MX →
    conf_line_number.l0 r (f : Int) (n : Int) s ((f + k : Nat) : Int) = some (nval (nm ((bl s).drop (f + k)) k n), nok (nm ((bl s).drop (f + k)) k n), s, ((f + (nm ((bl s).drop (f + k)) k n).1 : Nat) : Int)) := by
  induction d with
  | zero =>
    intro r k n hd hr hk hn
    obtain ⟨r, rfl⟩ : ∃ m, r = m + 2 := ⟨r - 2, by omega⟩
    have e0 : (bl s).drop (f + k) = [] := List.drop_of_length_le (by rw [bl_length]; omega)
    simp only [conf_line_number.l0, conf_line_number.j1]
    rw [if_neg (by omega), e0]
    rw [if_neg (by simp)]
    simp only [nm, nval, nok]
    simp
    exact decide_eq_decide.2 (by omega)
  | succ d ih =>
    intro r k n hd hr hk hn
    obtain ⟨r, rfl⟩ : ∃ m, r = m + 2 := ⟨r - 2, by omega⟩
    obtain ⟨b, hb, hbt⟩ := bl_drop s (f + k) (by omega)
    have hb256 := b.toNat_lt
    simp only [conf_line_number.l0]
    rw [if_pos (by omega), if_pos (by omega), hb, hbt]
    have hdg : conf_digit.f (b.toNat : Int) = some (decide (48 ≤ b.toNat ∧ b.toNat ≤ 57)) := by
      unfold conf_digit.f
      by_cases h1 : 48 ≤ b.toNat
      · rw [if_pos (by omega)]
        congr 1
        exact decide_eq_decide.2 (by omega)
      · rw [if_neg (by omega), decide_eq_false (by omega)]
    rw [hdg]
    simp only [Option.bind_some, conf_line_number.j1]
    by_cases hD : 48 ≤ b.toNat ∧ b.toNat ≤ 57
    · rw [if_pos (decide_eq_true hD), if_pos (by omega), if_pos (by omega), hbt, mod256 b hD.1]
      by_cases hS : 0 < k ∧ n = 0 ∨ MX < 10 * n + (b.toNat - 48)
      · rw [nm_stuck hD hS]
        by_cases hk0 : 0 < k
        · rw [if_pos (by omega)]
          by_cases hn0 : n = 0
          · rw [if_pos (by omega)]
            simp [nval, nok]
          · rw [if_neg (by omega), if_pos ((over_iff n _ (by omega)).2 (hS.resolve_left (fun h => hn0 h.2)))]
            simp [nval, nok]
        · rw [if_neg (by omega), if_pos ((over_iff n _ (by omega)).2 (hS.resolve_left (fun h => hk0 h.1)))]
          simp [nval, nok]
      · rw [nm_on hD hS]
        have hO : ¬ MX < 10 * n + (b.toNat - 48) := fun h => hS (.inr h)
        have hOi := mt (over_iff n (b.toNat - 48) (by omega)).1 hO
        have h := ih r (k + 1) (10 * n + (b.toNat - 48)) (by omega) (by omega) (by omega) (by omega)
        rw [show f + k + 1 = f + (k + 1) by omega]
        have ek : k = 0 ∨ 0 < k := by omega
        have e2 := wrap_10 n (b.toNat - 48) hO
        have e3 : wrap64 (((f + k : Nat) : Int) + 1) = ((f + (k + 1) : Nat) : Int) := wrap_1 (f + k) (by omega)
        rw [e2, e3]
        clear e2 e3
        rcases ek with hk0 | hk0
        · rw [if_neg (by omega), if_neg hOi]
          exact h
        · rw [if_pos (by omega), if_neg (fun h => hS (.inl ⟨hk0, by omega⟩)), if_neg hOi]
          exact h
    · rw [if_neg (by rw [decide_eq_false hD]; simp), nm_stop hD]
      simp [nval, nok]
      omega

theorem number_any (w0 w : World) (g n : Nat) (s : ByteArray) (hs : s.size ≤ 1125899906842624) (hn : n ≤ s.size) (hI : IsLine w0 w g s n) (hB : Below w0.heap.size w0 w) :
    Calls Tryd.prog 49 #[.pointer (some ⟨g, 0, none⟩)] w fun e w' =>
      e = .returned (.tuple #[.int .i64 (nval (nm ((bl s).drop n) 0 0)), .bool (nok (nm ((bl s).drop n) 0 0))]) ∧ IsLine w0 w' g s (n + (nm ((bl s).drop n) 0 0).1) ∧ Below w0.heap.size w0 w' ∧ KeepBut w w' g none := by
  have h := number_l0 s hs n (s.size - n) (2 * (s.size - n) + 2) 0 0 (by omega) (by omega) (by omega) (by omega)
  simp only [Nat.add_zero] at h
  exact conf_line_number.calls (2 * (s.size - n) + 2) g s (n : Int) _ _ _ _ w0 w hI hB h
end Go.Proofs.YtfecfgimfjcbdaaDoor.Cf

namespace Go.Proofs.YtfecfgimfjcbdaaDoor.Cf
open Go.RowKit Go.Proofs.YtfecfgimfjcbdaaDoorW.PrintWords Go.Proofs.YtfecfgimfjcbdaaDoorW.PrintLast Go.Proofs.YtfecfgimfjcbdaaDoorW.PrintMore Go.Proofs.YtfecfgimfjcbdaaDoor.QCParseStatus

def cConn : List ByteArray := [(⟨#[83, 116, 97, 110, 100, 65, 108, 111, 110, 101]⟩ : ByteArray), (⟨#[67, 111, 110, 110, 101, 99, 116, 105, 110, 103]⟩ : ByteArray), (⟨#[71, 114, 101, 101, 116, 105, 110, 103]⟩ : ByteArray), (⟨#[67, 111, 110, 110, 101, 99, 116, 101, 100]⟩ : ByteArray), (⟨#[83, 121, 110, 99, 83, 111, 117, 114, 99, 101]⟩ : ByteArray), (⟨#[83, 121, 110, 99, 84, 97, 114, 103, 101, 116]⟩ : ByteArray), (⟨#[86, 101, 114, 105, 102, 121, 83, 111, 117, 114, 99, 101]⟩ : ByteArray), (⟨#[86, 101, 114, 105, 102, 121, 84, 97, 114, 103, 101, 116]⟩ : ByteArray)]
def cRoles : List ByteArray := [(⟨#[83, 101, 99, 111, 110, 100, 97, 114, 121]⟩ : ByteArray), (⟨#[80, 114, 105, 109, 97, 114, 121]⟩ : ByteArray), (⟨#[85, 110, 107, 110, 111, 119, 110]⟩ : ByteArray)]
def cDisks : List ByteArray := [(⟨#[73, 110, 99, 111, 110, 115, 105, 115, 116, 101, 110, 116]⟩ : ByteArray), (⟨#[79, 117, 116, 100, 97, 116, 101, 100]⟩ : ByteArray), (⟨#[85, 112, 84, 111, 68, 97, 116, 101]⟩ : ByteArray), (⟨#[68, 85, 110, 107, 110, 111, 119, 110]⟩ : ByteArray)]
def cProt : List ByteArray := [(⟨#[65]⟩ : ByteArray), (⟨#[66]⟩ : ByteArray), (⟨#[67]⟩ : ByteArray)]

/-- A slice of strings over a block from B on, of which more than the slice may be there. -/
def StrBlk (w : World) (B : Nat) (v : Value) (ws : List ByteArray) : Prop :=
  ∃ (gw c : Nat) (rest : List ByteArray), v = .slice (some ⟨gw, 0, none⟩) ws.length c ∧ ws.length ≤ c ∧ ws.length ≤ 1000 ∧ B ≤ gw ∧ w.heap[gw]? = some (.cells ((ws ++ rest).map Value.string).toArray 9 (0, 0))

theorem StrBlk.keep {w w1 : World} {B : Nat} {v : Value} {ws : List ByteArray} (h : StrBlk w B v ws) (hk : ∀ k, B ≤ k → k < w.heap.size → w1.heap[k]? = w.heap[k]?) : StrBlk w1 B v ws := by
  obtain ⟨gw, c, rest, rfl, hc, hl, hB, hb⟩ := h
  exact ⟨gw, c, rest, rfl, hc, hl, hB, (hk gw hB (blk_lt hb)).trans hb⟩
theorem StrBlk.reads {w : World} {B : Nat} {v : Value} {ws : List ByteArray} (h : StrBlk w B v ws) : ∃ ad c, v = .slice (some ad) ws.length c ∧ Kd.C Kd.string w (some ad) ws.length ws := by
  obtain ⟨gw, c, rest, rfl, hc, hl, hB, hb⟩ := h
  refine ⟨_, c, rfl, rfl, by omega, fun _ => ⟨_, rfl, fun j p hj => ⟨[.string p], rfl, rfl, fun i u hu => ?_⟩⟩⟩
  have hi : i = 0 := by
    rcases i with _ | i
    · rfl
    · simp at hu
  subst hi
  have hj' : j < ws.length := (List.getElem?_eq_some_iff.1 hj).1
  rw [show Kd.string.sz = 1 from rfl, show j * 1 + 0 = j by omega, add_plain, blk_cell hb j]
  rw [← hu, List.getElem?_toArray, List.getElem?_map, List.getElem?_append_left hj', hj]
  rfl

/-- The 15 pieces: what stands ahead, the words (or none), what the first of them stands for. -/
def cTab : List (ByteArray × Option (List ByteArray) × Int) :=
  [((⟨#[99, 115, 58]⟩ : ByteArray), some cConn, 0), ((⟨#[32, 114, 111, 58]⟩ : ByteArray), some (cRoles.take 2), 0), ((⟨#[47]⟩ : ByteArray), some cRoles, 0), ((⟨#[32, 100, 115, 58]⟩ : ByteArray), some (cDisks.take 3), 0), ((⟨#[47]⟩ : ByteArray), some cDisks, 0), ((⟨#[32]⟩ : ByteArray), some cProt, 1),
   ((⟨#[32, 110, 115, 58]⟩ : ByteArray), none, 0), ((⟨#[32, 110, 114, 58]⟩ : ByteArray), none, 0), ((⟨#[32, 100, 119, 58]⟩ : ByteArray), none, 0), ((⟨#[32, 100, 114, 58]⟩ : ByteArray), none, 0), ((⟨#[32, 97, 108, 58]⟩ : ByteArray), none, 0), ((⟨#[32, 97, 112, 58]⟩ : ByteArray), none, 0), ((⟨#[32, 117, 97, 58]⟩ : ByteArray), none, 0), ((⟨#[32, 101, 112, 58]⟩ : ByteArray), none, 0), ((⟨#[32, 111, 111, 115, 58]⟩ : ByteArray), none, 0)]

/-- Piece i of the table over block g. -/
def Piece (w : World) (B g i : Nat) (t : ByteArray × Option (List ByteArray) × Int) : Prop :=
  w.cell? ⟨g, i * 4, none⟩ = some (.string t.1) ∧ (∃ v, w.cell? ⟨g, i * 4 + 1, none⟩ = some v ∧ match t.2.1 with | some ws => StrBlk w B v ws | none => v = .slice none 0 0) ∧
  w.cell? ⟨g, i * 4 + 2, none⟩ = some (.int .i64 t.2.2) ∧ w.cell? ⟨g, i * 4 + 3, none⟩ = some (.func (.func (79 + i)) #[] #[])

theorem three_new {w w2 : World} {n : Nat} (A B T : Obj) (hb : Below n w w2) (hn : n ≤ w2.heap.size) :
    (((w2.alloc A).alloc B).alloc T).drew.heap[w2.heap.size]? = some A ∧ (((w2.alloc A).alloc B).alloc T).drew.heap[w2.heap.size + 1]? = some B ∧ (((w2.alloc A).alloc B).alloc T).drew.heap[w2.heap.size + 1 + 1]? = some T ∧
    (∀ (k : Nat) (o : Obj), w2.heap[k]? = some o → (((w2.alloc A).alloc B).alloc T).drew.heap[k]? = some o) ∧ Below n w (((w2.alloc A).alloc B).alloc T).drew := by
  have e1 : (w2.alloc A).heap.size = w2.heap.size + 1 := by simp
  have e2 : ((w2.alloc A).alloc B).heap.size = w2.heap.size + 1 + 1 := by simp
  refine ⟨blk_alloc (blk_alloc (blk_new w2 A) B) T, ?_, ?_, fun k o h => blk_alloc (blk_alloc (blk_alloc h A) B) T, below_drew ((((hb.alloc hn A).alloc (by omega) B)).alloc (by omega) T)⟩
  · rw [← e1]; exact blk_alloc (blk_new (w2.alloc A) B) T
  · rw [← e2]; exact blk_new ((w2.alloc A).alloc B) T

set_option maxRecDepth 100000 in
set_option maxHeartbeats 4000000 in
theorem parts_blk (w : World) : Calls Tryd.prog 41 #[] w fun e w' => ∃ (g : Nat) (v0 v1 v2 v3 v4 v5 : Value), e = .returned (.slice (some ⟨g, 0, none⟩) 15 15) ∧ w.heap.size ≤ g ∧ Below w.heap.size w w' ∧
    w'.heap[g]? = some (.cells #[.string (⟨#[99, 115, 58]⟩ : ByteArray), v0, .int .i64 0, .func (.func 79) #[] #[], .string (⟨#[32, 114, 111, 58]⟩ : ByteArray), v1, .int .i64 0, .func (.func 80) #[] #[], .string (⟨#[47]⟩ : ByteArray), v2, .int .i64 0, .func (.func 81) #[] #[], .string (⟨#[32, 100, 115, 58]⟩ : ByteArray), v3, .int .i64 0, .func (.func 82) #[] #[], .string (⟨#[47]⟩ : ByteArray), v4, .int .i64 0, .func (.func 83) #[] #[], .string (⟨#[32]⟩ : ByteArray), v5, .int .i64 1, .func (.func 84) #[] #[], .string (⟨#[32, 110, 115, 58]⟩ : ByteArray), .slice none 0 0, .int .i64 0, .func (.func 85) #[] #[], .string (⟨#[32, 110, 114, 58]⟩ : ByteArray), .slice none 0 0, .int .i64 0, .func (.func 86) #[] #[], .string (⟨#[32, 100, 119, 58]⟩ : ByteArray), .slice none 0 0, .int .i64 0, .func (.func 87) #[] #[], .string (⟨#[32, 100, 114, 58]⟩ : ByteArray), .slice none 0 0, .int .i64 0, .func (.func 88) #[] #[], .string (⟨#[32, 97, 108, 58]⟩ : ByteArray), .slice none 0 0, .int .i64 0, .func (.func 89) #[] #[], .string (⟨#[32, 97, 112, 58]⟩ : ByteArray), .slice none 0 0, .int .i64 0, .func (.func 90) #[] #[], .string (⟨#[32, 117, 97, 58]⟩ : ByteArray), .slice none 0 0, .int .i64 0, .func (.func 91) #[] #[], .string (⟨#[32, 101, 112, 58]⟩ : ByteArray), .slice none 0 0, .int .i64 0, .func (.func 92) #[] #[], .string (⟨#[32, 111, 111, 115, 58]⟩ : ByteArray), .slice none 0 0, .int .i64 0, .func (.func 93) #[] #[]] 76 (0, 0)) ∧
    StrBlk w' w.heap.size v0 cConn ∧ StrBlk w' w.heap.size v1 (cRoles.take 2) ∧ StrBlk w' w.heap.size v2 cRoles ∧ StrBlk w' w.heap.size v3 (cDisks.take 3) ∧ StrBlk w' w.heap.size v4 cDisks ∧ StrBlk w' w.heap.size v5 cProt := by
  go_enter Tryd.func41, Tryd.ntmps41
  go_wp2
  generalize hD : Obj.cells _ 9 = D
  generalize hw1 : w.alloc D = w1
  generalize hR : Obj.cells _ 9 = R
  generalize hw2 : w1.alloc R = w2
  generalize hn : w.heap.size = n
  have hn1 : w1.heap.size = n + 1 := by rw [← hw1, ← hn]; simp
  have hn2 : w2.heap.size = n + 2 := by rw [← hw2]; simp [hn1]
  have hb1 : w1.heap[n]? = some D := by rw [← hw1, ← hn]; exact blk_new w D
  have hb2 : w2.heap[n]? = some D := by rw [← hw2]; exact blk_alloc hb1 R
  have hb3 : w2.heap[n + 1]? = some R := by rw [← hw2, ← hn1]; exact blk_new w1 R
  have hb : Below n w w2 := by rw [← hw2, ← hw1, ← hn]; exact ((Below.refl _ _).alloc (Nat.le_refl _) _).alloc (by simp) _
  have HN := Aside0.mk hn
  have HN2 := Aside0.mk hn2
  clear hn1 hn2 hw1 hw2 hb1
  subst hD hR
  clear hn
  go_region
  all_goals
    go_wp2
    go_ret
    rw [HN.out]
    generalize hA : Obj.cells _ 9 = A
    generalize hB : Obj.cells _ 9 = B
    generalize hT : Obj.cells _ 76 = T
    obtain ⟨x1, x2, x3, x4, x5⟩ := three_new A B T hb (by rw [HN2.out]; omega)
    refine ⟨_, _, _, _, _, _, _, rfl, ?_, x5, x3.trans (congrArg some hT.symm), ⟨_, _, [], rfl, ?_, ?_, ?_, ?_⟩, ⟨_, _, cRoles.drop 2, rfl, ?_, ?_, ?_, ?_⟩, ⟨_, _, [], rfl, ?_, ?_, ?_, ?_⟩, ⟨_, _, cDisks.drop 3, rfl, ?_, ?_, ?_, ?_⟩, ⟨_, _, [], rfl, ?_, ?_, ?_, ?_⟩, ⟨_, _, [], rfl, ?_, ?_, ?_, ?_⟩⟩
    all_goals first
      | (show _ ≤ _; first | decide | (rw [HN2.out]; omega) | omega)
      | exact x4 _ _ hb2
      | exact x4 _ _ hb3
      | exact x1.trans (by rw [← hA]; rfl)
      | exact x1.trans (by rw [← hB]; rfl)
      | exact x2.trans (by rw [← hA]; rfl)
      | exact x2.trans (by rw [← hB]; rfl)
theorem Piece.keep {w w1 : World} {B g i : Nat} {t : ByteArray × Option (List ByteArray) × Int} (h : Piece w B g i t) (hg : B ≤ g) (hk : ∀ k, B ≤ k → k < w.heap.size → w1.heap[k]? = w.heap[k]?) : Piece w1 B g i t := by
  obtain ⟨h0, ⟨v, h1, hv⟩, h2, h3⟩ := h
  have hc : ∀ j, w1.cell? ⟨g, j, none⟩ = w.cell? ⟨g, j, none⟩ := fun j => by
    unfold World.cell?
    rw [hk g hg (World.block_lt_of_cell? w _ h0)]
  refine ⟨(hc _).trans h0, ⟨v, (hc _).trans h1, ?_⟩, (hc _).trans h2, (hc _).trans h3⟩
  cases e : t.2.1 with
  | none => rw [e] at hv; exact hv
  | some ws => rw [e] at hv; exact StrBlk.keep hv hk

set_option maxRecDepth 100000 in
theorem parts_typed (w : World) : Calls Tryd.prog 41 #[] w fun e w' => ∃ g : Nat, e = .returned (.slice (some ⟨g, 0, none⟩) 15 15) ∧ w.heap.size ≤ g ∧ Below w.heap.size w w' ∧ (∃ cs, w'.heap[g]? = some (.cells cs 76 (0, 0))) ∧ ∀ i t, cTab[i]? = some t → Piece w' w.heap.size g i t := by
  refine (parts_blk w).mono ?_
  rintro e w' ⟨g, v0, v1, v2, v3, v4, v5, rfl, hg, hb, ht, s0, s1, s2, s3, s4, s5⟩
  refine ⟨g, rfl, hg, hb, ⟨_, ht⟩, fun i t hi => ?_⟩
  have hl : i < 15 := (List.getElem?_eq_some_iff.1 hi).1
  rcases i with _ | _ | _ | _ | _ | _ | _ | _ | _ | _ | _ | _ | _ | _ | _ | i
  case succ.succ.succ.succ.succ.succ.succ.succ.succ.succ.succ.succ.succ.succ.succ => omega
  all_goals
    obtain rfl := Option.some.inj hi
    refine ⟨(blk_cell ht _).trans rfl, ⟨_, (blk_cell ht _).trans rfl, ?_⟩, (blk_cell ht _).trans rfl, (blk_cell ht _).trans rfl⟩
    first | exact s0 | exact s1 | exact s2 | exact s3 | exact s4 | exact s5 | rfl

theorem parts_any (w : World) : Calls Tryd.prog 41 #[] w fun e w' => ∃ g : Nat, e = .returned (.slice (some ⟨g, 0, none⟩) 15 15) ∧ w.heap.size ≤ g ∧ Below w.heap.size w w' ∧ g < w'.heap.size ∧ ∀ i t, cTab[i]? = some t → Piece w' w.heap.size g i t := by
  refine (parts_typed w).mono ?_
  rintro e w' ⟨g, h1, h2, h3, ⟨cs, h4⟩, h5⟩
  exact ⟨g, h1, h2, h3, blk_lt h4, h5⟩

/-- The piece's field of a status at block b. -/
theorem field_any (i : Nat) (hi : i < 15) (b : Nat) (w : World) : Calls Tryd.prog (79 + i) #[.pointer (some ⟨b, 0, none⟩)] w fun e w' => e = .returned (.pointer (some ⟨b, i, none⟩)) ∧ w = w' := by
  rcases i with _ | _ | _ | _ | _ | _ | _ | _ | _ | _ | _ | _ | _ | _ | _ | i
  case succ.succ.succ.succ.succ.succ.succ.succ.succ.succ.succ.succ.succ.succ.succ => omega
  · go_enter Tryd.func79, Tryd.ntmps79; go_wp2; go_ret; exact ⟨rfl, rfl⟩
  · go_enter Tryd.func80, Tryd.ntmps80; go_wp2; go_ret; exact ⟨rfl, rfl⟩
  · go_enter Tryd.func81, Tryd.ntmps81; go_wp2; go_ret; exact ⟨rfl, rfl⟩
  · go_enter Tryd.func82, Tryd.ntmps82; go_wp2; go_ret; exact ⟨rfl, rfl⟩
  · go_enter Tryd.func83, Tryd.ntmps83; go_wp2; go_ret; exact ⟨rfl, rfl⟩
  · go_enter Tryd.func84, Tryd.ntmps84; go_wp2; go_ret; exact ⟨rfl, rfl⟩
  · go_enter Tryd.func85, Tryd.ntmps85; go_wp2; go_ret; exact ⟨rfl, rfl⟩
  · go_enter Tryd.func86, Tryd.ntmps86; go_wp2; go_ret; exact ⟨rfl, rfl⟩
  · go_enter Tryd.func87, Tryd.ntmps87; go_wp2; go_ret; exact ⟨rfl, rfl⟩
  · go_enter Tryd.func88, Tryd.ntmps88; go_wp2; go_ret; exact ⟨rfl, rfl⟩
  · go_enter Tryd.func89, Tryd.ntmps89; go_wp2; go_ret; exact ⟨rfl, rfl⟩
  · go_enter Tryd.func90, Tryd.ntmps90; go_wp2; go_ret; exact ⟨rfl, rfl⟩
  · go_enter Tryd.func91, Tryd.ntmps91; go_wp2; go_ret; exact ⟨rfl, rfl⟩
  · go_enter Tryd.func92, Tryd.ntmps92; go_wp2; go_ret; exact ⟨rfl, rfl⟩
  · go_enter Tryd.func93, Tryd.ntmps93; go_wp2; go_ret; exact ⟨rfl, rfl⟩
end Go.Proofs.YtfecfgimfjcbdaaDoor.Cf

namespace Go.Proofs.YtfecfgimfjcbdaaDoor.Cf
open Go.RowKit Go.Proofs.YtfecfgimfjcbdaaDoorW.PrintWords

/-- One piece at l's beginning: how many bytes, whether it is whole, its value (before 'least' is added). -/
def stepI (l : List UInt8) (t : ByteArray × Option (List ByteArray) × Int) : Nat × Bool × Int :=
  if com l (bl t.1) = t.1.size then
    match t.2.1 with
    | none => (t.1.size + (nm (l.drop t.1.size) 0 0).1, nok (nm (l.drop t.1.size) 0 0), nval (nm (l.drop t.1.size) 0 0))
    | some ws => (t.1.size + (pick (l.drop t.1.size) ws 0 0).1, (pick (l.drop t.1.size) ws 0 0).2.isSome, (((pick (l.drop t.1.size) ws 0 0).2.getD 0 : Nat) : Int))
  else (com l (bl t.1), false, 0)

/-- From place n on, j pieces having been read: the status' fields, the place, whether all is read. -/
def runI (s : List UInt8) : List (ByteArray × Option (List ByteArray) × Int) → Nat → Nat → List Int → Nat × Option (List Int)
  | [], n, _, xs => (n, some xs)
  | t :: ts, n, j, xs => if (stepI (s.drop n) t).2.1 = true then runI s ts (n + (stepI (s.drop n) t).1) (j + 1) (xs.set j ((stepI (s.drop n) t).2.2 + t.2.2)) else (n + (stepI (s.drop n) t).1, none)

/-- What ParseStatus answers: the fields, the place, the error. -/
def statI (s : List UInt8) : List Int × Nat × Int :=
  match runI s cTab 0 0 (List.replicate 15 0) with
  | (n, none) => (List.replicate 15 0, n, 126)
  | (n, some xs) => if n < s.length then (List.replicate 15 0, n, 126) else (xs, 0, 0)

theorem pick_le : ∀ (l : List UInt8) (ws : List ByteArray) (j far : Nat), far ≤ l.length → (pick l ws j far).1 ≤ l.length ∧ (pick l ws j far).2.getD 0 ≤ j + ws.length
  | l, [], j, far, h => by simp [pick, h]
  | l, x :: ws, j, far, h => by
    have hc := com_le_left l (bl x)
    simp only [pick]
    split
    · rename_i e
      simp only [List.length_cons, Option.getD_some]
      omega
    · have := pick_le l ws (j + 1) (max far (com l (bl x))) (by omega)
      simp only [List.length_cons]
      omega
theorem cTab_facts : ∀ (i : Nat) (t : ByteArray × Option (List ByteArray) × Int), cTab[i]? = some t → t.1.size ≤ 100 ∧ 0 ≤ t.2.2 ∧ t.2.2 ≤ 1 ∧ (match t.2.1 with | some ws => ws.length ≤ 1000 ∧ (∀ x ∈ ws, x.size ≤ 1125899906842624) | none => t.2.2 = 0) := by
  intro i t hi
  have hl : i < 15 := (List.getElem?_eq_some_iff.1 hi).1
  rcases i with _ | _ | _ | _ | _ | _ | _ | _ | _ | _ | _ | _ | _ | _ | _ | i
  case succ.succ.succ.succ.succ.succ.succ.succ.succ.succ.succ.succ.succ.succ.succ => omega
  all_goals
    obtain rfl := Option.some.inj hi
    refine ⟨by decide, by decide, by decide, ?_⟩
    first
      | rfl
      | exact ⟨by decide, by decide⟩
theorem nval_le (l : List UInt8) : 0 ≤ nval (nm l 0 0) ∧ nval (nm l 0 0) ≤ 9223372036854775807 := by
  have h := nm_lt l 0 0 (Nat.zero_le _)
  rw [MX_eq] at h
  unfold nval
  split <;> omega
theorem stepI_le (l : List UInt8) (i : Nat) (t : ByteArray × Option (List ByteArray) × Int) (ht : cTab[i]? = some t) : (stepI l t).1 ≤ l.length ∧ 0 ≤ (stepI l t).2.2 ∧ (stepI l t).2.2 + t.2.2 ≤ 9223372036854775807 := by
  obtain ⟨h1, h2, h3, h4⟩ := cTab_facts i t ht
  have hc := com_le_left l (bl t.1)
  unfold stepI
  split
  · rename_i e
    cases hw : t.2.1 with
    | none =>
      rw [hw] at h4
      have a := nm_ge (l.drop t.1.size) 0 0
      have b := nval_le (l.drop t.1.size)
      simp only [List.length_drop] at *
      omega
    | some ws =>
      rw [hw] at h4
      have a := pick_le (l.drop t.1.size) ws 0 0 (Nat.zero_le _)
      simp only [List.length_drop] at *
      have := h4.1
      omega
  · exact ⟨hc, by simp, by simp; omega⟩
end Go.Proofs.YtfecfgimfjcbdaaDoor.Cf

namespace Go.Proofs.YtfecfgimfjcbdaaDoor.Cf
open Go.RowKit Go.Proofs.YtfecfgimfjcbdaaDoorW.PrintWords

theorem whole_blk {W : World} {g : Nat} {e : TypeId} {cur : Array Value} (cs : Array Value) (hh : W.heap[g]? = some (.cells cur e (0, 0))) (hsz : cs.size = cur.size) : (W.setCells g 0 cs.toList).heap[g]? = some (.cells cs e (0, 0)) ∧ W.grownBy (W.setCells g 0 cs.toList) (some g) := by
  obtain ⟨cur', h2, h3, h4⟩ := setCells_row cs.toList 0 W cur hh (by rw [Array.length_toList]; omega)
  obtain ⟨s1, s2, s3, s4⟩ := setCells_same g cs.toList 0 W
  have hc : cur' = cs := by
    apply Array.ext'
    rw [h4, List.take_zero, List.nil_append, Nat.zero_add, List.drop_of_length_le (by rw [Array.length_toList, Array.length_toList]; omega), List.append_nil]
  subst hc
  exact ⟨h2, s1, s2, s3, by omega, fun k _ hr => setCells_far _ _ k (fun e => hr (by rw [e]))⟩

section
variable {P : Program} {ops : Array Oper} {rest : List Oper} {o : Oper} {a : Act} {Q : Exit → Act → World → Prop}
theorem store_whole {W : World} (hgd : o.guard = none) {t : TypeId} {p x : Operand} (ho : o.op = .store t p x) (hN : o.dst = none) {g : Nat} (haddr : a.eval p = .pointer (some ⟨g, 0, none⟩)) (cs : Array Value) (hx : a.eval x = .agg cs)
    {e : TypeId} {cur : Array Value} (hh : W.heap[g]? = some (.cells cur e (0, 0))) (ht : (P.info? t).map (·.size) = some cs.size) (hsz : cs.size = cur.size) (h1 : ∀ q ∈ cs.toList, q.oneCell' = true)
    (h : ∀ w', w'.heap[g]? = some (.cells cs e (0, 0)) → W.grownBy w' (some g) → wpList P ops Q rest a w') : wpList P ops Q (o :: rest) a W := by
  have hrun : (Instr.storeAt t (.pointer (some ⟨g, 0, none⟩)) (.agg cs)).run P W = .ok () (W.setCells g 0 cs.toList) :=
    run_store_run t (.agg cs) cs.toList hh (by simp [Value.cells]) (by rw [Array.length_toList]; exact ht) (by rw [Array.length_toList]; omega) h1
  obtain ⟨hb, hg⟩ := whole_blk cs hh hsz
  have hk := h (W.setCells g 0 cs.toList) hb hg
  refine wpList_plain hgd fun K hK => ?_
  unfold Oper.wp execOp
  simp only [ho, haddr, hx, Sem.run_bind, hrun, Result.andThen_ok, Sem.run_pure]
  show K (a.put o.dst undef) _
  rw [hN]
  exact hK _ _ hk
end
theorem grown_blk {w w1 : World} {g k : Nat} {o : Obj} (h : w.grownBy w1 (some g)) (hb : w.heap[k]? = some o) (hk : k ≠ g) : w1.heap[k]? = some o := blk_grown hb h (fun e => hk (Option.some.inj e))

/-- Blocks laid one behind the other. -/
def allocs (w : World) : List Obj → World
  | [] => w
  | o :: r => allocs (w.alloc o) r
theorem allocs_size : ∀ (os : List Obj) (w : World), (allocs w os).heap.size = w.heap.size + os.length
  | [], w => rfl
  | o :: r, w => by
    rw [allocs, allocs_size r (w.alloc o)]
    simp
    omega
theorem allocs_below : ∀ (os : List Obj) (w : World), Below w.heap.size w (allocs w os)
  | [], w => Below.refl _ _
  | o :: r, w => by
    have h := allocs_below r (w.alloc o)
    exact below_then ((Below.refl _ _).alloc (Nat.le_refl _) o) (by simp) h
theorem allocs_at : ∀ (os : List Obj) (w : World) (i : Nat) (o : Obj), os[i]? = some o → (allocs w os).heap[w.heap.size + i]? = some o
  | [], _, _, _, h => by simp at h
  | o' :: r, w, 0, o, h => by
    obtain rfl : o' = o := by simpa using h
    exact blk_below (blk_new w o') (by rw [allocs]; exact allocs_below r _)
  | o' :: r, w, i + 1, o, h => by
    have := allocs_at r (w.alloc o') i o (by simpa using h)
    rw [allocs]
    have e : (w.alloc o').heap.size + i = w.heap.size + (i + 1) := by simp; omega
    rw [← e]
    exact this
/-- Go on from a world in which blocks have been laid: a letter for it. -/
theorem wp_allocs {P : Program} {c : Code} {Q : Exit → Act → World → Prop} {a : Act} {w W : World} (os : List Obj) (hW : W = allocs w os)
    (h : ∀ W', (∀ i o, os[i]? = some o → W'.heap[w.heap.size + i]? = some o) → Below w.heap.size w W' → W'.heap.size = w.heap.size + os.length → c.wp P Q a W') : c.wp P Q a W := by
  subst hW
  exact h _ (allocs_at os w) (allocs_below os w) (allocs_size os w)
end Go.Proofs.YtfecfgimfjcbdaaDoor.Cf

namespace Go.Proofs.YtfecfgimfjcbdaaDoor.Cf
open Go.RowKit Go.Proofs.YtfecfgimfjcbdaaDoorW.PrintWords Go.Proofs.YtfecfgimfjcbdaaDoorW.PrintLast Go.Proofs.YtfecfgimfjcbdaaDoorW.PrintMore Go.Proofs.YtfecfgimfjcbdaaDoor.QCParseStatus

def ints (xs : List Int) : Array Value := (xs.map (Value.int .i64)).toArray

/-- How the memory stands in a round: the line at b + 1, the answer's zero at b, the status at b + 2; what was there by w4 from b + 3 on is as it was. -/
def St (w w4 wr : World) (b : Nat) (s : ByteArray) (n : Nat) (xs : List Int) : Prop :=
  IsLine w wr (b + 1) s n ∧ wr.heap[b]? = some (.cells (ints (List.replicate 15 0)) 28 (0, 0)) ∧ wr.heap[b + 1 + 1]? = some (.cells (ints xs) 28 (0, 0)) ∧ Below w.heap.size w wr ∧ w4.heap.size ≤ wr.heap.size ∧ ∀ k, b + 3 ≤ k → k < w4.heap.size → wr.heap[k]? = w4.heap[k]?
theorem St.call {w w4 wr w5 : World} {b n n' : Nat} {s : ByteArray} {xs : List Int} (h : St w w4 wr b s n xs) (hI : IsLine w w5 (b + 1) s n') (hB : Below w.heap.size w w5) (hK : KeepBut wr w5 (b + 1) none) : St w w4 w5 b s n' xs :=
  ⟨hI, hK.blk h.2.1 (by omega) (by simp), hK.blk h.2.2.1 (by omega) (by simp), hB, Nat.le_trans h.2.2.2.2.1 hK.1, fun k h1 h2 => (hK.2 k (Nat.lt_of_lt_of_le h2 h.2.2.2.2.1) (by omega) (by simp)).trans (h.2.2.2.2.2 k h1 h2)⟩
theorem St.drew {w w4 wr : World} {b n : Nat} {s : ByteArray} {xs : List Int} (h : St w w4 wr b s n xs) : St w w4 wr.drew b s n xs :=
  ⟨IsS91.drew h.1, h.2.1, h.2.2.1, below_drew h.2.2.2.1, h.2.2.2.2.1, h.2.2.2.2.2⟩
theorem St.piece {w w3 w4 wr : World} {b n g j : Nat} {s : ByteArray} {xs : List Int} {t : ByteArray × Option (List ByteArray) × Int} (h : St w w4 wr b s n xs) (hs : w3.heap.size = b + 3) (hg : b + 3 ≤ g) (hp : Piece w4 w3.heap.size g j t) : Piece wr w3.heap.size g j t :=
  hp.keep (by omega) (fun k h1 h2 => h.2.2.2.2.2 k (by omega) h2)
theorem St.size {w w4 wr : World} {b n : Nat} {s : ByteArray} {xs : List Int} (h : St w w4 wr b s n xs) : b + 2 < wr.heap.size := blk_lt h.2.2.1

theorem St.as {w w4 wr : World} {b n n' : Nat} {s : ByteArray} {xs : List Int} (h : St w w4 wr b s n xs) (e : n = n') : St w w4 wr b s n' xs := e ▸ h
theorem ints_get (xs : List Int) (j : Nat) (h : j < xs.length) : (ints xs)[j]? = some (.int .i64 (xs.getD j 0)) := by
  simp [ints, h]
theorem ints_set (xs : List Int) (j : Nat) (v : Int) : (ints xs).setIfInBounds j (.int .i64 v) = ints (xs.set j v) := by
  simp [ints, List.map_set]
theorem St.put {w w4 wr : World} {b n j : Nat} {s : ByteArray} {xs : List Int} (h : St w w4 wr b s n xs) (hb : w.heap.size ≤ b) (v : Int) : St w w4 (wr.setCell ⟨b + 1 + 1, j, none⟩ (.int .i64 v)) b s n (xs.set j v) := by
  refine ⟨IsS91.far h.1 (show b + 1 ≠ b + 1 + 1 by omega) _, blk_far h.2.1 (show b ≠ b + 1 + 1 by omega) _, ?_, below_set h.2.2.2.1 (show w.heap.size ≤ b + 1 + 1 by omega), ?_, fun k h1 h2 => ?_⟩
  · have := blk_set h.2.2.1 j (.int .i64 v)
    rw [ints_set] at this
    exact this
  · simpa [World.setCell] using h.2.2.2.2.1
  · rw [Below.heap_setCell wr _ _ k (show k ≠ b + 1 + 1 by omega)]
    exact h.2.2.2.2.2 k h1 h2
theorem call_field (j : Nat) (hj : j < 15) (args : Array Value) (W : World) : (callFunc (79 + j) args).run Tryd.prog W = .ok (.enter (79 + j) args) W := by
  rcases j with _ | _ | _ | _ | _ | _ | _ | _ | _ | _ | _ | _ | _ | _ | _ | j
  case succ.succ.succ.succ.succ.succ.succ.succ.succ.succ.succ.succ.succ.succ.succ => omega
  all_goals go_simp
theorem run_fail {s : List UInt8} {xs : List Int} {n j : Nat} {t : ByteArray × Option (List ByteArray) × Int} (ht : cTab[j]? = some t) (hr : runI s (cTab.drop j) n j xs = runI s cTab 0 0 (List.replicate 15 0)) (m : Nat) (v : Int) (h : stepI (s.drop n) t = (m, false, v)) : statI s = (List.replicate 15 0, n + m, 126) := by
  have hd : cTab.drop j = t :: cTab.drop (j + 1) := by rw [List.drop_eq_getElem?_toList_append, ht]; rfl
  have hrun : runI s cTab 0 0 (List.replicate 15 0) = (n + m, none) := by
    rw [← hr, hd]
    simp only [runI, h]
    rfl
  unfold statI
  rw [hrun]
theorem run_on {s : List UInt8} {xs : List Int} {n j : Nat} {t : ByteArray × Option (List ByteArray) × Int} (ht : cTab[j]? = some t) (hr : runI s (cTab.drop j) n j xs = runI s cTab 0 0 (List.replicate 15 0)) (m : Nat) (v : Int) (h : stepI (s.drop n) t = (m, true, v)) :
    runI s (cTab.drop (j + 1)) (n + m) (j + 1) (xs.set j (v + t.2.2)) = runI s cTab 0 0 (List.replicate 15 0) := by
  have hd : cTab.drop j = t :: cTab.drop (j + 1) := by rw [List.drop_eq_getElem?_toList_append, ht]; rfl
  rw [← hr, hd]
  simp only [runI, h, if_true]

theorem zero15 {W : World} {b : Nat} (h : W.heap[b]? = some (.cells (ints (List.replicate 15 0)) 28 (0, 0))) : (((((((((((((((W.setCell ⟨b, 0, none⟩ (.int .i64 0)).setCell ⟨b, 1, none⟩ (.int .i64 0)).setCell ⟨b, 2, none⟩ (.int .i64 0)).setCell ⟨b, 3, none⟩ (.int .i64 0)).setCell ⟨b, 4, none⟩ (.int .i64 0)).setCell ⟨b, 5, none⟩ (.int .i64 0)).setCell ⟨b, 6, none⟩ (.int .i64 0)).setCell ⟨b, 7, none⟩ (.int .i64 0)).setCell ⟨b, 8, none⟩ (.int .i64 0)).setCell ⟨b, 9, none⟩ (.int .i64 0)).setCell ⟨b, 10, none⟩ (.int .i64 0)).setCell ⟨b, 11, none⟩ (.int .i64 0)).setCell ⟨b, 12, none⟩ (.int .i64 0)).setCell ⟨b, 13, none⟩ (.int .i64 0)).setCell ⟨b, 14, none⟩ (.int .i64 0)).heap[b]? = some (.cells (ints (List.replicate 15 0)) 28 (0, 0)) ∧ W.grownBy (((((((((((((((W.setCell ⟨b, 0, none⟩ (.int .i64 0)).setCell ⟨b, 1, none⟩ (.int .i64 0)).setCell ⟨b, 2, none⟩ (.int .i64 0)).setCell ⟨b, 3, none⟩ (.int .i64 0)).setCell ⟨b, 4, none⟩ (.int .i64 0)).setCell ⟨b, 5, none⟩ (.int .i64 0)).setCell ⟨b, 6, none⟩ (.int .i64 0)).setCell ⟨b, 7, none⟩ (.int .i64 0)).setCell ⟨b, 8, none⟩ (.int .i64 0)).setCell ⟨b, 9, none⟩ (.int .i64 0)).setCell ⟨b, 10, none⟩ (.int .i64 0)).setCell ⟨b, 11, none⟩ (.int .i64 0)).setCell ⟨b, 12, none⟩ (.int .i64 0)).setCell ⟨b, 13, none⟩ (.int .i64 0)).setCell ⟨b, 14, none⟩ (.int .i64 0)) (some b) :=
  whole_blk (ints (List.replicate 15 0)) h rfl

set_option maxRecDepth 100000 in
set_option maxHeartbeats 1000000 in
theorem parse_big (s : ByteArray) (w : World) (hs : s.size ≤ 1125899906842624) :
    Calls Tryd.prog 21 #[.string s] w fun e w' => e = .returned (.tuple #[.agg (ints (statI (bl s)).1), .int .i64 ((statI (bl s)).2.1 : Int), .int .i64 (statI (bl s)).2.2]) ∧ Below w.heap.size w w' := by
  go_enter Tryd.func21, Tryd.ntmps21
  go_wp2_with fail
  generalize hz0 : Obj.cells _ 28 = Z
  generalize hL0 : Obj.cells _ 91 = L
  generalize hw1 : w.alloc Z = w1
  generalize hw2 : w1.alloc L = w2
  generalize hw3 : w2.alloc Z = w3
  generalize hb : w.heap.size = b
  have hs1 : w1.heap.size = b + 1 := by rw [← hw1, ← hb]; simp
  have hs2 : w2.heap.size = b + 1 + 1 := by rw [← hw2]; simp [hs1]
  have hs3 : w3.heap.size = b + 1 + 1 + 1 := by rw [← hw3]; simp [hs2]
  have hZ : Z = .cells (ints (List.replicate 15 0)) 28 (0, 0) := by rw [← hz0]; rfl
  have hL : L = .cells #[.string s, .int .i64 0] 91 (0, 0) := by rw [← hL0]
  have k1 : w1.heap[b]? = some Z := by rw [← hw1, ← hb]; exact blk_new w Z
  have k2 : w2.heap[b + 1]? = some L := by rw [← hw2, ← hs1]; exact blk_new w1 L
  have k3 : w3.heap[b + 1 + 1]? = some Z := by rw [← hw3, ← hs2]; exact blk_new w2 Z
  have k1' : w3.heap[b]? = some Z := by rw [← hw3]; refine blk_alloc ?_ Z; rw [← hw2]; exact blk_alloc k1 L
  have k2' : w3.heap[b + 1]? = some L := by rw [← hw3]; exact blk_alloc k2 Z
  have hB : Below w.heap.size w w3 := by
    rw [← hw3, ← hw2, ← hw1]
    exact ((((Below.refl _ _).alloc (Nat.le_refl _) _).alloc (by simp) _).alloc (by simp; omega) _)
  rw [hZ] at k1' k3
  rw [hL] at k2'
  clear k1 k2 hs1 hs2 hw1 hw2 hw3 hz0 hL0 hZ hL
  refine (parts_any w3).mono ?_
  rintro e w4 ⟨g, rfl, hg, hB4, hg4, hP⟩
  have hS : St w w4 w4 b s 0 (List.replicate 15 0) := ⟨⟨blk_below k2' hB4, by omega⟩, blk_below k1' hB4, blk_below k3 hB4, below_then hB (by omega) hB4, Nat.le_refl _, fun _ _ _ => rfl⟩
  have HS := Aside0.mk hS
  have HP := Aside0.mk hP
  have HH := Aside0.mk hb
  have hgb : b + 3 ≤ g := by omega
  have HB3 : Aside0 (w3.heap.size = b + 3) := ⟨hs3⟩
  have h4 : g < w4.heap.size := hg4
  clear hS hP hB4 hB k1' k2' k3 hg hs3 hb hg4
  have qT : ∀ (w : World) (a : Option Addr) (n c n' c' : Nat), (binOp .eql 45 (.slice a n c) (.slice none n' c')).run Tryd.prog w = .ok (.bool a.isNone) w := fun w a n c n' c' => Lib.run_eql_slice_nil w _ _ a n c n' c' Tryd.underlying45
  go_wp2
  go_loopg [18] 15 (fun kq v18 wr => ∃ (j n : Nat) (xs : List Int), j ≤ 15 ∧ kq = 15 - j ∧ v18 = .int .i64 j ∧ n ≤ s.size ∧ xs.length = 15 ∧ Aside0 (runI (bl s) (cTab.drop j) n j xs = runI (bl s) cTab 0 0 (List.replicate 15 0)) ∧ Aside0 (St w w4 wr b s n xs))
  case atStart => exact ⟨0, 0, List.replicate 15 0, by omega, rfl, rfl, by omega, by simp, ⟨rfl⟩, HS⟩
  case round =>
    clear HS
    obtain ⟨j, n, xs, hj, rfl, rfl, hn, hxs, HR, HS⟩ := hrel
    have hsz := HS.out.size
    by_cases hlt : j < 15
    · have hltb : decide ((j : Int) < 15) = true := decide_eq_true (by omega)
      obtain ⟨⟨ta, two, tl⟩, ht⟩ : ∃ t, cTab[j]? = some t := ⟨_, List.getElem?_eq_getElem hlt⟩
      have hf := cTab_facts j _ ht
      have hst := stepI_le ((bl s).drop n) j _ ht
      have HPj := Aside0.mk (HP.out j _ ht)
      obtain ⟨c0, ⟨v1, c1, hv1⟩, c2, c3⟩ := HS.out.piece HB3.out hgb HPj.out
      have hlen : (j : Int) < 15 := by omega
      simp only at c0 c1 c2 c3 hf hv1
      obtain ⟨hf1, hf2, hf3, hf4⟩ := hf
      have hca := com_le_left ((bl s).drop n) (bl ta)
      have hcb := com_le_right ((bl s).drop n) (bl ta)
      rw [List.length_drop, bl_length] at hca
      rw [bl_length] at hcb
      go_wp2_with fail
      refine (literal_any w _ _ n s ta hs (by omega) hn HS.out.1 HS.out.2.2.2.1).mono ?_
      rintro e w5 ⟨rfl, hI5, hB5, hK5⟩
      have HS5 := Aside0.mk (HS.out.call hI5 hB5 hK5)
      clear c0 c1 c2 c3 hv1 hI5 hB5 hK5 HS hsz
      have hsz := HS5.out.size
      by_cases hc : com ((bl s).drop n) (bl ta) = ta.size
      · have hcd : decide (com ((bl s).drop n) (bl ta) = ta.size) = true := decide_eq_true hc
        have HC := Aside0.mk hc
        obtain ⟨c0, ⟨v1, c1, hv1⟩, c2, c3⟩ := HS5.out.piece HB3.out hgb HPj.out
        simp only at c0 c1 c2 c3 hv1
        cases two with
        | none =>
          simp only at hv1
          subst hv1
          obtain rfl : tl = 0 := hf4
          have hnn : n + ta.size ≤ s.size := by omega
          clear hc
          go_wp2_with fail
          rw [HC.out] at HS5
          refine (number_any w _ _ (n + ta.size) s hs hnn HS5.out.1 HS5.out.2.2.2.1).mono ?_
          rintro e w6 ⟨rfl, hI6, hB6, hK6⟩
          have HS6 := Aside0.mk (HS5.out.call hI6 hB6 hK6)
          have hsi : stepI ((bl s).drop n) (ta, none, 0) = (ta.size + (nm ((bl s).drop (n + ta.size)) 0 0).1, nok (nm ((bl s).drop (n + ta.size)) 0 0), nval (nm ((bl s).drop (n + ta.size)) 0 0)) := by
            unfold stepI
            rw [if_pos HC.out, List.drop_drop]
          clear hI6 hB6 hK6 HS5 c0 c1 c2 c3 hsz
          have hsz := HS6.out.size
          have hgt := nm_ge ((bl s).drop (n + ta.size)) 0 0
          rw [List.length_drop, bl_length] at hgt
          rw [hsi] at hst
          generalize (nm ((bl s).drop (n + ta.size)) 0 0).1 = m at *
          generalize nval (nm ((bl s).drop (n + ta.size)) 0 0) = v at *
          generalize nok (nm ((bl s).drop (n + ta.size)) 0 0) = ok at *
          have HSI := Aside0.mk hsi
          clear hsi
          have l1 : w6.cell? ⟨b + 1, 1, none⟩ = some (.int .i64 (n + ta.size + m : Nat)) := cellS91_1 HS6.out.1.1
          cases ok with
          | false =>
            have HRes := Aside0.mk (run_fail ht HR.out _ _ HSI.out)
            have z0 : w6.cell? ⟨b, 0, none⟩ = some (.int .i64 0) := (blk_cell HS6.out.2.1 0).trans rfl
            have z1 : w6.cell? ⟨b, 1, none⟩ = some (.int .i64 0) := (blk_cell HS6.out.2.1 1).trans rfl
            have z2 : w6.cell? ⟨b, 2, none⟩ = some (.int .i64 0) := (blk_cell HS6.out.2.1 2).trans rfl
            have z3 : w6.cell? ⟨b, 3, none⟩ = some (.int .i64 0) := (blk_cell HS6.out.2.1 3).trans rfl
            have z4 : w6.cell? ⟨b, 4, none⟩ = some (.int .i64 0) := (blk_cell HS6.out.2.1 4).trans rfl
            have z5 : w6.cell? ⟨b, 5, none⟩ = some (.int .i64 0) := (blk_cell HS6.out.2.1 5).trans rfl
            have z6 : w6.cell? ⟨b, 6, none⟩ = some (.int .i64 0) := (blk_cell HS6.out.2.1 6).trans rfl
            have z7 : w6.cell? ⟨b, 7, none⟩ = some (.int .i64 0) := (blk_cell HS6.out.2.1 7).trans rfl
            have z8 : w6.cell? ⟨b, 8, none⟩ = some (.int .i64 0) := (blk_cell HS6.out.2.1 8).trans rfl
            have z9 : w6.cell? ⟨b, 9, none⟩ = some (.int .i64 0) := (blk_cell HS6.out.2.1 9).trans rfl
            have z10 : w6.cell? ⟨b, 10, none⟩ = some (.int .i64 0) := (blk_cell HS6.out.2.1 10).trans rfl
            have z11 : w6.cell? ⟨b, 11, none⟩ = some (.int .i64 0) := (blk_cell HS6.out.2.1 11).trans rfl
            have z12 : w6.cell? ⟨b, 12, none⟩ = some (.int .i64 0) := (blk_cell HS6.out.2.1 12).trans rfl
            have z13 : w6.cell? ⟨b, 13, none⟩ = some (.int .i64 0) := (blk_cell HS6.out.2.1 13).trans rfl
            have z14 : w6.cell? ⟨b, 14, none⟩ = some (.int .i64 0) := (blk_cell HS6.out.2.1 14).trans rfl
            have zf : ∀ i, w6.frozen? ⟨b, i, none⟩ = false := fun i => blk_frozen HS6.out.2.1 i
            go_wp2
            go_region
            go_wp2
            have hz := zero15 (W := w6) HS6.out.2.1
            refine bodyPost_ret (results_ctt rfl _ _ b 28 (ints (List.replicate 15 0)) (0, 0) _ rfl (blk_drew hz.1) Tryd.underlying28 rfl (by kernel_rfl)) rfl ?_
            rw [HRes.out]
            exact ⟨by rw [← Nat.add_assoc]; rfl, below_drew (pw_below_grown HS6.out.2.2.2.1 (some b) HS6.out.2.2.2.1.size hz.2 (fun k hk => by obtain rfl := Option.some.inj hk; rw [HH.out]; exact Nat.le_refl _))⟩
          | true =>
            have HRun : Aside0 (runI (bl s) (cTab.drop (j + 1)) (n + (ta.size + m)) (j + 1) (xs.set j v) = runI (bl s) cTab 0 0 (List.replicate 15 0)) := ⟨by have h := run_on ht HR.out _ _ HSI.out; rw [Int.add_zero] at h; exact h⟩
            obtain ⟨c0, ⟨v1, c1, hv1⟩, c2, c3⟩ := HS6.out.piece HB3.out hgb HPj.out
            simp only at c0 c1 c2 c3 hv1 hst
            obtain ⟨hst1, hst2, hst3⟩ := hst
            have hcf := fun args W => call_field j hlt args W
            go_wp2
            go_still_tail 12, (by kernel_rfl)
            still_call ((field_any j hlt (b + 1 + 1) _).mono (fun e w' h => ⟨h.1, h.2.symm⟩))
            repeat still_step
            refine wpStill_nil ?_
            have lj : w6.cell? ⟨b + 1 + 1, j, none⟩ = some (.int .i64 (xs.getD j 0)) := (blk_cell HS6.out.2.2.1 j).trans (ints_get xs j (by omega))
            have fj : w6.frozen? ⟨b + 1 + 1, j, none⟩ = false := blk_frozen HS6.out.2.2.1 j
            go_wp2
            go_roundg (15 - (j + 1))
            case measure => omega
            case rel => exact ⟨j + 1, n + (ta.size + m), xs.set j v, by omega, rfl, by go_num, by omega, by simp [hxs], HRun, ⟨(HS6.out.put (by rw [HH.out]; exact Nat.le_refl _) v).drew.as (by omega)⟩⟩
        | some ws =>
          simp only at hv1
          have hnn : n + ta.size ≤ s.size := by omega
          clear hc
          obtain ⟨ad, cc, rfl, hr⟩ := hv1.reads
          simp only at hf4
          go_wp2_with fail
          rw [HC.out] at HS5
          refine (oneOf_any w _ _ (n + ta.size) s (some ad) cc ws hs hf4.2 hnn hf4.1 hr HS5.out.1 HS5.out.2.2.2.1).mono ?_
          rintro e w6 ⟨rfl, hI6, hB6, hK6⟩
          have HS6 := Aside0.mk (HS5.out.call hI6 hB6 hK6)
          have hsi : stepI ((bl s).drop n) (ta, some ws, tl) = (ta.size + (pick ((bl s).drop (n + ta.size)) ws 0 0).1, (pick ((bl s).drop (n + ta.size)) ws 0 0).2.isSome, (((pick ((bl s).drop (n + ta.size)) ws 0 0).2.getD 0 : Nat) : Int)) := by
            unfold stepI
            rw [if_pos HC.out, List.drop_drop]
          clear hI6 hB6 hK6 HS5 c0 c1 c2 c3 hsz hv1 hr
          have hsz := HS6.out.size
          have hgt := (pick_le ((bl s).drop (n + ta.size)) ws 0 0 (Nat.zero_le _)).1
          rw [List.length_drop, bl_length] at hgt
          rw [hsi] at hst
          generalize (pick ((bl s).drop (n + ta.size)) ws 0 0).1 = m at *
          generalize (((pick ((bl s).drop (n + ta.size)) ws 0 0).2.getD 0 : Nat) : Int) = v at *
          generalize (pick ((bl s).drop (n + ta.size)) ws 0 0).2.isSome = ok at *
          have HSI := Aside0.mk hsi
          clear hsi
          have l1 : w6.cell? ⟨b + 1, 1, none⟩ = some (.int .i64 (n + ta.size + m : Nat)) := cellS91_1 HS6.out.1.1
          cases ok with
          | false =>
            have HRes := Aside0.mk (run_fail ht HR.out _ _ HSI.out)
            have z0 : w6.cell? ⟨b, 0, none⟩ = some (.int .i64 0) := (blk_cell HS6.out.2.1 0).trans rfl
            have z1 : w6.cell? ⟨b, 1, none⟩ = some (.int .i64 0) := (blk_cell HS6.out.2.1 1).trans rfl
            have z2 : w6.cell? ⟨b, 2, none⟩ = some (.int .i64 0) := (blk_cell HS6.out.2.1 2).trans rfl
            have z3 : w6.cell? ⟨b, 3, none⟩ = some (.int .i64 0) := (blk_cell HS6.out.2.1 3).trans rfl
            have z4 : w6.cell? ⟨b, 4, none⟩ = some (.int .i64 0) := (blk_cell HS6.out.2.1 4).trans rfl
            have z5 : w6.cell? ⟨b, 5, none⟩ = some (.int .i64 0) := (blk_cell HS6.out.2.1 5).trans rfl
            have z6 : w6.cell? ⟨b, 6, none⟩ = some (.int .i64 0) := (blk_cell HS6.out.2.1 6).trans rfl
            have z7 : w6.cell? ⟨b, 7, none⟩ = some (.int .i64 0) := (blk_cell HS6.out.2.1 7).trans rfl
            have z8 : w6.cell? ⟨b, 8, none⟩ = some (.int .i64 0) := (blk_cell HS6.out.2.1 8).trans rfl
            have z9 : w6.cell? ⟨b, 9, none⟩ = some (.int .i64 0) := (blk_cell HS6.out.2.1 9).trans rfl
            have z10 : w6.cell? ⟨b, 10, none⟩ = some (.int .i64 0) := (blk_cell HS6.out.2.1 10).trans rfl
            have z11 : w6.cell? ⟨b, 11, none⟩ = some (.int .i64 0) := (blk_cell HS6.out.2.1 11).trans rfl
            have z12 : w6.cell? ⟨b, 12, none⟩ = some (.int .i64 0) := (blk_cell HS6.out.2.1 12).trans rfl
            have z13 : w6.cell? ⟨b, 13, none⟩ = some (.int .i64 0) := (blk_cell HS6.out.2.1 13).trans rfl
            have z14 : w6.cell? ⟨b, 14, none⟩ = some (.int .i64 0) := (blk_cell HS6.out.2.1 14).trans rfl
            have zf : ∀ i, w6.frozen? ⟨b, i, none⟩ = false := fun i => blk_frozen HS6.out.2.1 i
            go_wp2
            go_region
            go_wp2
            have hz := zero15 (W := w6) HS6.out.2.1
            refine bodyPost_ret (results_ctt rfl _ _ b 28 (ints (List.replicate 15 0)) (0, 0) _ rfl (blk_drew hz.1) Tryd.underlying28 rfl (by kernel_rfl)) rfl ?_
            rw [HRes.out]
            exact ⟨by rw [← Nat.add_assoc]; rfl, below_drew (pw_below_grown HS6.out.2.2.2.1 (some b) HS6.out.2.2.2.1.size hz.2 (fun k hk => by obtain rfl := Option.some.inj hk; rw [HH.out]; exact Nat.le_refl _))⟩
          | true =>
            have HRun := Aside0.mk (run_on ht HR.out _ _ HSI.out)
            obtain ⟨c0, ⟨v1, c1, hv1⟩, c2, c3⟩ := HS6.out.piece HB3.out hgb HPj.out
            simp only at c0 c1 c2 c3 hv1 hst
            obtain ⟨hst1, hst2, hst3⟩ := hst
            have hcf := fun args W => call_field j hlt args W
            go_wp2
            go_still_tail 12, (by kernel_rfl)
            still_call ((field_any j hlt (b + 1 + 1) _).mono (fun e w' h => ⟨h.1, h.2.symm⟩))
            repeat still_step
            refine wpStill_nil ?_
            have lj : w6.cell? ⟨b + 1 + 1, j, none⟩ = some (.int .i64 (xs.getD j 0)) := (blk_cell HS6.out.2.2.1 j).trans (ints_get xs j (by omega))
            have fj : w6.frozen? ⟨b + 1 + 1, j, none⟩ = false := blk_frozen HS6.out.2.2.1 j
            go_wp2
            go_roundg (15 - (j + 1))
            case measure => omega
            case rel => exact ⟨j + 1, n + (ta.size + m), xs.set j (v + tl), by omega, rfl, by go_num, by omega, by simp [hxs], HRun, ⟨(HS6.out.put (by rw [HH.out]; exact Nat.le_refl _) (v + tl)).drew.as (by omega)⟩⟩
      · have hcd : decide (com ((bl s).drop n) (bl ta) = ta.size) = false := decide_eq_false hc
        have HC := Aside0.mk hc
        clear hc
        have l1 : w5.cell? ⟨b + 1, 1, none⟩ = some (.int .i64 (n + com ((bl s).drop n) (bl ta) : Nat)) := cellS91_1 HS5.out.1.1
        have HRes := Aside0.mk (run_fail ht HR.out (com ((bl s).drop n) (bl ta)) 0 (by unfold stepI; rw [if_neg HC.out]))
        generalize com ((bl s).drop n) (bl ta) = c at *
        have z0 : w5.cell? ⟨b, 0, none⟩ = some (.int .i64 0) := (blk_cell HS5.out.2.1 0).trans rfl
        have z1 : w5.cell? ⟨b, 1, none⟩ = some (.int .i64 0) := (blk_cell HS5.out.2.1 1).trans rfl
        have z2 : w5.cell? ⟨b, 2, none⟩ = some (.int .i64 0) := (blk_cell HS5.out.2.1 2).trans rfl
        have z3 : w5.cell? ⟨b, 3, none⟩ = some (.int .i64 0) := (blk_cell HS5.out.2.1 3).trans rfl
        have z4 : w5.cell? ⟨b, 4, none⟩ = some (.int .i64 0) := (blk_cell HS5.out.2.1 4).trans rfl
        have z5 : w5.cell? ⟨b, 5, none⟩ = some (.int .i64 0) := (blk_cell HS5.out.2.1 5).trans rfl
        have z6 : w5.cell? ⟨b, 6, none⟩ = some (.int .i64 0) := (blk_cell HS5.out.2.1 6).trans rfl
        have z7 : w5.cell? ⟨b, 7, none⟩ = some (.int .i64 0) := (blk_cell HS5.out.2.1 7).trans rfl
        have z8 : w5.cell? ⟨b, 8, none⟩ = some (.int .i64 0) := (blk_cell HS5.out.2.1 8).trans rfl
        have z9 : w5.cell? ⟨b, 9, none⟩ = some (.int .i64 0) := (blk_cell HS5.out.2.1 9).trans rfl
        have z10 : w5.cell? ⟨b, 10, none⟩ = some (.int .i64 0) := (blk_cell HS5.out.2.1 10).trans rfl
        have z11 : w5.cell? ⟨b, 11, none⟩ = some (.int .i64 0) := (blk_cell HS5.out.2.1 11).trans rfl
        have z12 : w5.cell? ⟨b, 12, none⟩ = some (.int .i64 0) := (blk_cell HS5.out.2.1 12).trans rfl
        have z13 : w5.cell? ⟨b, 13, none⟩ = some (.int .i64 0) := (blk_cell HS5.out.2.1 13).trans rfl
        have z14 : w5.cell? ⟨b, 14, none⟩ = some (.int .i64 0) := (blk_cell HS5.out.2.1 14).trans rfl
        have zf : ∀ i, w5.frozen? ⟨b, i, none⟩ = false := fun i => blk_frozen HS5.out.2.1 i
        go_wp2
        go_region
        go_wp2
        have hz := zero15 (W := w5) HS5.out.2.1
        refine bodyPost_ret (results_ctt rfl _ _ b 28 (ints (List.replicate 15 0)) (0, 0) _ rfl (blk_drew hz.1) Tryd.underlying28 rfl (by kernel_rfl)) rfl ?_
        rw [HRes.out]
        exact ⟨rfl, below_drew (pw_below_grown HS5.out.2.2.2.1 (some b) HS5.out.2.2.2.1.size hz.2 (fun k hk => by obtain rfl := Option.some.inj hk; rw [HH.out]; exact Nat.le_refl _))⟩
    · have hltb : decide ((j : Int) < 15) = false := decide_eq_false (by omega)
      have l1 : wr.cell? ⟨b + 1, 1, none⟩ = some (.int .i64 n) := cellS91_1 HS.out.1.1
      have hrun : runI (bl s) cTab 0 0 (List.replicate 15 0) = (n, some xs) := by rw [← HR.out, List.drop_of_length_le (show cTab.length ≤ j from (by have : cTab.length = 15 := rfl; omega))]; rfl
      have HRun := Aside0.mk hrun
      clear hrun
      by_cases hend : n < s.size
      · have HRes : Aside0 (statI (bl s) = (List.replicate 15 0, n, 126)) := ⟨by unfold statI; rw [HRun.out]; simp only; rw [if_pos (by rw [bl_length]; exact hend)]⟩
        have z0 : wr.cell? ⟨b, 0, none⟩ = some (.int .i64 0) := (blk_cell HS.out.2.1 0).trans rfl
        have z1 : wr.cell? ⟨b, 1, none⟩ = some (.int .i64 0) := (blk_cell HS.out.2.1 1).trans rfl
        have z2 : wr.cell? ⟨b, 2, none⟩ = some (.int .i64 0) := (blk_cell HS.out.2.1 2).trans rfl
        have z3 : wr.cell? ⟨b, 3, none⟩ = some (.int .i64 0) := (blk_cell HS.out.2.1 3).trans rfl
        have z4 : wr.cell? ⟨b, 4, none⟩ = some (.int .i64 0) := (blk_cell HS.out.2.1 4).trans rfl
        have z5 : wr.cell? ⟨b, 5, none⟩ = some (.int .i64 0) := (blk_cell HS.out.2.1 5).trans rfl
        have z6 : wr.cell? ⟨b, 6, none⟩ = some (.int .i64 0) := (blk_cell HS.out.2.1 6).trans rfl
        have z7 : wr.cell? ⟨b, 7, none⟩ = some (.int .i64 0) := (blk_cell HS.out.2.1 7).trans rfl
        have z8 : wr.cell? ⟨b, 8, none⟩ = some (.int .i64 0) := (blk_cell HS.out.2.1 8).trans rfl
        have z9 : wr.cell? ⟨b, 9, none⟩ = some (.int .i64 0) := (blk_cell HS.out.2.1 9).trans rfl
        have z10 : wr.cell? ⟨b, 10, none⟩ = some (.int .i64 0) := (blk_cell HS.out.2.1 10).trans rfl
        have z11 : wr.cell? ⟨b, 11, none⟩ = some (.int .i64 0) := (blk_cell HS.out.2.1 11).trans rfl
        have z12 : wr.cell? ⟨b, 12, none⟩ = some (.int .i64 0) := (blk_cell HS.out.2.1 12).trans rfl
        have z13 : wr.cell? ⟨b, 13, none⟩ = some (.int .i64 0) := (blk_cell HS.out.2.1 13).trans rfl
        have z14 : wr.cell? ⟨b, 14, none⟩ = some (.int .i64 0) := (blk_cell HS.out.2.1 14).trans rfl
        have zf : ∀ i, wr.frozen? ⟨b, i, none⟩ = false := fun i => blk_frozen HS.out.2.1 i
        go_wp2
        go_region
        go_wp2
        have hz := zero15 (W := wr) HS.out.2.1
        refine bodyPost_ret (results_ctt rfl _ _ b 28 (ints (List.replicate 15 0)) (0, 0) _ rfl (blk_drew hz.1) Tryd.underlying28 rfl (by kernel_rfl)) rfl ?_
        rw [HRes.out]
        exact ⟨rfl, below_drew (pw_below_grown HS.out.2.2.2.1 (some b) HS.out.2.2.2.1.size hz.2 (fun k hk => by obtain rfl := Option.some.inj hk; rw [HH.out]; exact Nat.le_refl _))⟩
      · have HRes : Aside0 (statI (bl s) = (xs, 0, 0)) := ⟨by unfold statI; rw [HRun.out]; simp only; rw [if_neg (by rw [bl_length]; exact hend)]⟩
        have h15 : (ints xs).size = 15 := by simp [ints, hxs]
        have hi15 : (Tryd.prog.info? 28).map (·.size) = some (ints xs).size := by rw [h15]; kernel_rfl
        have hone : ∀ q ∈ (ints xs).toList, q.oneCell' = true := by
          intro q hq
          simp only [ints, List.mem_map] at hq
          obtain ⟨x, _, rfl⟩ := hq
          rfl
        have hsz : (ints xs).size = (ints (List.replicate 15 0)).size := by rw [h15]; rfl
        clear h15
        go_wp2_with (first | refine wpList_load_row rfl 28 _ rfl (b + 1 + 1) rfl 28 (ints xs) (0, 0) _ HS.out.2.2.1 Tryd.underlying28 rfl hi15 ?_ | (refine store_whole rfl rfl rfl (g := b) rfl (ints xs) rfl HS.out.2.1 hi15 hsz hone ?_; intro w6 hZ6 hg6))
        refine bodyPost_ret (results_ctt rfl _ _ b 28 (ints xs) (0, 0) _ rfl hZ6 Tryd.underlying28 rfl hi15) rfl ?_
        rw [HRes.out]
        exact ⟨rfl, pw_below_grown HS.out.2.2.2.1 (some b) HS.out.2.2.2.1.size hg6 (fun k hk => by obtain rfl := Option.some.inj hk; rw [HH.out]; exact Nat.le_refl _)⟩
theorem parse_any (s : ByteArray) (w : World) (hs : s.size ≤ 140737488351232) :
    Calls Tryd.prog 21 #[.string s] w fun e w' => e = .returned (.tuple #[.agg (ints (statI (bl s)).1), .int .i64 ((statI (bl s)).2.1 : Int), .int .i64 (statI (bl s)).2.2]) ∧ Below w.heap.size w w' := parse_big s w (Nat.le_trans hs (by decide))
end Go.Proofs.YtfecfgimfjcbdaaDoor.Cf

namespace Go.Proofs.YtfecfgimfjcbdaaDoor.Cf
open Go.RowKit Go.Proofs.YtfecfgimfjcbdaaDoorW.PrintWords

/-- What a builder's writes leave alone: every block but the builder's own that is no row of bytes. -/
def BKeep (w w' : World) (b : Nat) : Prop := w.heap.size ≤ w'.heap.size ∧ ∀ k o, w.heap[k]? = some o → k ≠ b → (∀ cs fr, o ≠ .cells cs 5 fr) → w'.heap[k]? = some o
theorem BKeep.refl (w : World) (b : Nat) : BKeep w w b := ⟨Nat.le_refl _, fun _ _ h _ _ => h⟩
theorem BKeep.trans {w w1 w2 : World} {b : Nat} (h : BKeep w w1 b) (k : BKeep w1 w2 b) : BKeep w w2 b := ⟨Nat.le_trans h.1 k.1, fun i o h1 h2 h3 => k.2 i o (h.2 i o h1 h2 h3) h2 h3⟩
theorem BKeep.of_below {w w1 : World} (h : Below w.heap.size w w1) (b : Nat) : BKeep w w1 b := ⟨h.size, fun _ _ h1 _ _ => blk_below h1 h⟩
theorem BKeep.of_grown {w w1 : World} {v : Value} {b : Nat} (h : w.grownBy w1 v.ownBlock) (ht : ∀ k, v.ownBlock = some k → ∃ cs fr, w.heap[k]? = some (.cells cs 5 fr)) : BKeep w w1 b := by
  refine ⟨h.size, fun i o h1 _ h3 => ?_⟩
  rw [h.block i (blk_lt h1) ?_]
  · exact h1
  · intro e
    obtain ⟨cs, fr, hc⟩ := ht i e.symm
    rw [h1] at hc
    exact h3 cs fr (Option.some.inj hc)
theorem BKeep.set {w w1 : World} {b : Nat} (h : BKeep w w1 b) (j : Nat) (v : Value) : BKeep w (w1.setCell ⟨b, j, none⟩ v) b :=
  ⟨by simpa [World.setCell] using h.1, fun i o h1 h2 h3 => (Below.heap_setCell w1 ⟨b, j, none⟩ v i h2).trans (h.2 i o h1 h2 h3)⟩
theorem BKeep.cell {w w1 : World} {b : Nat} (h : BKeep w w1 b) {g : Nat} {cs : Array Value} {t : TypeId} {fr : Nat × Nat} (hb : w.heap[g]? = some (.cells cs t fr)) (hg : g ≠ b) (ht : t ≠ 5) : w1.heap[g]? = some (.cells cs t fr) :=
  h.2 g _ hb hg (fun cs fr e => ht (by injection e))

theorem own_bytes {w : World} {B n : Nat} {v : Value} {xs : List Value} (h : w.ownsRow B 5 1 v n xs) : ∀ k, v.ownBlock = some k → ∃ cs fr, w.heap[k]? = some (.cells cs 5 fr) := fun k hk => by
  obtain ⟨cells, hc⟩ := own_typed h k hk
  exact ⟨cells, (0, 0), hc⟩

theorem size_builder : (Tryd.prog.info? 70).map (·.size) = some 2 := by kernel_rfl
theorem lies_builder : liesAt Tryd.prog Tryd.prog.depth 70 (2 / Tryd.prog.cellsOf 70) 0 70 1 = true := by kernel_rfl

set_option maxRecDepth 100000 in
theorem copyCheck_used (b : Nat) (w : World) (h0 : w.cell? ⟨b, 0, none⟩ = some (.pointer (some ⟨b, 0, none⟩))) :
    Calls Tryd.prog 94 #[.pointer (some ⟨b, 0, none⟩)] w fun e w' => e = .returned (.tuple #[]) ∧ w' = w := by
  obtain ⟨j, hj, _⟩ := Option.map_eq_some_iff.1 size_builder
  go_enter Tryd.func94, Tryd.ntmps94
  go_wp2
  rw [Lib.run_neq_ptr_same w _ Tryd.underlying68 hj]
  go_wp2
  go_end0
  exact ⟨rfl, rfl⟩

set_option maxRecDepth 100000 in
theorem copyCheck_fresh (b : Nat) (w : World) (h0 : w.cell? ⟨b, 0, none⟩ = some (.pointer none)) (hsh : w.shape? b = some (70, 2)) (hfz : w.frozen? ⟨b, 0, none⟩ = false) :
    Calls Tryd.prog 94 #[.pointer (some ⟨b, 0, none⟩)] w fun e w' => e = .returned (.tuple #[]) ∧ w' = w.setCell ⟨b, 0, none⟩ (.pointer (some ⟨b, 0, none⟩)) := by
  obtain ⟨j, hj, hjs⟩ := Option.map_eq_some_iff.1 size_builder
  go_enter Tryd.func94, Tryd.ntmps94
  go_wp2
  rw [Lib.run_to_unsafe w ⟨b, 0, none⟩ Tryd.underlying68 Tryd.underlying132 hj (by rw [hjs]; decide) hsh (Nat.zero_lt_succ 1)]
  simp only [Result.andThen]
  rw [Oper.upon_value]
  go_wp2
  rw [run_callFunc_extern Tryd.func107 (by kernel_rfl) (by kernel_rfl) (by kernel_rfl) (e := Extern.AbiNoEscape.same) (by kernel_rfl)]
  rw [Lib.run_noEscape]
  simp only [Result.andThen]
  rw [Oper.upon_value]
  go_wp2
  rw [Lib.run_from_unsafe w ⟨b, 0, none⟩ Tryd.underlying132 Tryd.underlying68 hj hsh lies_builder]
  simp only [Result.andThen]
  rw [Oper.upon_value]
  go_wp2
  go_end0
  exact ⟨rfl, rfl⟩

abbrev IsB (B b : Nat) (bs : List Value) (w : World) : Prop := Lib.IsBuilder 70 5 B b bs w

theorem copyCheck_any (B b : Nat) (bs : List Value) (w : World) (h : IsB B b bs w) :
    Calls Tryd.prog 94 #[.pointer (some ⟨b, 0, none⟩)] w fun e w' => e = .returned (.tuple #[]) ∧ (Lib.BuilderAt 70 5 B b (.pointer (some ⟨b, 0, none⟩)) bs w' ∧ Below B w w' ∧ BKeep w w' b) := by
  rcases h with h | h
  · refine (copyCheck_fresh b w h.cell0 h.shape h.frozen0).mono ?_
    rintro e w' ⟨rfl, rfl⟩
    exact ⟨rfl, h.used _, (Below.refl B w).setCell (p := ⟨b, 0, none⟩) h.1 _, (BKeep.refl w b).set 0 _⟩
  · refine (copyCheck_used b w h.cell0).mono ?_
    rintro e w' ⟨rfl, rfl⟩
    exact ⟨rfl, h, Below.refl B _, BKeep.refl _ _⟩

theorem info_byte : (Tryd.prog.info? 5).map (fun i => (i.zero, i.size, i.bytes)) = some (some (.int .u8 0), 1, 1) := by kernel_rfl

set_option maxHeartbeats 2000000 in
set_option maxRecDepth 100000 in
theorem writeString_cells (B b : Nat) (bs : List Value) (s : ByteArray) (w : World) (h : IsB B b bs w) (hlen : bs.length + s.size ≤ 140737488355328) (hBw : B ≤ w.heap.size) :
    Calls Tryd.prog 42 #[.pointer (some ⟨b, 0, none⟩), .string s] w fun e w' => e = .returned (.tuple #[.int .i64 s.size, .nilIface]) ∧ (Lib.BuilderAt 70 5 B b (.pointer (some ⟨b, 0, none⟩)) (bs ++ Lib.strCells s) w' ∧ Below B w w' ∧ BKeep w w' b) := by
  obtain ⟨i0, hi, hz0, hz1, hz2⟩ := info_parts info_byte
  go_enter Tryd.func42, Tryd.ntmps42
  go_wp2_with (go_at_call 94; refine (copyCheck_any B b bs _ h).mono ?_)
  rintro e w1 ⟨rfl, h1, hb1, hk1⟩
  obtain ⟨hB, v, hbk, hown, hne⟩ := h1
  have c0 : w1.cell? ⟨b, 0, none⟩ = some (.pointer (some ⟨b, 0, none⟩)) := by rw [Lib.cell_of_heap hbk]; rfl
  have c1 : w1.cell? ⟨b, 1, none⟩ = some v := by rw [Lib.cell_of_heap hbk]; rfl
  have hb1s := hb1.size
  go_wp2_with (at_builtin; refine Lib.wpList_append_own_string _ rfl _ _ 36 9 rfl B 5 i0 Tryd.underlying36 Tryd.underlying9 hi hz0 hz1 hz2 _ _ _ rfl hown s rfl ?c3 ?c4 ?c5 ?_)
  case c3 => unfold maxLen; omega
  case c4 => omega
  case c5 => omega
  intro v' w2 hown' hgrow _
  have hlt : b < w1.heap.size := blk_lt hbk
  have hb2 : w2.heap[b]? = some (.cells #[.pointer (some ⟨b, 0, none⟩), v] 70 (0, 0)) := by
    rw [hgrow.block b hlt (fun e => hne e.symm)]
    exact hbk
  have d0 : w2.cell? ⟨b, 0, none⟩ = some (.pointer (some ⟨b, 0, none⟩)) := by rw [Lib.cell_of_heap hb2]; rfl
  have d1 : w2.cell? ⟨b, 1, none⟩ = some v := by rw [Lib.cell_of_heap hb2]; rfl
  have f1 : w2.frozen? ⟨b, 1, none⟩ = false := Lib.frozen_of_heap hb2 1
  obtain ⟨ao, n', cap, rfl⟩ : ∃ ao n' cap, v' = .slice ao n' cap := by
    rcases hown'.2 with ⟨hv, _⟩ | ⟨g, cap, cur, hv, _⟩
    · exact ⟨_, _, _, hv⟩
    · exact ⟨_, _, _, hv⟩
  go_wp2
  go_ret2
  refine ⟨rfl, ?_, ?_, ?_⟩
  · exact Lib.BuilderAt.put (T := 70) (e := 5) hB hb2 (bs' := bs ++ Lib.strCells s) (by simpa [Lib.strCells_length] using hown') (by decide)
  · exact (hb1.grown hgrow (by omega) (fun k hk => (hown.lt k hk).1)).setCell (p := ⟨b, 1, none⟩) hB _
  · exact (hk1.trans (BKeep.of_grown hgrow (own_bytes hown))).set 1 _
end Go.Proofs.YtfecfgimfjcbdaaDoor.Cf

namespace Go.Proofs.YtfecfgimfjcbdaaDoor.Cf
open Go.RowKit Go.Proofs.YtfecfgimfjcbdaaDoorW.PrintWords Go.Proofs.YtfecfgimfjcbdaaDoorW.PrintLast Go.Proofs.YtfecfgimfjcbdaaDoorW.PrintMore

/-- What a piece of a status line is, for the field's value n; none: it has none. -/
def wrI (t : ByteArray × Option (List ByteArray) × Int) (n : Int) : Option (List UInt8) :=
  match t.2.1 with
  | none => if 0 ≤ n then some (bl t.1 ++ Lib.itoa n) else none
  | some ws => if t.2.2 ≤ n ∧ n - t.2.2 < ws.length then some (bl t.1 ++ bl (ws.getD (n - t.2.2).toNat ByteArray.empty)) else none
def outI : List (ByteArray × Option (List ByteArray) × Int) → List Int → List UInt8 → Option (List UInt8)
  | t :: ts, n :: ns, l => (wrI t n).bind fun x => outI ts ns (l ++ x)
  | _, _, l => some l
/-- What Status answers: the line, the error. -/
def lineI (xs : List Int) : List UInt8 × Int :=
  match outI cTab xs [] with
  | some l => (l, 0)
  | none => ([], 1)

theorem StrBlk.bkeep {w w1 : World} {B b : Nat} {v : Value} {ws : List ByteArray} (h : StrBlk w B v ws) (hk : BKeep w w1 b) (hb : b < B) : StrBlk w1 B v ws := by
  obtain ⟨gw, c, rest, rfl, hc, hl, hB, hg⟩ := h
  exact ⟨gw, c, rest, rfl, hc, hl, hB, hk.cell hg (by omega) (by decide)⟩
theorem Piece.bkeep {w w1 : World} {B b g i : Nat} {t : ByteArray × Option (List ByteArray) × Int} (h : Piece w B g i t) (hk : BKeep w w1 b) (hb : b < B) (hg : B ≤ g) {cs : Array Value} (hc : w.heap[g]? = some (.cells cs 76 (0, 0))) : Piece w1 B g i t := by
  obtain ⟨h0, ⟨v, h1, hv⟩, h2, h3⟩ := h
  have hc1 := hk.cell hc (by omega) (by decide)
  have e : ∀ j, w1.cell? ⟨g, j, none⟩ = w.cell? ⟨g, j, none⟩ := fun j => by rw [blk_cell hc1, blk_cell hc]
  refine ⟨(e _).trans h0, ⟨v, (e _).trans h1, ?_⟩, (e _).trans h2, (e _).trans h3⟩
  cases ee : t.2.1 with
  | none => rw [ee] at hv; exact hv
  | some ws => rw [ee] at hv; exact StrBlk.bkeep hv hk hb

/-- The memory in a round: the status at b0, the builder at b0 + 1 with l written; what else was there by w4 stands. -/
def St2 (w w4 wr : World) (b0 : Nat) (xs : List Int) (l : List UInt8) : Prop :=
  wr.heap[b0]? = some (.cells (ints xs) 28 (0, 0)) ∧ IsB w.heap.size (b0 + 1) (Lib.byteCells l) wr ∧ Below w.heap.size w wr ∧ BKeep w4 wr (b0 + 1)
theorem St2.step {w w4 wr w5 : World} {b0 : Nat} {xs : List Int} {l l' : List UInt8} (h : St2 w w4 wr b0 xs l) (hI : IsB w.heap.size (b0 + 1) (Lib.byteCells l') w5) (hB : Below w.heap.size wr w5) (hK : BKeep wr w5 (b0 + 1)) : St2 w w4 w5 b0 xs l' :=
  ⟨hK.cell h.1 (by omega) (by decide), hI, h.2.2.1.trans hB, h.2.2.2.trans hK⟩
theorem St2.drew {w w4 wr : World} {b0 : Nat} {xs : List Int} {l : List UInt8} (h : St2 w w4 wr b0 xs l) : St2 w w4 wr.drew b0 xs l := by
  obtain ⟨h1, h2, h3, h4⟩ := h
  exact ⟨h1, h2, below_drew h3, h4⟩

theorem isB_below {B b : Nat} {bs : List Value} {w w1 : World} (h : IsB B b bs w) (hb : Below w.heap.size w w1) : IsB B b bs w1 := by
  have h1 : ∀ {p}, Lib.BuilderAt 70 5 B b p bs w → Lib.BuilderAt 70 5 B b p bs w1 := fun ⟨hB, v, hbk, hown, hne⟩ => ⟨hB, v, blk_below hbk hb, pw_own_below hown hb, hne⟩
  exact h.elim (fun x => .inl (h1 x)) (fun x => .inr (h1 x))
theorem below_growN {w w1 : World} {B : Nat} (h : Below B w w1) (hB : B ≤ w1.heap.size) (q : Nat) (os : Array Obj) : Below B w (Go.Sort.grow (w1.drewN q) os) :=
  ⟨h.os, h.tape, h.output, by simp only [Go.Sort.grow, Array.size_append]; exact Nat.le_trans h.size (Nat.le_add_right _ _), fun k hk => by
    have e : (Go.Sort.grow (w1.drewN q) os).heap = w1.heap ++ os := rfl
    rw [e, Array.getElem?_append_left (by omega)]
    exact h.block k hk⟩
theorem below_lower {B : Nat} {w w1 : World} (h : Below w.heap.size w w1) (hB : B ≤ w.heap.size) : Below B w w1 := ⟨h.os, h.tape, h.output, h.size, fun k hk => h.block k (by omega)⟩
theorem cells_snoc (l : List UInt8) (s : ByteArray) : Lib.byteCells l ++ Lib.strCells s = Lib.byteCells (l ++ bl s) := by
  simp [Lib.byteCells, Lib.strCells, bl]

theorem writeString_any (w0 w : World) (b : Nat) (l : List UInt8) (s : ByteArray) (h : IsB w0.heap.size b (Lib.byteCells l) w) (hlen : l.length + s.size ≤ 1000000) (hBw : w0.heap.size ≤ w.heap.size) :
    Calls Tryd.prog 42 #[.pointer (some ⟨b, 0, none⟩), .string s] w fun e w' => e = .returned (.tuple #[.int .i64 s.size, .nilIface]) ∧ IsB w0.heap.size b (Lib.byteCells (l ++ bl s)) w' ∧ Below w0.heap.size w w' ∧ BKeep w w' b := by
  refine (writeString_cells w0.heap.size b _ s w h (by rw [Lib.byteCells_length]; omega) hBw).mono ?_
  rintro e w' ⟨rfl, h1, h2, h3⟩
  rw [cells_snoc] at h1
  exact ⟨rfl, .inr h1, h2, h3⟩

theorem nDigits_le : ∀ (k u : Nat), 1 ≤ k → u < 10 ^ k → Lib.nDigits u ≤ k
  | 0, _, h, _ => by omega
  | 1, u, _, h => by rw [Lib.nDigits_small (by omega)]; exact Nat.le_refl _
  | k + 2, u, _, h => by
    by_cases hu : u < 10
    · rw [Lib.nDigits_small hu]; omega
    · have hd : u / 10 < 10 ^ (k + 1) := by
        rw [Nat.pow_succ] at h
        exact Nat.div_lt_of_lt_mul (by rw [Nat.mul_comm]; exact h)
      have := nDigits_le (k + 1) (u / 10) (by omega) hd
      rw [Lib.nDigits_big hu]
      omega
theorem itoa_length {n : Int} (h0 : 0 ≤ n) (h1 : n ≤ 9223372036854775807) : (Lib.itoa n).length ≤ 19 := by
  unfold Lib.itoa
  rw [if_neg (by omega), Lib.decDigits_length]
  refine nDigits_le 19 _ (by omega) ?_
  have : n.toNat ≤ 9223372036854775807 := by omega
  exact Nat.lt_of_le_of_lt this (by decide)

theorem cTab_small : ∀ (i : Nat) (t : ByteArray × Option (List ByteArray) × Int), cTab[i]? = some t → ∀ ws, t.2.1 = some ws → ∀ x ∈ ws, x.size ≤ 100 := by
  intro i t hi ws hw
  have hl : i < 15 := (List.getElem?_eq_some_iff.1 hi).1
  rcases i with _ | _ | _ | _ | _ | _ | _ | _ | _ | _ | _ | _ | _ | _ | _ | i
  case succ.succ.succ.succ.succ.succ.succ.succ.succ.succ.succ.succ.succ.succ.succ => omega
  all_goals
    obtain rfl := Option.some.inj hi
    first
      | cases hw; done
      | (obtain rfl := Option.some.inj hw; decide)
theorem outI_step {j : Nat} {t : ByteArray × Option (List ByteArray) × Int} {n : Int} {xs : List Int} {l : List UInt8} (ht : cTab[j]? = some t) (hn : xs[j]? = some n) : outI (cTab.drop j) (xs.drop j) l = (wrI t n).bind fun x => outI (cTab.drop (j + 1)) (xs.drop (j + 1)) (l ++ x) := by
  have h1 : cTab.drop j = t :: cTab.drop (j + 1) := by rw [List.drop_eq_getElem?_toList_append, ht]; rfl
  have h2 : xs.drop j = n :: xs.drop (j + 1) := by rw [List.drop_eq_getElem?_toList_append, hn]; rfl
  rw [h1, h2]
  rfl

/-- The table of powers of ten, there as long as nothing that was there by w is changed. -/
def Tab10 (w : World) : Prop := ∀ w', Below w.heap.size w w' → Lib.TabIs Tryd.prog w' "internal/strconv.uint64pow10" .u64 Lib.pow10Tab

set_option maxRecDepth 100000 in
set_option maxHeartbeats 1000000 in
theorem status_any (xs : List Int) (hx : xs.length = 15) (hbd : ∀ x ∈ xs, -9223372036854775808 ≤ x ∧ x ≤ 9223372036854775807) (w : World) (htab : Tab10 w) :
    Calls Tryd.prog 16 #[.agg (ints xs)] w fun e w' => e = .returned (.tuple #[.string ⟨(lineI xs).1.toArray⟩, .int .i64 (lineI xs).2]) ∧ Below w.heap.size w w' := by
  have HTab := Aside0.mk htab
  clear htab
  go_enter Tryd.func16, Tryd.ntmps16
  go_wp2_with fail
  generalize hw1 : w.alloc (.cells (ints xs) 28) = w1
  generalize hC : Obj.cells #[.pointer none, .slice none 0 0] 70 = C
  generalize hw2 : w1.alloc C = w2
  generalize hb : w.heap.size = b
  have hs1 : w1.heap.size = b + 1 := by rw [← hw1, ← hb]; simp
  have hs2 : w2.heap.size = b + 2 := by rw [← hw2]; simp [hs1]
  have k1 : w2.heap[b]? = some (.cells (ints xs) 28 (0, 0)) := by rw [← hw2, ← hw1, ← hb]; exact blk_alloc (blk_new w _) C
  have k2 : w2.heap[b + 1]? = some C := by rw [← hw2, ← hs1]; exact blk_new w1 C
  have hB : Below w.heap.size w w2 := by
    rw [← hw2, ← hw1]
    exact ((Below.refl _ _).alloc (Nat.le_refl _) _).alloc (by simp) _
  subst hC
  have hI : IsB w.heap.size (b + 1) [] w2 := .inl ⟨by omega, .slice none 0 0, k2, own_nil _ _ _ _, by simp [Value.ownBlock]⟩
  clear hw1 hw2 hs1 k2
  refine (parts_typed w2).mono ?_
  rintro e w4 ⟨g, rfl, hg, hB4, ⟨cs4, hc4⟩, hP⟩
  have hS : St2 w w4 w4 b xs [] := ⟨blk_below k1 hB4, isB_below hI hB4, below_then hB (by omega) hB4, BKeep.refl _ _⟩
  have HS := Aside0.mk hS
  have HP := Aside0.mk hP
  have HH := Aside0.mk hb
  have HC4 := Aside0.mk hc4
  have HX := Aside0.mk hx
  have HW2 := Aside0.mk hs2
  have hg2 : b + 2 ≤ g := by omega
  have HBd := Aside0.mk hbd
  clear hS hP hB4 hB k1 hI hg hs2 hb hc4 hx hbd
  have qT : ∀ (w : World) (a : Option Addr) (n c n' c' : Nat), (binOp .eql 45 (.slice a n c) (.slice none n' c')).run Tryd.prog w = .ok (.bool a.isNone) w := fun w a n c n' c' => Lib.run_eql_slice_nil w _ _ a n c n' c' Tryd.underlying45
  have qN : ∀ (w : World) (a : Option Addr) (n c n' c' : Nat), (binOp .neq 45 (.slice a n c) (.slice none n' c')).run Tryd.prog w = .ok (.bool (!a.isNone)) w := fun w a n c n' c' => run_neq_slice_nil_any w _ _ a n c n' c' Tryd.underlying45
  go_wp2
  go_loopg [12] 15 (fun kq v12 wr => ∃ (j : Nat) (l : List UInt8), j ≤ 15 ∧ kq = 15 - j ∧ v12 = .int .i64 j ∧ l.length ≤ 1000 * j ∧ Aside0 (outI (cTab.drop j) (xs.drop j) l = outI cTab xs []) ∧ Aside0 (St2 w w4 wr b xs l))
  case atStart => exact ⟨0, [], by omega, rfl, rfl, by simp, ⟨rfl⟩, HS⟩
  case round =>
    clear HS
    obtain ⟨j, l, hj, rfl, rfl, hl, HR, HS⟩ := hrel
    by_cases hlt : j < 15
    · have hltb : decide ((j : Int) < 15) = true := decide_eq_true (by omega)
      obtain ⟨⟨ta, two, tl⟩, ht⟩ : ∃ t, cTab[j]? = some t := ⟨_, List.getElem?_eq_getElem hlt⟩
      have hf := cTab_facts j _ ht
      obtain ⟨x, hxj⟩ : ∃ x, xs[j]? = some x := ⟨_, List.getElem?_eq_getElem (by rw [HX.out]; exact hlt)⟩
      obtain ⟨hx0, hx1⟩ := HBd.out x (List.mem_of_getElem? hxj)
      have HO := Aside0.mk (outI_step (l := l) ht hxj)
      have HPj := Aside0.mk (HP.out j _ ht)
      obtain ⟨c0, ⟨v1, c1, hv1⟩, c2, c3⟩ := HPj.out.bkeep HS.out.2.2.2 (show b + 1 < w2.heap.size by rw [HW2.out]; omega) (show w2.heap.size ≤ g by rw [HW2.out]; exact hg2) HC4.out
      have cx : wr.cell? ⟨b, j, none⟩ = some (.int .i64 x) := by
        rw [blk_cell HS.out.1 j]
        simp [ints, hxj]
      have hlen : (j : Int) < 15 := by omega
      simp only at c0 c1 c2 c3 hf hv1
      obtain ⟨hf1, hf2, hf3, hf4⟩ := hf
      have hcf := fun args W => call_field j hlt args W
      have HSm := Aside0.mk (cTab_small j _ ht)
      clear hxj ht
      go_wp2_with fail
      refine (field_any j hlt b _).mono ?_
      rintro e w5 ⟨rfl, rfl⟩
      go_wp2_with fail
      refine (writeString_any w wr (b + 1) l ta HS.out.2.1 (by omega) HS.out.2.2.1.size).mono ?_
      rintro e w5 ⟨rfl, hI5, hB5, hK5⟩
      have HS5 := Aside0.mk (HS.out.step hI5 hB5 hK5)
      clear c0 c1 c2 c3 hv1 cx hI5 hB5 hK5 HS
      obtain ⟨c0, ⟨v1, c1, hv1⟩, c2, c3⟩ := HPj.out.bkeep HS5.out.2.2.2 (show b + 1 < w2.heap.size by rw [HW2.out]; omega) (show w2.heap.size ≤ g by rw [HW2.out]; exact hg2) HC4.out
      simp only at c0 c1 c2 c3 hv1
      have hl5 : (l ++ bl ta).length ≤ 1000 * j + 100 := by rw [List.length_append, bl_length]; omega
      cases two with
      | none =>
        simp only at hv1
        subst hv1
        by_cases h0 : 0 ≤ x
        · have hit := itoa_length h0 hx1
          have hw : wrI (ta, none, tl) x = some (bl ta ++ Lib.itoa x) := by unfold wrI; simp only; rw [if_pos h0]
          have HW := Aside0.mk hw
          clear hw
          go_wp2_with fail
          refine (Tryd.strconv_Itoa x hx0 hx1 _ (HTab.out _ HS5.out.2.2.1)).mono ?_
          rintro e w6 ⟨rfl, q, os, rfl⟩
          have hB6 := below_growN HS5.out.2.2.1 HS5.out.2.2.1.size q os
          have hb6 := below_growN (Below.refl w5.heap.size w5) (Nat.le_refl _) q os
          generalize Go.Sort.grow (w5.drewN q) os = w6 at *
          have HS6 : Aside0 (St2 w w4 w6 b xs (l ++ bl ta)) := ⟨HS5.out.step (isB_below HS5.out.2.1 hb6) (below_lower hb6 HS5.out.2.2.1.size) (BKeep.of_below hb6 _)⟩
          clear hB6 hb6 HS5 c0 c1 c2 c3
          go_wp2_with fail
          have hsz : (⟨(Lib.itoa x).toArray⟩ : ByteArray).size = (Lib.itoa x).length := rfl
          refine (writeString_any w w6 (b + 1) (l ++ bl ta) ⟨(Lib.itoa x).toArray⟩ HS6.out.2.1 (by omega) HS6.out.2.2.1.size).mono ?_
          rintro e w7 ⟨rfl, hI7, hB7, hK7⟩
          have HS7 := Aside0.mk (HS6.out.step hI7 hB7 hK7)
          clear hI7 hB7 hK7 HS6
          have HR7 : Aside0 (outI (cTab.drop (j + 1)) (xs.drop (j + 1)) (l ++ bl ta ++ bl ⟨(Lib.itoa x).toArray⟩) = outI cTab xs []) := ⟨by
            rw [← HR.out, HO.out, HW.out, Option.bind_some, List.append_assoc]
            rfl⟩
          have hl7 : (l ++ bl ta ++ bl ⟨(Lib.itoa x).toArray⟩).length ≤ 1000 * (j + 1) := by
            rw [List.length_append, bl_length, hsz]
            omega
          go_wp2
          go_roundg (15 - (j + 1))
          case measure => omega
          case rel => exact ⟨j + 1, _, by omega, rfl, by go_num, hl7, HR7, HS7⟩
        · have hw : lineI xs = ([], 1) := by
            unfold lineI
            rw [← HR.out, HO.out]
            have : wrI (ta, none, tl) x = none := by unfold wrI; simp only; rw [if_neg h0]
            rw [this]
            rfl
          have HRes := Aside0.mk hw
          clear hw
          go_wp2
          go_region
          all_goals
            go_wp2
            go_ret2
            rw [HRes.out]
            exact ⟨rfl, below_drew HS5.out.2.2.1⟩
      | some ws =>
        obtain ⟨ad, cc, rfl, hr⟩ := StrBlk.reads hv1
        simp only at hf4
        by_cases ha : tl ≤ x
        · have hda : decide (tl ≤ x) = true := decide_eq_true ha
          by_cases hb : x - tl < ws.length
          · have hdb : decide (x - tl < (ws.length : Int)) = true := decide_eq_true hb
            have hit : 0 ≤ x - tl := by omega
            have hdw : ws.getD (x - tl).toNat ByteArray.empty = rdOf ByteArray.empty ws (x - tl) := rfl
            have hw : wrI (ta, some ws, tl) x = some (bl ta ++ bl (rdOf ByteArray.empty ws (x - tl))) := by unfold wrI; simp only; rw [if_pos ⟨ha, hb⟩, hdw]
            have HW := Aside0.mk hw
            clear hw hdw
            obtain ⟨ad1, e1, hx1c⟩ := Kd.at_string hr (x - tl) hit hb
            cases e1
            have hmem : rdOf ByteArray.empty ws (x - tl) ∈ ws := by
              unfold rdOf
              have hlw : (x - tl).toNat < ws.length := by omega
              rw [List.getD_eq_getElem?_getD, List.getElem?_eq_getElem hlw]
              exact List.getElem_mem hlw
            have hsm := HSm.out ws rfl _ hmem
            generalize rdOf ByteArray.empty ws (x - tl) = sw at *
            go_wp2
            go_region
            go_wp2
            refine wp_region_still_tail 12 (by kernel_rfl) (by kernel_rfl) ?_
            simp only [List.take_succ_cons, List.take_zero, List.drop_succ_cons, List.drop_zero]
            generalize hwd : ({ heap := w5.drew.heap, tape := w5.drew.tape, drawn := w5.drew.drawn + 1, os := w5.drew.os, output := w5.drew.output } : World) = w7
            have ew : ∀ ad, w7.cell? ad = w5.cell? ad := fun ad => by rw [← hwd]; rfl
            have d1 := (ew _).trans c1
            have d2 := (ew _).trans c2
            have dx := (ew _).trans hx1c
            have HS6 : Aside0 (St2 w w4 w7 b xs (l ++ bl ta)) := ⟨by rw [← hwd]; exact HS5.out.drew.drew⟩
            clear ew c0 c1 c2 c3 hx1c hr hv1 HS5 hwd
            repeat still_step
            refine wpStill_step (fun K hK => ?_)
            go_simp
            rw [show IntKind.i64.wrap (x - tl) = x - tl from IntWalk.i64_in _ ⟨by omega, by omega⟩, if_pos ⟨hit, hb⟩]
            go_simp
            refine hK _ ?_
            clear hK K
            repeat still_step
            refine wpStill_nil ?_
            go_wp2_with fail
            refine (writeString_any w w7 (b + 1) (l ++ bl ta) sw HS6.out.2.1 (by omega) HS6.out.2.2.1.size).mono ?_
            rintro e w8 ⟨rfl, hI7, hB7, hK7⟩
            have HS7 := Aside0.mk (HS6.out.step hI7 hB7 hK7)
            clear hI7 hB7 hK7 HS6 d1 d2 dx
            have HR7 : Aside0 (outI (cTab.drop (j + 1)) (xs.drop (j + 1)) (l ++ bl ta ++ bl sw) = outI cTab xs []) := ⟨by
              rw [← HR.out, HO.out, HW.out, Option.bind_some, List.append_assoc]⟩
            have hl7 : (l ++ bl ta ++ bl sw).length ≤ 1000 * (j + 1) := by
              rw [List.length_append, bl_length]
              omega
            go_wp2
            go_roundg (15 - (j + 1))
            case measure => omega
            case rel => exact ⟨j + 1, _, by omega, rfl, by go_num, hl7, HR7, HS7⟩
          · have hw : lineI xs = ([], 1) := by
              unfold lineI
              rw [← HR.out, HO.out]
              have : wrI (ta, some ws, tl) x = none := by unfold wrI; simp only; rw [if_neg (fun h => hb h.2)]
              rw [this]
              rfl
            have hdb : decide (x - tl < (ws.length : Int)) = false := decide_eq_false hb
            have HRes := Aside0.mk hw
            clear hw
            go_wp2
            go_region
            all_goals
              go_wp2
              go_ret2
              rw [HRes.out]
              exact ⟨rfl, below_drew HS5.out.2.2.1⟩
        · have hw : lineI xs = ([], 1) := by
            unfold lineI
            rw [← HR.out, HO.out]
            have : wrI (ta, some ws, tl) x = none := by unfold wrI; simp only; rw [if_neg (fun h => ha h.1)]
            rw [this]
            rfl
          have hda : decide (tl ≤ x) = false := decide_eq_false ha
          have HRes := Aside0.mk hw
          clear hw
          go_wp2
          go_region
          all_goals
            go_wp2
            go_ret2
            rw [HRes.out]
            exact ⟨rfl, below_drew HS5.out.2.2.1⟩
    · have hltb : decide ((j : Int) < 15) = false := decide_eq_false (by omega)
      have hj15 : j = 15 := by omega
      subst hj15
      have hw : lineI xs = (l, 0) := by
        unfold lineI
        rw [← HR.out]
        rfl
      have HRes := Aside0.mk hw
      clear hw
      go_wp2_with fail
      refine (Tryd.Builder_String_any w.heap.size (b + 1) l _ (by first | exact HS.out.2.1 | exact HS.out.drew.2.1) (by first | exact HS.out.2.2.1.size | exact HS.out.drew.2.2.1.size)).mono ?_
      rintro e w5 ⟨rfl, hB5⟩
      have hB6 : Below w.heap.size w w5 := by first | exact HS.out.2.2.1.trans hB5 | exact HS.out.drew.2.2.1.trans hB5
      go_wp2
      go_ret2
      rw [HRes.out]
      exact ⟨rfl, hB6⟩
end Go.Proofs.YtfecfgimfjcbdaaDoor.Cf
