/- oneOf: which of some words stands at a line's place. -/
import Derived.Test.YtfecfgimfjcbdaaDoorConfB
import Derived.WalkLawsBesides
import Derived.WalkSpells
import Derived.BigRegion
namespace Go.Proofs.YtfecfgimfjcbdaaDoor.Cf
open Go.RowKit Go.Proofs.YtfecfgimfjcbdaaDoorW.PrintWords Go.Proofs.YtfecfgimfjcbdaaDoorW.PrintLast Go.Proofs.YtfecfgimfjcbdaaDoorW.PrintMore Go.Proofs.YtfecfgimfjcbdaaDoor.QCParseStatus
attribute [local go_sem] max2_int min2_int

/-- The first of the words that stands at l's beginning; else how far the words and l go together. -/
def pick (l : List UInt8) : List ByteArray → Nat → Nat → Nat × Option Nat
  | [], _, far => (far, none)
  | x :: xs, i, far => if com l (bl x) = x.size then (x.size, some i) else pick l xs (i + 1) (max far (com l (bl x)))

theorem below_keep {w0 w wq w1 : World} {g : Nat} (hW : Below w.heap.size w wq) (hB : Below w0.heap.size w0 wq) (hB1 : Below w0.heap.size w0 w1) (hK : KeepBut wq w1 g none) (hg : w.heap.size ≤ g) : Below w.heap.size w w1 :=
  ⟨hB1.os.trans (hB.os.symm.trans hW.os), hB1.tape.trans (hB.tape.symm.trans hW.tape), hB1.output.trans (hB.output.symm.trans hW.output), Nat.le_trans hW.size hK.1, fun i hi => (hK.2 i (Nat.lt_of_lt_of_le hi hW.size) (by omega) (by simp)).trans (hW.block i hi)⟩
theorem keep_keep {w wq w1 : World} {g gt : Nat} (h : KeepBut w wq g none) (k : KeepBut wq w1 gt none) (hg : w.heap.size ≤ gt) : KeepBut w w1 g none :=
  ⟨Nat.le_trans h.1 k.1, fun i hi h1 h2 => (k.2 i (Nat.lt_of_lt_of_le hi h.1) (by omega) h2).trans (h.2 i hi h1 h2)⟩

set_option maxRecDepth 100000 in
set_option maxHeartbeats 1000000 in
theorem oneOf_any (w0 w : World) (g n : Nat) (s : ByteArray) (A : Option Addr) (c : Nat) (ws : List ByteArray) (hs : s.size ≤ 1125899906842624) (hws : ∀ x ∈ ws, x.size ≤ 1125899906842624) (hn : n ≤ s.size) (hwl : ws.length ≤ 1000)
    (hr : Kd.C Kd.string w A ws.length ws) (hI : IsLine w0 w g s n) (hB : Below w0.heap.size w0 w) :
    Calls Tryd.prog 50 #[.pointer (some ⟨g, 0, none⟩), .slice A ws.length c] w fun e w' =>
      e = .returned (.tuple #[.int .i64 (((pick ((bl s).drop n) ws 0 0).2.getD 0 : Nat) : Int), .bool (pick ((bl s).drop n) ws 0 0).2.isSome]) ∧ IsLine w0 w' g s (n + (pick ((bl s).drop n) ws 0 0).1) ∧ Below w0.heap.size w0 w' ∧ KeepBut w w' g none := by
  have HB := Aside0.mk hB
  have HI := Aside0.mk hI
  have c0 : w.cell? ⟨g, 0, none⟩ = some (.string s) := cellS91_0 hI.1
  have c1 : w.cell? ⟨g, 1, none⟩ = some (.int .i64 n) := cellS91_1 hI.1
  clear hB hI
  go_enter Tryd.func50, Tryd.ntmps50
  go_wp2
  go_loopg [6, 16] ws.length (fun kq v6 v16 w' => ∃ (j far : Nat), j ≤ ws.length ∧ kq = ws.length - j ∧ v6 = .int .i64 (n + far : Nat) ∧ v16 = .int .i64 j ∧ far ≤ s.size - n ∧ Aside0 (pick ((bl s).drop n) (ws.drop j) j far = pick ((bl s).drop n) ws 0 0) ∧ Aside0 (IsLine w0 w' g s n) ∧ Aside0 (Below w0.heap.size w0 w') ∧ Aside0 (KeepBut w w' g none) ∧ Aside0 (Below w.heap.size w w'))
  case atStart => exact ⟨0, 0, by omega, by omega, rfl, rfl, by omega, ⟨rfl⟩, HI, HB, ⟨KeepBut.refl w g none⟩, ⟨Below.refl _ _⟩⟩
  case round =>
    clear HB HI c0 c1
    obtain ⟨j, far, hj, rfl, rfl, rfl, hfar, HP, HI, HB, HK, HW⟩ := hrel
    have c0 : wr.cell? ⟨g, 0, none⟩ = some (.string s) := cellS91_0 HI.out.1
    have c1 : wr.cell? ⟨g, 1, none⟩ = some (.int .i64 n) := cellS91_1 HI.out.1
    by_cases hlt : j < ws.length
    · have hltb : decide ((j : Int) < (ws.length : Int)) = true := decide_eq_true (by omega)
      obtain ⟨ad, hA, hx⟩ := Kd.at_string (Kd.C_below hr HW.out) (j : Int) (by omega) (by omega)
      cases hA
      rw [Int.toNat_natCast] at hx
      generalize hxe : rdOf ByteArray.empty ws (j : Int) = x at hx
      have hgl : g < wr.heap.size := blk_lt HI.out.1
      go_wp2
      go_region
      have hdj : ws.drop j = x :: ws.drop (j + 1) := by
        rw [List.drop_eq_getElem_cons hlt, ← hxe]
        simp [rdOf, hlt]
      have hxm : x ∈ ws := List.mem_of_mem_drop (i := j) (by rw [hdj]; exact List.mem_cons_self)
      have hcl := com_le_left ((bl s).drop n) (bl x)
      have hcr := com_le_right ((bl s).drop n) (bl x)
      rw [List.length_drop, bl_length] at hcl
      rw [bl_length] at hcr
      have hwx := hws x hxm
      go_wp2_with fail
      generalize hwq : (wr.alloc (Obj.cells #[Value.string s, Value.int IntKind.i64 (n : Int)] 91)).drew = wq
      have hIq : IsLine w0 wq g s n := by subst hwq; exact IsS91.drew (IsS91.alloc HI.out _)
      have hIt : IsLine w0 wq wr.heap.size s n := by subst hwq; exact IsS91.drew (IsS91.new w0 wr s n HB.out)
      have hBq : Below w0.heap.size w0 wq := by subst hwq; exact below_drew (below_alloc HB.out _)
      have hKq : KeepBut w wq g none := by subst hwq; exact keep_drew (keep_alloc HK.out _)
      have hWq : Below w.heap.size w wq := by subst hwq; exact below_drew (below_alloc HW.out _)
      have hgn : g ≠ wr.heap.size := by omega
      refine (literal_any w0 _ _ n s x hs hwx hn hIt hBq).mono ?_
      rintro e w1 ⟨rfl, hI1, hB1, hK1⟩
      have hIg : IsLine w0 w1 g s n := ⟨hK1.blk hIq.1 hgn (by simp), hIq.2⟩
      have HW1 : Aside0 (Below w.heap.size w w1) := ⟨below_keep hWq hBq hB1 hK1 HW.out.size⟩
      have HKw : Aside0 (KeepBut w w1 g none) := ⟨keep_keep hKq hK1 HW.out.size⟩
      have HIg := Aside0.mk hIg
      have HI1 := Aside0.mk hI1
      have HB1 := Aside0.mk hB1
      clear hIq hIt hBq hKq hWq hK1 hIg hB1 c0 c1 hx HK HW HB HI hwq hxe
      have c0 : w1.cell? ⟨wr.heap.size, 1, none⟩ = some (.int .i64 (n + com ((bl s).drop n) (bl x) : Nat)) := cellS91_1 hI1.1
      have f1 : w1.frozen? ⟨g, 1, none⟩ = false := blk_frozen HIg.out.1 1
      have c1 : w1.cell? ⟨g, 1, none⟩ = some (.int .i64 n) := cellS91_1 HIg.out.1
      clear hI1
      have HD := Aside0.mk hdj
      clear hdj
      generalize hme0 : com ((bl s).drop n) (bl x) = m at *
      have hme := Aside0.mk hme0
      clear hme0
      by_cases hm : m = x.size
      · have hmb : decide (m = x.size) = true := decide_eq_true hm
        have hmx := Aside0.mk hm
        clear hm
        go_wp2
        go_ret2
        have hp : pick ((bl s).drop n) ws 0 0 = (x.size, some j) := by rw [← HP.out, HD.out]; simp only [pick]; rw [if_pos (hme.out.trans hmx.out)]
        rw [hp]
        exact ⟨rfl, by rw [← hmx.out]; exact IsS91.set_1 HIg.out _, below_set HB1.out HIg.out.2, KeepBut.set_ HKw.out 1 _⟩
      · have hmb : decide (m = x.size) = false := decide_eq_false hm
        have hp : pick ((bl s).drop n) (ws.drop (j + 1)) (j + 1) (max far m) = pick ((bl s).drop n) ws 0 0 := by rw [← HP.out, HD.out]; simp only [pick]; rw [if_neg (by rw [hme.out]; exact hm), hme.out]
        have HP' := Aside0.mk hp
        clear hm hp
        by_cases hf : far < m
        · go_wp2
          go_roundg (ws.length - (j + 1))
          case measure => omega
          case rel => exact ⟨j + 1, max far m, by omega, rfl, by rw [Nat.max_eq_right (by omega)]; go_num, by go_num, by omega, HP', HIg, HB1, HKw, HW1⟩
        · go_wp2
          go_roundg (ws.length - (j + 1))
          case measure => omega
          case rel => exact ⟨j + 1, max far m, by omega, rfl, by rw [Nat.max_eq_left (by omega)]; go_num, by go_num, by omega, HP', HIg, HB1, HKw, HW1⟩
    · have hltb : decide ((j : Int) < (ws.length : Int)) = false := decide_eq_false (by omega)
      have f1 : wr.frozen? ⟨g, 1, none⟩ = false := blk_frozen HI.out.1 1
      go_wp2
      go_ret2
      have hp : pick ((bl s).drop n) ws 0 0 = (far, none) := by rw [← HP.out, List.drop_of_length_le (show ws.length ≤ j by omega)]; rfl
      rw [hp]
      exact ⟨rfl, IsS91.set_1 HI.out _, below_set HB.out HI.out.2, KeepBut.set_ HK.out 1 _⟩
end Go.Proofs.YtfecfgimfjcbdaaDoor.Cf
