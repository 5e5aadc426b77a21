/- The reference's File: its block; fail, next, mark: walked. -/
import Derived.Test.YtfecfgimfjcbdaaGreatDoorKConfYc
import Derived.Test.YtfecfgimfjcbdaaGreatDoorKConfZf
import Derived.RegionTactic
import Derived.ChangeAlike
import Derived.Deep.RegionWith
import Derived.Deep.RegionHeld3
namespace Go.Proofs.YtfecfgimfjcbdaaGreatDoor.Cf
open Go.RowKit Go.Proofs.YtfecfgimfjcbdaaGreatDoorW.PrintWords Go.Proofs.YtfecfgimfjcbdaaGreatDoorW.PrintLast Go.Proofs.YtfecfgimfjcbdaaGreatDoorW.PrintMore Go.Proofs.YtfecfgimfjcbdaaGreatDoor.QRParse

/-- What the reference has read so far: the place among the tokens, name and secret, the values and which of them stood there, whether the secret stood there. -/
structure FV where
  at_ : Nat
  nm : ByteArray
  sc : ByteArray
  is : Nat → Int
  th : Nat → Bool
  st : Bool
def fileC (lv : Value) (v : FV) (bad pos : Int) : Array Value := #[lv, .int .i64 (v.at_ : Int), .string v.nm, .string v.sc,
  .int .i64 (v.is 0), .int .i64 (v.is 1), .int .i64 (v.is 2), .int .i64 (v.is 3), .int .i64 (v.is 4), .int .i64 (v.is 5), .int .i64 (v.is 6), .int .i64 (v.is 7), .int .i64 (v.is 8), .int .i64 (v.is 9), .int .i64 (v.is 10), .int .i64 (v.is 11), .int .i64 (v.is 12), .int .i64 (v.is 13), .int .i64 (v.is 14), .int .i64 (v.is 15),
  .bool (v.th 0), .bool (v.th 1), .bool (v.th 2), .bool (v.th 3), .bool (v.th 4), .bool (v.th 5), .bool (v.th 6), .bool (v.th 7), .bool (v.th 8), .bool (v.th 9), .bool (v.th 10), .bool (v.th 11), .bool (v.th 12), .bool (v.th 13), .bool (v.th 14), .bool (v.th 15),
  .bool v.st, .int .i64 bad, .int .i64 pos]
/-- Block g is the reference's File. -/
def FileAt (w : World) (g : Nat) (lv : Value) (v : FV) (bad pos : Int) : Prop := w.heap[g]? = some (.cells (fileC lv v bad pos) 42 (0, 0))
/-- It holds a fault, whatever else. -/
def FaultAt (w : World) (g : Nat) (er a : Int) : Prop := ∃ lv v, FileAt w g lv v er a
/-- The tokens lie in block b. -/
def TokAt (w : World) (b : Nat) (i : Nat) (t : TkT) : Prop := w.cell? ⟨b, i * 3, none⟩ = some (.int .i64 t.f0) ∧ w.cell? ⟨b, i * 3 + 1, none⟩ = some (.int .i64 t.f1) ∧ w.cell? ⟨b, i * 3 + 2, none⟩ = some (.string t.f2)
structure Toked (w : World) (g : Nat) (lv : Value) (L : List TkT) : Prop where
  lie : ∃ b c, lv = .slice (some ⟨b, 0, none⟩) L.length c ∧ L.length ≤ c ∧ b < w.heap.size ∧ b ≠ g ∧ ∀ i t, L[i]? = some t → TokAt w b i t
  short : L.length ≤ 100000
theorem Toked.ch {w w1 : World} {g : Nat} {lv : Value} {L : List TkT} (h : Toked w g lv L) (hc : Ch [g] w w1) : Toked w1 g lv L := by
  obtain ⟨⟨b, c, h1, h2, h3, h4, h5⟩, h6⟩ := h
  refine ⟨⟨b, c, h1, h2, Nat.lt_of_lt_of_le h3 hc.size, h4, fun i t ht => ?_⟩, h6⟩
  have e : ∀ o, w1.cell? ⟨b, o, none⟩ = w.cell? ⟨b, o, none⟩ := fun o => World.cell?_of_block (hc.block b h3 (by simpa using h4))
  obtain ⟨a1, a2, a3⟩ := h5 i t ht
  exact ⟨(e _).trans a1, (e _).trans a2, (e _).trans a3⟩
/-- From token n on the tokens are those from place p on. -/
def Pos (s : ByteArray) (L : List TkT) (n p : Nat) : Prop := p ≤ s.size ∧ ∃ f, s.size < p + f ∧ L.drop n = tkL s f p
theorem Pos.tok {s : ByteArray} {L : List TkT} {n p kd a q : Nat} {v : ByteArray} (h : Pos s L n p) (hn : nextP s p = .ok (kd, a, v, q)) : L[n]? = some ⟨((kd + 2 : Nat) : Int), (a : Int), v⟩ ∧ Pos s L (n + 1) q ∧ n < L.length := by
  obtain ⟨hp, f, hf, hL⟩ := h
  have hq := nextP_le s p kd a v q hp hn
  obtain ⟨f, rfl⟩ : ∃ f', f = f' + 1 := ⟨f - 1, by omega⟩
  simp only [tkL, hn] at hL
  have hlt : n < L.length := by
    by_cases h : n < L.length
    · exact h
    · rw [List.drop_eq_nil_of_le (by omega)] at hL
      cases hL
  rw [List.drop_eq_getElem_cons hlt] at hL
  obtain ⟨h1, h2⟩ := List.cons.inj hL
  exact ⟨by rw [List.getElem?_eq_getElem hlt, h1], ⟨hq.2.2, f, by omega, h2⟩, hlt⟩
theorem Pos.bad {s : ByteArray} {L : List TkT} {n p a : Nat} (h : Pos s L n p) (hn : nextP s p = .error a) : L[n]? = some ⟨if skp s p < s.size then 1 else 0, (a : Int), ⟨#[]⟩⟩ ∧ n < L.length := by
  obtain ⟨hp, f, hf, hL⟩ := h
  obtain ⟨f, rfl⟩ : ∃ f', f = f' + 1 := ⟨f - 1, by omega⟩
  simp only [tkL, hn] at hL
  have hlt : n < L.length := by
    by_cases h : n < L.length
    · exact h
    · rw [List.drop_eq_nil_of_le (by omega)] at hL
      cases hL
  rw [List.drop_eq_getElem_cons hlt] at hL
  obtain ⟨h1, h2⟩ := List.cons.inj hL
  exact ⟨by rw [List.getElem?_eq_getElem hlt, h1], hlt⟩
theorem FileAt.set {w : World} {g : Nat} {lv : Value} {v v' : FV} {bad pos bad' pos' : Int} (h : FileAt w g lv v bad pos) (o : Nat) (x : Value) (he : (fileC lv v bad pos).setIfInBounds o x = fileC lv v' bad' pos') : FileAt (w.setCell ⟨g, o, none⟩ x) g lv v' bad' pos' := blk_put h o x he
theorem FileAt.keep {w w1 : World} {g : Nat} {lv : Value} {v : FV} {bad pos : Int} (h : FileAt w g lv v bad pos) (hb : Below w.heap.size w w1) : FileAt w1 g lv v bad pos := blk_below h hb
set_option maxRecDepth 100000 in
set_option maxHeartbeats 1000000 in
theorem fail_any (w : World) (g : Nat) (lv : Value) (v : FV) (bad pos er a : Int) (hf : FileAt w g lv v bad pos) :
    Calls Tryz.prog 26 #[.pointer (some ⟨g, 0, none⟩), .int .i64 er, .int .i64 a] w fun e w' => e = .returned (.bool false) ∧ FileAt w' g lv v er a ∧ Ch [g] w w' := by
  have c37 : w.cell? ⟨g, 37, none⟩ = some (.int .i64 bad) := blk_cell hf 37
  have c38 : w.cell? ⟨g, 38, none⟩ = some (.int .i64 pos) := blk_cell hf 38
  have f37 : w.frozen? ⟨g, 37, none⟩ = false := blk_frozen hf 37
  have f38 : w.frozen? ⟨g, 38, none⟩ = false := blk_frozen hf 38
  have HF := Aside0.mk hf
  clear hf
  go_enter Tryz.func26, Tryz.ntmps26
  go_wp2
  go_ret
  refine ⟨rfl, ?_, ?_⟩
  · exact (HF.out.set (bad' := er) (pos' := pos) 37 (.int .i64 er) rfl).set 38 (.int .i64 a) rfl
  · exact ((Ch.refl [g] w).set (by simp) 37 _).set (by simp) 38 _
set_option maxRecDepth 100000 in
set_option maxHeartbeats 1000000 in
/-- The same, with the cells alone and the world as it is then. -/
theorem fail_x (w : World) (g : Nat) (x y : Value) (er a : Int) (c37 : w.cell? ⟨g, 37, none⟩ = some x) (c38 : w.cell? ⟨g, 38, none⟩ = some y) (f37 : w.frozen? ⟨g, 37, none⟩ = false) (f38 : w.frozen? ⟨g, 38, none⟩ = false) :
    Calls Tryz.prog 26 #[.pointer (some ⟨g, 0, none⟩), .int .i64 er, .int .i64 a] w fun e w' => e = .returned (.bool false) ∧ w' = (w.setCell ⟨g, 37, none⟩ (.int .i64 er)).setCell ⟨g, 38, none⟩ (.int .i64 a) := by
  go_enter Tryz.func26, Tryz.ntmps26
  go_wp2
  go_ret
  exact ⟨rfl, rfl⟩
theorem fail_x_at {w : World} {g : Nat} {lv : Value} {v : FV} {bad pos : Int} (h : FileAt w g lv v bad pos) (er a : Int) : FileAt ((w.setCell ⟨g, 37, none⟩ (.int .i64 er)).setCell ⟨g, 38, none⟩ (.int .i64 a)) g lv v er a := (h.set (bad' := er) (pos' := pos) 37 (.int .i64 er) rfl).set 38 (.int .i64 a) rfl
def tkC (t : TkT) : Array Value := #[.int .i64 t.f0, .int .i64 t.f1, .string t.f2]
set_option maxRecDepth 100000 in
set_option maxHeartbeats 1000000 in
/-- The token that is read now. -/
theorem rnext_ok (w : World) (g : Nat) (lv : Value) (v : FV) (bad pos : Int) (L : List TkT) (t : TkT) (hf : FileAt w g lv v bad pos) (hk : Toked w g lv L) (ht : L[v.at_]? = some t) (hgood : t.f0 ≠ 0 ∧ t.f0 ≠ 1) :
    Calls Tryz.prog 25 #[.pointer (some ⟨g, 0, none⟩)] w fun e w' => e = .returned (.tuple #[.agg (tkC t), .bool true]) ∧ FileAt w' g lv { v with at_ := v.at_ + 1 } bad pos ∧ Ch [g] w w' := by
  obtain ⟨⟨b, c, rfl, hc, hb, hbg, hcells⟩, hL⟩ := hk
  have hlt : v.at_ < L.length := (List.getElem?_eq_some_iff.1 ht).1
  obtain ⟨t0, t1, t2⟩ := hcells _ _ ht
  have c0 : w.cell? ⟨g, 0, none⟩ = some (.slice (some ⟨b, 0, none⟩) L.length c) := blk_cell hf 0
  have c1 : w.cell? ⟨g, 1, none⟩ = some (.int .i64 (v.at_ : Int)) := blk_cell hf 1
  have f1 : w.frozen? ⟨g, 1, none⟩ = false := blk_frozen hf 1
  have hg : g < w.heap.size := blk_lt hf
  obtain ⟨n, hn⟩ : ∃ n, L.length = n := ⟨_, rfl⟩
  obtain ⟨i, hi⟩ : ∃ i, v.at_ = i := ⟨_, rfl⟩
  rw [hn] at hlt hc c0
  rw [hi] at hlt c1 t0 t1 t2
  rw [hn]
  have HI := Aside0.mk hi
  rw [hn] at hf
  have HF := Aside0.mk hf
  have HL : Aside0 (n ≤ 100000) := ⟨by omega⟩
  clear hcells hf ht hn hi
  go_enter Tryz.func25, Tryz.ntmps25
  go_wp2
  go_region
  have hK4 := blk_new (w.alloc (.cells #[.int .i64 0, .int .i64 0, .string ⟨#[]⟩] 63)) (.cells #[.int .i64 t.f0, .int .i64 t.f1, .string t.f2] 63)
  have hK2 := blk_alloc (blk_new w (.cells #[.int .i64 0, .int .i64 0, .string ⟨#[]⟩] 63)) (.cells #[.int .i64 t.f0, .int .i64 t.f1, .string t.f2] 63)
  have K4 : Aside0 ((((w.alloc (.cells #[.int .i64 0, .int .i64 0, .string ⟨#[]⟩] 63)).alloc (.cells #[.int .i64 t.f0, .int .i64 t.f1, .string t.f2] 63)).drew).heap[w.heap.size + 1]? = some (.cells (tkC t) 63 (0, 0))) := ⟨by
    rw [show (w.alloc (.cells #[.int .i64 0, .int .i64 0, .string ⟨#[]⟩] 63)).heap.size = w.heap.size + 1 by simp] at hK4
    exact hK4⟩
  have K2 : Aside0 ((((w.alloc (.cells #[.int .i64 0, .int .i64 0, .string ⟨#[]⟩] 63)).alloc (.cells #[.int .i64 t.f0, .int .i64 t.f1, .string t.f2] 63)).drew).heap[w.heap.size]? = some (.cells #[.int .i64 0, .int .i64 0, .string ⟨#[]⟩] 63 (0, 0))) := ⟨hK2⟩
  have HFW : Aside0 (FileAt (((w.alloc (.cells #[.int .i64 0, .int .i64 0, .string ⟨#[]⟩] 63)).alloc (.cells #[.int .i64 t.f0, .int .i64 t.f1, .string t.f2] 63)).drew) g (.slice (some ⟨b, 0, none⟩) n c) v bad pos) := ⟨blk_alloc (blk_alloc HF.out _) _⟩
  have HC : Aside0 (Ch [g] w (((w.alloc (.cells #[.int .i64 0, .int .i64 0, .string ⟨#[]⟩] 63)).alloc (.cells #[.int .i64 t.f0, .int .i64 t.f1, .string t.f2] 63)).drew) ) := ⟨(((Ch.refl [g] w).alloc _).alloc _).drew⟩
  clear hK4 hK2 HF c0 c1 t0 t1 t2
  generalize ((w.alloc (.cells #[.int .i64 0, .int .i64 0, .string ⟨#[]⟩] 63)).alloc (.cells #[.int .i64 t.f0, .int .i64 t.f1, .string t.f2] 63)).drew = w1 at *
  obtain ⟨b4, hb4⟩ : ∃ b4, w.heap.size + 1 = b4 := ⟨_, rfl⟩
  have hb4g : w.heap.size < b4 := by omega
  rw [hb4] at K4 ⊢
  clear hb4
  have d0 : w1.cell? ⟨b4, 0, none⟩ = some (.int .i64 t.f0) := blk_cell K4.out 0
  have d1 : w1.cell? ⟨b4, 1, none⟩ = some (.int .i64 t.f1) := blk_cell K4.out 1
  have d2 : w1.cell? ⟨b4, 2, none⟩ = some (.string t.f2) := blk_cell K4.out 2
  have k0 : w1.cell? ⟨w.heap.size, 0, none⟩ = some (.int .i64 0) := blk_cell K2.out 0
  have k1 : w1.cell? ⟨w.heap.size, 1, none⟩ = some (.int .i64 0) := blk_cell K2.out 1
  have k2 : w1.cell? ⟨w.heap.size, 2, none⟩ = some (.string ⟨#[]⟩) := blk_cell K2.out 2
  have fk0 : w1.frozen? ⟨w.heap.size, 0, none⟩ = false := blk_frozen K2.out 0
  have fk1 : w1.frozen? ⟨w.heap.size, 1, none⟩ = false := blk_frozen K2.out 1
  have fk2 : w1.frozen? ⟨w.heap.size, 2, none⟩ = false := blk_frozen K2.out 2
  have g1 : w1.cell? ⟨g, 1, none⟩ = some (.int .i64 (i : Int)) := by rw [← HI.out]; exact blk_cell HFW.out 1
  have f1 : w1.frozen? ⟨g, 1, none⟩ = false := blk_frozen HFW.out 1
  have hz0 : (t.f0 == 0) = false := beq_eq_false_iff_ne.2 hgood.1
  have hz1 : (t.f0 == 1) = false := beq_eq_false_iff_ne.2 hgood.2
  have hiL := HL.out
  have hgl : g < w1.heap.size := blk_lt HFW.out
  go_wp2
  have hne : w.heap.size ≠ g := by omega
  have N1 := blk_far K2.out (p := ⟨g, 1, none⟩) hne (.int .i64 ((i : Int) + 1))
  have N2 := blk_set N1 0 (.int .i64 t.f0)
  have N3 := blk_set N2 1 (.int .i64 t.f1)
  have N4 := blk_put N3 2 (.string t.f2) (cs' := tkC t) rfl
  refine bodyPost_ret (results_ct rfl _ _ w.heap.size 63 (tkC t) (0, 0) _ rfl N4 Tryz.underlying63 rfl (by kernel_rfl)) rfl ⟨rfl, ?_, ?_⟩
  · have F1 := HFW.out.set (v' := { v with at_ := v.at_ + 1 }) (bad' := bad) (pos' := pos) 1 (.int .i64 ((i : Int) + 1)) (by rw [← HI.out]; rfl)
    exact blk_far (blk_far (blk_far F1 (fun e => hne e.symm) _) (fun e => hne e.symm) _) (fun e => hne e.symm) _
  · exact (HC.out.set (by simp) 1 _).step (c := w.heap.size) ((((Ch.refl _ _).set (by simp) 0 _).set (by simp) 1 _).set (by simp) 2 _) (Nat.le_refl _)
set_option maxRecDepth 100000 in
set_option maxHeartbeats 1000000 in
theorem rnext_bad (w : World) (g : Nat) (lv : Value) (v : FV) (bad pos : Int) (L : List TkT) (t : TkT) (hf : FileAt w g lv v bad pos) (hk : Toked w g lv L) (ht : L[v.at_]? = some t) (hbad : t.f0 = 0 ∨ t.f0 = 1) :
    Calls Tryz.prog 25 #[.pointer (some ⟨g, 0, none⟩)] w fun e w' => e = .returned (.tuple #[.agg (tkC t), .bool false]) ∧ FileAt w' g lv v 121 t.f1 ∧ Ch [g] w w' := by
  obtain ⟨⟨b, c, rfl, hc, hb, hbg, hcells⟩, hL⟩ := hk
  have hlt : v.at_ < L.length := (List.getElem?_eq_some_iff.1 ht).1
  obtain ⟨t0, t1, t2⟩ := hcells _ _ ht
  have c0 : w.cell? ⟨g, 0, none⟩ = some (.slice (some ⟨b, 0, none⟩) L.length c) := blk_cell hf 0
  have c1 : w.cell? ⟨g, 1, none⟩ = some (.int .i64 (v.at_ : Int)) := blk_cell hf 1
  have hg : g < w.heap.size := blk_lt hf
  obtain ⟨n, hn⟩ : ∃ n, L.length = n := ⟨_, rfl⟩
  obtain ⟨i, hi⟩ : ∃ i, v.at_ = i := ⟨_, rfl⟩
  rw [hn] at hlt hc c0
  rw [hi] at hlt c1 t0 t1 t2
  rw [hn]
  have HI := Aside0.mk hi
  rw [hn] at hf
  have HF := Aside0.mk hf
  have HL : Aside0 (n ≤ 100000) := ⟨by omega⟩
  clear hcells hf ht hn hi
  go_enter Tryz.func25, Tryz.ntmps25
  go_wp2
  go_region
  have hK4 := blk_new (w.alloc (.cells #[.int .i64 0, .int .i64 0, .string ⟨#[]⟩] 63)) (.cells #[.int .i64 t.f0, .int .i64 t.f1, .string t.f2] 63)
  have hK2 := blk_alloc (blk_new w (.cells #[.int .i64 0, .int .i64 0, .string ⟨#[]⟩] 63)) (.cells #[.int .i64 t.f0, .int .i64 t.f1, .string t.f2] 63)
  have K4 : Aside0 ((((w.alloc (.cells #[.int .i64 0, .int .i64 0, .string ⟨#[]⟩] 63)).alloc (.cells #[.int .i64 t.f0, .int .i64 t.f1, .string t.f2] 63)).drew).heap[w.heap.size + 1]? = some (.cells (tkC t) 63 (0, 0))) := ⟨by
    rw [show (w.alloc (.cells #[.int .i64 0, .int .i64 0, .string ⟨#[]⟩] 63)).heap.size = w.heap.size + 1 by simp] at hK4
    exact hK4⟩
  have K2 : Aside0 ((((w.alloc (.cells #[.int .i64 0, .int .i64 0, .string ⟨#[]⟩] 63)).alloc (.cells #[.int .i64 t.f0, .int .i64 t.f1, .string t.f2] 63)).drew).heap[w.heap.size]? = some (.cells #[.int .i64 0, .int .i64 0, .string ⟨#[]⟩] 63 (0, 0))) := ⟨hK2⟩
  have HFW : Aside0 (FileAt (((w.alloc (.cells #[.int .i64 0, .int .i64 0, .string ⟨#[]⟩] 63)).alloc (.cells #[.int .i64 t.f0, .int .i64 t.f1, .string t.f2] 63)).drew) g (.slice (some ⟨b, 0, none⟩) n c) v bad pos) := ⟨blk_alloc (blk_alloc HF.out _) _⟩
  have HC : Aside0 (Ch [g] w (((w.alloc (.cells #[.int .i64 0, .int .i64 0, .string ⟨#[]⟩] 63)).alloc (.cells #[.int .i64 t.f0, .int .i64 t.f1, .string t.f2] 63)).drew) ) := ⟨(((Ch.refl [g] w).alloc _).alloc _).drew⟩
  clear hK4 hK2 HF c0 c1 t0 t1 t2
  generalize ((w.alloc (.cells #[.int .i64 0, .int .i64 0, .string ⟨#[]⟩] 63)).alloc (.cells #[.int .i64 t.f0, .int .i64 t.f1, .string t.f2] 63)).drew = w1 at *
  obtain ⟨b4, hb4⟩ : ∃ b4, w.heap.size + 1 = b4 := ⟨_, rfl⟩
  have hb4g : w.heap.size < b4 := by omega
  rw [hb4] at K4 ⊢
  clear hb4
  have d0 : w1.cell? ⟨b4, 0, none⟩ = some (.int .i64 t.f0) := blk_cell K4.out 0
  have d1 : w1.cell? ⟨b4, 1, none⟩ = some (.int .i64 t.f1) := blk_cell K4.out 1
  have d2 : w1.cell? ⟨b4, 2, none⟩ = some (.string t.f2) := blk_cell K4.out 2
  have k0 : w1.cell? ⟨w.heap.size, 0, none⟩ = some (.int .i64 0) := blk_cell K2.out 0
  have k1 : w1.cell? ⟨w.heap.size, 1, none⟩ = some (.int .i64 0) := blk_cell K2.out 1
  have k2 : w1.cell? ⟨w.heap.size, 2, none⟩ = some (.string ⟨#[]⟩) := blk_cell K2.out 2
  have fk0 : w1.frozen? ⟨w.heap.size, 0, none⟩ = false := blk_frozen K2.out 0
  have fk1 : w1.frozen? ⟨w.heap.size, 1, none⟩ = false := blk_frozen K2.out 1
  have fk2 : w1.frozen? ⟨w.heap.size, 2, none⟩ = false := blk_frozen K2.out 2
  have g1 : w1.cell? ⟨g, 1, none⟩ = some (.int .i64 (i : Int)) := by rw [← HI.out]; exact blk_cell HFW.out 1
  have d37 : w1.cell? ⟨g, 37, none⟩ = some (.int .i64 bad) := blk_cell HFW.out 37
  have d38 : w1.cell? ⟨g, 38, none⟩ = some (.int .i64 pos) := blk_cell HFW.out 38
  have h37 : w1.frozen? ⟨g, 37, none⟩ = false := blk_frozen HFW.out 37
  have h38 : w1.frozen? ⟨g, 38, none⟩ = false := blk_frozen HFW.out 38
  have hgl : g < w1.heap.size := blk_lt HFW.out
  have hb4l : b4 < w1.heap.size := blk_lt K4.out
  have hne : w.heap.size ≠ g := by omega
  have hne2 : g ≠ b4 := by omega
  have hne3 : w.heap.size ≠ b4 := by omega
  clear hgl
  by_cases hz : t.f0 = 0
  · have hz0 : (t.f0 == 0) = true := beq_iff_eq.2 hz
    clear hbad hz
    go_wp2
    have D2 : Aside0 (w1.heap[w.heap.size]? = some (.cells #[.int .i64 0, .int .i64 0, .string ⟨#[]⟩] 63 (0, 0))) := ⟨K2.out⟩
    have DF : Aside0 (FileAt w1 g (.slice (some ⟨b, 0, none⟩) n c) v bad pos) := ⟨HFW.out⟩
    have DC : Aside0 (Ch [g] w w1) := ⟨HC.out⟩
    have AF := Aside0.mk (fail_x w1.drew g (.int .i64 bad) (.int .i64 pos) 121 t.f1 d37 d38 h37 h38)
    clear HC HFW K2 K4
    go_region_held3 (fun W => W.cell? ⟨b4, 0, none⟩ = some (.int .i64 t.f0) ∧ W.cell? ⟨b4, 1, none⟩ = some (.int .i64 t.f1) ∧ W.cell? ⟨b4, 2, none⟩ = some (.string t.f2)) (go_keep) (first | (go_at_call 26; refine AF.out.mono ?_; rintro e w' ⟨rfl, rfl⟩))
    all_goals
      go_wp2
      have F1 := fail_x_at DF.out 121 t.f1
      have N1 := blk_far (blk_far D2.out (p := ⟨g, 37, none⟩) hne (.int .i64 121)) (p := ⟨g, 38, none⟩) hne (.int .i64 t.f1)
      have N4 := blk_put (blk_set (blk_set N1 0 (.int .i64 t.f0)) 1 (.int .i64 t.f1)) 2 (.string t.f2) (cs' := tkC t) rfl
      refine bodyPost_ret (results_ct rfl _ _ w.heap.size 63 (tkC t) (0, 0) _ rfl (blk_drew N4) Tryz.underlying63 rfl (by kernel_rfl)) rfl ⟨rfl, ?_, ?_⟩
      · exact blk_drew (blk_far (blk_far (blk_far F1 (fun e => hne e.symm) _) (fun e => hne e.symm) _) (fun e => hne e.symm) _)
      · exact (((DC.out.set (by simp) 37 _).set (by simp) 38 _).step (c := w.heap.size) ((((Ch.refl _ _).set (by simp) 0 _).set (by simp) 1 _).set (by simp) 2 _) (Nat.le_refl _)).drew
  · have hz0 : (t.f0 == 0) = false := beq_eq_false_iff_ne.2 hz
    have hz1 : (t.f0 == 1) = true := beq_iff_eq.2 (hbad.resolve_left hz)
    clear hbad hz
    go_wp2
    have D2 : Aside0 (w1.heap[w.heap.size]? = some (.cells #[.int .i64 0, .int .i64 0, .string ⟨#[]⟩] 63 (0, 0))) := ⟨K2.out⟩
    have DF : Aside0 (FileAt w1 g (.slice (some ⟨b, 0, none⟩) n c) v bad pos) := ⟨HFW.out⟩
    have DC : Aside0 (Ch [g] w w1) := ⟨HC.out⟩
    have AF := Aside0.mk (fail_x w1.drew g (.int .i64 bad) (.int .i64 pos) 121 t.f1 d37 d38 h37 h38)
    clear HC HFW K2 K4
    go_region_held3 (fun W => W.cell? ⟨b4, 0, none⟩ = some (.int .i64 t.f0) ∧ W.cell? ⟨b4, 1, none⟩ = some (.int .i64 t.f1) ∧ W.cell? ⟨b4, 2, none⟩ = some (.string t.f2)) (go_keep) (first | (go_at_call 26; refine AF.out.mono ?_; rintro e w' ⟨rfl, rfl⟩))
    all_goals
      go_wp2
      have F1 := fail_x_at DF.out 121 t.f1
      have N1 := blk_far (blk_far D2.out (p := ⟨g, 37, none⟩) hne (.int .i64 121)) (p := ⟨g, 38, none⟩) hne (.int .i64 t.f1)
      have N4 := blk_put (blk_set (blk_set N1 0 (.int .i64 t.f0)) 1 (.int .i64 t.f1)) 2 (.string t.f2) (cs' := tkC t) rfl
      refine bodyPost_ret (results_ct rfl _ _ w.heap.size 63 (tkC t) (0, 0) _ rfl (blk_drew N4) Tryz.underlying63 rfl (by kernel_rfl)) rfl ⟨rfl, ?_, ?_⟩
      · exact blk_drew (blk_far (blk_far (blk_far F1 (fun e => hne e.symm) _) (fun e => hne e.symm) _) (fun e => hne e.symm) _)
      · exact (((DC.out.set (by simp) 37 _).set (by simp) 38 _).step (c := w.heap.size) ((((Ch.refl _ _).set (by simp) 0 _).set (by simp) 1 _).set (by simp) 2 _) (Nat.le_refl _)).drew
end Go.Proofs.YtfecfgimfjcbdaaGreatDoor.Cf
