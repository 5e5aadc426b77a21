/- Plain: the first thing that is wrong decides: a whole text. (Several texts in one: Parse, walked. · Parse, walked: its own frame. · Plain: a text, and the same text with a line feed and something behind it: the first thing that is wrong decides. · Plain: the first thing that is wrong decides: a whole text.) -/
import Derived.Test.YtfecfgimfjcbdaaDoorMfL
import Derived.Defers
import Derived.Recover
import Derived.Laws.Pointers
namespace Go.Proofs.YtfecfgimfjcbdaaDoor.Cf
open Go.RowKit Go.Proofs.YtfecfgimfjcbdaaDoorW.PrintWords Go.Proofs.YtfecfgimfjcbdaaDoorW.PrintLast Go.Proofs.YtfecfgimfjcbdaaDoorW.PrintMore Go.Proofs.YtfecfgimfjcbdaaDoor.QCParse

set_option maxRecDepth 100000 in
set_option maxHeartbeats 1000000 in
theorem landed_any (a : Nat) (er : Int) (w : World) : Calls Tryd.prog 56 #[fltV a er] w fun e w' => e = .returned (.tuple #[.int .i64 (a : Int), .int .i64 er]) ∧ Below w.heap.size w w' := by
  have hta : ∀ (x : Value) (W : World), (Instr.typeAssert (.iface 118 x) 20 118 true).run Tryd.prog W = .ok (.tuple #[x, .bool true]) W := fun _ _ => by kernel_rfl
  unfold fltV
  have HB := Aside0.mk ((Below.refl w.heap.size w).alloc (Nat.le_refl _) (.cells #[.int .i64 (a : Int), .int .i64 er] 118))
  have HK := Aside0.mk (blk_new w (.cells #[.int .i64 (a : Int), .int .i64 er] 118))
  go_enter Tryd.func56, Tryd.ntmps56
  go_upto_region 4 with fail
  clear hta
  generalize w.alloc (.cells #[.int .i64 (a : Int), .int .i64 er] 118) = w1 at *
  have t0 : w1.cell? ⟨w.heap.size, 0, none⟩ = some (.int .i64 (a : Int)) := (blk_cell HK.out 0).trans rfl
  have t1 : w1.cell? ⟨w.heap.size, 1, none⟩ = some (.int .i64 er) := (blk_cell HK.out 1).trans rfl
  refine wp_region_still_lit (by kernel_rfl) (by kernel_rfl) ?_
  repeat still_step
  refine wpStill_nil ?_
  change Exit.then _ _ Exit.normal _ w1.drew
  have HB2 := Aside0.mk (below_drew HB.out)
  clear t0 t1 HB HK
  generalize w1.drew = w2 at *
  go_wp2
  go_ret2
  exact ⟨rfl, HB2.out⟩
/-- The resource with nothing in it. -/
def cfg0 : Array Value := cfgC ⟨#[]⟩ ⟨#[]⟩ (fun _ => 0)
theorem catch_idle (g2 g3 g4 : Nat) (w : World) :
    CallsD Tryd.prog 55 #[.pointer (some ⟨g2, 0, none⟩), .pointer (some ⟨g3, 0, none⟩), .pointer (some ⟨g4, 0, none⟩)] .returning w fun e u' w' => e = .returned (.tuple #[]) ∧ u' = .returning ∧ w' = w := by
  refine callsD_of_wpS Tryd.func55 rfl fun c₀ cs hu => ?_
  apply wpS_seq
  apply wpS_region
  simp [wpOpsS, go_sem, recoverD, hu, Tryd.ntmps55, Exit.thenS]
  apply wpS_seq
  apply wpS_region
  simp [wpOpsS, go_sem, Exit.thenS]
  refine wpS_cond (t := false) (by simp [Act.eval, Array.replicate]) ?_
  simp only [Bool.false_eq_true, if_false]
  refine wpS_of_wp (wp_skip ?_)
  cases c₀
  simp_all [bodyPostS, results, Tryd.results55]

theorem cfg0_one : ∀ q ∈ cfg0.toList, q.oneCell' = true := by decide +kernel
set_option maxRecDepth 100000 in
set_option maxHeartbeats 1000000 in
theorem catch_panicking (g a : Nat) (er : Int) (old : Array Value) (w : World) (hsz : cfg0.size = old.size)
    (h2 : w.heap[g]? = some (.cells old 23 (0, 0))) (h3 : w.heap[g + 1]? = some (.cells #[.int .i64 0] 3 (0, 0))) (h4 : w.heap[g + 2]? = some (.cells #[.int .i64 0] 24 (0, 0))) :
    CallsD Tryd.prog 55 #[.pointer (some ⟨g, 0, none⟩), .pointer (some ⟨g + 1, 0, none⟩), .pointer (some ⟨g + 2, 0, none⟩)] (.panicking [{ v := fltV a er, recovered := false }]) w fun e u' w' =>
      e = .returned (.tuple #[]) ∧ u' = .panicking [{ v := fltV a er, recovered := true }] ∧ w'.heap[g]? = some (.cells cfg0 23 (0, 0)) ∧ w'.heap[g + 1]? = some (.cells #[.int .i64 (a : Int)] 3 (0, 0)) ∧ w'.heap[g + 2]? = some (.cells #[.int .i64 er] 24 (0, 0)) ∧ Ch [g, g + 1, g + 2] w w' := by
  have HL := fun W => Aside0.mk (landed_any a er W)
  unfold fltV at *
  have H2 := Aside0.mk h2
  have H3 := Aside0.mk h3
  have H4 := Aside0.mk h4
  have HC := Aside0.mk (Ch.refl [g, g + 1, g + 2] w)
  clear h2 h3 h4
  refine callsD_of_wpS Tryd.func55 rfl fun c₀ cs hu => ?_
  apply wpS_seq
  apply wpS_region
  simp [wpOpsS, go_sem, recoverD, hu, Tryd.ntmps55, Exit.thenS]
  apply wpS_seq
  apply wpS_region
  simp [wpOpsS, go_sem, Exit.thenS]
  refine wpS_cond (t := true) (by simp [Act.eval, Array.replicate]) ?_
  simp only [if_true]
  refine wpS_of_wp ?_
  change Code.wp _ _ _ ⟨#[.pointer (some ⟨g, 0, none⟩), .pointer (some ⟨g + 1, 0, none⟩), .pointer (some ⟨g + 2, 0, none⟩), .iface 118 (.agg #[.int .i64 (a : Int), .int .i64 er]), .iface 118 (.agg #[.int .i64 (a : Int), .int .i64 er]), .iface 118 (.agg #[.int .i64 (a : Int), .int .i64 er]), .bool true, undef, undef, undef, undef, undef, undef], []⟩ w
  cases c₀
  go_upto_region 3 with (refine store_whole rfl rfl rfl (g := g) rfl cfg0 (by rfl) H2.out (by kernel_rfl) hsz cfg0_one ?_; intro w1 h1 hg1)
  have HC1 := Aside0.mk (HC.out.grown hg1 (.inl (by simp)))
  have H21 := Aside0.mk h1
  have H31 := Aside0.mk (grown_blk hg1 H3.out (by omega))
  have H41 := Aside0.mk (grown_blk hg1 H4.out (by omega))
  clear h1 hg1 H2 H3 H4 HC
  go_wp2_with fail
  refine (HL w1).out.mono ?_
  rintro e w2 ⟨rfl, hb2⟩
  have HC2 := Aside0.mk (HC1.out.then hb2)
  have H22 := Aside0.mk (blk_below H21.out hb2)
  have H32 := Aside0.mk (blk_below H31.out hb2)
  have H42 := Aside0.mk (blk_below H41.out hb2)
  clear hb2 HC1 H21 H31 H41 HL
  have c3 : w2.frozen? ⟨g + 1, 0, none⟩ = false := blk_frozen H32.out 0
  have c4 : w2.frozen? ⟨g + 2, 0, none⟩ = false := blk_frozen H42.out 0
  have t3 : w2.cell? ⟨g + 1, 0, none⟩ = some (.int .i64 0) := blk_cell H32.out 0
  have t4 : w2.cell? ⟨g + 2, 0, none⟩ = some (.int .i64 0) := blk_cell H42.out 0
  go_wp2
  refine ⟨rfl, _, rfl, .tuple #[], by simp [results, Tryd.results55], rfl, rfl, ?_, ?_, ?_, ?_⟩
  · exact blk_far (blk_far H22.out (by simp) _) (by simp) _
  · exact blk_far (blk_put H32.out 0 _ rfl) (by simp) _
  · exact blk_put (blk_far H42.out (by simp) _) 0 _ rfl
  · exact (HC2.out.set (by simp) 0 _).set (by simp) 0 _
end Go.Proofs.YtfecfgimfjcbdaaDoor.Cf

namespace Go.Proofs.YtfecfgimfjcbdaaDoor.Cf
open Go.RowKit Go.Proofs.YtfecfgimfjcbdaaDoorW.PrintWords Go.Proofs.YtfecfgimfjcbdaaDoorW.PrintLast Go.Proofs.YtfecfgimfjcbdaaDoorW.PrintMore Go.Proofs.YtfecfgimfjcbdaaDoor.QCParse

/-- The reading of a whole text: its limit, and its resource. -/
def parseP (s : ByteArray) : Except (Nat × Int) (ByteArray × ByteArray × (Nat → Int)) := if 4096 < s.size then .error (0, 6) else resP s
/-- Its three results. -/
def parseV : Except (Nat × Int) (ByteArray × ByteArray × (Nat → Int)) → Value
  | .ok (nm, sc, k) => .tuple #[.agg (cfgC nm sc k), .int .i64 0, .int .i64 0]
  | .error (a, er) => .tuple #[.agg cfg0, .int .i64 (a : Int), .int .i64 er]
theorem results_c3 (tmps : Array Value) (w : World) (g : Nat) (cs : Array Value) (x y : Int)
    (p2 : tmps.getD 2 undef = .pointer (some ⟨g, 0, none⟩)) (p3 : tmps.getD 3 undef = .pointer (some ⟨g + 1, 0, none⟩)) (p4 : tmps.getD 4 undef = .pointer (some ⟨g + 2, 0, none⟩))
    (h2 : w.heap[g]? = some (.cells cs 23 (0, 0))) (hcs : cs.size = 18) (h3 : w.heap[g + 1]? = some (.cells #[.int .i64 x] 3 (0, 0))) (h4 : w.heap[g + 2]? = some (.cells #[.int .i64 y] 24 (0, 0))) :
    (results Tryd.f24 tmps).run Tryd.prog w = .ok (.tuple #[.agg cs, .int .i64 x, .int .i64 y]) w := by
  have q2 : tmps[2]?.getD undef = .pointer (some ⟨g, 0, none⟩) := by simpa using p2
  have q3 : tmps[3]?.getD undef = .pointer (some ⟨g + 1, 0, none⟩) := by simpa using p3
  have q4 : tmps[4]?.getD undef = .pointer (some ⟨g + 2, 0, none⟩) := by simpa using p4
  have l2 := run_loadVar_row (P := Tryd.prog) w g 23 23 cs (0, 0) _ h2 Tryd.underlying23 rfl (by rw [hcs]; kernel_rfl)
  have t3 : w.cell? ⟨g + 1, 0, none⟩ = some (.int .i64 x) := blk_cell h3 0
  have t4 : w.cell? ⟨g + 2, 0, none⟩ = some (.int .i64 y) := blk_cell h4 0
  have l3 : (loadVar 3 ⟨g + 1, 0, none⟩).run Tryd.prog w = .ok (.int .i64 x) w := by simp [go_sem, t3]
  have l4 : (loadVar 24 ⟨g + 2, 0, none⟩).run Tryd.prog w = .ok (.int .i64 y) w := by simp [go_sem, t4]
  simp [results, q2, q3, q4, asAddr, l2, l3, l4]

set_option maxRecDepth 100000 in
set_option maxHeartbeats 1000000 in
theorem confparse_any (s : ByteArray) (w : World) (out : Except (Nat × Int) (ByteArray × ByteArray × (Nat → Int))) (hout : parseP s = out) :
    Calls Tryd.prog 24 #[.string s] w fun e w' => e = .returned (parseV out) ∧ Below w.heap.size w w' := by
  have HOUT := Aside0.mk hout
  have hmf : ∀ (fn : Fn) (first cap : Array Value) (w : World), (Instr.makeFunc fn first cap).run Tryd.prog w = .ok (.func fn first cap) w := fun _ _ _ _ => rfl
  clear hout
  by_cases hs : 4096 < s.size
  · have hd : decide ((4096 : Int) < (s.size : Int)) = true := decide_eq_true (by omega)
    unfold parseP at HOUT
    rw [if_pos hs] at HOUT
    obtain rfl : out = .error (0, 6) := HOUT.out.symm
    go_enter_defers Tryd.func24, Tryd.ntmps24
    go_upto_if 4 with fail
    refine ⟨_, results_c3 _ _ w.heap.size cfg0 0 6 rfl rfl rfl (made_get [_, _, _] w 0 _ rfl) (by kernel_rfl) (made_get [_, _, _] w 1 _ rfl) (made_get [_, _, _] w 2 _ rfl), rfl, made_below [_, _, _] w w _ (Below.refl _ _) (Nat.le_refl _)⟩
  · have hd : decide ((4096 : Int) < (s.size : Int)) = false := decide_eq_false (by omega)
    unfold parseP at HOUT
    rw [if_neg hs] at HOUT
    go_enter_defers Tryd.func24, Tryd.ntmps24
    go_wp2_with fail
    have HR := made_get [.cells cfg0 23, .cells #[.int .i64 0] 3, .cells #[.int .i64 0] 24, .cells #[.string s, .int .i64 0] 103] w 3 _ rfl
    have HK2 := Aside0.mk (made_get [.cells cfg0 23, .cells #[.int .i64 0] 3, .cells #[.int .i64 0] 24, .cells #[.string s, .int .i64 0] 103] w 0 _ rfl)
    have HK3 := Aside0.mk (made_get [.cells cfg0 23, .cells #[.int .i64 0] 3, .cells #[.int .i64 0] 24, .cells #[.string s, .int .i64 0] 103] w 1 _ rfl)
    have HK4 := Aside0.mk (made_get [.cells cfg0 23, .cells #[.int .i64 0] 3, .cells #[.int .i64 0] 24, .cells #[.string s, .int .i64 0] 103] w 2 _ rfl)
    have HB := Aside0.mk (made_below [.cells cfg0 23, .cells #[.int .i64 0] 3, .cells #[.int .i64 0] 24, .cells #[.string s, .int .i64 0] 103] w w w.heap.size (Below.refl _ _) (Nat.le_refl _))
    refine (resource_any s (by omega) (w.heap.size + 3) _ HR out HOUT.out).mono ?_
    rintro e w1 hp
    generalize mades w [.cells cfg0 23, .cells #[.int .i64 0] 3, .cells #[.int .i64 0] 24, .cells #[.string s, .int .i64 0] 103] = w0 at *
    cases out with
    | ok o =>
      obtain ⟨nm, sc, k⟩ := o
      obtain ⟨rfl, hc⟩ := hp
      have HK21 := Aside0.mk (hc.blk HK2.out (by simp))
      have HK31 := Aside0.mk (hc.blk HK3.out (by simp))
      have HK41 := Aside0.mk (hc.blk HK4.out (by simp))
      have HB1 := Aside0.mk (hc.below (B := w.heap.size) (by simp) HB.out HB.out.size)
      clear hc HK2 HK3 HK4 HB HR
      have hone : ∀ q ∈ (cfgC nm sc k).toList, q.oneCell' = true := by simp [cfgC, Value.oneCell']
      go_wp2_with (refine store_whole rfl rfl rfl (g := w.heap.size) rfl (cfgC nm sc k) (by rfl) HK21.out (by kernel_rfl) (by rfl) hone ?_; intro w2 h2 hg2; have H3 := (Aside0.mk (grown_blk hg2 HK31.out (by omega))); have H4 := (Aside0.mk (grown_blk hg2 HK41.out (by omega))); have c3 : w2.cell? ⟨w.heap.size + 1, 0, none⟩ = some (.int .i64 0) := blk_cell H3.out 0; have c4 : w2.cell? ⟨w.heap.size + 1 + 1, 0, none⟩ = some (.int .i64 0) := blk_cell H4.out 0; have f3 : w2.frozen? ⟨w.heap.size + 1, 0, none⟩ = false := blk_frozen H3.out 0; have f4 : w2.frozen? ⟨w.heap.size + 1 + 1, 0, none⟩ = false := blk_frozen H4.out 0)
      have k2 := blk_far (blk_far h2 (p := ⟨w.heap.size + 1, 0, none⟩) (by simp) (.int .i64 0)) (p := ⟨w.heap.size + 1 + 1, 0, none⟩) (by simp; omega) (.int .i64 0)
      have k3 := blk_far (blk_put H3.out 0 (.int .i64 0) rfl) (p := ⟨w.heap.size + 1 + 1, 0, none⟩) (by simp) (.int .i64 0)
      have k4 := blk_put (blk_far H4.out (p := ⟨w.heap.size + 1, 0, none⟩) (by simp) (.int .i64 0)) 0 (.int .i64 0) rfl
      have kb : Below w.heap.size w ((w2.setCell ⟨w.heap.size + 1, 0, none⟩ (.int .i64 0)).setCell ⟨w.heap.size + 1 + 1, 0, none⟩ (.int .i64 0)) :=
        (((Ch.refl [w.heap.size, w.heap.size + 1, w.heap.size + 1 + 1] w1).grown hg2 (.inl (by simp))).set (r := w.heap.size + 1) (by simp) 0 _ |>.set (r := w.heap.size + 1 + 1) (by simp) 0 _).below (B := w.heap.size) (by simp; omega) HB1.out HB1.out.size
      refine leaves_cons (f := 55) (args := #[.pointer (some ⟨w.heap.size, 0, none⟩), .pointer (some ⟨w.heap.size + 1, 0, none⟩), .pointer (some ⟨w.heap.size + 1 + 1, 0, none⟩)]) (by simp) (by simp [go_sem]) ?_
      refine (catch_idle _ _ _ _).mono ?_
      rintro e u' w'' ⟨rfl, rfl, rfl⟩
      exact ⟨_, results_c3 _ _ w.heap.size (cfgC nm sc k) 0 0 rfl rfl rfl k2 rfl k3 k4, rfl, kb⟩
    | error o =>
      obtain ⟨a, er⟩ := o
      obtain ⟨rfl, hc⟩ := hp
      have HK21 := Aside0.mk (hc.blk HK2.out (by simp))
      have HK31 := Aside0.mk (hc.blk HK3.out (by simp))
      have HK41 := Aside0.mk (hc.blk HK4.out (by simp))
      have HB1 := Aside0.mk (hc.below (B := w.heap.size) (by simp) HB.out HB.out.size)
      clear hc HK2 HK3 HK4 HB HR
      refine leaves_cons (f := 55) (args := #[.pointer (some ⟨w.heap.size, 0, none⟩), .pointer (some ⟨w.heap.size + 1, 0, none⟩), .pointer (some ⟨w.heap.size + 1 + 1, 0, none⟩)]) (by simp) (by simp [go_sem]) ?_
      refine (catch_panicking w.heap.size a er cfg0 w1 rfl HK21.out HK31.out HK41.out).mono ?_
      rintro e u' w'' ⟨rfl, rfl, k2, k3, k4, hc⟩
      exact ⟨_, results_c3 _ _ w.heap.size cfg0 a er rfl rfl rfl k2 rfl k3 k4, rfl, hc.below (B := w.heap.size) (by simp) HB1.out HB1.out.size⟩

end Go.Proofs.YtfecfgimfjcbdaaDoor.Cf

namespace Go.Proofs.YtfecfgimfjcbdaaDoor.Cf
open Go.RowKit Go.Proofs.YtfecfgimfjcbdaaDoorW.PrintWords Go.Proofs.YtfecfgimfjcbdaaDoorW.PrintLast Go.Proofs.YtfecfgimfjcbdaaDoorW.PrintMore Go.Proofs.YtfecfgimfjcbdaaDoor.QCParse

/-- W is s, a line feed, and t. -/
def Ext (s W : ByteArray) (t : List UInt8) : Prop := bl W = bl s ++ 10 :: t
section
variable {s W : ByteArray} {t : List UInt8}
theorem Ext.size (h : Ext s W t) : W.size = s.size + 1 + t.length := by
  have h1 := congrArg List.length h
  rw [bl_length, List.length_append, bl_length, List.length_cons] at h1
  omega
theorem Ext.cA (h : Ext s W t) {p : Nat} (hp : p < s.size) : Cf.cA W p = Cf.cA s p := by
  unfold Cf.cA
  rw [h, List.getD_eq_getElem?_getD, List.getElem?_append_left (by rw [bl_length]; exact hp), ← List.getD_eq_getElem?_getD]
theorem Ext.cAt (h : Ext s W t) (j : Nat) : Cf.cA W (s.size + j) = ((10 :: t).getD j 0).toNat := by
  unfold Cf.cA
  rw [h, List.getD_eq_getElem?_getD, List.getElem?_append_right (by rw [bl_length]; omega), ← List.getD_eq_getElem?_getD, bl_length, Nat.add_sub_cancel_left]
theorem Ext.drop (h : Ext s W t) {p : Nat} (hp : p ≤ s.size) : (bl W).drop p = (bl s).drop p ++ 10 :: t := by
  rw [h, List.drop_append_of_le_length (by rw [bl_length]; exact hp)]
theorem Ext.line (h : Ext s W t) {p : Nat} (hp : p ≤ s.size) : lineEnd W p = lineEnd s p := by
  unfold lineEnd
  rw [h.drop hp, List.findIdx_append]
  split
  · rfl
  · rename_i hn
    have h1 := List.findIdx_le_length (xs := (bl s).drop p) (p := fun c : UInt8 => c == 10)
    have h2 : (10 :: t).findIdx (fun c : UInt8 => c == 10) = 0 := by rw [List.findIdx_cons]; rfl
    rw [h2]
    omega
theorem Ext.skip (h : Ext s W t) : ∀ (f p f' : Nat), p ≤ s.size → s.size - p < f → W.size - p < f' →
    (skipP s f p < s.size ∧ skipP W f' p = skipP s f p) ∨ (skipP s f p = s.size ∧ ∃ g, W.size - s.size < g ∧ skipP W f' p = skipP W g s.size)
  | 0, p, f', _, hf, _ => by omega
  | f + 1, p, f', hp, hf, hf' => by
    have hw := h.size
    by_cases hlt : p < s.size
    · obtain ⟨g, rfl⟩ : ∃ g, f' = g + 1 := ⟨f' - 1, by omega⟩
      rw [skipP_step, skipP_step, if_pos hlt, if_pos (by omega : p < W.size), h.cA hlt]
      split
      · exact h.skip f (p + 1) g (by omega) (by omega) (by omega)
      · split
        · rename_i h35
          have h1 := lineEnd_gt s p hlt h35
          have h2 := lineEnd_le s p hp
          rw [h.line hp]
          exact h.skip f _ g h2 (by omega) (by omega)
        · exact .inl ⟨hlt, rfl⟩
    · obtain rfl : p = s.size := by omega
      right
      refine ⟨by rw [skipP_step, if_neg hlt], f', hf', rfl⟩
theorem takeWhile_stop (q : UInt8 → Bool) (hq : q 10 = false) (t : List UInt8) : ∀ l : List UInt8, (l ++ 10 :: t).takeWhile q = l.takeWhile q
  | [] => by rw [List.nil_append, List.takeWhile_cons, hq]; rfl
  | c :: l => by
    rw [List.cons_append, List.takeWhile_cons, List.takeWhile_cons, takeWhile_stop q hq t l]
theorem Ext.word (h : Ext s W t) {a : Nat} (ha : a ≤ s.size) : wEnd W a = wEnd s a := by
  unfold wEnd
  rw [h.drop ha, takeWhile_stop _ (by decide)]
theorem bl_cut (s : ByteArray) (a b : Nat) : bl (s.extract a b) = ((bl s).drop a).take (b - a) := by
  unfold bl
  rw [ByteArray.data_extract, Array.toList_extract, List.extract_eq_take_drop]
theorem Ext.cut (h : Ext s W t) {a b : Nat} (hb : b ≤ s.size) (ha : a ≤ s.size) : W.extract a b = s.extract a b := by
  apply ByteArray.ext
  apply Array.ext'
  show bl _ = bl _
  rw [bl_cut, bl_cut, h.drop ha, List.take_append_of_le_length (by rw [List.length_drop, bl_length]; omega)]
theorem hexFold_no : ∀ (l r : List UInt8) (x : Nat), hexFold (l ++ 10 :: r) x = none
  | [], r, x => rfl
  | c :: l, r, x => by
    rw [List.cons_append, hexFold]
    split
    · exact hexFold_no l r _
    · rfl
theorem numS_ext (t l : List UInt8) : numS (l ++ 10 :: t) = numS l := by
  unfold numS
  by_cases h3 : 3 ≤ l.length
  · rw [List.take_append_of_le_length h3]
    by_cases hi : l.findIdx (fun c => c == 125) < l.length
    · have e : (l ++ 10 :: t).findIdx (fun c => c == 125) = l.findIdx (fun c => c == 125) := by rw [List.findIdx_append, if_pos hi]
      have hi2 : l.findIdx (fun c => c == 125) < (l ++ 10 :: t).length := by rw [List.length_append]; omega
      rw [e, List.take_append_of_le_length (by omega)]
      simp only [hi, hi2]
    · have hle := List.findIdx_le_length (xs := l) (p := fun c : UInt8 => c == 125)
      have e : (l ++ 10 :: t).findIdx (fun c => c == 125) = t.findIdx (fun c => c == 125) + 1 + l.length := by
        rw [List.findIdx_append, if_neg hi, List.findIdx_cons]
        rfl
      rw [e]
      symm
      rw [if_neg (fun hh => hi hh.2.1)]
      symm
      split
      · have e2 : ((l ++ 10 :: t).take (t.findIdx (fun c => c == 125) + 1 + l.length)).drop 3 = l.drop 3 ++ 10 :: t.take (t.findIdx (fun c => c == 125)) := by
          rw [List.take_append, List.take_of_length_le (by omega), show t.findIdx (fun c => c == 125) + 1 + l.length - l.length = t.findIdx (fun c => c == 125) + 1 by omega, List.take_succ_cons, List.drop_append_of_le_length h3]
        rw [e2, hexFold_no]
      · rfl
  · have h1 : ∀ r : List UInt8, r.length = 3 → 10 ∈ r → r ≠ [92, 117, 123] := by
      intro r _ hm e
      rw [e] at hm
      revert hm
      decide
    rw [if_neg, if_neg]
    · intro hh
      have := congrArg List.length hh.1
      rw [List.length_take] at this
      simp at this
      omega
    · intro hh
      rcases l with _ | ⟨a, _ | ⟨b, _ | ⟨c, l⟩⟩⟩
      · simp at hh
      · simp at hh
      · simp at hh
      · simp at h3
theorem escS_ext (t : List UInt8) : ∀ l : List UInt8, l ≠ [] → escS (l ++ 10 :: t) = escS l
  | [], h => absurd rfl h
  | [a], _ => rfl
  | a :: b :: l, _ => by
    show escS (a :: b :: (l ++ 10 :: t)) = escS (a :: b :: l)
    unfold escS
    simp only
    rw [show a :: b :: (l ++ 10 :: t) = (a :: b :: l) ++ 10 :: t from rfl, numS_ext]
theorem wdL_ext (t l : List UInt8) (hl : l ≠ []) : wdL (l ++ 10 :: t) = wdL l := by
  unfold wdL
  rw [Lib.decodeL_N, Lib.decodeL_N]
  rcases l with _ | ⟨a, _ | ⟨b, _ | ⟨c, _ | ⟨d, l⟩⟩⟩⟩
  · exact absurd rfl hl
  all_goals
    rw [wd_arith _ _ _ _ _ (UInt8.toNat_lt _), wd_arith _ _ _ _ _ (UInt8.toNat_lt _)]
    simp only [List.cons_append, List.nil_append, List.getD_cons_zero, List.getD_cons_succ, List.length_cons, List.length_nil, List.length_append]
    simp
    try (repeat' split) <;> first | rfl | omega
theorem Ext.quote (h : Ext s W t) : ∀ (f k : Nat) (acc : List UInt8) (f' : Nat), k ≤ s.size → s.size - k < f → W.size - k < f' →
    qS s f k acc = .error s.size ∨ qS W f' k acc = qS s f k acc
  | 0, k, acc, f', _, hf, _ => by omega
  | f + 1, k, acc, f', hk, hf, hf' => by
    have hw := h.size
    by_cases hlt : k < s.size
    · obtain ⟨g, rfl⟩ : ∃ g, f' = g + 1 := ⟨f' - 1, by omega⟩
      have hne : (bl s).drop k ≠ [] := fun e => by
        have := congrArg List.length e
        rw [List.length_drop, bl_length] at this
        simp at this
        omega
      have hlen : ((bl s).drop k).length = s.size - k := by rw [List.length_drop, bl_length]
      rw [qS_step, qS_step, if_pos hlt, if_pos (by omega : k < W.size), h.cA hlt, h.drop hk, escS_ext t _ hne, wdL_ext t _ hne]
      split
      · exact .inr rfl
      · split
        · cases hes : escS ((bl s).drop k) with
          | none => exact .inr rfl
          | some xn =>
            obtain ⟨x, n⟩ := xn
            have hn := escS_is _ x n hes
            exact h.quote f (k + n) _ g (by omega) (by omega) (by omega)
        · split
          · exact .inr rfl
          · rename_i hv
            have hle := wd_le _ hne
            exact h.quote f (k + (wdL ((bl s).drop k)).1) _ g (by omega) (by omega) (by omega)
    · left
      rw [qS_step, if_neg hlt]
theorem Ext.next (h : Ext s W t) {p : Nat} (hp : p ≤ s.size) : nextP s p = .error s.size ∨ nextP W p = nextP s p := by
  have hw := h.size
  have hs := h.skip (s.size + 1) p (W.size + 1) hp (by omega) (by omega)
  rcases hs with ⟨hlt, e⟩ | ⟨e, _⟩
  · have e2 : skp W p = skp s p := e
    have hlt2 : skp s p < s.size := hlt
    unfold nextP
    rw [e2, if_neg (show ¬ s.size ≤ skp s p by omega), if_neg (show ¬ W.size ≤ skp s p by omega), h.cA hlt2, h.word (by omega), h.cut (wEnd_le s _ (by omega)) (by omega), h.cut (show skp s p + 1 ≤ s.size by omega) (by omega)]
    split
    · exact .inr rfl
    · split
      · exact .inr rfl
      · split
        · rcases h.quote (s.size + 1) (skp s p + 1) [] (W.size + 1) (by omega) (by omega) (by omega) with e3 | e3
          · rw [e3]
            exact .inl rfl
          · rw [e3]
            exact .inr rfl
        · exact .inr rfl
  · left
    have e2 : skp s p = s.size := e
    unfold nextP
    rw [if_pos (by omega)]

/-- What the shorter text answers: that it ends too early; or the same, and a fault has its place ahead of the end. -/
def Pre {α : Type} (n : Nat) (x y : Except (Nat × Int) α) : Prop := x = .error (n, 121) ∨ (y = x ∧ ∀ a e, x = .error (a, e) → a < n ∧ e ≠ 0)
theorem Pre.ok {α : Type} {n : Nat} (v : α) : Pre n (.ok v) (.ok v) := .inr ⟨rfl, fun _ _ h => by cases h⟩
theorem Pre.err {α : Type} {n a : Nat} {e : Int} (ha : a < n) (he : e ≠ 0) : Pre (α := α) n (.error (a, e)) (.error (a, e)) := .inr ⟨rfl, fun _ _ h => by cases h; exact ⟨ha, he⟩⟩
theorem Pre.lex {α : Type} {n a : Nat} (ha : a ≤ n) : Pre (α := α) n (.error (a, 121)) (.error (a, 121)) := by
  by_cases h : a = n
  · subst h
    exact .inl rfl
  · exact .err (by omega) (by decide)
theorem Ext.want (h : Ext s W t) {p : Nat} (hp : p ≤ s.size) (kd : Nat) (v : ByteArray) : Pre s.size (wantP s p kd v) (wantP W p kd v) := by
  unfold wantP
  rcases h.next hp with e | e
  · rw [e]
    exact .inl rfl
  · rw [e]
    cases hn : nextP s p with
    | error a => exact .lex (nextP_err s p a hp hn)
    | ok x =>
      obtain ⟨kd', a, v', q⟩ := x
      have hb := nextP_le s p kd' a v' q hp hn
      simp only
      split
      · exact .ok _
      · exact .err (by omega) (by decide)
theorem fIdx_key (sec nm : ByteArray) : ∀ (n j i : Nat), fIdx sec nm n j = some i → ∃ t, kTab[i]? = some t
  | 0, _, _, h => by cases h
  | n + 1, j, i, h => by
    simp only [fIdx] at h
    split at h
    · rename_i t ht
      split at h
      · obtain rfl := Option.some.inj h
        exact ⟨t, ht⟩
      · exact fIdx_key sec nm n _ _ h
    · cases h
theorem findP_key (sec nm : ByteArray) (i : Nat) (h : findP sec nm = some (some i)) : ∃ t, kTab[i]? = some t := by
  unfold findP at h
  split at h
  · cases h
  · cases hf : fIdx sec nm 16 0 with
    | none => rw [hf] at h; cases h
    | some j =>
      rw [hf] at h
      obtain rfl := Option.some.inj (Option.some.inj h)
      exact fIdx_key sec nm 16 0 _ hf
theorem Ext.value (h : Ext s W t) {p : Nat} (hp : p ≤ s.size) (key : Option Nat) (hkey : ∀ i, key = some i → ∃ t, kTab[i]? = some t) (sc : ByteArray) (k : Nat → Int) : Pre s.size (valueP s p key sc k) (valueP W p key sc k) := by
  unfold valueP
  rcases h.next hp with e | e
  · rw [e]
    exact .inl rfl
  · rw [e]
    cases hn : nextP s p with
    | error a => exact .lex (nextP_err s p a hp hn)
    | ok x =>
      obtain ⟨kd', a, v', q⟩ := x
      have hb := nextP_le s p kd' a v' q hp hn
      have hw : Pre s.size (wantP s q 1 semiB) (wantP W q 1 semiB) := h.want (by omega) 1 semiB
      simp only
      split
      · exact .err (by omega) (by decide)
      · cases key with
        | none =>
          simp only
          split
          · exact .err (by omega) (by decide)
          · rcases hw with e2 | ⟨e2, hl⟩
            · rw [e2]
              exact .inl rfl
            · rw [e2]
              cases hq : wantP s q 1 semiB with
              | error x =>
                obtain ⟨a2, er⟩ := x
                have := hl a2 er hq
                exact .err this.1 this.2
              | ok aq => exact .ok _
        | some i =>
          obtain ⟨t, ht⟩ := hkey i rfl
          simp only [ht]
          cases readP t kd' v' with
          | none => exact .err (by omega) (by decide)
          | some n =>
            simp only
            rcases hw with e2 | ⟨e2, hl⟩
            · rw [e2]
              exact .inl rfl
            · rw [e2]
              cases hq : wantP s q 1 semiB with
              | error x =>
                obtain ⟨a2, er⟩ := x
                have := hl a2 er hq
                exact .err this.1 this.2
              | ok aq => exact .ok _
theorem Ext.sect (h : Ext s W t) (sec : ByteArray) : ∀ (f p : Nat) (f' : Nat) (L : List ByteArray) (sc : ByteArray) (k : Nat → Int), p ≤ s.size → s.size - p < f → W.size - p < f' → Pre s.size (sectP s sec f p L sc k) (sectP W sec f' p L sc k)
  | 0, p, f', L, sc, k, _, hf, _ => by omega
  | f + 1, p, f', L, sc, k, hp, hf, hf' => by
    have hw := h.size
    obtain ⟨g, rfl⟩ : ∃ g, f' = g + 1 := ⟨f' - 1, by omega⟩
    simp only [sectP]
    rcases h.next hp with e | e
    · rw [e]
      exact .inl rfl
    · rw [e]
      cases hn : nextP s p with
      | error a => exact .lex (nextP_err s p a hp hn)
      | ok x =>
        obtain ⟨kd, a, v, q⟩ := x
        have hb := nextP_le s p kd a v q hp hn
        simp only
        split
        · exact .ok _
        · split
          · exact .err (by omega) (by decide)
          · cases hk : findP sec v with
            | none => exact .err (by omega) (by decide)
            | some key =>
              simp only
              split
              · exact .err (by omega) (by decide)
              · rcases h.value (p := q) (by omega) key (fun i hi => findP_key sec v i (by rw [hk, hi])) sc k with e2 | ⟨e2, hl⟩
                · rw [e2]
                  exact .inl rfl
                · rw [e2]
                  cases hv : valueP s q key sc k with
                  | error x =>
                    obtain ⟨a2, er⟩ := x
                    have := hl a2 er hv
                    exact .err this.1 this.2
                  | ok y =>
                    have hy := valueP_le s q key sc k y (by omega) hv
                    exact h.sect sec f y.2.2 g _ _ _ (by omega) (by omega) (by omega)
theorem Ext.parts (h : Ext s W t) : ∀ (f p : Nat) (f' : Nat) (L D : List ByteArray) (sc : ByteArray) (k : Nat → Int), p ≤ s.size → s.size - p < f → W.size - p < f' → Pre s.size (partsP s f p L D sc k) (partsP W f' p L D sc k)
  | 0, p, f', L, D, sc, k, _, hf, _ => by omega
  | f + 1, p, f', L, D, sc, k, hp, hf, hf' => by
    have hw := h.size
    obtain ⟨g, rfl⟩ : ∃ g, f' = g + 1 := ⟨f' - 1, by omega⟩
    simp only [partsP]
    rcases h.next hp with e | e
    · rw [e]
      exact .inl rfl
    · rw [e]
      cases hn : nextP s p with
      | error a => exact .lex (nextP_err s p a hp hn)
      | ok x =>
        obtain ⟨kd, a, v, q⟩ := x
        have hb := nextP_le s p kd a v q hp hn
        simp only
        split
        · exact .ok _
        · split
          · exact .err (by omega) (by decide)
          · split
            · exact .err (by omega) (by decide)
            · split
              · exact .err (by omega) (by decide)
              · cases hk : findP ⟨#[]⟩ v with
                | some key =>
                  simp only
                  rcases h.value (p := q) (by omega) key (fun i hi => findP_key _ v i (by rw [hk, hi])) sc k with e2 | ⟨e2, hl⟩
                  · rw [e2]
                    exact .inl rfl
                  · rw [e2]
                    cases hv : valueP s q key sc k with
                    | error x =>
                      obtain ⟨a2, er⟩ := x
                      have := hl a2 er hv
                      exact .err this.1 this.2
                    | ok y =>
                      have hy := valueP_le s q key sc k y (by omega) hv
                      exact h.parts f y.2.2 g _ _ _ _ (by omega) (by omega) (by omega)
                | none =>
                  simp only
                  rcases h.want (p := q) (by omega) 1 openB with e2 | ⟨e2, hl⟩
                  · rw [e2]
                    exact .inl rfl
                  · rw [e2]
                    cases hv : wantP s q 1 openB with
                    | error x =>
                      obtain ⟨a2, er⟩ := x
                      have := hl a2 er hv
                      exact .err this.1 this.2
                    | ok aq =>
                      obtain ⟨a2, q2⟩ := aq
                      have hq2 := wantP_le s q 1 openB a2 q2 (by omega) hv
                      simp only
                      rcases h.sect v (s.size + 1) q2 (W.size + 1) [] sc k (by omega) (by omega) (by omega) with e3 | ⟨e3, hl3⟩
                      · rw [e3]
                        exact .inl rfl
                      · rw [e3]
                        cases hv3 : sectP s v (s.size + 1) q2 [] sc k with
                        | error x =>
                          obtain ⟨a2, er⟩ := x
                          have := hl3 a2 er hv3
                          exact .err this.1 this.2
                        | ok y =>
                          have hy := sectP_le s v _ q2 [] sc k y (by omega) hv3
                          exact h.parts f y.2.2.2 g _ _ _ _ (by omega) (by omega) (by omega)
end
end Go.Proofs.YtfecfgimfjcbdaaDoor.Cf

namespace Go.Proofs.YtfecfgimfjcbdaaDoor.Cf
open Go.RowKit Go.Proofs.YtfecfgimfjcbdaaDoorW.PrintWords Go.Proofs.YtfecfgimfjcbdaaDoorW.PrintLast Go.Proofs.YtfecfgimfjcbdaaDoorW.PrintMore Go.Proofs.YtfecfgimfjcbdaaDoor.QCParse

theorem partsP_lt (s : ByteArray) : ∀ (f p : Nat) (L D : List ByteArray) (sc : ByteArray) (k : Nat → Int) (y : Nat × List ByteArray × ByteArray × (Nat → Int) × Nat), p ≤ s.size → partsP s f p L D sc k = .ok y → y.1 < s.size ∧ y.2.2.2.2 ≤ s.size
  | 0, _, _, _, _, _, _, _, h => by cases h
  | f + 1, p, L, D, sc, k, y, hp, h => by
    simp only [partsP] at h
    cases hn : nextP s p with
    | error a => rw [hn] at h; cases h
    | ok x =>
      obtain ⟨kd, a, v, q⟩ := x
      have hb := nextP_le s p kd a v q hp hn
      rw [hn] at h
      simp only at h
      split at h
      · obtain rfl := Except.ok.inj h
        exact ⟨by simp only; omega, by simp only; omega⟩
      · split at h
        · cases h
        · split at h
          · cases h
          · split at h
            · cases h
            · cases hk : findP ⟨#[]⟩ v with
              | some key =>
                rw [hk] at h
                simp only at h
                cases hv : valueP s q key sc k with
                | error x => rw [hv] at h; cases h
                | ok z =>
                  rw [hv] at h
                  have hz := valueP_le s q key sc k z (by omega) hv
                  exact partsP_lt s f _ _ _ _ _ y (by omega) h
              | none =>
                rw [hk] at h
                simp only at h
                cases hv : wantP s q 1 openB with
                | error x => rw [hv] at h; cases h
                | ok aq =>
                  obtain ⟨a2, q2⟩ := aq
                  have hq2 := wantP_le s q 1 openB a2 q2 (by omega) hv
                  rw [hv] at h
                  simp only at h
                  cases hv3 : sectP s v (s.size + 1) q2 [] sc k with
                  | error x => rw [hv3] at h; cases h
                  | ok z =>
                    rw [hv3] at h
                    have hz := sectP_le s v _ q2 [] sc k z (by omega) hv3
                    exact partsP_lt s f _ _ _ _ _ y (by omega) h
section
variable {s W : ByteArray} {t : List UInt8}
/-- A whole text: it ends too early; or the longer one has the same fault; or it is taken, and the rest decides. -/
theorem Ext.res (h : Ext s W t) : resP s = .error (s.size, 121) ∨ (∃ a e, a < s.size ∧ e ≠ 0 ∧ resP s = .error (a, e) ∧ resP W = .error (a, e)) ∨
    ∃ nm y, resP s = .ok (nm, y.2.2.1, y.2.2.2.1) ∧ resP W = endP W nm y ∧ nameI nm = true ∧ y.2.2.2.2 ≤ s.size ∧ skp s y.2.2.2.2 = s.size ∧ (seen y.2.1 blkB && seen y.2.1 sizB) = true ∧ togI y.2.2.2.1 = true := by
  have hw := h.size
  have lift : ∀ {x y : Except (Nat × Int) (ByteArray × ByteArray × (Nat → Int))} {z : Nat × Int}, x = .error z → y = .error z → (z.1 < s.size ∧ z.2 ≠ 0 ∨ z = (s.size, 121)) → x = .error (s.size, 121) ∨ (∃ a e, a < s.size ∧ e ≠ 0 ∧ x = .error (a, e) ∧ y = .error (a, e)) := by
    intro x y z hx hy hz
    rcases hz with ⟨h1, h2⟩ | rfl
    · exact .inr ⟨z.1, z.2, h1, h2, hx, hy⟩
    · exact .inl hx
  have fin : ∀ {x y : Except (Nat × Int) (ByteArray × ByteArray × (Nat → Int))} {R : Prop}, x = .error (s.size, 121) ∨ (∃ a e, a < s.size ∧ e ≠ 0 ∧ x = .error (a, e) ∧ y = .error (a, e)) → x = .error (s.size, 121) ∨ (∃ a e, a < s.size ∧ e ≠ 0 ∧ x = .error (a, e) ∧ y = .error (a, e)) ∨ R := by
    intro x y R h
    rcases h with h | h
    · exact .inl h
    · exact .inr (.inl h)
  have lex : ∀ {a : Nat}, a ≤ s.size → ((a, (121 : Int)).1 < s.size ∧ (a, (121 : Int)).2 ≠ 0 ∨ (a, (121 : Int)) = (s.size, 121)) := by
    intro a ha
    by_cases e : a = s.size
    · exact .inr (by rw [e])
    · exact .inl ⟨by show a < s.size; omega, by simp⟩
  unfold resP
  rcases h.want (p := 0) (Nat.zero_le _) 0 resB with e | ⟨e, hl⟩
  · rw [e]
    exact .inl rfl
  rw [e]
  cases hq : wantP s 0 0 resB with
  | error x => exact fin (lift rfl rfl (.inl (hl x.1 x.2 hq)))
  | ok aq =>
    obtain ⟨a0, q0⟩ := aq
    have hq0 := wantP_le s 0 0 resB a0 q0 (Nat.zero_le _) hq
    simp only
    rcases h.next hq0.2 with e1 | e1
    · rw [e1]
      exact .inl rfl
    rw [e1]
    cases hn : nextP s q0 with
    | error a => exact fin (lift rfl rfl (lex (nextP_err s q0 a hq0.2 hn)))
    | ok x =>
      obtain ⟨kd, a, v, q⟩ := x
      have hb := nextP_le s q0 kd a v q hq0.2 hn
      simp only
      split
      · exact fin (lift rfl rfl (.inl ⟨by show a < s.size; omega, by simp⟩))
      split
      · exact fin (lift rfl rfl (.inl ⟨by show a < s.size; omega, by simp⟩))
      rename_i hnm
      rcases h.want (p := q) (by omega) 1 openB with e2 | ⟨e2, hl2⟩
      · rw [e2]
        exact .inl rfl
      rw [e2]
      cases hv : wantP s q 1 openB with
      | error x => exact fin (lift rfl rfl (.inl (hl2 x.1 x.2 hv)))
      | ok aq =>
        obtain ⟨a2, q2⟩ := aq
        have hq2 := wantP_le s q 1 openB a2 q2 (by omega) hv
        simp only
        rcases h.parts (s.size + 1) q2 (W.size + 1) [] [] ⟨#[]⟩ kU (by omega) (by omega) (by omega) with e3 | ⟨e3, hl3⟩
        · rw [e3]
          exact .inl rfl
        rw [e3]
        cases hp : partsP s (s.size + 1) q2 [] [] ⟨#[]⟩ kU with
        | error x => exact fin (lift rfl rfl (.inl (hl3 x.1 x.2 hp)))
        | ok y =>
          have hy := partsP_lt s _ q2 _ _ _ _ y (by omega) hp
          simp only
          have hs := h.skip (s.size + 1) y.2.2.2.2 (W.size + 1) hy.2 (by omega) (by omega)
          have HE : endP s v y = if (seen y.2.1 blkB && seen y.2.1 sizB) = false then .error (y.1, 125) else if togI y.2.2.2.1 = false then .error (y.1, 124) else if skp s y.2.2.2.2 < s.size then (match nextP s (skp s y.2.2.2.2) with
            | .error a => .error (a, 121)
            | .ok t => .error (t.2.1, 121)) else .ok (v, y.2.2.1, y.2.2.2.1) := rfl
          have HW : endP W v y = if (seen y.2.1 blkB && seen y.2.1 sizB) = false then .error (y.1, 125) else if togI y.2.2.2.1 = false then .error (y.1, 124) else if skp W y.2.2.2.2 < W.size then (match nextP W (skp W y.2.2.2.2) with
            | .error a => .error (a, 121)
            | .ok t => .error (t.2.1, 121)) else .ok (v, y.2.2.1, y.2.2.2.1) := rfl
          by_cases h1 : (seen y.2.1 blkB && seen y.2.1 sizB) = false
          · rw [HE, HW, if_pos h1, if_pos h1]
            exact fin (lift rfl rfl (.inl ⟨hy.1, by simp⟩))
          · by_cases h2 : togI y.2.2.2.1 = false
            · rw [HE, HW, if_neg h1, if_neg h1, if_pos h2, if_pos h2]
              exact fin (lift rfl rfl (.inl ⟨hy.1, by simp⟩))
            · rcases hs with ⟨hlt, e4⟩ | ⟨e4, g, hg, e5⟩
              · have hlt2 : skp s y.2.2.2.2 < s.size := hlt
                have e5 : skp W y.2.2.2.2 = skp s y.2.2.2.2 := e4
                rw [HE, HW, if_neg h1, if_neg h1, if_neg h2, if_neg h2, e5, if_pos hlt2, if_pos (by omega)]
                rcases h.next (p := skp s y.2.2.2.2) (by omega) with e6 | e6
                · rw [e6]
                  exact .inl rfl
                rw [e6]
                cases hn3 : nextP s (skp s y.2.2.2.2) with
                | error a => exact fin (lift rfl rfl (lex (nextP_err s _ a (by omega) hn3)))
                | ok x =>
                  obtain ⟨kd3, a3, v3, q3⟩ := x
                  have hb3 := nextP_le s _ kd3 a3 v3 q3 (by omega) hn3
                  exact fin (lift rfl rfl (.inl ⟨by show a3 < s.size; omega, by simp⟩))
              · have e6 : skp s y.2.2.2.2 = s.size := e4
                refine .inr (.inr ⟨v, y, ?_, rfl, by simpa using hnm, hy.2, e6, by simpa using h1, by simpa using h2⟩)
                rw [HE, if_neg h1, if_neg h2, e6, if_neg (by omega)]
end
/-- A word behind a text that is taken: there it is refused. -/
theorem res_more (s W : ByteArray) (h : Ext s W [120]) (c : ByteArray × ByteArray × (Nat → Int)) (hc : resP s = .ok c) : resP W = .error (s.size + 1, 121) := by
  have hw : W.size = s.size + 2 := h.size
  rcases h.res with e | ⟨a, e, _, _, e1, _⟩ | ⟨nm, y, e1, e2, _, hy, hk, hb, ht⟩
  · rw [e] at hc; cases hc
  · rw [e1] at hc; cases hc
  · rw [e2]
    have hs := h.skip (s.size + 1) y.2.2.2.2 (W.size + 1) hy (by omega) (by omega)
    have c0 : cA W s.size = 10 := h.cAt 0
    have c1 : cA W (s.size + 1) = 120 := h.cAt 1
    have st : ∀ g, 1 < g → skipP W g (s.size + 1) = s.size + 1 := by
      intro g hg
      obtain ⟨g, rfl⟩ : ∃ g', g = g' + 1 := ⟨g - 1, by omega⟩
      rw [skipP_step, if_pos (by omega), c1, if_neg (by decide), if_neg (by decide)]
    have hsk : skp W y.2.2.2.2 = s.size + 1 := by
      rcases hs with ⟨hlt, _⟩ | ⟨_, g, hg, e5⟩
      · have : skp s y.2.2.2.2 < s.size := hlt
        omega
      · show skipP W (W.size + 1) y.2.2.2.2 = _
        rw [e5]
        obtain ⟨g, rfl⟩ : ∃ g', g = g' + 1 := ⟨g - 1, by omega⟩
        rw [skipP_step, if_pos (by omega), c0, if_pos (by decide)]
        exact st g (by omega)
    have hsk2 : skp W (s.size + 1) = s.size + 1 := st (W.size + 1) (by omega)
    unfold endP
    rw [if_neg (by simp [hb]), if_neg (by simp [ht]), hsk, if_pos (by omega)]
    unfold nextP
    rw [hsk2, if_neg (by omega), c1, if_pos (by decide)]
end Go.Proofs.YtfecfgimfjcbdaaDoor.Cf
