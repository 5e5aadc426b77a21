/- conf.Parse, walked: of the texts ConfA .. ConfNn what it leans on. -/
import Derived.Test.YtfecfgimfjcbdaaGreatDoorKConfZd
import Derived.Defers
import Derived.Recover
import Derived.Laws.Pointers
namespace Go.Proofs.YtfecfgimfjcbdaaGreatDoor.Cf
open Go.RowKit Go.Proofs.YtfecfgimfjcbdaaGreatDoorW.PrintWords Go.Proofs.YtfecfgimfjcbdaaGreatDoorW.PrintLast Go.Proofs.YtfecfgimfjcbdaaGreatDoorW.PrintMore Go.Proofs.YtfecfgimfjcbdaaGreatDoor.QCParse

set_option maxRecDepth 100000 in
set_option maxHeartbeats 1000000 in
theorem landed_any (a : Nat) (er : Int) (w : World) : Calls Tryz.prog 7 #[fltV a er] w fun e w' => e = .returned (.tuple #[.int .i64 (a : Int), .int .i64 er]) ∧ Below w.heap.size w w' := by
  have hta : ∀ (x : Value) (W : World), (Instr.typeAssert (.iface 46 x) 20 46 true).run Tryz.prog W = .ok (.tuple #[x, .bool true]) W := fun _ _ => by kernel_rfl
  unfold fltV
  have HB := Aside0.mk ((Below.refl w.heap.size w).alloc (Nat.le_refl _) (.cells #[.int .i64 (a : Int), .int .i64 er] 46))
  have HK := Aside0.mk (blk_new w (.cells #[.int .i64 (a : Int), .int .i64 er] 46))
  go_enter Tryz.func7, Tryz.ntmps7
  go_upto_region 4 with fail
  clear hta
  generalize w.alloc (.cells #[.int .i64 (a : Int), .int .i64 er] 46) = w1 at *
  have t0 : w1.cell? ⟨w.heap.size, 0, none⟩ = some (.int .i64 (a : Int)) := (blk_cell HK.out 0).trans rfl
  have t1 : w1.cell? ⟨w.heap.size, 1, none⟩ = some (.int .i64 er) := (blk_cell HK.out 1).trans rfl
  refine wp_region_still_lit (by kernel_rfl) (by kernel_rfl) ?_
  repeat still_step
  refine wpStill_nil ?_
  change Exit.then _ _ Exit.normal _ w1.drew
  have HB2 := Aside0.mk (below_drew HB.out)
  clear t0 t1 HB HK
  generalize w1.drew = w2 at *
  go_wp2
  go_ret2
  exact ⟨rfl, HB2.out⟩
/-- The resource with nothing in it. -/
def cfg0 : Array Value := cfgC ⟨#[]⟩ ⟨#[]⟩ (fun _ => 0)
theorem catch_idle (g2 g3 g4 : Nat) (w : World) :
    CallsD Tryz.prog 6 #[.pointer (some ⟨g2, 0, none⟩), .pointer (some ⟨g3, 0, none⟩), .pointer (some ⟨g4, 0, none⟩)] .returning w fun e u' w' => e = .returned (.tuple #[]) ∧ u' = .returning ∧ w' = w := by
  refine callsD_of_wpS Tryz.func6 rfl fun c₀ cs hu => ?_
  apply wpS_seq
  apply wpS_region
  simp [wpOpsS, go_sem, recoverD, hu, Tryz.ntmps6, Exit.thenS]
  apply wpS_seq
  apply wpS_region
  simp [wpOpsS, go_sem, Exit.thenS]
  refine wpS_cond (t := false) (by simp [Act.eval, Array.replicate]) ?_
  simp only [Bool.false_eq_true, if_false]
  refine wpS_of_wp (wp_skip ?_)
  cases c₀
  simp_all [bodyPostS, results, Tryz.results6]

theorem cfg0_one : ∀ q ∈ cfg0.toList, q.oneCell' = true := by decide +kernel
set_option maxRecDepth 100000 in
set_option maxHeartbeats 1000000 in
theorem catch_panicking (g a : Nat) (er : Int) (old : Array Value) (w : World) (hsz : cfg0.size = old.size)
    (h2 : w.heap[g]? = some (.cells old 23 (0, 0))) (h3 : w.heap[g + 1]? = some (.cells #[.int .i64 0] 3 (0, 0))) (h4 : w.heap[g + 2]? = some (.cells #[.int .i64 0] 24 (0, 0))) :
    CallsD Tryz.prog 6 #[.pointer (some ⟨g, 0, none⟩), .pointer (some ⟨g + 1, 0, none⟩), .pointer (some ⟨g + 2, 0, none⟩)] (.panicking [{ v := fltV a er, recovered := false }]) w fun e u' w' =>
      e = .returned (.tuple #[]) ∧ u' = .panicking [{ v := fltV a er, recovered := true }] ∧ w'.heap[g]? = some (.cells cfg0 23 (0, 0)) ∧ w'.heap[g + 1]? = some (.cells #[.int .i64 (a : Int)] 3 (0, 0)) ∧ w'.heap[g + 2]? = some (.cells #[.int .i64 er] 24 (0, 0)) ∧ Ch [g, g + 1, g + 2] w w' := by
  have HL := fun W => Aside0.mk (landed_any a er W)
  unfold fltV at *
  have H2 := Aside0.mk h2
  have H3 := Aside0.mk h3
  have H4 := Aside0.mk h4
  have HC := Aside0.mk (Ch.refl [g, g + 1, g + 2] w)
  clear h2 h3 h4
  refine callsD_of_wpS Tryz.func6 rfl fun c₀ cs hu => ?_
  apply wpS_seq
  apply wpS_region
  simp [wpOpsS, go_sem, recoverD, hu, Tryz.ntmps6, Exit.thenS]
  apply wpS_seq
  apply wpS_region
  simp [wpOpsS, go_sem, Exit.thenS]
  refine wpS_cond (t := true) (by simp [Act.eval, Array.replicate]) ?_
  simp only [if_true]
  refine wpS_of_wp ?_
  change Code.wp _ _ _ ⟨#[.pointer (some ⟨g, 0, none⟩), .pointer (some ⟨g + 1, 0, none⟩), .pointer (some ⟨g + 2, 0, none⟩), .iface 46 (.agg #[.int .i64 (a : Int), .int .i64 er]), .iface 46 (.agg #[.int .i64 (a : Int), .int .i64 er]), .iface 46 (.agg #[.int .i64 (a : Int), .int .i64 er]), .bool true, undef, undef, undef, undef, undef, undef], []⟩ w
  cases c₀
  go_upto_region 3 with (refine store_whole rfl rfl rfl (g := g) rfl cfg0 (by rfl) H2.out (by kernel_rfl) hsz cfg0_one ?_; intro w1 h1 hg1)
  have HC1 := Aside0.mk (HC.out.grown hg1 (.inl (by simp)))
  have H21 := Aside0.mk h1
  have H31 := Aside0.mk (grown_blk hg1 H3.out (by omega))
  have H41 := Aside0.mk (grown_blk hg1 H4.out (by omega))
  clear h1 hg1 H2 H3 H4 HC
  go_wp2_with fail
  refine (HL w1).out.mono ?_
  rintro e w2 ⟨rfl, hb2⟩
  have HC2 := Aside0.mk (HC1.out.then hb2)
  have H22 := Aside0.mk (blk_below H21.out hb2)
  have H32 := Aside0.mk (blk_below H31.out hb2)
  have H42 := Aside0.mk (blk_below H41.out hb2)
  clear hb2 HC1 H21 H31 H41 HL
  have c3 : w2.frozen? ⟨g + 1, 0, none⟩ = false := blk_frozen H32.out 0
  have c4 : w2.frozen? ⟨g + 2, 0, none⟩ = false := blk_frozen H42.out 0
  have t3 : w2.cell? ⟨g + 1, 0, none⟩ = some (.int .i64 0) := blk_cell H32.out 0
  have t4 : w2.cell? ⟨g + 2, 0, none⟩ = some (.int .i64 0) := blk_cell H42.out 0
  go_wp2
  refine ⟨rfl, _, rfl, .tuple #[], by simp [results, Tryz.results6], rfl, rfl, ?_, ?_, ?_, ?_⟩
  · exact blk_far (blk_far H22.out (by simp) _) (by simp) _
  · exact blk_far (blk_put H32.out 0 _ rfl) (by simp) _
  · exact blk_put (blk_far H42.out (by simp) _) 0 _ rfl
  · exact (HC2.out.set (by simp) 0 _).set (by simp) 0 _
end Go.Proofs.YtfecfgimfjcbdaaGreatDoor.Cf

namespace Go.Proofs.YtfecfgimfjcbdaaGreatDoor.Cf
open Go.RowKit Go.Proofs.YtfecfgimfjcbdaaGreatDoorW.PrintWords Go.Proofs.YtfecfgimfjcbdaaGreatDoorW.PrintLast Go.Proofs.YtfecfgimfjcbdaaGreatDoorW.PrintMore Go.Proofs.YtfecfgimfjcbdaaGreatDoor.QCParse

/-- The reading of a whole text: its limit, and its resource. -/
def parseP (s : ByteArray) : Except (Nat × Int) (ByteArray × ByteArray × (Nat → Int)) := if 4096 < s.size then .error (0, 6) else resP s
/-- Its three results. -/
def parseV : Except (Nat × Int) (ByteArray × ByteArray × (Nat → Int)) → Value
  | .ok (nm, sc, k) => .tuple #[.agg (cfgC nm sc k), .int .i64 0, .int .i64 0]
  | .error (a, er) => .tuple #[.agg cfg0, .int .i64 (a : Int), .int .i64 er]
theorem results_c3 (tmps : Array Value) (w : World) (g : Nat) (cs : Array Value) (x y : Int)
    (p2 : tmps.getD 2 undef = .pointer (some ⟨g, 0, none⟩)) (p3 : tmps.getD 3 undef = .pointer (some ⟨g + 1, 0, none⟩)) (p4 : tmps.getD 4 undef = .pointer (some ⟨g + 2, 0, none⟩))
    (h2 : w.heap[g]? = some (.cells cs 23 (0, 0))) (hcs : cs.size = 18) (h3 : w.heap[g + 1]? = some (.cells #[.int .i64 x] 3 (0, 0))) (h4 : w.heap[g + 2]? = some (.cells #[.int .i64 y] 24 (0, 0))) :
    (results Tryz.f4 tmps).run Tryz.prog w = .ok (.tuple #[.agg cs, .int .i64 x, .int .i64 y]) w := by
  have q2 : tmps[2]?.getD undef = .pointer (some ⟨g, 0, none⟩) := by simpa using p2
  have q3 : tmps[3]?.getD undef = .pointer (some ⟨g + 1, 0, none⟩) := by simpa using p3
  have q4 : tmps[4]?.getD undef = .pointer (some ⟨g + 2, 0, none⟩) := by simpa using p4
  have l2 := run_loadVar_row (P := Tryz.prog) w g 23 23 cs (0, 0) _ h2 Tryz.underlying23 rfl (by rw [hcs]; kernel_rfl)
  have t3 : w.cell? ⟨g + 1, 0, none⟩ = some (.int .i64 x) := blk_cell h3 0
  have t4 : w.cell? ⟨g + 2, 0, none⟩ = some (.int .i64 y) := blk_cell h4 0
  have l3 : (loadVar 3 ⟨g + 1, 0, none⟩).run Tryz.prog w = .ok (.int .i64 x) w := by simp [go_sem, t3]
  have l4 : (loadVar 24 ⟨g + 2, 0, none⟩).run Tryz.prog w = .ok (.int .i64 y) w := by simp [go_sem, t4]
  simp [results, q2, q3, q4, asAddr, l2, l3, l4]

set_option maxRecDepth 100000 in
set_option maxHeartbeats 1000000 in
theorem confparse_any (s : ByteArray) (w : World) (out : Except (Nat × Int) (ByteArray × ByteArray × (Nat → Int))) (hout : parseP s = out) :
    Calls Tryz.prog 4 #[.string s] w fun e w' => e = .returned (parseV out) ∧ Below w.heap.size w w' := by
  have HOUT := Aside0.mk hout
  have hmf : ∀ (fn : Fn) (first cap : Array Value) (w : World), (Instr.makeFunc fn first cap).run Tryz.prog w = .ok (.func fn first cap) w := fun _ _ _ _ => rfl
  clear hout
  by_cases hs : 4096 < s.size
  · have hd : decide ((4096 : Int) < (s.size : Int)) = true := decide_eq_true (by omega)
    unfold parseP at HOUT
    rw [if_pos hs] at HOUT
    obtain rfl : out = .error (0, 6) := HOUT.out.symm
    go_enter_defers Tryz.func4, Tryz.ntmps4
    go_upto_if 4 with fail
    refine ⟨_, results_c3 _ _ w.heap.size cfg0 0 6 rfl rfl rfl (made_get [_, _, _] w 0 _ rfl) (by kernel_rfl) (made_get [_, _, _] w 1 _ rfl) (made_get [_, _, _] w 2 _ rfl), rfl, made_below [_, _, _] w w _ (Below.refl _ _) (Nat.le_refl _)⟩
  · have hd : decide ((4096 : Int) < (s.size : Int)) = false := decide_eq_false (by omega)
    unfold parseP at HOUT
    rw [if_neg hs] at HOUT
    go_enter_defers Tryz.func4, Tryz.ntmps4
    go_wp2_with fail
    have HR := made_get [.cells cfg0 23, .cells #[.int .i64 0] 3, .cells #[.int .i64 0] 24, .cells #[.string s, .int .i64 0] 32] w 3 _ rfl
    have HK2 := Aside0.mk (made_get [.cells cfg0 23, .cells #[.int .i64 0] 3, .cells #[.int .i64 0] 24, .cells #[.string s, .int .i64 0] 32] w 0 _ rfl)
    have HK3 := Aside0.mk (made_get [.cells cfg0 23, .cells #[.int .i64 0] 3, .cells #[.int .i64 0] 24, .cells #[.string s, .int .i64 0] 32] w 1 _ rfl)
    have HK4 := Aside0.mk (made_get [.cells cfg0 23, .cells #[.int .i64 0] 3, .cells #[.int .i64 0] 24, .cells #[.string s, .int .i64 0] 32] w 2 _ rfl)
    have HB := Aside0.mk (made_below [.cells cfg0 23, .cells #[.int .i64 0] 3, .cells #[.int .i64 0] 24, .cells #[.string s, .int .i64 0] 32] w w w.heap.size (Below.refl _ _) (Nat.le_refl _))
    refine (resource_any s (by omega) (w.heap.size + 3) _ HR out HOUT.out).mono ?_
    rintro e w1 hp
    generalize mades w [.cells cfg0 23, .cells #[.int .i64 0] 3, .cells #[.int .i64 0] 24, .cells #[.string s, .int .i64 0] 32] = w0 at *
    cases out with
    | ok o =>
      obtain ⟨nm, sc, k⟩ := o
      obtain ⟨rfl, hc⟩ := hp
      have HK21 := Aside0.mk (hc.blk HK2.out (by simp))
      have HK31 := Aside0.mk (hc.blk HK3.out (by simp))
      have HK41 := Aside0.mk (hc.blk HK4.out (by simp))
      have HB1 := Aside0.mk (hc.below (B := w.heap.size) (by simp) HB.out HB.out.size)
      clear hc HK2 HK3 HK4 HB HR
      have hone : ∀ q ∈ (cfgC nm sc k).toList, q.oneCell' = true := by simp [cfgC, Value.oneCell']
      go_wp2_with (refine store_whole rfl rfl rfl (g := w.heap.size) rfl (cfgC nm sc k) (by rfl) HK21.out (by kernel_rfl) (by rfl) hone ?_; intro w2 h2 hg2; have H3 := (Aside0.mk (grown_blk hg2 HK31.out (by omega))); have H4 := (Aside0.mk (grown_blk hg2 HK41.out (by omega))); have c3 : w2.cell? ⟨w.heap.size + 1, 0, none⟩ = some (.int .i64 0) := blk_cell H3.out 0; have c4 : w2.cell? ⟨w.heap.size + 1 + 1, 0, none⟩ = some (.int .i64 0) := blk_cell H4.out 0; have f3 : w2.frozen? ⟨w.heap.size + 1, 0, none⟩ = false := blk_frozen H3.out 0; have f4 : w2.frozen? ⟨w.heap.size + 1 + 1, 0, none⟩ = false := blk_frozen H4.out 0)
      have k2 := blk_far (blk_far h2 (p := ⟨w.heap.size + 1, 0, none⟩) (by simp) (.int .i64 0)) (p := ⟨w.heap.size + 1 + 1, 0, none⟩) (by simp; omega) (.int .i64 0)
      have k3 := blk_far (blk_put H3.out 0 (.int .i64 0) rfl) (p := ⟨w.heap.size + 1 + 1, 0, none⟩) (by simp) (.int .i64 0)
      have k4 := blk_put (blk_far H4.out (p := ⟨w.heap.size + 1, 0, none⟩) (by simp) (.int .i64 0)) 0 (.int .i64 0) rfl
      have kb : Below w.heap.size w ((w2.setCell ⟨w.heap.size + 1, 0, none⟩ (.int .i64 0)).setCell ⟨w.heap.size + 1 + 1, 0, none⟩ (.int .i64 0)) :=
        (((Ch.refl [w.heap.size, w.heap.size + 1, w.heap.size + 1 + 1] w1).grown hg2 (.inl (by simp))).set (r := w.heap.size + 1) (by simp) 0 _ |>.set (r := w.heap.size + 1 + 1) (by simp) 0 _).below (B := w.heap.size) (by simp; omega) HB1.out HB1.out.size
      refine leaves_cons (f := 6) (args := #[.pointer (some ⟨w.heap.size, 0, none⟩), .pointer (some ⟨w.heap.size + 1, 0, none⟩), .pointer (some ⟨w.heap.size + 1 + 1, 0, none⟩)]) (by simp) (by simp [go_sem]) ?_
      refine (catch_idle _ _ _ _).mono ?_
      rintro e u' w'' ⟨rfl, rfl, rfl⟩
      exact ⟨_, results_c3 _ _ w.heap.size (cfgC nm sc k) 0 0 rfl rfl rfl k2 rfl k3 k4, rfl, kb⟩
    | error o =>
      obtain ⟨a, er⟩ := o
      obtain ⟨rfl, hc⟩ := hp
      have HK21 := Aside0.mk (hc.blk HK2.out (by simp))
      have HK31 := Aside0.mk (hc.blk HK3.out (by simp))
      have HK41 := Aside0.mk (hc.blk HK4.out (by simp))
      have HB1 := Aside0.mk (hc.below (B := w.heap.size) (by simp) HB.out HB.out.size)
      clear hc HK2 HK3 HK4 HB HR
      refine leaves_cons (f := 6) (args := #[.pointer (some ⟨w.heap.size, 0, none⟩), .pointer (some ⟨w.heap.size + 1, 0, none⟩), .pointer (some ⟨w.heap.size + 1 + 1, 0, none⟩)]) (by simp) (by simp [go_sem]) ?_
      refine (catch_panicking w.heap.size a er cfg0 w1 rfl HK21.out HK31.out HK41.out).mono ?_
      rintro e u' w'' ⟨rfl, rfl, k2, k3, k4, hc⟩
      exact ⟨_, results_c3 _ _ w.heap.size cfg0 a er rfl rfl rfl k2 rfl k3 k4, rfl, hc.below (B := w.heap.size) (by simp) HB1.out HB1.out.size⟩

end Go.Proofs.YtfecfgimfjcbdaaGreatDoor.Cf
