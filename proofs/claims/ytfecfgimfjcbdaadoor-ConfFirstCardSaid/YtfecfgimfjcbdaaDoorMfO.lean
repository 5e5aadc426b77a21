/- ConfFirst's walk, in parts. -/
import Derived.Test.YtfecfgimfjcbdaaDoorMfN
namespace Go.Proofs.YtfecfgimfjcbdaaDoor.confFirst
open Go.ChangeShapes Go.WideShapes Go.ChangeAt Go.RowKit Go.Proofs.YtfecfgimfjcbdaaDoor.Cf Go.Proofs.YtfecfgimfjcbdaaDoorW.PrintWords

set_option maxRecDepth 100000 in
set_option maxHeartbeats 4000000 in
theorem walk_ok_long (s x : ByteArray) (hs : s.size ≤ 140737488351232) (h1 : ¬ 4096 < s.size) (h2 : ¬ 4096 < s.size + 1 + x.size) (nm sc nm2 sc2 : ByteArray) (hnm : ¬ nm.toList = []) (k k2 : Nat → Int) (va ve : Int) (w : World) (hp : ∀ W, Calls Tryd.prog 24 #[.string s] W fun e w' => e = .returned (.tuple #[.agg (cfgC nm sc k), .int .i64 0, .int .i64 0]) ∧ Below W.heap.size W w') (hp2 : ∀ W, Calls Tryd.prog 24 #[.string (s ++ (⟨#[10]⟩ : ByteArray) ++ x)] W fun e w' => e = .returned (.tuple #[.agg (cfgC nm2 sc2 k2), .int .i64 va, .int .i64 ve]) ∧ Below W.heap.size W w') (nm3 sc3 : ByteArray) (k3 : Nat → Int) (va3 ve3 : Int) (h4 : 4096 < s.size + 2) (hp3 : ∀ W, Calls Tryd.prog 24 #[.string (s ++ (⟨#[10, 120]⟩ : ByteArray))] W fun e w' => e = .returned (.tuple #[.agg (cfgC nm3 sc3 k3), .int .i64 va3, .int .i64 ve3]) ∧ Below W.heap.size W w') :
    Calls Tryd.prog 9 #[.string s, .string x] w fun e w' => e = .returned (.bool true) ∧ Below w.heap.size w w' := by
  have hd : decide ((4096 : Int) < (s.size : Int)) = false := decide_eq_false (by omega)
  have hd2 : decide ((4096 : Int) < (s.size : Int) + 1 + (x.size : Int)) = false := decide_eq_false (by omega)
  have H1 := Aside0.mk hp
  have H2 := Aside0.mk hp2
  have H3 := Aside0.mk hp3
  clear hp hp2 hp3
  have hn3 : ¬ 9223372036854775807 < s.size + 2 := by omega
  have hn1 : ¬ 9223372036854775807 < s.size + 1 := by omega
  have hn2 : ¬ 9223372036854775807 < s.size + 1 + x.size := by omega
  go_enter Tryd.func9, Tryd.ntmps9
  go_wp2_with fail
  refine (H1.out w).mono ?_
  rintro e w1 ⟨rfl, hb1⟩
  go_wp2_with (first | (refine store_whole rfl rfl rfl (g := w1.heap.size) rfl (cfgC nm sc k) (by rfl) (blk_new w1 _) (by kernel_rfl) (by rfl) (cfgC_one nm sc k) ?_; intro w2 h2 hg2) | fail)
  have HB2 := Aside0.mk (below_var hb1 hb1.size hg2)
  have HC2 := Aside0.mk h2
  clear hb1 hg2 H1 h2
  refine (H2.out _).mono ?_
  rintro e w3 ⟨rfl, hb3⟩
  have HB3 := Aside0.mk (below_then HB2.out HB2.out.size hb3)
  have HC3 := Aside0.mk (blk_below HC2.out hb3)
  clear hb3 HB2 H2 HC2
  go_wp2_with (first | (refine store_whole rfl rfl rfl (g := w3.heap.size) rfl (cfgC nm2 sc2 k2) (by rfl) (blk_new w3 _) (by kernel_rfl) (by rfl) (cfgC_one nm2 sc2 k2) ?_; intro w4 h4 hg4) | fail)
  have HB4 := Aside0.mk (below_var HB3.out HB3.out.size hg4)
  have HC4 := Aside0.mk (grown_blk hg4 (blk_alloc HC3.out _) (by have := blk_lt HC3.out; omega))
  have HD4 := Aside0.mk h4
  clear h4 hg4 HB3 HC3
  refine (lawnum_any _ _).mono ?_
  rintro e w5 ⟨rfl, rfl⟩
  clear HD4
  have t0 : w4.cell? ⟨w1.heap.size, 0, none⟩ = some (.string nm) := blk_cell HC4.out 0
  have t1 : w4.cell? ⟨w1.heap.size, 1, none⟩ = some (.int .i64 (k 1)) := blk_cell HC4.out 1
  have t2 : w4.cell? ⟨w1.heap.size, 2, none⟩ = some (.int .i64 (k 2)) := blk_cell HC4.out 2
  have t3 : w4.cell? ⟨w1.heap.size, 3, none⟩ = some (.int .i64 (k 3)) := blk_cell HC4.out 3
  have t4 : w4.cell? ⟨w1.heap.size, 4, none⟩ = some (.int .i64 (k 0)) := blk_cell HC4.out 4
  have t5 : w4.cell? ⟨w1.heap.size, 5, none⟩ = some (.int .i64 (k 4)) := blk_cell HC4.out 5
  have t6 : w4.cell? ⟨w1.heap.size, 6, none⟩ = some (.int .i64 (k 5)) := blk_cell HC4.out 6
  have t7 : w4.cell? ⟨w1.heap.size, 7, none⟩ = some (.int .i64 (k 6)) := blk_cell HC4.out 7
  have t8 : w4.cell? ⟨w1.heap.size, 8, none⟩ = some (.int .i64 (k 7)) := blk_cell HC4.out 8
  have t9 : w4.cell? ⟨w1.heap.size, 9, none⟩ = some (.int .i64 (k 8)) := blk_cell HC4.out 9
  have t10 : w4.cell? ⟨w1.heap.size, 10, none⟩ = some (.int .i64 (k 9)) := blk_cell HC4.out 10
  have t11 : w4.cell? ⟨w1.heap.size, 11, none⟩ = some (.string sc) := blk_cell HC4.out 11
  have t12 : w4.cell? ⟨w1.heap.size, 12, none⟩ = some (.int .i64 (k 10)) := blk_cell HC4.out 12
  have t13 : w4.cell? ⟨w1.heap.size, 13, none⟩ = some (.int .i64 (k 11)) := blk_cell HC4.out 13
  have t14 : w4.cell? ⟨w1.heap.size, 14, none⟩ = some (.int .i64 (k 12)) := blk_cell HC4.out 14
  have t15 : w4.cell? ⟨w1.heap.size, 15, none⟩ = some (.int .i64 (k 13)) := blk_cell HC4.out 15
  have t16 : w4.cell? ⟨w1.heap.size, 16, none⟩ = some (.int .i64 (k 14)) := blk_cell HC4.out 16
  have t17 : w4.cell? ⟨w1.heap.size, 17, none⟩ = some (.int .i64 (k 15)) := blk_cell HC4.out 17
  go_wp2_with fail
  refine (H3.out _).mono ?_
  rintro e w6 ⟨rfl, hb6⟩
  have HB6 := Aside0.mk (below_then HB4.out HB4.out.size hb6)
  have HC6 := Aside0.mk (blk_below HC4.out hb6)
  clear hb6 HB4 HC4 t0 t1 t2 t3 t4 t5 t6 t7 t8 t9 t10 t11 t12 t13 t14 t15 t16 t17
  have hd4 : decide ((4096 : Int) < (s.size : Int) + 2) = true := decide_eq_true (by omega)
  go_wp2_with (first | (refine store_whole rfl rfl rfl (g := w6.heap.size) rfl (cfgC nm3 sc3 k3) (by rfl) (blk_new w6 _) (by kernel_rfl) (by rfl) (cfgC_one nm3 sc3 k3) ?_; intro w7 h7 hg7; have HB7 := Aside0.mk (below_var HB6.out HB6.out.size hg7); have HC7 := Aside0.mk (grown_blk hg7 (blk_alloc HC6.out _) (by have := blk_lt HC6.out; omega)); clear h7 hg7; have t0 : w7.cell? ⟨w1.heap.size, 0, none⟩ = some (.string nm) := blk_cell HC7.out 0; have t1 : w7.cell? ⟨w1.heap.size, 1, none⟩ = some (.int .i64 (k 1)) := blk_cell HC7.out 1; have t2 : w7.cell? ⟨w1.heap.size, 2, none⟩ = some (.int .i64 (k 2)) := blk_cell HC7.out 2; have t3 : w7.cell? ⟨w1.heap.size, 3, none⟩ = some (.int .i64 (k 3)) := blk_cell HC7.out 3; have t4 : w7.cell? ⟨w1.heap.size, 4, none⟩ = some (.int .i64 (k 0)) := blk_cell HC7.out 4; have t5 : w7.cell? ⟨w1.heap.size, 5, none⟩ = some (.int .i64 (k 4)) := blk_cell HC7.out 5; have t6 : w7.cell? ⟨w1.heap.size, 6, none⟩ = some (.int .i64 (k 5)) := blk_cell HC7.out 6; have t7 : w7.cell? ⟨w1.heap.size, 7, none⟩ = some (.int .i64 (k 6)) := blk_cell HC7.out 7; have t8 : w7.cell? ⟨w1.heap.size, 8, none⟩ = some (.int .i64 (k 7)) := blk_cell HC7.out 8; have t9 : w7.cell? ⟨w1.heap.size, 9, none⟩ = some (.int .i64 (k 8)) := blk_cell HC7.out 9; have t10 : w7.cell? ⟨w1.heap.size, 10, none⟩ = some (.int .i64 (k 9)) := blk_cell HC7.out 10; have t11 : w7.cell? ⟨w1.heap.size, 11, none⟩ = some (.string sc) := blk_cell HC7.out 11; have t12 : w7.cell? ⟨w1.heap.size, 12, none⟩ = some (.int .i64 (k 10)) := blk_cell HC7.out 12; have t13 : w7.cell? ⟨w1.heap.size, 13, none⟩ = some (.int .i64 (k 11)) := blk_cell HC7.out 13; have t14 : w7.cell? ⟨w1.heap.size, 14, none⟩ = some (.int .i64 (k 12)) := blk_cell HC7.out 14; have t15 : w7.cell? ⟨w1.heap.size, 15, none⟩ = some (.int .i64 (k 13)) := blk_cell HC7.out 15; have t16 : w7.cell? ⟨w1.heap.size, 16, none⟩ = some (.int .i64 (k 14)) := blk_cell HC7.out 16; have t17 : w7.cell? ⟨w1.heap.size, 17, none⟩ = some (.int .i64 (k 15)) := blk_cell HC7.out 17) | fail)
  go_ret
  exact ⟨rfl, HB7.out⟩
end Go.Proofs.YtfecfgimfjcbdaaDoor.confFirst
