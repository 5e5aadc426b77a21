/- ConfFirst's walk, in parts. -/
import Derived.Test.YtfecfgimfjcbdaaDoorMfM
import Derived.Test.YtfecfgimfjcbdaaDoorCards
import Derived.Test.YtfecfgimfjcbdaaDoorTie
import Derived.ProofKit
import Derived.SizedLaws
import Derived.Carry
import Derived.Lay
import Derived.LaidMore
import Derived.LaidSub
import Derived.Lib.LaidU8T
import Derived.SevenTiedAt
import Derived.Stop.Joined
namespace Go.Proofs.YtfecfgimfjcbdaaDoor.confFirst
open Go.ChangeShapes Go.WideShapes Go.ChangeAt Go.RowKit Go.Proofs.YtfecfgimfjcbdaaDoor.Cf Go.Proofs.YtfecfgimfjcbdaaDoorW.PrintWords

theorem own : ownKnob Tryd.prog.godebug = none := by kernel_rfl
theorem laidOut : laidOutB Tryd.prog = true := by kernel_rfl
theorem lawnum_any (e : Int) (w : World) : Calls Tryd.prog 20 #[.int .i64 e] w fun e' w' => e' = .returned (.int .i64 e) ∧ w = w' := by
  go_enter Tryd.func20, Tryd.ntmps20
  go_wp2
  go_ret
  exact ⟨rfl, rfl⟩

theorem parse_long (s : ByteArray) (h : 4096 < s.size) : parseP s = .error (0, 6) := if_pos h
theorem parse_short (s : ByteArray) (h : ¬ 4096 < s.size) : parseP s = resP s := if_neg h

theorem bl_two (a b : ByteArray) : bl (a ++ b) = bl a ++ bl b := by simp [bl]
theorem cfgC_one (nm sc : ByteArray) (k : Nat → Int) : ∀ q ∈ (cfgC nm sc k).toList, q.oneCell' = true := by simp [cfgC, Value.oneCell']
theorem below_var {B : Nat} {w w1 w2 : World} {o : Obj} (h : Below B w w1) (hB : B ≤ w1.heap.size) (hg : (w1.alloc o).grownBy w2 (some w1.heap.size)) : Below B w w2 :=
  pw_below_grown (h.alloc hB o) (some w1.heap.size) (Nat.le_trans hB (by simp)) hg (fun q hq => by obtain rfl := Option.some.inj hq; exact hB)

set_option maxRecDepth 100000 in
set_option maxHeartbeats 1000000 in
theorem walk_long (s x : ByteArray) (hs : s.size ≤ 140737488351232) (hx : x.size ≤ 140737488351232) (h1 : 4096 < s.size) (nm sc : ByteArray) (k : Nat → Int) (w : World) (hp : ∀ W, Calls Tryd.prog 24 #[.string s] W fun e w' => e = .returned (.tuple #[.agg (cfgC nm sc k), .int .i64 0, .int .i64 6]) ∧ Below W.heap.size W w') :
    Calls Tryd.prog 9 #[.string s, .string x] w fun e w' => e = .returned (.bool true) ∧ Below w.heap.size w w' := by
  have hd : decide ((4096 : Int) < (s.size : Int)) = true := decide_eq_true (by omega)
  have H1 := Aside0.mk hp
  clear hp
  have hn1 : ¬ 9223372036854775807 < s.size + 1 := by omega
  have hn2 : ¬ 9223372036854775807 < s.size + 1 + x.size := by omega
  go_enter Tryd.func9, Tryd.ntmps9
  go_wp2_with fail
  refine (H1.out w).mono ?_
  rintro e w1 ⟨rfl, hb1⟩
  go_wp2_with (first | (refine store_whole rfl rfl rfl (g := w1.heap.size) rfl (cfgC nm sc k) (by rfl) (blk_new w1 _) (by kernel_rfl) (by rfl) (cfgC_one nm sc k) ?_; intro w2 h2 hg2) | fail)
  have HB2 := Aside0.mk (below_var hb1 hb1.size hg2)
  have HC2 := Aside0.mk h2
  clear hb1 hg2 H1 h2
  refine (lawnum_any _ _).mono ?_
  rintro e w5 ⟨rfl, rfl⟩
  go_wp2
  go_ret
  exact ⟨rfl, HB2.out⟩
set_option maxRecDepth 100000 in
set_option maxHeartbeats 1000000 in
theorem walk_over (s x : ByteArray) (hs : s.size ≤ 140737488351232) (hx : x.size ≤ 140737488351232) (h1 : ¬ 4096 < s.size) (h2 : 4096 < s.size + 1 + x.size) (nm sc nm2 sc2 : ByteArray) (k k2 : Nat → Int) (va ve : Int) (w : World) (hp : ∀ W, Calls Tryd.prog 24 #[.string s] W fun e w' => e = .returned (.tuple #[.agg (cfgC nm sc k), .int .i64 va, .int .i64 ve]) ∧ Below W.heap.size W w') (hp2 : ∀ W, Calls Tryd.prog 24 #[.string (s ++ (⟨#[10]⟩ : ByteArray) ++ x)] W fun e w' => e = .returned (.tuple #[.agg (cfgC nm2 sc2 k2), .int .i64 0, .int .i64 6]) ∧ Below W.heap.size W w') :
    Calls Tryd.prog 9 #[.string s, .string x] w fun e w' => e = .returned (.bool true) ∧ Below w.heap.size w w' := by
  have hd : decide ((4096 : Int) < (s.size : Int)) = false := decide_eq_false (by omega)
  have hd2 : decide ((4096 : Int) < (s.size : Int) + 1 + (x.size : Int)) = true := decide_eq_true (by omega)
  have H1 := Aside0.mk hp
  have H2 := Aside0.mk hp2
  clear hp hp2
  have hn1 : ¬ 9223372036854775807 < s.size + 1 := by omega
  have hn2 : ¬ 9223372036854775807 < s.size + 1 + x.size := by omega
  go_enter Tryd.func9, Tryd.ntmps9
  go_wp2_with fail
  refine (H1.out w).mono ?_
  rintro e w1 ⟨rfl, hb1⟩
  go_wp2_with (first | (refine store_whole rfl rfl rfl (g := w1.heap.size) rfl (cfgC nm sc k) (by rfl) (blk_new w1 _) (by kernel_rfl) (by rfl) (cfgC_one nm sc k) ?_; intro w2 h2 hg2) | fail)
  have HB2 := Aside0.mk (below_var hb1 hb1.size hg2)
  have HC2 := Aside0.mk h2
  clear hb1 hg2 H1 h2
  refine (H2.out _).mono ?_
  rintro e w3 ⟨rfl, hb3⟩
  have HB3 := Aside0.mk (below_then HB2.out HB2.out.size hb3)
  clear hb3 HB2 H2
  go_wp2_with fail
  refine (lawnum_any _ _).mono ?_
  rintro e w5 ⟨rfl, rfl⟩
  go_wp2
  go_ret
  exact ⟨rfl, HB3.out⟩
set_option maxRecDepth 100000 in
set_option maxHeartbeats 1000000 in
theorem walk_end (s x : ByteArray) (h1 : ¬ 4096 < s.size) (h2 : ¬ 4096 < s.size + 1 + x.size) (nm sc nm2 sc2 : ByteArray) (k k2 : Nat → Int) (va ve : Int) (w : World) (hp : ∀ W, Calls Tryd.prog 24 #[.string s] W fun e w' => e = .returned (.tuple #[.agg (cfgC nm sc k), .int .i64 (s.size : Int), .int .i64 121]) ∧ Below W.heap.size W w') (hp2 : ∀ W, Calls Tryd.prog 24 #[.string (s ++ (⟨#[10]⟩ : ByteArray) ++ x)] W fun e w' => e = .returned (.tuple #[.agg (cfgC nm2 sc2 k2), .int .i64 va, .int .i64 ve]) ∧ Below W.heap.size W w') :
    Calls Tryd.prog 9 #[.string s, .string x] w fun e w' => e = .returned (.bool true) ∧ Below w.heap.size w w' := by
  have hd : decide ((4096 : Int) < (s.size : Int)) = false := decide_eq_false (by omega)
  have hd2 : decide ((4096 : Int) < (s.size : Int) + 1 + (x.size : Int)) = false := decide_eq_false (by omega)
  have hd3 : decide ((s.size : Int) ≤ (s.size : Int)) = true := by simp
  have H1 := Aside0.mk hp
  have H2 := Aside0.mk hp2
  clear hp hp2
  have hn1 : ¬ 9223372036854775807 < s.size + 1 := by omega
  have hn2 : ¬ 9223372036854775807 < s.size + 1 + x.size := by omega
  go_enter Tryd.func9, Tryd.ntmps9
  go_wp2_with fail
  refine (H1.out w).mono ?_
  rintro e w1 ⟨rfl, hb1⟩
  go_wp2_with (first | (refine store_whole rfl rfl rfl (g := w1.heap.size) rfl (cfgC nm sc k) (by rfl) (blk_new w1 _) (by kernel_rfl) (by rfl) (cfgC_one nm sc k) ?_; intro w2 h2 hg2) | fail)
  have HB2 := Aside0.mk (below_var hb1 hb1.size hg2)
  have HC2 := Aside0.mk h2
  clear hb1 hg2 H1 h2
  refine (H2.out _).mono ?_
  rintro e w3 ⟨rfl, hb3⟩
  have HB3 := Aside0.mk (below_then HB2.out HB2.out.size hb3)
  have HC3 := Aside0.mk (blk_below HC2.out hb3)
  clear hb3 HB2 H2 HC2
  go_wp2_with (first | (refine store_whole rfl rfl rfl (g := w3.heap.size) rfl (cfgC nm2 sc2 k2) (by rfl) (blk_new w3 _) (by kernel_rfl) (by rfl) (cfgC_one nm2 sc2 k2) ?_; intro w4 h4 hg4) | fail)
  have HB4 := Aside0.mk (below_var HB3.out HB3.out.size hg4)
  have HC4 := Aside0.mk (grown_blk hg4 (blk_alloc HC3.out _) (by have := blk_lt HC3.out; omega))
  have HD4 := Aside0.mk h4
  clear h4 hg4 HB3 HC3
  refine (lawnum_any _ _).mono ?_
  rintro e w5 ⟨rfl, rfl⟩
  go_wp2_with fail
  refine (lawnum_any _ _).mono ?_
  rintro e w5 ⟨rfl, rfl⟩
  go_wp2
  go_ret
  exact ⟨rfl, HB4.out⟩
set_option maxRecDepth 100000 in
set_option maxHeartbeats 1000000 in
theorem walk_err (s x : ByteArray) (h1 : ¬ 4096 < s.size) (h2 : ¬ 4096 < s.size + 1 + x.size) (nm sc : ByteArray) (k : Nat → Int) (a : Nat) (er : Int) (ha : a < s.size) (hne : er ≠ 0) (w : World) (hp : ∀ W, Calls Tryd.prog 24 #[.string s] W fun e w' => e = .returned (.tuple #[.agg (cfgC nm sc k), .int .i64 (a : Int), .int .i64 er]) ∧ Below W.heap.size W w') (hp2 : ∀ W, Calls Tryd.prog 24 #[.string (s ++ (⟨#[10]⟩ : ByteArray) ++ x)] W fun e w' => e = .returned (.tuple #[.agg (cfgC ⟨#[]⟩ ⟨#[]⟩ (fun _ => 0)), .int .i64 (a : Int), .int .i64 er]) ∧ Below W.heap.size W w') :
    Calls Tryd.prog 9 #[.string s, .string x] w fun e w' => e = .returned (.bool true) ∧ Below w.heap.size w w' := by
  have hd : decide ((4096 : Int) < (s.size : Int)) = false := decide_eq_false (by omega)
  have hd2 : decide ((4096 : Int) < (s.size : Int) + 1 + (x.size : Int)) = false := decide_eq_false (by omega)
  have hd3 : decide ((s.size : Int) ≤ (a : Int)) = false := decide_eq_false (by omega)
  have he : (er == 0) = false := by simpa using hne
  have H1 := Aside0.mk hp
  have H2 := Aside0.mk hp2
  clear hp hp2
  have hn1 : ¬ 9223372036854775807 < s.size + 1 := by omega
  have hn2 : ¬ 9223372036854775807 < s.size + 1 + x.size := by omega
  go_enter Tryd.func9, Tryd.ntmps9
  go_wp2_with fail
  refine (H1.out w).mono ?_
  rintro e w1 ⟨rfl, hb1⟩
  go_wp2_with (first | (refine store_whole rfl rfl rfl (g := w1.heap.size) rfl (cfgC nm sc k) (by rfl) (blk_new w1 _) (by kernel_rfl) (by rfl) (cfgC_one nm sc k) ?_; intro w2 h2 hg2) | fail)
  have HB2 := Aside0.mk (below_var hb1 hb1.size hg2)
  have HC2 := Aside0.mk h2
  clear hb1 hg2 H1 h2
  refine (H2.out _).mono ?_
  rintro e w3 ⟨rfl, hb3⟩
  have HB3 := Aside0.mk (below_then HB2.out HB2.out.size hb3)
  have HC3 := Aside0.mk (blk_below HC2.out hb3)
  clear hb3 HB2 H2 HC2
  go_wp2_with (first | (refine store_whole rfl rfl rfl (g := w3.heap.size) rfl (cfgC ⟨#[]⟩ ⟨#[]⟩ (fun _ => 0)) (by rfl) (blk_new w3 _) (by kernel_rfl) (by rfl) (cfgC_one ⟨#[]⟩ ⟨#[]⟩ (fun _ => 0)) ?_; intro w4 h4 hg4) | fail)
  have HB4 := Aside0.mk (below_var HB3.out HB3.out.size hg4)
  have HC4 := Aside0.mk (grown_blk hg4 (blk_alloc HC3.out _) (by have := blk_lt HC3.out; omega))
  have HD4 := Aside0.mk h4
  clear h4 hg4 HB3 HC3
  refine (lawnum_any _ _).mono ?_
  rintro e w5 ⟨rfl, rfl⟩
  clear HC4
  have t0 : w4.cell? ⟨w3.heap.size, 0, none⟩ = some (.string ⟨#[]⟩) := blk_cell HD4.out 0
  have t1 : w4.cell? ⟨w3.heap.size, 1, none⟩ = some (.int .i64 0) := blk_cell HD4.out 1
  have t2 : w4.cell? ⟨w3.heap.size, 2, none⟩ = some (.int .i64 0) := blk_cell HD4.out 2
  have t3 : w4.cell? ⟨w3.heap.size, 3, none⟩ = some (.int .i64 0) := blk_cell HD4.out 3
  have t4 : w4.cell? ⟨w3.heap.size, 4, none⟩ = some (.int .i64 0) := blk_cell HD4.out 4
  have t5 : w4.cell? ⟨w3.heap.size, 5, none⟩ = some (.int .i64 0) := blk_cell HD4.out 5
  have t6 : w4.cell? ⟨w3.heap.size, 6, none⟩ = some (.int .i64 0) := blk_cell HD4.out 6
  have t7 : w4.cell? ⟨w3.heap.size, 7, none⟩ = some (.int .i64 0) := blk_cell HD4.out 7
  have t8 : w4.cell? ⟨w3.heap.size, 8, none⟩ = some (.int .i64 0) := blk_cell HD4.out 8
  have t9 : w4.cell? ⟨w3.heap.size, 9, none⟩ = some (.int .i64 0) := blk_cell HD4.out 9
  have t10 : w4.cell? ⟨w3.heap.size, 10, none⟩ = some (.int .i64 0) := blk_cell HD4.out 10
  have t11 : w4.cell? ⟨w3.heap.size, 11, none⟩ = some (.string ⟨#[]⟩) := blk_cell HD4.out 11
  have t12 : w4.cell? ⟨w3.heap.size, 12, none⟩ = some (.int .i64 0) := blk_cell HD4.out 12
  have t13 : w4.cell? ⟨w3.heap.size, 13, none⟩ = some (.int .i64 0) := blk_cell HD4.out 13
  have t14 : w4.cell? ⟨w3.heap.size, 14, none⟩ = some (.int .i64 0) := blk_cell HD4.out 14
  have t15 : w4.cell? ⟨w3.heap.size, 15, none⟩ = some (.int .i64 0) := blk_cell HD4.out 15
  have t16 : w4.cell? ⟨w3.heap.size, 16, none⟩ = some (.int .i64 0) := blk_cell HD4.out 16
  have t17 : w4.cell? ⟨w3.heap.size, 17, none⟩ = some (.int .i64 0) := blk_cell HD4.out 17
  go_wp2
  go_ret
  exact ⟨rfl, HB4.out⟩
end Go.Proofs.YtfecfgimfjcbdaaDoor.confFirst
