/- (*key).shown, walked: a key's value as it is written. (Several texts in one: strconv.FormatInt at base 16, of a number below 128. · strings.Builder: a byte, a character written (lines turned from the kit's worked Builder1 and BuilderRune; copyCheck as ConfS walks it). · conf.quote, walked: a string as it is written in a resource file. · (*key).shown, walked: a key's value as it is written.) -/
import Derived.Test.YtfecfgimfjcbdaaDoorMfC
import Derived.Test.YtfecfgimfjcbdaaDoorMfA
import Derived.Test.YtfecfgimfjcbdaaDoorShelfR
import Derived.Lib.OthersKept
namespace Go.Proofs.YtfecfgimfjcbdaaDoor.Cf
open Go.RowKit Go.Proofs.YtfecfgimfjcbdaaDoorW.PrintWords Go.Proofs.YtfecfgimfjcbdaaDoorW.PrintLast Go.Proofs.YtfecfgimfjcbdaaDoorW.PrintMore

/-- The one cell of math/bits' table that is read. -/
def DB (w : World) : Prop := ∀ w', Below w.heap.size w w' → w'.cell? ⟨4, 15, none⟩ = some (.int .u8 4)
theorem tz_e1 : IntKind.u64.wrap (-16) = 18446744073709551600 := by decide +kernel
theorem tz_e2 : Go.bits .and .u64 16 18446744073709551600 = 16 := by decide +kernel
theorem tz_e3 : IntKind.u64.wrap (16 * 285870213051353865) = 4573923408821661840 := by decide +kernel
theorem tz64_any (w : World) (h : w.cell? ⟨4, 15, none⟩ = some (.int .u8 4)) : Calls Tryd.prog 133 #[.int .u64 16] w fun e w' => e = .returned (.int .i64 4) ∧ w' = w := by
  have e1 := tz_e1
  have e2 := tz_e2
  have e3 := tz_e3
  go_enter Tryd.func133, Tryd.ntmps133
  go_wp2
  go_ret
  exact ⟨rfl, rfl⟩
theorem tz_any (w : World) (h : w.cell? ⟨4, 15, none⟩ = some (.int .u8 4)) : Calls Tryd.prog 127 #[.int .u64 16] w fun e w' => e = .returned (.int .i64 4) ∧ w' = w := by
  go_enter Tryd.func127, Tryd.ntmps127
  go_wp2_with fail
  refine (tz64_any w h).mono ?_
  rintro e w2 ⟨rfl, rfl⟩
  go_wp2
  go_ret
  exact ⟨rfl, rfl⟩
theorem pot_e1 : Go.bits .and .i64 16 15 = 0 := by decide +kernel
theorem pot_any (w : World) : Calls Tryd.prog 126 #[.int .i64 16] w fun e w' => e = .returned (.bool true) ∧ w' = w := by
  have e1 := pot_e1
  go_enter Tryd.func126, Tryd.ntmps126
  go_wp2
  go_ret
  exact ⟨rfl, rfl⟩
def dgS : ByteArray := (⟨#[48, 49, 50, 51, 52, 53, 54, 55, 56, 57, 97, 98, 99, 100, 101, 102]⟩ : ByteArray)
/-- A number below 128 in hexadecimal. -/
def hexS (c : Nat) : ByteArray := if c < 16 then ⟨#[dgS.get! c]⟩ else ⟨#[dgS.get! (c / 16), dgS.get! (c % 16)]⟩
theorem str_one (x : UInt8) : strOfNums [(x.toNat : Int)] = ⟨#[x]⟩ := by
  show (⟨#[UInt8.ofNat ((x.toNat : Int)).toNat]⟩ : ByteArray) = _
  rw [Int.toNat_natCast]
  simp
theorem str_two (x y : UInt8) : strOfNums [(x.toNat : Int), (y.toNat : Int)] = ⟨#[x, y]⟩ := by
  show (⟨#[UInt8.ofNat ((x.toNat : Int)).toNat, UInt8.ofNat ((y.toNat : Int)).toNat]⟩ : ByteArray) = _
  rw [Int.toNat_natCast, Int.toNat_natCast]
  simp
theorem and15u (c : Nat) (hc : c < 128) : Go.bits .and .u64 (c : Int) 15 = ((c % 16 : Nat) : Int) := by
  have := bits_mask .u64 31 (by decide) (fun n h0 h1 => by rw [IntKind.wrap_u64]; omega) 4 (by decide) (c : Int) (by omega) (by omega)
  rw [show (2 : Int) ^ 4 - 1 = 15 by decide] at this
  rw [this]
  omega
theorem dg_at : ∀ (q : Nat) (_ : q < 16) (h : q < (⟨#[48, 49, 50, 51, 52, 53, 54, 55, 56, 57, 97, 98, 99, 100, 101, 102, 103, 104, 105, 106, 107, 108, 109, 110, 111, 112, 113, 114, 115, 116, 117, 118, 119, 120, 121, 122]⟩ : ByteArray).size), (⟨#[48, 49, 50, 51, 52, 53, 54, 55, 56, 57, 97, 98, 99, 100, 101, 102, 103, 104, 105, 106, 107, 108, 109, 110, 111, 112, 113, 114, 115, 116, 117, 118, 119, 120, 121, 122]⟩ : ByteArray)[q]'h = dgS.get! q
  | 0, _, _ => rfl
  | 1, _, _ => rfl
  | 2, _, _ => rfl
  | 3, _, _ => rfl
  | 4, _, _ => rfl
  | 5, _, _ => rfl
  | 6, _, _ => rfl
  | 7, _, _ => rfl
  | 8, _, _ => rfl
  | 9, _, _ => rfl
  | 10, _, _ => rfl
  | 11, _, _ => rfl
  | 12, _, _ => rfl
  | 13, _, _ => rfl
  | 14, _, _ => rfl
  | 15, _, _ => rfl
  | _ + 16, hq, _ => by omega
theorem zero65 : Tryd.zeroCells149.size = 65 := by kernel_rfl
set_option maxRecDepth 100000 in
set_option maxHeartbeats 1000000 in
theorem bits_any (c : Nat) (hc : c < 128) (w : World) (hd : DB w) : Calls Tryd.prog 117 #[.slice none 0 0, .int .u64 (c : Int), .int .i64 16, .bool false, .bool false] w fun e w' => e = .returned (.tuple #[.slice none 0 0, .string (hexS c)]) ∧ Below w.heap.size w w' := by
  have hB := (Below.refl w.heap.size w).alloc (Nat.le_refl _) (.cells Tryd.zeroCells149 149)
  have hc4 := hd _ hB
  have K1 := Aside0.mk (blk_new w (.cells Tryd.zeroCells149 149))
  have HB := Aside0.mk hB
  clear hB hd
  go_enter Tryd.func117, Tryd.ntmps117
  go_wp2_with fail
  generalize w.alloc (.cells Tryd.zeroCells149 149) = w1 at *
  refine (pot_any _).mono ?_
  rintro e w2 ⟨rfl, rfl⟩
  go_wp2_with fail
  refine (tz_any _ hc4).mono ?_
  rintro e w2 ⟨rfl, rfl⟩
  clear hc4
  have ha := and15u c hc
  generalize hb : w.heap.size = b at *
  go_wp2
  go_loopg [1, 13] 2 (fun kq v1 v6 wr => ∃ cs : Array Value, Aside0 (wr.heap[b]? = some (.cells cs 149 (0, 0))) ∧ cs.size = 65 ∧ Aside0 (Below b w wr) ∧ ((kq = 2 ∧ v1 = .int .u64 (c : Int) ∧ v6 = .int .i64 65) ∨ (16 ≤ c ∧ kq = 1 ∧ v1 = .int .u64 ((c / 16 : Nat) : Int) ∧ v6 = .int .i64 64 ∧ cs[64]? = some (.int .u8 ((dgS.get! (c % 16)).toNat : Int)))))
  case atStart => exact ⟨_, K1, zero65, HB, .inl ⟨rfl, rfl, rfl⟩⟩
  case round =>
    clear K1 HB
    obtain ⟨cs, K, hcs, HB, ⟨rfl, rfl, rfl⟩ | ⟨h16, rfl, rfl, rfl, h64⟩⟩ := hrel
    · by_cases h16 : 16 ≤ c
      · have hd1 : decide ((16 : Int) ≤ (c : Int)) = true := decide_eq_true (by omega)
        have k64 : wr.cell? ⟨b, 64, none⟩ = some (cs[64]'(by omega)) := (blk_cell K.out 64).trans (Array.getElem?_eq_getElem (by omega))
        have f64 : wr.frozen? ⟨b, 64, none⟩ = false := blk_frozen K.out 64
        have hm : ((c % 16 : Nat) : Int) < 36 := by omega
        have hdg := dg_at (c % 16) (by omega) (by show c % 16 < 36; omega)
        go_wp2
        go_roundg 1
        case measure => omega
        case rel =>
          refine ⟨cs.setIfInBounds 64 _, ⟨blk_set K.out 64 _⟩, by simp [hcs], ⟨HB.out.setCell (Nat.le_refl _) _⟩, .inr ⟨h16, rfl, ?_, rfl, ?_⟩⟩
          · rfl
          · rw [Array.getElem?_setIfInBounds_self_of_lt (by omega)]
      · have hd1 : decide ((16 : Int) ≤ (c : Int)) = false := decide_eq_false (by omega)
        have k64 : wr.cell? ⟨b, 64, none⟩ = some (cs[64]'(by omega)) := (blk_cell K.out 64).trans (Array.getElem?_eq_getElem (by omega))
        have f64 : wr.frozen? ⟨b, 64, none⟩ = false := blk_frozen K.out 64
        have hm : (c : Int) < 36 := by omega
        have hdg := dg_at c (by omega) (by show c < 36; omega)
        have hcv := run_convert_bytes_arg (P := Tryd.prog) (w := wr.setCell ⟨b, 64, none⟩ (.int .u8 ((dgS.get! c).toNat : Int))) 36 5 Tryd.underlying36 Tryd.underlying5 b 64 1 1 [((dgS.get! c).toNat : Int)] rfl (fun i hi => by
          obtain rfl : i = 0 := by omega
          rw [blk_cell (blk_set K.out 64 _) 64, Array.getElem?_setIfInBounds_self_of_lt (by omega)]
          rfl) 9 Tryd.underlying9
        rw [str_one] at hcv
        have hx : hexS c = ⟨#[dgS.get! c]⟩ := by unfold hexS; rw [if_pos (by omega)]
        go_wp2
        go_ret2
        exact ⟨by first | rfl | (rw [hx]; rfl), HB.out.setCell (Nat.le_refl _) _⟩
    · have hd1 : decide ((16 : Int) ≤ ((c / 16 : Nat) : Int)) = false := decide_eq_false (by omega)
      have k63 : wr.cell? ⟨b, 63, none⟩ = some (cs[63]'(by omega)) := (blk_cell K.out 63).trans (Array.getElem?_eq_getElem (by omega))
      have f63 : wr.frozen? ⟨b, 63, none⟩ = false := blk_frozen K.out 63
      have hm : ((c / 16 : Nat) : Int) < 36 := by omega
      have hdg := dg_at (c / 16) (by omega) (by show c / 16 < 36; omega)
      have hcv := run_convert_bytes_arg (P := Tryd.prog) (w := wr.setCell ⟨b, 63, none⟩ (.int .u8 ((dgS.get! (c / 16)).toNat : Int))) 36 5 Tryd.underlying36 Tryd.underlying5 b 63 2 2 [((dgS.get! (c / 16)).toNat : Int), ((dgS.get! (c % 16)).toNat : Int)] rfl (fun i hi => by
        rw [blk_cell (blk_set K.out 63 _) (63 + i)]
        rcases i with _ | _ | i
        · rw [Array.getElem?_setIfInBounds_self_of_lt (by omega)]
          rfl
        · rw [Array.getElem?_setIfInBounds_ne (by omega)]
          exact h64
        · omega) 9 Tryd.underlying9
      rw [str_two] at hcv
      have hx : hexS c = ⟨#[dgS.get! (c / 16), dgS.get! (c % 16)]⟩ := by unfold hexS; rw [if_neg (by omega)]
      go_wp2
      go_ret2
      exact ⟨by first | rfl | (rw [hx]; rfl), by rw [hb]; exact HB.out.setCell (Nat.le_refl _) _⟩
set_option maxRecDepth 100000 in
theorem ihex_any (c : Nat) (hc : c < 128) (w : World) (hd : DB w) : Calls Tryd.prog 108 #[.int .i64 (c : Int), .int .i64 16] w fun e w' => e = .returned (.string (hexS c)) ∧ Below w.heap.size w w' := by
  have hd0 : decide ((c : Int) < 0) = false := decide_eq_false (by omega)
  have hu : IntKind.u64.wrap (c : Int) = (c : Int) := by rw [IntKind.wrap_u64]; omega
  go_enter Tryd.func108, Tryd.ntmps108
  go_wp2_with fail
  refine (bits_any c hc w hd).mono ?_
  rintro e w2 ⟨rfl, hB⟩
  go_wp2
  go_ret
  exact ⟨rfl, hB⟩
theorem hex_any (c : Nat) (hc : c < 128) (w : World) (hd : DB w) : Calls Tryd.prog 98 #[.int .i64 (c : Int), .int .i64 16] w fun e w' => e = .returned (.string (hexS c)) ∧ Below w.heap.size w w' := by
  go_enter Tryd.func98, Tryd.ntmps98
  go_wp2_with fail
  refine (ihex_any c hc w hd).mono ?_
  rintro e w2 ⟨rfl, hB⟩
  go_wp2
  go_ret
  exact ⟨rfl, hB⟩
end Go.Proofs.YtfecfgimfjcbdaaDoor.Cf

namespace Go.Proofs.YtfecfgimfjcbdaaDoor.Cf
open Go.RowKit Go.Proofs.YtfecfgimfjcbdaaDoorW.PrintWords

set_option maxHeartbeats 2000000 in
set_option maxRecDepth 100000 in
theorem writeByte_cells (B b : Nat) (bs : List Value) (c : Int) (w : World) (h : IsB B b bs w) (hlen : bs.length + 1 ≤ 140737488355328) (hBw : B ≤ w.heap.size) :
    Calls Tryd.prog 96 #[.pointer (some ⟨b, 0, none⟩), .int .u8 c] w fun e w' => e = .returned .nilIface ∧ (Lib.BuilderAt 70 5 B b (.pointer (some ⟨b, 0, none⟩)) (bs ++ [.int .u8 c]) w' ∧ Below B w w' ∧ BKeep w w' b) := by
  obtain ⟨i0, hi, hz0, hz1, hz2⟩ := info_parts info_byte
  go_enter Tryd.func96, Tryd.ntmps96
  go_wp2_with (go_at_call 94; refine (copyCheck_any B b bs _ h).mono ?_)
  rintro e w1 ⟨rfl, h1, hb1, hk1⟩
  obtain ⟨hB, v, hbk, hown, hne⟩ := h1
  have c0 : w1.cell? ⟨b, 0, none⟩ = some (.pointer (some ⟨b, 0, none⟩)) := by rw [Lib.cell_of_heap hbk]; rfl
  have c1 : w1.cell? ⟨b, 1, none⟩ = some v := by rw [Lib.cell_of_heap hbk]; rfl
  have hb1s := hb1.size
  go_wp2_with (at_builtin; refine wpList_append_own _ rfl _ _ 36 rfl B 5 i0 (.int .u8 0) 1 1 Tryd.underlying36 hi hz0 hz1 hz2 rfl (by decide) _ _ _ rfl (hown.alloc _) ⟨w1.heap.size, 0, none⟩ 1 1 [.int .u8 c] rfl rfl ?c1 ?c2 ?c3 ?c4 ?c5 ?_)
  case c1 =>
    intro j u hj
    match j, hj with
    | 0, hj => simp at hj; subst hj; simp [Addr.add]
  case c2 => intro u hu; simp at hu; subst hu; rfl
  case c3 => unfold maxLen; omega
  case c4 => omega
  case c5 => simp; omega
  intro v' w2 hown' hgrow _
  have hlt : b < w1.heap.size := blk_lt hbk
  have hb2 : w2.heap[b]? = some (.cells #[.pointer (some ⟨b, 0, none⟩), v] 70 (0, 0)) := by
    rw [hgrow.block b (by simp; omega) (fun e => hne e.symm)]
    exact blk_alloc hbk _
  have d0 : w2.cell? ⟨b, 0, none⟩ = some (.pointer (some ⟨b, 0, none⟩)) := by rw [Lib.cell_of_heap hb2]; rfl
  have d1 : w2.cell? ⟨b, 1, none⟩ = some v := by rw [Lib.cell_of_heap hb2]; rfl
  have f1 : w2.frozen? ⟨b, 1, none⟩ = false := Lib.frozen_of_heap hb2 1
  obtain ⟨g, cap, rfl⟩ : ∃ g cap, v' = .slice (some ⟨g, 0, none⟩) (bs.length + 1) cap := by
    rcases hown'.2 with ⟨_, h0⟩ | ⟨g, cap, cur, hv, _⟩
    · omega
    · exact ⟨g, cap, hv⟩
  go_wp2
  go_ret
  refine ⟨rfl, ?_, ?_, ?_⟩
  · exact Lib.BuilderAt.put (T := 70) (e := 5) hB hb2 (bs' := bs ++ [.int .u8 c]) (by simpa using hown') (by decide)
  · exact ((hb1.alloc (by omega) _).grown hgrow (by simp; omega) (fun k hk => (hown.lt k hk).1)).setCell (p := ⟨b, 1, none⟩) hB _
  · exact ((hk1.trans (BKeep.of_below ((Below.refl _ _).alloc (Nat.le_refl _) _) b)).trans (BKeep.of_grown hgrow (own_bytes (hown.alloc _)))).set 1 _

set_option maxHeartbeats 2000000 in
set_option maxRecDepth 100000 in
theorem writeRune_cells (B b : Nat) (bs : List Value) (r : Int) (hr0 : -2147483648 ≤ r) (hr1 : r ≤ 2147483647) (w : World) (h : IsB B b bs w) (hlen : bs.length + 4 ≤ 140737488355328) (hBw : B ≤ w.heap.size) :
    Calls Tryd.prog 97 #[.pointer (some ⟨b, 0, none⟩), .int .i32 r] w fun e w' => e = .returned (.tuple #[.int .i64 (Lib.runeCells r).length, .nilIface]) ∧ (Lib.BuilderAt 70 5 B b (.pointer (some ⟨b, 0, none⟩)) (bs ++ Lib.runeCells r) w' ∧ Below B w w' ∧ BKeep w w' b) := by
  have hk4 := Lib.runeCells_le r
  go_enter Tryd.func97, Tryd.ntmps97
  go_wp2_with (go_at_call 94; refine (copyCheck_any B b bs _ h).mono ?_)
  rintro e w1 ⟨rfl, h1, hb1, hk1⟩
  obtain ⟨hB, v, hbk, hown, hne⟩ := h1
  have hb1s := hb1.size
  obtain ⟨ao, cap, rfl⟩ : ∃ ao cap, v = .slice ao bs.length cap := by
    rcases hown.2 with ⟨hv, h0⟩ | ⟨g, cap, cur, hv, _⟩
    · exact ⟨none, 0, by rw [hv, h0]⟩
    · exact ⟨_, _, hv⟩
  have c0 : w1.cell? ⟨b, 0, none⟩ = some (.pointer (some ⟨b, 0, none⟩)) := by rw [Lib.cell_of_heap hbk]; rfl
  have c1 : w1.cell? ⟨b, 1, none⟩ = some (.slice ao bs.length cap) := by rw [Lib.cell_of_heap hbk]; rfl
  go_wp2_with (go_at_call 109; refine (Any.utf8_AppendRune_plain Tryd.laysRune info_byte B _ bs.length bs r hr0 hr1 _ hown hlen (by omega)).mono ?_)
  rintro e w2 ⟨v', rfl, hown', o, hgrow⟩
  have hlt : b < w1.heap.size := blk_lt hbk
  have hb2 : w2.heap[b]? = some (.cells #[.pointer (some ⟨b, 0, none⟩), .slice ao bs.length cap] 70 (0, 0)) := by
    rw [hgrow.block b (by simp; omega) (fun e => hne e.symm)]
    exact blk_alloc hbk _
  have d0 : w2.cell? ⟨b, 0, none⟩ = some (.pointer (some ⟨b, 0, none⟩)) := by rw [Lib.cell_of_heap hb2]; rfl
  have d1 : w2.cell? ⟨b, 1, none⟩ = some (.slice ao bs.length cap) := by rw [Lib.cell_of_heap hb2]; rfl
  have f1 : w2.frozen? ⟨b, 1, none⟩ = false := Lib.frozen_of_heap hb2 1
  obtain ⟨g, cap', rfl⟩ : ∃ g cap', v' = .slice (some ⟨g, 0, none⟩) (bs.length + (Lib.runeCells r).length) cap' := by
    rcases hown'.2 with ⟨_, h0⟩ | ⟨g, cap', cur, hv, _⟩
    · omega
    · exact ⟨g, cap', hv⟩
  go_wp2
  go_ret2
  refine ⟨?_, ?_, ?_, ?_⟩
  · have e : ((bs.length : Int) + ((Lib.runeCells r).length : Int) - (bs.length : Int)) = ((Lib.runeCells r).length : Int) := by omega
    simp [e]
  · exact Lib.BuilderAt.put (T := 70) (e := 5) hB hb2 (bs' := bs ++ Lib.runeCells r) (by rw [List.length_append]; exact hown') (by decide)
  · exact ((hb1.alloc (by omega) _).grown hgrow (by simp; omega) (fun k hk => (hown.lt k hk).1)).setCell (p := ⟨b, 1, none⟩) hB _
  · exact ((hk1.trans (BKeep.of_below ((Below.refl _ _).alloc (Nat.le_refl _) _) b)).trans (BKeep.of_grown hgrow (own_bytes (hown.alloc _)))).set 1 _
end Go.Proofs.YtfecfgimfjcbdaaDoor.Cf

namespace Go.Proofs.YtfecfgimfjcbdaaDoor.Cf
open Go.RowKit Go.Proofs.YtfecfgimfjcbdaaDoorW.PrintWords

theorem IsB.iterAt {B b : Nat} {bs : List Value} {w : World} (h : IsB B b bs w) {k : Nat} {s : ByteArray} {pos : Nat} (hk : w.heap[k]? = some (.stringIter s pos)) (pos' : Nat) : IsB B b bs (w.iterAt k s pos') := by
  have key : ∀ p, Lib.BuilderAt 70 5 B b p bs w → Lib.BuilderAt 70 5 B b p bs (w.iterAt k s pos') := by
    rintro p ⟨hB, v, hbk, hown, hne⟩
    have far : ∀ j o, w.heap[j]? = some o → (∀ cs t fr, o = .cells cs t fr → j ≠ k) := fun j o hj cs t fr ho e => by
      subst e ho
      rw [hk] at hj
      cases hj
    refine ⟨hB, v, (Lib.iterAt_other w k b s pos' (far b _ hbk _ _ _ rfl)).trans hbk, ⟨hown.1, ?_⟩, hne⟩
    rcases hown.2 with h0 | ⟨g, cap, cur, hv, hg, hgk, hr⟩
    · exact .inl h0
    · exact .inr ⟨g, cap, cur, hv, hg, (Lib.iterAt_other w k g s pos' (far g _ hgk _ _ _ rfl)).trans hgk, hr⟩
  exact h.elim (fun x => .inl (key _ x)) (fun x => .inr (key _ x))
theorem IsB.alloc {B b : Nat} {bs : List Value} {w : World} (h : IsB B b bs w) (o : Obj) : IsB B b bs (w.alloc o) := by
  have key : ∀ p, Lib.BuilderAt 70 5 B b p bs w → Lib.BuilderAt 70 5 B b p bs (w.alloc o) := by
    rintro p ⟨hB, v, hbk, hown, hne⟩
    exact ⟨hB, v, blk_alloc hbk o, hown.alloc o, hne⟩
  exact h.elim (fun x => .inl (key _ x)) (fun x => .inr (key _ x))
theorem BKeep.iter {w w1 : World} {b k : Nat} {s : ByteArray} {pos : Nat} (h : BKeep w w1 b) (hk : w.heap[k]? = some (.stringIter s pos)) (hb : k ≠ b) : w1.heap[k]? = some (.stringIter s pos) := h.2 k _ hk hb (fun cs fr e => by cases e)

theorem byte_cells (l : List UInt8) (c : UInt8) : Lib.byteCells l ++ [.int .u8 (c.toNat : Int)] = Lib.byteCells (l ++ [c]) := by simp [Lib.byteCells]
theorem writeByte_any (w0 w : World) (b : Nat) (l : List UInt8) (c : UInt8) (h : IsB w0.heap.size b (Lib.byteCells l) w) (hlen : l.length ≤ 1000000) (hBw : w0.heap.size ≤ w.heap.size) :
    Calls Tryd.prog 96 #[.pointer (some ⟨b, 0, none⟩), .int .u8 (c.toNat : Int)] w fun e w' => e = .returned .nilIface ∧ IsB w0.heap.size b (Lib.byteCells (l ++ [c])) w' ∧ Below w0.heap.size w w' ∧ BKeep w w' b := by
  refine (writeByte_cells w0.heap.size b _ (c.toNat : Int) w h (by rw [Lib.byteCells_length]; omega) hBw).mono ?_
  rintro e w' ⟨rfl, h1, h2, h3⟩
  exact ⟨rfl, .inr (byte_cells l c ▸ h1), h2, h3⟩
theorem writeRune_any (w0 w : World) (b : Nat) (l : List UInt8) (r : Nat) (hr : r ≤ 1114111) (h : IsB w0.heap.size b (Lib.byteCells l) w) (hlen : l.length ≤ 1000000) (hBw : w0.heap.size ≤ w.heap.size) :
    Calls Tryd.prog 97 #[.pointer (some ⟨b, 0, none⟩), .int .i32 (r : Int)] w fun e w' => e = .returned (.tuple #[.int .i64 (Lib.runeCells (r : Int)).length, .nilIface]) ∧ IsB w0.heap.size b (Lib.byteCells (l ++ Lib.encodeRune (r : Int))) w' ∧ Below w0.heap.size w w' ∧ BKeep w w' b := by
  refine (writeRune_cells w0.heap.size b _ (r : Int) (by omega) (by omega) w h (by rw [Lib.byteCells_length]; omega) hBw).mono ?_
  rintro e w' ⟨rfl, h1, h2, h3⟩
  refine ⟨rfl, .inr ?_, h2, h3⟩
  rw [Lib.byteCells_append, Lib.byteCells_encodeRune]
  exact h1

/-- A character as it is written. -/
def escR (r : Nat) : List UInt8 :=
  if r = 34 ∨ r = 92 then 92 :: Lib.encodeRune (r : Int) else if r = 10 then [92, 110] else if r = 9 then [92, 116]
  else if r < 32 ∨ r = 127 then [92, 117, 123] ++ bl (hexS r) ++ [125] else Lib.encodeRune (r : Int)
def qFrom (s : ByteArray) : Nat → Nat → List UInt8
  | 0, _ => []
  | f + 1, pos => if pos < s.size then escR (Utf8.decode s pos).1 ++ qFrom s f (pos + (Utf8.decode s pos).2) else []
def quoteL (s : ByteArray) : List UInt8 := [34] ++ qFrom s s.size 0 ++ [34]
theorem enc_le (r : Int) : (Lib.encodeRune r).length ≤ 4 := by have := (Lib.runeCells_le r).2; rwa [Lib.runeCells_length] at this
theorem hex_le (r : Nat) : (bl (hexS r)).length ≤ 2 := by
  unfold hexS
  split <;> simp [bl]
theorem escR_le (r : Nat) : (escR r).length ≤ 6 := by
  have h1 := enc_le (r : Int)
  have h2 := hex_le r
  unfold escR
  repeat' split
  all_goals
    try simp only [List.length_append, List.length_cons, List.length_nil]
    omega
theorem qFrom_end (s : ByteArray) (f pos : Nat) (h : ¬ pos < s.size) : qFrom s f pos = [] := by
  cases f with
  | zero => rfl
  | succ f => simp [qFrom, h]

set_option maxRecDepth 100000 in
set_option maxHeartbeats 1000000 in
theorem quote_any (s : ByteArray) (hs : s.size ≤ 1000) (w : World) (hd : DB w) :
    Calls Tryd.prog 51 #[.string s] w fun e w' => e = .returned (.string ⟨(quoteL s).toArray⟩) ∧ Below w.heap.size w w' := by
  have HD := Aside0.mk hd
  clear hd
  have HI := Aside0.mk (Lib.fresh_isBuilder 70 5 w)
  have HB := Aside0.mk ((Below.refl w.heap.size w).alloc (Nat.le_refl _) (.cells #[.pointer none, .slice none 0 0] 70))
  go_enter Tryd.func51, Tryd.ntmps51
  go_wp2_with fail
  refine (writeByte_any w _ w.heap.size [] 34 HI.out (by simp) HB.out.size).mono ?_
  rintro e w1 ⟨rfl, hI1, hB1, hK1⟩
  have HI1 := Aside0.mk hI1
  have HB1 := Aside0.mk (HB.out.trans hB1)
  have hlt1 : w.heap.size < w1.heap.size := Nat.lt_of_lt_of_le (by simp) hK1.1
  clear hI1 hB1 hK1 HI HB
  go_wp2
  have hit0 : Aside0 ((w1.iter s 0).heap[w1.heap.size]? = some (.stringIter s 0)) := ⟨World.iter_heap w1 s 0⟩
  have hI0 : Aside0 (IsB w.heap.size w.heap.size (Lib.byteCells [34]) (w1.iter s 0)) := ⟨HI1.out.alloc _⟩
  have hB0 : Aside0 (Below w.heap.size w (w1.iter s 0)) := ⟨HB1.out.alloc HB1.out.size _⟩
  clear HI1 HB1
  generalize w1.iter s 0 = w2 at *
  generalize w1.heap.size = K at *
  go_loopw [] (fun wr => ∃ (pos fuel : Nat) (acc : List UInt8), Aside0 (IsB w.heap.size w.heap.size (Lib.byteCells acc) wr) ∧ wr.heap[K]? = some (.stringIter s pos) ∧ Aside0 (Below w.heap.size w wr) ∧ Aside0 (acc ++ qFrom s fuel pos = [34] ++ qFrom s s.size 0) ∧ s.size ≤ pos + fuel ∧ pos ≤ s.size ∧ acc.length ≤ 10 * pos + 1) (fun wr => s.size - wr.iterPos K)
  case atStart => exact ⟨0, s.size, [34], hI0, hit0.out, hB0, ⟨rfl⟩, by omega, by omega, by simp⟩
  case round =>
    clear hI0 hit0 hB0
    obtain ⟨pos, fuel, acc, HI, hit, HB, HA, hfu, hps, hal⟩ := hrel
    have hKlt : K < wr.heap.size := blk_lt hit
    by_cases hp : pos < s.size
    · have hnx : ∀ ty, (Instr.next (.pointer (some ⟨K, 0, none⟩)) true ty).run Tryd.prog wr = _ := fun ty => Lib.run_next_any_at wr K s pos ty hit hp
      have hwd := Lib.width_pos s pos
      have hrl := Lib.rune_le s pos
      have hwl : (Utf8.decode s pos).2 ≤ s.size - pos := by
        have h := Lib.decodeL_le (s.data.toList.drop pos) (fun e => by have := congrArg List.length e; rw [List.length_drop, data_length, List.length_nil] at this; omega)
        rwa [Lib.decodeL_drop, List.length_drop, data_length] at h
      have hes := escR_le (Utf8.decode s pos).1
      obtain ⟨f, rfl⟩ : ∃ f, fuel = f + 1 := ⟨fuel - 1, by omega⟩
      have hacc' : qFrom s (f + 1) pos = escR (Utf8.decode s pos).1 ++ qFrom s f (pos + (Utf8.decode s pos).2) := by simp only [qFrom, if_pos hp]
      obtain ⟨r, hr⟩ : ∃ r, (Utf8.decode s pos).1 = r := ⟨_, rfl⟩
      obtain ⟨m, hm⟩ : ∃ m, (Utf8.decode s pos).2 = m := ⟨_, rfl⟩
      rw [hr, hm] at hnx hacc'
      rw [hr] at hrl hes
      rw [hm] at hwd hwl
      clear hr hm
      have HI2 := Aside0.mk (IsB.iterAt HI.out hit (pos + m))
      have hit2 := Lib.iterAt_heap wr K s pos (pos + m) hit
      have HB2 := Aside0.mk (Lib.below_iterAt HB.out (k := K) (by omega) s (pos + m))
      have hsz2 : w.heap.size ≤ (wr.iterAt K s (pos + m)).heap.size := by rw [Lib.iterAt_size]; omega
      have HQ := Aside0.mk hacc'
      clear HI HB hacc'
      have fin : ∀ W, IsB w.heap.size w.heap.size (Lib.byteCells (acc ++ escR r)) W → W.heap[K]? = some (.stringIter s (pos + m)) → Below w.heap.size w W → (∃ (pos fuel : Nat) (acc : List UInt8), Aside0 (IsB w.heap.size w.heap.size (Lib.byteCells acc) W) ∧ W.heap[K]? = some (.stringIter s pos) ∧ Aside0 (Below w.heap.size w W) ∧ Aside0 (acc ++ qFrom s fuel pos = [34] ++ qFrom s s.size 0) ∧ s.size ≤ pos + fuel ∧ pos ≤ s.size ∧ acc.length ≤ 10 * pos + 1) := fun W h1 h2 h3 =>
        ⟨pos + m, f, acc ++ escR r, ⟨h1⟩, h2, ⟨h3⟩, ⟨by rw [List.append_assoc, ← HQ.out, HA.out]⟩, by omega, by omega, by rw [List.length_append]; omega⟩
      have FIN := Aside0.mk fin
      clear fin HQ HA hes
      by_cases h34 : r = 34
      · subst h34
        have he : escR 34 = [92] ++ Lib.encodeRune ((34 : Nat) : Int) := by unfold escR; rw [if_pos (by decide)]; rfl
        go_wp2_with fail
        refine (writeByte_any w _ w.heap.size acc 92 HI2.out (by omega) hsz2).mono ?_
        rintro e W1 ⟨rfl, i1, b1, k1⟩
        have hit3 := k1.iter hit2 (by omega)
        have I1 := Aside0.mk i1
        have B1 := Aside0.mk (HB2.out.trans b1)
        have hsz3 : w.heap.size ≤ W1.heap.size := Nat.le_trans hsz2 k1.1
        clear i1 b1 k1 HI2 HB2
        go_wp2_with fail
        refine (writeRune_any w _ w.heap.size (acc ++ [92]) 34 (by decide) I1.out (by simp; omega) hsz3).mono ?_
        rintro e W2 ⟨rfl, i2, b2, k2⟩
        go_wp2
        go_roundw
        case rel => exact FIN.out _ (by rw [he, ← List.append_assoc]; exact i2) (k2.iter hit3 (by omega)) (B1.out.trans b2)
        case measure =>
          simp only [World.iterPos, k2.iter hit3 (by omega), hit]
          omega
      by_cases h92 : r = 92
      · subst h92
        have he : escR 92 = [92] ++ Lib.encodeRune ((92 : Nat) : Int) := by unfold escR; rw [if_pos (by decide)]; rfl
        go_wp2_with fail
        refine (writeByte_any w _ w.heap.size acc 92 HI2.out (by omega) hsz2).mono ?_
        rintro e W1 ⟨rfl, i1, b1, k1⟩
        have hit3 := k1.iter hit2 (by omega)
        have I1 := Aside0.mk i1
        have B1 := Aside0.mk (HB2.out.trans b1)
        have hsz3 : w.heap.size ≤ W1.heap.size := Nat.le_trans hsz2 k1.1
        clear i1 b1 k1 HI2 HB2
        go_wp2_with fail
        refine (writeRune_any w _ w.heap.size (acc ++ [92]) 92 (by decide) I1.out (by simp; omega) hsz3).mono ?_
        rintro e W2 ⟨rfl, i2, b2, k2⟩
        go_wp2
        go_roundw
        case rel => exact FIN.out _ (by rw [he, ← List.append_assoc]; exact i2) (k2.iter hit3 (by omega)) (B1.out.trans b2)
        case measure =>
          simp only [World.iterPos, k2.iter hit3 (by omega), hit]
          omega
      by_cases h10 : r = 10
      · subst h10
        have he : escR 10 = bl (⟨#[92, 110]⟩ : ByteArray) := by unfold escR; rfl
        have hit3 := hit2
        go_wp2_with fail
        refine (writeString_any w _ w.heap.size acc (⟨#[92, 110]⟩ : ByteArray) HI2.out (by show acc.length + 2 ≤ _; omega) hsz2).mono ?_
        rintro e W2 ⟨rfl, i2, b2, k2⟩
        go_wp2
        go_roundw
        case rel => exact FIN.out _ (by rw [he]; exact i2) (k2.iter hit3 (by omega)) (HB2.out.trans b2)
        case measure =>
          simp only [World.iterPos, k2.iter hit3 (by omega), hit]
          omega
      by_cases h9 : r = 9
      · subst h9
        have he : escR 9 = bl (⟨#[92, 116]⟩ : ByteArray) := by unfold escR; rfl
        have hit3 := hit2
        go_wp2_with fail
        refine (writeString_any w _ w.heap.size acc (⟨#[92, 116]⟩ : ByteArray) HI2.out (by show acc.length + 2 ≤ _; omega) hsz2).mono ?_
        rintro e W2 ⟨rfl, i2, b2, k2⟩
        go_wp2
        go_roundw
        case rel => exact FIN.out _ (by rw [he]; exact i2) (k2.iter hit3 (by omega)) (HB2.out.trans b2)
        case measure =>
          simp only [World.iterPos, k2.iter hit3 (by omega), hit]
          omega
      have d34 : ((r : Int) == 34) = false := by simp; omega
      have d92 : ((r : Int) == 92) = false := by simp; omega
      have d10 : ((r : Int) == 10) = false := by simp; omega
      have d9 : ((r : Int) == 9) = false := by simp; omega
      have hit3 := hit2
      by_cases hc : r < 32 ∨ r = 127
      · have he : escR r = bl ((⟨#[92, 117, 123]⟩ : ByteArray) ++ hexS r ++ (⟨#[125]⟩ : ByteArray)) := by
          unfold escR
          rw [if_neg (by omega), if_neg (by omega), if_neg (by omega), if_pos hc, show ∀ a b : ByteArray, bl (a ++ b) = bl a ++ bl b from fun a b => by simp [bl], show ∀ a b : ByteArray, bl (a ++ b) = bl a ++ bl b from fun a b => by simp [bl]]
          rfl
        have hhx := hex_le r
        rw [bl_length] at hhx
        have HD2 : Aside0 (DB (wr.iterAt K s (pos + m))) := ⟨fun w' hb => HD.out w' (below_then HB2.out hsz2 hb)⟩
        have hct : (decide ((r : Int) < 32) || ((r : Int) == 127)) = true := by simp; omega
        go_wp2_with fail
        all_goals
          refine (hex_any r (by omega) _ HD2.out).mono ?_
          rintro e W1 ⟨rfl, bq⟩
          have hitq : W1.heap[K]? = some (.stringIter s (pos + m)) := blk_below hit2 bq
          have IQ := Aside0.mk (isB_below HI2.out bq)
          have BQ := Aside0.mk (below_then HB2.out hsz2 bq)
          have hszq : w.heap.size ≤ W1.heap.size := Nat.le_trans hsz2 bq.size
          clear bq
          go_wp2_with fail
          refine (writeString_any w _ w.heap.size acc _ IQ.out (by rw [ByteArray.size_append, ByteArray.size_append]; show acc.length + (3 + (hexS r).size + 1) ≤ _; omega) hszq).mono ?_
          rintro e W2 ⟨rfl, i2, b2, k2⟩
          go_wp2
          go_roundw
          case rel => exact FIN.out _ (by rw [he]; exact i2) (k2.iter hitq (by omega)) (BQ.out.trans b2)
          case measure =>
            simp only [World.iterPos, k2.iter hitq (by omega), hit]
            omega
      · have he : escR r = Lib.encodeRune (r : Int) := by
          unfold escR
          rw [if_neg (by omega), if_neg (by omega), if_neg (by omega), if_neg hc]
        have d32 : decide ((r : Int) < 32) = false := decide_eq_false (by omega)
        have d127 : ((r : Int) == 127) = false := by simp; omega
        go_wp2_with fail
        refine (writeRune_any w _ w.heap.size acc r hrl HI2.out (by omega) hsz2).mono ?_
        rintro e W2 ⟨rfl, i2, b2, k2⟩
        go_wp2
        go_roundw
        case rel => exact FIN.out _ (by rw [he]; exact i2) (k2.iter hit3 (by omega)) (HB2.out.trans b2)
        case measure =>
          simp only [World.iterPos, k2.iter hit3 (by omega), hit]
          omega
    · have hnx : ∀ ty, (Instr.next (.pointer (some ⟨K, 0, none⟩)) true ty).run Tryd.prog wr = _ := fun ty => Lib.run_next_end_at wr K s pos ty hit hp
      rw [qFrom_end s fuel pos hp, List.append_nil] at HA
      go_wp2_with fail
      refine (writeByte_any w _ w.heap.size acc 34 HI.out (by omega) (by omega)).mono ?_
      rintro e W1 ⟨rfl, i1, b1, k1⟩
      have I1 := Aside0.mk i1
      have B1 := Aside0.mk (HB.out.trans b1)
      clear i1 b1 k1 HI HB
      go_wp2_with fail
      refine (Tryd.Builder_String_any w.heap.size w.heap.size (acc ++ [34]) _ I1.out B1.out.size).mono ?_
      rintro e W2 ⟨rfl, b2⟩
      go_wp2
      go_ret
      refine ⟨?_, B1.out.trans b2⟩
      unfold quoteL
      rw [← HA.out]
      rfl
end Go.Proofs.YtfecfgimfjcbdaaDoor.Cf

namespace Go.Proofs.YtfecfgimfjcbdaaDoor.Cf
open Go.RowKit Go.Proofs.YtfecfgimfjcbdaaDoorW.PrintWords Go.Proofs.YtfecfgimfjcbdaaDoorW.PrintLast Go.Proofs.YtfecfgimfjcbdaaDoorW.PrintMore

/-- The word that stands for n, from place j on. -/
def wordOf (n : Int) : List Int → List ByteArray → Option ByteArray
  | v :: vs, w :: ws => if v = n then some w else wordOf n vs ws
  | _, _ => none
def shS (t : KeyT) (n : Int) : ByteArray :=
  match t.2.2.2.2.2 with
  | some p => (wordOf n p.2 p.1).getD ⟨(Lib.itoa n).toArray⟩
  | none => ⟨(Lib.itoa n).toArray⟩

set_option maxRecDepth 100000 in
set_option maxHeartbeats 1000000 in
theorem shown_any (w : World) (B g i b : Nat) (t : KeyT) (n : Int) (hi : i < 16) (hK : KeyAt w B g i t) (hc : w.cell? ⟨b, kOff i, none⟩ = some (.int .i64 n)) (hn : -9223372036854775808 ≤ n ∧ n ≤ 9223372036854775807)
    (hwl : ∀ p, t.2.2.2.2.2 = some p → p.1.length = p.2.length) (htab : Tab10 w) :
    Calls Tryd.prog 52 #[.pointer (some ⟨g, i * 8, none⟩), .pointer (some ⟨b, 0, none⟩)] w fun e w' => e = .returned (.string (shS t n)) ∧ Below w.heap.size w w' := by
  have HT := Aside0.mk htab
  clear htab
  have hcf := fun args W => call_kfield i hi args W
  obtain ⟨h0, h1, h2, h3, h4, ⟨v, u, h5, h6, hv⟩, h7⟩ := hK
  go_enter Tryd.func52, Tryd.ntmps52
  go_wp2_with fail
  refine (kfield_any i hi b w).mono ?_
  rintro e w2 ⟨rfl, rfl⟩
  obtain ⟨ts, tn, lo, hi', z, o⟩ := t
  simp only at h0 h1 h2 h3 h4 hv hwl
  cases o with
  | none =>
    simp only at hv
    obtain ⟨rfl, rfl⟩ := hv
    go_wp2_with fail
    go_loopg [21] 0 (fun kq v21 wr => kq = 0 ∧ v21 = .int .i64 0 ∧ wr = w)
    case atStart => exact ⟨rfl, rfl, rfl⟩
    case round =>
      obtain ⟨rfl, rfl, rfl⟩ := hrel
      go_wp2_with fail
      refine (Tryd.strconv_Itoa n hn.1 hn.2 _ (HT.out _ (Below.refl _ _))).mono ?_
      rintro e w6 ⟨rfl, q, os, rfl⟩
      have hb6 := below_growN (Below.refl wr.heap.size wr) (Nat.le_refl _) q os
      go_wp2
      go_ret
      exact ⟨rfl, hb6⟩
  | some p =>
    obtain ⟨ws, ns⟩ := p
    simp only at hv
    have hwn : ws.length = ns.length := hwl _ rfl
    obtain ⟨⟨gw, c, rest, rfl, hc1, hc2, hBw, hb⟩, ⟨gi, rfl, hl, hBi, hbi⟩⟩ := hv
    go_wp2_with fail
    go_loopg [21] ns.length (fun kq v21 wr => ∃ j : Nat, j ≤ ns.length ∧ kq = ns.length - j ∧ v21 = .int .i64 j ∧ Aside0 (wordOf n (ns.drop j) (ws.drop j) = wordOf n ns ws) ∧ wr = w)
    case atStart => exact ⟨0, by omega, rfl, rfl, ⟨rfl⟩, rfl⟩
    case round =>
      clear h0 h1 h2 h3 h4 h6 h7 hc
      obtain ⟨j, hj, rfl, rfl, HA, hwr⟩ := hrel
      subst hwr
      by_cases hlt : j < ns.length
      · have hd : decide ((j : Int) < ns.length) = true := decide_eq_true (by omega)
        obtain ⟨x, hx⟩ : ∃ x, ns[j]? = some x := ⟨_, List.getElem?_eq_getElem hlt⟩
        obtain ⟨y, hy⟩ : ∃ y, ws[j]? = some y := ⟨_, List.getElem?_eq_getElem (by omega)⟩
        have hc : wr.cell? ⟨gi, j, none⟩ = some (.int .i64 x) := by
          rw [blk_cell hbi j, List.getElem?_toArray, List.getElem?_map, hx]
          rfl
        have hcw : wr.cell? ⟨gw, j, none⟩ = some (.string y) := by
          rw [blk_cell hb j, List.getElem?_toArray, List.getElem?_map, List.getElem?_append_left (by omega), hy]
          rfl
        have hdn : ns.drop j = x :: ns.drop (j + 1) := by rw [List.drop_eq_getElem?_toList_append, hx]; rfl
        have hdw : ws.drop j = y :: ws.drop (j + 1) := by rw [List.drop_eq_getElem?_toList_append, hy]; rfl
        rw [hdn, hdw] at HA
        clear hdn hdw
        have hjw : (j : Int) < ws.length := by omega
        have hjl : (j : Int) < ns.length := by omega
        by_cases hxn : x = n
        · have hs : Aside0 (shS (ts, tn, lo, hi', z, some (ws, ns)) n = y) := ⟨by
            have := HA.out
            simp only [wordOf, if_pos hxn] at this
            simp only [shS, ← this, Option.getD_some]⟩
          subst hxn
          clear HA
          go_wp2
          go_ret
          exact ⟨by rw [hs.out]; rfl, Below.refl _ _⟩
        · have hxb : (x == n) = false := by simpa using hxn
          have HA2 : Aside0 (wordOf n (ns.drop (j + 1)) (ws.drop (j + 1)) = wordOf n ns ws) := ⟨by rw [← HA.out]; simp only [wordOf, if_neg hxn]⟩
          clear HA
          go_wp2
          go_roundg (ns.length - (j + 1))
          case measure => omega
          case rel => exact ⟨j + 1, by omega, rfl, by go_num, HA2, rfl⟩
      · have hd : decide ((j : Int) < ns.length) = false := decide_eq_false (by omega)
        obtain rfl : j = ns.length := by omega
        have hs : Aside0 (shS (ts, tn, lo, hi', z, some (ws, ns)) n = ⟨(Lib.itoa n).toArray⟩) := ⟨by
          have := HA.out
          rw [List.drop_length] at this
          simp only [wordOf] at this
          simp only [shS, ← this, Option.getD_none]⟩
        clear HA
        go_wp2_with fail
        refine (Tryd.strconv_Itoa n hn.1 hn.2 _ (HT.out _ (Below.refl _ _))).mono ?_
        rintro e w6 ⟨rfl, q, os, rfl⟩
        have hb6 := below_growN (Below.refl wr.heap.size wr) (Nat.le_refl _) q os
        go_wp2
        go_ret
        exact ⟨by rw [hs.out]; rfl, hb6⟩
end Go.Proofs.YtfecfgimfjcbdaaDoor.Cf
