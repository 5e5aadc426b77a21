/- The reference's reading of one character (wide): it is the decoder's. No program in sight but the printed function's words. -/
import Derived.Test.YtfecfgimfjcbdaaDoorConfA
import Derived.Test.YtfecfgimfjcbdaaDoorQRCheck4
import Derived.Lib.ValidLaws
import Derived.Laws.BitsLemmas
namespace Go.Proofs.YtfecfgimfjcbdaaDoor.Cf
open Go.RowKit Go.Proofs.YtfecfgimfjcbdaaDoorW.PrintWords Go.Proofs.YtfecfgimfjcbdaaDoor.QRCheck

theorem wrap_at {i : Int} (h0 : 0 ≤ i) (h1 : i ≤ 9223372036854775807) : wrap64 i = i := wrap_id (by omega) h1
theorem i64_small (n : Int) (h0 : 0 ≤ n) (h1 : n < 2 ^ 31) : IntKind.i64.wrap n = n := by rw [IntKind.wrap_i64]; omega
theorem and_mask (i : Nat) (hi : i ≤ 31) (x : Int) (h0 : 0 ≤ x) (h1 : x < 2 ^ 31) : Go.bits .and .i64 x (2 ^ i - 1) = x % 2 ^ i := bits_mask .i64 31 (by decide) i64_small i hi x h0 h1
theorem and63 (x : Int) (h0 : 0 ≤ x) (h1 : x < 2 ^ 31) : Go.bits .and .i64 x 63 = x % 64 := and_mask 6 (by decide) x h0 h1
theorem and31 (x : Int) (h0 : 0 ≤ x) (h1 : x < 2 ^ 31) : Go.bits .and .i64 x 31 = x % 32 := and_mask 5 (by decide) x h0 h1
theorem and15 (x : Int) (h0 : 0 ≤ x) (h1 : x < 2 ^ 31) : Go.bits .and .i64 x 15 = x % 16 := and_mask 4 (by decide) x h0 h1
theorem and7 (x : Int) (h0 : 0 ≤ x) (h1 : x < 2 ^ 31) : Go.bits .and .i64 x 7 = x % 8 := and_mask 3 (by decide) x h0 h1

/-- May it be a character's number? -/
def scalarP (v : Nat) : Bool := decide (v ≤ 1114111 ∧ (v < 55296 ∨ 57343 < v))
theorem scalar_f (v : Nat) : replicaref12_scalar.f (v : Int) = some (scalarP v) := by
  unfold replicaref12_scalar.f scalarP
  rw [if_pos (by omega)]
  by_cases h1 : v ≤ 1114111
  · rw [if_pos (by omega)]
    by_cases h2 : v < 55296
    · rw [if_pos (by omega), decide_eq_true ⟨h1, .inl h2⟩]
    · rw [if_neg (by omega)]
      congr 1
      exact decide_eq_decide.2 ⟨fun h => ⟨h1, .inr (by omega)⟩, fun h => by omega⟩
  · rw [if_neg (by omega), decide_eq_false (by omega)]
/-- A character's bytes. -/
def utfL (v : Nat) : List Nat :=
  if v < 128 then [v] else if v < 2048 then [192 + v / 64, 128 + v % 64] else if v < 65536 then [224 + v / 4096, 128 + v / 64 % 64, 128 + v % 64] else [240 + v / 262144, 128 + v / 4096 % 64, 128 + v / 64 % 64, 128 + v % 64]
theorem utf_f (v : Nat) (hv : v < 2097152) : replicaref12_utf.f (v : Int) = some ((utfL v).map fun x => ((x % 256 : Nat) : Int)) := by
  unfold replicaref12_utf.f utfL
  have a0 := and63 (v : Int) (by omega) (by omega)
  have a1 := and63 ((v : Int) / 64) (by omega) (by omega)
  have a2 := and63 ((v : Int) / 4096) (by omega) (by omega)
  rw [a0, a1, a2]
  by_cases h1 : v < 128
  · rw [if_pos (by omega), if_pos h1]
    simp
  · rw [if_neg (by omega), if_neg h1]
    by_cases h2 : v < 2048
    · rw [if_pos (by omega), if_pos h2, wrap_at (by omega) (by omega), wrap_at (by omega) (by omega)]
      simp
    · rw [if_neg (by omega), if_neg h2]
      by_cases h3 : v < 65536
      · rw [if_pos (by omega), if_pos h3, wrap_at (by omega) (by omega), wrap_at (by omega) (by omega), wrap_at (by omega) (by omega)]
        simp
      · rw [if_neg (by omega), if_neg h3, wrap_at (by omega) (by omega), wrap_at (by omega) (by omega), wrap_at (by omega) (by omega), wrap_at (by omega) (by omega)]
        simp
theorem toList_bl (s : ByteArray) : s.toList = bl s := ByteArray.toList_eq s
theorem str_utf (l : List Nat) : (strOfNums (l.map fun x => ((x % 256 : Nat) : Int))).toList = l.map UInt8.ofNat := by
  rw [toList_bl]
  simp only [bl, strOfNums, List.map_map]
  refine List.map_congr_left fun x _ => ?_
  simp only [Function.comp, Int.toNat_natCast]
  apply UInt8.toNat.inj
  simp

/-- With w bytes from i on and the number v made of them: whether it is the character. -/
theorem wide_tail (s : ByteArray) (hs : s.size ≤ 1125899906842624) (i w v k : Nat) (hw : i + w ≤ s.size) (hw4 : w ≤ 4) (hv : v < 2097152) :
    replicaref12_wide.l1 (k + 1) s (i : Int) (w : Int) (v : Int) (w : Int) = if scalarP v = true ∧ (utfL v).map UInt8.ofNat = ((bl s).drop i).take w then some ((w : Int), (v : Int)) else replicaref12_wide.l0 k s (i : Int) ((w + 1 : Nat) : Int) := by
  simp only [replicaref12_wide.l1]
  rw [if_neg (by omega), scalar_f, Option.bind_some, utf_f v hv, Option.bind_some, wrap_at (i := (i : Int) + (w : Int)) (by omega) (by omega), wrap_at (i := (w : Int) + 1) (by omega) (by omega), str_utf, toList_bl]
  have e : bl (s.extract (i : Int).toNat ((i : Int) + (w : Int)).toNat) = ((bl s).drop i).take w := by
    rw [show ((i : Int) + (w : Int)).toNat = i + w by omega, Int.toNat_natCast]
    simp only [bl, ByteArray.data_extract, Array.toList_extract, List.extract, Nat.add_sub_cancel_left]
  rw [e]
  by_cases h1 : scalarP v = true
  · rw [if_pos h1]
    by_cases h2 : (utfL v).map UInt8.ofNat = ((bl s).drop i).take w
    · rw [if_pos (by omega), if_pos (by omega), if_pos (by omega), if_pos h2, if_pos ⟨h1, h2⟩]
    · rw [if_pos (by omega), if_pos (by omega), if_pos (by omega), if_neg h2, if_neg (fun h => h2 h.2)]
      rfl
  · rw [if_neg h1, if_neg (fun h => h1 h.1)]
    rfl
theorem wide_end (s : ByteArray) (hs : s.size ≤ 1125899906842624) (i w k : Nat) (hi : i ≤ s.size) (hw4 : w ≤ 5) (hw : s.size < i + w ∨ 4 < w) : replicaref12_wide.l0 (k + 2) s (i : Int) (w : Int) = some (0, 0) := by
  simp only [replicaref12_wide.l0]
  by_cases h : (w : Int) ≤ 4
  · rw [if_pos h, wrap_at (by omega) (by omega), decide_eq_false (by omega)]
    simp only [replicaref12_wide.j1, Bool.false_eq_true, if_false]
  · rw [if_neg h]
    simp only [replicaref12_wide.j1, Bool.false_eq_true, if_false]
theorem ofNat_is (x : Nat) (c : UInt8) : UInt8.ofNat x = c ↔ x % 256 = c.toNat := by
  rw [← UInt8.toNat_inj]
  simp

theorem wide_1 (s : ByteArray) (hs : s.size ≤ 1125899906842624) (i k : Nat) (hw : i + 1 ≤ s.size) (c0 : UInt8) (h0 : bt s (i : Int) = (c0.toNat : Int)) (hd : ((bl s).drop i).take 1 = [c0]) :
    replicaref12_wide.l0 (k + 4) s (i : Int) 1 = if c0.toNat < 128 then some (1, (c0.toNat : Int)) else replicaref12_wide.l0 k s (i : Int) 2 := by
  have hc := c0.toNat_lt
  have ht := wide_tail s hs i 1 c0.toNat k hw (by omega) (by omega)
  simp only [replicaref12_wide.l0, replicaref12_wide.j1, replicaref12_wide.j2]
  rw [if_pos (by omega), wrap_at (i := (i : Int) + 1) (by omega) (by omega), decide_eq_true (by omega), if_pos rfl, if_pos (by omega), if_pos (by omega), if_neg (by omega), h0, wrap_at (by omega) (by omega)]
  rw [show ((1 : Nat) : Int) = 1 from rfl] at ht
  rw [ht, hd]
  have e : (scalarP c0.toNat = true ∧ (utfL c0.toNat).map UInt8.ofNat = [c0]) ↔ c0.toNat < 128 := by
    unfold scalarP utfL
    by_cases h : c0.toNat < 128
    · simp only [if_pos h, List.map_cons, List.map_nil, List.cons.injEq, and_true, ofNat_is, decide_eq_true_eq]
      omega
    · rw [if_neg h, if_pos (by omega)]
      simp [h]
  by_cases h : c0.toNat < 128
  · rw [if_pos (e.2 h), if_pos h]
  · rw [if_neg (fun x => h (e.1 x)), if_neg h]
    rfl

theorem wide_2 (s : ByteArray) (hs : s.size ≤ 1125899906842624) (i k : Nat) (hw : i + 2 ≤ s.size) (c0 c1 : UInt8) (h0 : bt s (i : Int) = (c0.toNat : Int)) (h1 : bt s ((i : Int) + 1) = (c1.toNat : Int)) (hd : ((bl s).drop i).take 2 = [c0, c1]) :
    replicaref12_wide.l0 (k + 5) s (i : Int) 2 = if c0.toNat / 32 = 6 ∧ c1.toNat / 64 = 2 ∧ 128 ≤ c0.toNat % 32 * 64 + c1.toNat % 64 then some (2, ((c0.toNat % 32 * 64 + c1.toNat % 64 : Nat) : Int)) else replicaref12_wide.l0 k s (i : Int) 3 := by
  have hc := c0.toNat_lt
  have hc1 := c1.toNat_lt
  have ht := wide_tail s hs i 2 (c0.toNat % 32 * 64 + c1.toNat % 64) k hw (by omega) (by omega)
  have hm : wrap64 (shl .i64 1 (IntKind.u64.wrap (wrap64 (7 - 2))) - 1) = 31 := by decide +kernel
  have hu : (0 : Int) ≤ IntKind.u64.wrap (wrap64 (7 - 2)) := by decide +kernel
  simp only [replicaref12_wide.l0, replicaref12_wide.j1, replicaref12_wide.j2]
  rw [if_pos (by omega), wrap_at (i := (i : Int) + 2) (by omega) (by omega), decide_eq_true (by omega), if_pos rfl, if_pos (by omega), if_pos (by omega), if_pos (by omega), if_pos hu, hm, h0, wrap_at (i := ((c0.toNat : Nat) : Int)) (by omega) (by omega), and31 _ (by omega) (by omega)]
  rw [replicaref12_wide.l1, if_pos (by omega), wrap_at (i := (i : Int) + 1) (by omega) (by omega), if_pos (by omega), if_pos (by omega), h1, wrap_at (i := ((c1.toNat : Nat) : Int)) (by omega) (by omega), and63 _ (by omega) (by omega),
    wrap_at (i := ((c0.toNat : Nat) : Int) % 32 * 64) (by omega) (by omega), wrap_at (by omega) (by omega), show wrap64 (1 + 1) = 2 by decide +kernel]
  rw [show ((2 : Nat) : Int) = 2 from rfl, show ((c0.toNat % 32 * 64 + c1.toNat % 64 : Nat) : Int) = (c0.toNat : Int) % 32 * 64 + (c1.toNat : Int) % 64 by omega] at ht
  rw [ht, hd]
  have e : (scalarP (c0.toNat % 32 * 64 + c1.toNat % 64) = true ∧ (utfL (c0.toNat % 32 * 64 + c1.toNat % 64)).map UInt8.ofNat = [c0, c1]) ↔ (c0.toNat / 32 = 6 ∧ c1.toNat / 64 = 2 ∧ 128 ≤ c0.toNat % 32 * 64 + c1.toNat % 64) := by
    unfold scalarP utfL
    by_cases h : c0.toNat % 32 * 64 + c1.toNat % 64 < 128
    · rw [if_pos h]
      simp only [List.map_cons, List.map_nil, List.cons.injEq, reduceCtorEq, and_false, false_iff]
      omega
    · rw [if_neg h, if_pos (by omega)]
      simp only [List.map_cons, List.map_nil, List.cons.injEq, and_true, ofNat_is, decide_eq_true_eq]
      omega
  by_cases h : c0.toNat / 32 = 6 ∧ c1.toNat / 64 = 2 ∧ 128 ≤ c0.toNat % 32 * 64 + c1.toNat % 64
  · rw [if_pos (e.2 h), if_pos h]
    congr 2
  · rw [if_neg (fun x => h (e.1 x)), if_neg h]
    rfl

theorem wide_3 (s : ByteArray) (hs : s.size ≤ 1125899906842624) (i k : Nat) (hw : i + 3 ≤ s.size) (c0 c1 c2 : UInt8) (h0 : bt s (i : Int) = (c0.toNat : Int)) (h1 : bt s ((i : Int) + 1) = (c1.toNat : Int)) (h2 : bt s ((i : Int) + 2) = (c2.toNat : Int)) (hd : ((bl s).drop i).take 3 = [c0, c1, c2]) (v : Nat) (hv : v = c0.toNat % 16 * 4096 + c1.toNat % 64 * 64 + c2.toNat % 64) :
    replicaref12_wide.l0 (k + 6) s (i : Int) 3 = if c0.toNat / 16 = 14 ∧ c1.toNat / 64 = 2 ∧ c2.toNat / 64 = 2 ∧ 2048 ≤ v ∧ (v < 55296 ∨ 57344 ≤ v) then some (3, (v : Int)) else replicaref12_wide.l0 k s (i : Int) 4 := by
  have hc := c0.toNat_lt
  have hc1 := c1.toNat_lt
  have hc2 := c2.toNat_lt
  have ht := wide_tail s hs i 3 v k hw (by omega) (by omega)
  have hm : wrap64 (shl .i64 1 (IntKind.u64.wrap (wrap64 (7 - 3))) - 1) = 15 := by decide +kernel
  have hu : (0 : Int) ≤ IntKind.u64.wrap (wrap64 (7 - 3)) := by decide +kernel
  simp only [replicaref12_wide.l0, replicaref12_wide.j1, replicaref12_wide.j2]
  rw [if_pos (by omega), wrap_at (i := (i : Int) + 3) (by omega) (by omega), decide_eq_true (by omega), if_pos rfl, if_pos (by omega), if_pos (by omega), if_pos (by omega), if_pos hu, hm, h0, wrap_at (i := ((c0.toNat : Nat) : Int)) (by omega) (by omega), and15 _ (by omega) (by omega)]
  rw [replicaref12_wide.l1, if_pos (by omega), wrap_at (i := (i : Int) + 1) (by omega) (by omega), if_pos (by omega), if_pos (by omega), h1, wrap_at (i := ((c1.toNat : Nat) : Int)) (by omega) (by omega), and63 _ (by omega) (by omega),
    wrap_at (i := ((c0.toNat : Nat) : Int) % 16 * 64) (by omega) (by omega), wrap_at (i := ((c0.toNat : Nat) : Int) % 16 * 64 + ((c1.toNat : Nat) : Int) % 64) (by omega) (by omega), show wrap64 (1 + 1) = 2 by decide +kernel]
  rw [replicaref12_wide.l1, if_pos (by omega), wrap_at (i := (i : Int) + 2) (by omega) (by omega), if_pos (by omega), if_pos (by omega), h2, wrap_at (i := ((c2.toNat : Nat) : Int)) (by omega) (by omega), and63 _ (by omega) (by omega),
    wrap_at (i := (((c0.toNat : Nat) : Int) % 16 * 64 + ((c1.toNat : Nat) : Int) % 64) * 64) (by omega) (by omega), wrap_at (by omega) (by omega), show wrap64 (2 + 1) = 3 by decide +kernel]
  rw [show ((3 : Nat) : Int) = 3 from rfl, show ((v : Nat) : Int) = ((c0.toNat : Int) % 16 * 64 + (c1.toNat : Int) % 64) * 64 + (c2.toNat : Int) % 64 by omega] at ht
  rw [ht, hd]
  have e : (scalarP v = true ∧ (utfL v).map UInt8.ofNat = [c0, c1, c2]) ↔ (c0.toNat / 16 = 14 ∧ c1.toNat / 64 = 2 ∧ c2.toNat / 64 = 2 ∧ 2048 ≤ v ∧ (v < 55296 ∨ 57344 ≤ v)) := by
    unfold scalarP utfL
    by_cases h : v < 128
    · rw [if_pos h]
      simp only [List.map_cons, List.map_nil, List.cons.injEq, reduceCtorEq, and_false, false_iff]
      omega
    · by_cases h' : v < 2048
      · rw [if_neg h, if_pos h']
        simp only [List.map_cons, List.map_nil, List.cons.injEq, reduceCtorEq, and_false, false_iff]
        omega
      · rw [if_neg h, if_neg h', if_pos (by omega)]
        simp only [List.map_cons, List.map_nil, List.cons.injEq, and_true, ofNat_is, decide_eq_true_eq]
        omega
  by_cases h : c0.toNat / 16 = 14 ∧ c1.toNat / 64 = 2 ∧ c2.toNat / 64 = 2 ∧ 2048 ≤ v ∧ (v < 55296 ∨ 57344 ≤ v)
  · rw [if_pos (e.2 h), if_pos h]
    congr 2
    omega
  · rw [if_neg (fun x => h (e.1 x)), if_neg h]
    rfl

theorem wide_4 (s : ByteArray) (hs : s.size ≤ 1125899906842624) (i k : Nat) (hw : i + 4 ≤ s.size) (c0 c1 c2 c3 : UInt8) (h0 : bt s (i : Int) = (c0.toNat : Int)) (h1 : bt s ((i : Int) + 1) = (c1.toNat : Int)) (h2 : bt s ((i : Int) + 2) = (c2.toNat : Int)) (h3 : bt s ((i : Int) + 3) = (c3.toNat : Int)) (hd : ((bl s).drop i).take 4 = [c0, c1, c2, c3]) (v : Nat) (hv : v = c0.toNat % 8 * 262144 + c1.toNat % 64 * 4096 + c2.toNat % 64 * 64 + c3.toNat % 64) :
    replicaref12_wide.l0 (k + 7) s (i : Int) 4 = if c0.toNat / 8 = 30 ∧ c1.toNat / 64 = 2 ∧ c2.toNat / 64 = 2 ∧ c3.toNat / 64 = 2 ∧ 65536 ≤ v ∧ v ≤ 1114111 then some (4, (v : Int)) else replicaref12_wide.l0 k s (i : Int) 5 := by
  have hc := c0.toNat_lt
  have hc1 := c1.toNat_lt
  have hc2 := c2.toNat_lt
  have hc3 := c3.toNat_lt
  have ht := wide_tail s hs i 4 v k hw (by omega) (by omega)
  have hm : wrap64 (shl .i64 1 (IntKind.u64.wrap (wrap64 (7 - 4))) - 1) = 7 := by decide +kernel
  have hu : (0 : Int) ≤ IntKind.u64.wrap (wrap64 (7 - 4)) := by decide +kernel
  simp only [replicaref12_wide.l0, replicaref12_wide.j1, replicaref12_wide.j2]
  rw [if_pos (by omega), wrap_at (i := (i : Int) + 4) (by omega) (by omega), decide_eq_true (by omega), if_pos rfl, if_pos (by omega), if_pos (by omega), if_pos (by omega), if_pos hu, hm, h0, wrap_at (i := ((c0.toNat : Nat) : Int)) (by omega) (by omega), and7 _ (by omega) (by omega)]
  rw [replicaref12_wide.l1, if_pos (by omega), wrap_at (i := (i : Int) + 1) (by omega) (by omega), if_pos (by omega), if_pos (by omega), h1, wrap_at (i := ((c1.toNat : Nat) : Int)) (by omega) (by omega), and63 _ (by omega) (by omega),
    wrap_at (i := ((c0.toNat : Nat) : Int) % 8 * 64) (by omega) (by omega), wrap_at (i := ((c0.toNat : Nat) : Int) % 8 * 64 + ((c1.toNat : Nat) : Int) % 64) (by omega) (by omega), show wrap64 (1 + 1) = 2 by decide +kernel]
  rw [replicaref12_wide.l1, if_pos (by omega), wrap_at (i := (i : Int) + 2) (by omega) (by omega), if_pos (by omega), if_pos (by omega), h2, wrap_at (i := ((c2.toNat : Nat) : Int)) (by omega) (by omega), and63 _ (by omega) (by omega),
    wrap_at (i := (((c0.toNat : Nat) : Int) % 8 * 64 + ((c1.toNat : Nat) : Int) % 64) * 64) (by omega) (by omega), wrap_at (i := (((c0.toNat : Nat) : Int) % 8 * 64 + ((c1.toNat : Nat) : Int) % 64) * 64 + ((c2.toNat : Nat) : Int) % 64) (by omega) (by omega), show wrap64 (2 + 1) = 3 by decide +kernel]
  rw [replicaref12_wide.l1, if_pos (by omega), wrap_at (i := (i : Int) + 3) (by omega) (by omega), if_pos (by omega), if_pos (by omega), h3, wrap_at (i := ((c3.toNat : Nat) : Int)) (by omega) (by omega), and63 _ (by omega) (by omega),
    wrap_at (i := ((((c0.toNat : Nat) : Int) % 8 * 64 + ((c1.toNat : Nat) : Int) % 64) * 64 + ((c2.toNat : Nat) : Int) % 64) * 64) (by omega) (by omega), wrap_at (by omega) (by omega), show wrap64 (3 + 1) = 4 by decide +kernel]
  rw [show ((4 : Nat) : Int) = 4 from rfl, show ((v : Nat) : Int) = (((c0.toNat : Int) % 8 * 64 + (c1.toNat : Int) % 64) * 64 + (c2.toNat : Int) % 64) * 64 + (c3.toNat : Int) % 64 by omega] at ht
  rw [ht, hd]
  have e : (scalarP v = true ∧ (utfL v).map UInt8.ofNat = [c0, c1, c2, c3]) ↔ (c0.toNat / 8 = 30 ∧ c1.toNat / 64 = 2 ∧ c2.toNat / 64 = 2 ∧ c3.toNat / 64 = 2 ∧ 65536 ≤ v ∧ v ≤ 1114111) := by
    unfold scalarP utfL
    by_cases h : v < 128
    · rw [if_pos h]
      simp only [List.map_cons, List.map_nil, List.cons.injEq, reduceCtorEq, and_false, false_iff]
      omega
    · by_cases h' : v < 2048
      · rw [if_neg h, if_pos h']
        simp only [List.map_cons, List.map_nil, List.cons.injEq, reduceCtorEq, and_false, false_iff]
        omega
      · by_cases h'' : v < 65536
        · rw [if_neg h, if_neg h', if_pos h'']
          simp only [List.map_cons, List.map_nil, List.cons.injEq, reduceCtorEq, and_false, false_iff]
          omega
        · rw [if_neg h, if_neg h', if_neg h'']
          simp only [List.map_cons, List.map_nil, List.cons.injEq, and_true, ofNat_is, decide_eq_true_eq]
          omega
  by_cases h : c0.toNat / 8 = 30 ∧ c1.toNat / 64 = 2 ∧ c2.toNat / 64 = 2 ∧ c3.toNat / 64 = 2 ∧ 65536 ≤ v ∧ v ≤ 1114111
  · rw [if_pos (e.2 h), if_pos h]
    congr 2
    omega
  · rw [if_neg (fun x => h (e.1 x)), if_neg h]
    rfl

/-- What the decoder says of the character at the head: how many bytes, its number; (0, 0): none begins there. -/
def wdL (l : List UInt8) : Nat × Nat := if (Lib.decodeL l).1 = 65533 ∧ (Lib.decodeL l).2 = 1 then (0, 0) else ((Lib.decodeL l).2, (Lib.decodeL l).1)
set_option maxHeartbeats 4000000 in
theorem wd_arith (n b0 b1 b2 b3 : Nat) (h0 : b0 < 256) : (if (Lib.decodeN n b0 b1 b2 b3).1 = 65533 ∧ (Lib.decodeN n b0 b1 b2 b3).2 = 1 then (0, 0) else ((Lib.decodeN n b0 b1 b2 b3).2, (Lib.decodeN n b0 b1 b2 b3).1)) =
    if b0 < 128 then (1, b0) else if 2 ≤ n ∧ b0 / 32 = 6 ∧ b1 / 64 = 2 ∧ 128 ≤ b0 % 32 * 64 + b1 % 64 then (2, b0 % 32 * 64 + b1 % 64)
    else if 3 ≤ n ∧ b0 / 16 = 14 ∧ b1 / 64 = 2 ∧ b2 / 64 = 2 ∧ 2048 ≤ b0 % 16 * 4096 + b1 % 64 * 64 + b2 % 64 ∧ (b0 % 16 * 4096 + b1 % 64 * 64 + b2 % 64 < 55296 ∨ 57344 ≤ b0 % 16 * 4096 + b1 % 64 * 64 + b2 % 64) then (3, b0 % 16 * 4096 + b1 % 64 * 64 + b2 % 64)
    else if 4 ≤ n ∧ b0 / 8 = 30 ∧ b1 / 64 = 2 ∧ b2 / 64 = 2 ∧ b3 / 64 = 2 ∧ 65536 ≤ b0 % 8 * 262144 + b1 % 64 * 4096 + b2 % 64 * 64 + b3 % 64 ∧ b0 % 8 * 262144 + b1 % 64 * 4096 + b2 % 64 * 64 + b3 % 64 ≤ 1114111 then (4, b0 % 8 * 262144 + b1 % 64 * 4096 + b2 % 64 * 64 + b3 % 64) else (0, 0) := by
  have l2 : b0 % 32 * 64 + b1 % 64 < 2048 := by omega
  have l3 : b0 % 16 * 4096 + b1 % 64 * 64 + b2 % 64 < 65536 := by omega
  obtain ⟨v2, e2⟩ : ∃ v, b0 % 32 * 64 + b1 % 64 = v := ⟨_, rfl⟩
  obtain ⟨v3, e3⟩ : ∃ v, b0 % 16 * 4096 + b1 % 64 * 64 + b2 % 64 = v := ⟨_, rfl⟩
  obtain ⟨v4, e4⟩ : ∃ v, b0 % 8 * 262144 + b1 % 64 * 4096 + b2 % 64 * 64 + b3 % 64 = v := ⟨_, rfl⟩
  simp only [Lib.decodeN, e2, e3, e4] at l2 l3 ⊢
  clear e2 e3 e4
  by_cases h1 : b0 < 128
  · rw [if_pos h1, if_pos h1, if_neg (by simp; omega)]
  · rw [if_neg h1, if_neg h1]
    by_cases h2 : b0 / 32 = 6 ∧ (1 < n ∧ b1 / 64 = 2)
    · rw [if_pos h2]
      by_cases h3 : v2 ≥ 128
      · rw [if_pos h3, if_neg (by simp), if_pos (by omega)]
      · rw [if_neg h3, if_pos (by simp), if_neg (by omega), if_neg (by omega), if_neg (by omega)]
    · rw [if_neg h2]
      by_cases h3 : b0 / 16 = 14 ∧ (1 < n ∧ b1 / 64 = 2) ∧ (2 < n ∧ b2 / 64 = 2)
      · rw [if_pos h3]
        by_cases h4 : v3 ≥ 2048 ∧ (v3 < 55296 ∨ (57344 ≤ v3 ∧ v3 ≤ 1114111))
        · rw [if_pos h4, if_neg (by simp), if_neg (by omega), if_pos (by omega)]
        · rw [if_neg h4, if_pos (by simp), if_neg (by omega), if_neg (by omega), if_neg (by omega)]
      · rw [if_neg h3]
        by_cases h4 : b0 / 8 = 30 ∧ (1 < n ∧ b1 / 64 = 2) ∧ (2 < n ∧ b2 / 64 = 2) ∧ (3 < n ∧ b3 / 64 = 2)
        · rw [if_pos h4]
          by_cases h5 : v4 ≥ 65536 ∧ (v4 < 55296 ∨ (57344 ≤ v4 ∧ v4 ≤ 1114111))
          · rw [if_pos h5, if_neg (by simp), if_neg (by omega), if_neg (by omega), if_pos (by omega)]
          · rw [if_neg h5, if_pos (by simp), if_neg (by omega), if_neg (by omega), if_neg (by omega)]
        · rw [if_neg h4, if_pos (by simp), if_neg (by omega), if_neg (by omega), if_neg (by omega)]

set_option maxRecDepth 10000 in
theorem wide_spec (s : ByteArray) (hs : s.size ≤ 1125899906842624) (i : Nat) (hi : i < s.size) : replicaref12_wide.f 30 s (i : Int) = some (((wdL ((bl s).drop i)).1 : Int), ((wdL ((bl s).drop i)).2 : Int)) := by
  unfold wdL
  rw [Lib.decodeL_N, wd_arith _ _ _ _ _ (UInt8.toNat_lt _)]
  obtain ⟨c0, d0, b0⟩ := bl_drop s i hi
  have hlen : ((bl s).drop i).length = s.size - i := by rw [List.length_drop, bl_length]
  rw [hlen]
  unfold replicaref12_wide.f
  have e1 := wide_1 s hs i 26 (by omega) c0 b0 (by rw [d0]; rfl)
  rw [show 30 = 26 + 4 from rfl, e1]
  by_cases h1 : i + 1 < s.size
  · obtain ⟨c1, d1, b1⟩ := bl_drop s (i + 1) h1
    rw [show ((i + 1 : Nat) : Int) = (i : Int) + 1 by omega] at b1
    have e2 := wide_2 s hs i 21 (by omega) c0 c1 b0 b1 (by rw [d0, d1]; rfl)
    rw [show 26 = 21 + 5 from rfl, e2]
    by_cases h2 : i + 1 + 1 < s.size
    · obtain ⟨c2, d2, b2⟩ := bl_drop s (i + 1 + 1) h2
      rw [show ((i + 1 + 1 : Nat) : Int) = (i : Int) + 2 by omega] at b2
      have e3 := wide_3 s hs i 15 (by omega) c0 c1 c2 b0 b1 b2 (by rw [d0, d1, d2]; rfl) _ rfl
      rw [show 21 = 15 + 6 from rfl, e3]
      by_cases h3 : i + 1 + 1 + 1 < s.size
      · obtain ⟨c3, d3, b3⟩ := bl_drop s (i + 1 + 1 + 1) h3
        rw [show ((i + 1 + 1 + 1 : Nat) : Int) = (i : Int) + 3 by omega] at b3
        have e4 := wide_4 s hs i 8 (by omega) c0 c1 c2 c3 b0 b1 b2 b3 (by rw [d0, d1, d2, d3]; rfl) _ rfl
        have e5 := wide_end s hs i 5 6 (by omega) (by omega) (.inr (by omega))
        rw [show 15 = 8 + 7 from rfl, e4, show 8 = 6 + 2 from rfl, show (5 : Int) = ((5 : Nat) : Int) from rfl, e5]
        rw [d0, d1, d2, d3]
        have q2 : 2 ≤ s.size - i := by omega
        have q3 : 3 ≤ s.size - i := by omega
        have q4 : 4 ≤ s.size - i := by omega
        simp only [List.getD_cons_zero, List.getD_cons_succ, q2, q3, q4, true_and]
        repeat' split
        all_goals rfl
      · have e5 := wide_end s hs i 4 13 (by omega) (by omega) (.inl (by omega))
        rw [show 15 = 13 + 2 from rfl, show (4 : Int) = ((4 : Nat) : Int) from rfl, e5]
        have d3 : (bl s).drop (i + 1 + 1 + 1) = [] := List.drop_eq_nil_of_le (by rw [bl_length]; omega)
        rw [d0, d1, d2, d3]
        have q2 : 2 ≤ s.size - i := by omega
        have q3 : 3 ≤ s.size - i := by omega
        have q4 : ¬ 4 ≤ s.size - i := by omega
        simp only [List.getD_cons_zero, List.getD_cons_succ, q2, q3, q4, true_and, false_and, if_false]
        repeat' split
        all_goals rfl
    · have e5 := wide_end s hs i 3 19 (by omega) (by omega) (.inl (by omega))
      rw [show 21 = 19 + 2 from rfl, show (3 : Int) = ((3 : Nat) : Int) from rfl, e5]
      have d2 : (bl s).drop (i + 1 + 1) = [] := List.drop_eq_nil_of_le (by rw [bl_length]; omega)
      rw [d0, d1, d2]
      have q2 : 2 ≤ s.size - i := by omega
      have q3 : ¬ 3 ≤ s.size - i := by omega
      have q4 : ¬ 4 ≤ s.size - i := by omega
      simp only [List.getD_cons_zero, List.getD_cons_succ, q2, q3, q4, true_and, false_and, if_false]
      repeat' split
      all_goals rfl
  · have e5 := wide_end s hs i 2 24 (by omega) (by omega) (.inl (by omega))
    rw [show 26 = 24 + 2 from rfl, show (2 : Int) = ((2 : Nat) : Int) from rfl, e5]
    have d1 : (bl s).drop (i + 1) = [] := List.drop_eq_nil_of_le (by rw [bl_length]; omega)
    rw [d0, d1]
    have q2 : ¬ 2 ≤ s.size - i := by omega
    have q3 : ¬ 3 ≤ s.size - i := by omega
    have q4 : ¬ 4 ≤ s.size - i := by omega
    simp only [List.getD_cons_zero, q2, q3, q4, false_and, if_false]
    repeat' split
    all_goals rfl

/-- Reading on: a text is well-formed just where at each place a character begins. -/
theorem valid_on (l : List UInt8) (hl : l ≠ []) : Lib.validD l = if (wdL l).1 = 0 then false else Lib.validD (l.drop (wdL l).1) := by
  rw [Lib.validD_step l hl]
  have hw := Lib.decodeL_width l
  unfold wdL
  by_cases h : (Lib.decodeL l).1 = 65533 ∧ (Lib.decodeL l).2 = 1
  · rw [if_pos h, if_pos h, if_pos rfl]
  · rw [if_neg h, if_neg h, if_neg (by simp only; omega)]
theorem wd_le (l : List UInt8) (hl : l ≠ []) : (wdL l).1 ≤ l.length := by
  unfold wdL
  split
  · exact Nat.zero_le _
  · exact Lib.decodeL_le l hl
end Go.Proofs.YtfecfgimfjcbdaaDoor.Cf
