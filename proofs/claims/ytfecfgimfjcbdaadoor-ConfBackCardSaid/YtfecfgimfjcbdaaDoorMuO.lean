/- A Config that comes in; the tables of unicode/utf8 as they are laid. -/
import Derived.Test.YtfecfgimfjcbdaaDoorMfC
import Derived.Test.YtfecfgimfjcbdaaDoorCards
import Derived.Test.YtfecfgimfjcbdaaDoorTie
import Derived.ProofKit
import Derived.SizedLaws
import Derived.Carry
import Derived.Lay
import Derived.LaidMore
import Derived.LaidSub
import Derived.Lib.LaidU8T
import Derived.SevenTiedAt
import Derived.Stop.Joined
namespace Go.Proofs.YtfecfgimfjcbdaaDoor.Cf
open Go.ChangeShapes Go.WideShapes Go.ChangeAt Go.RowKit Go.Proofs.YtfecfgimfjcbdaaDoorW.PrintWords

set_option maxRecDepth 100000 in
theorem config_cells : Tryd.prog.cellTypes Tryd.prog.depth 23 = some [9, 3, 3, 3, 3, 3, 3, 3, 3, 3, 3, 9, 3, 3, 3, 3, 3, 3] := by kernel_rfl
set_option maxRecDepth 100000 in
theorem cell_int {W : World} {base : Nat} {v : Value} (ho : Cell.okWide Tryd.prog W .any base 3 v) : ∃ n, v = .int .i64 n ∧ -9223372036854775808 ≤ n ∧ n ≤ 9223372036854775807 := by
  unfold Cell.okWide at ho
  rw [Tryd.underlying3] at ho
  have ho' : Cell.ok Tryd.prog W .any base 3 v := ho
  unfold Cell.ok at ho'
  rw [Tryd.underlying3] at ho'
  cases v <;> simp only at ho'
  rename_i k n
  obtain ⟨rfl, hk⟩ := ho'
  exact ⟨n, rfl, hk⟩
set_option maxRecDepth 100000 in
theorem cell_str {W : World} {base : Nat} {v : Value} (ho : Cell.okWide Tryd.prog W .any base 9 v) : ∃ s, v = .string s := by
  unfold Cell.okWide at ho
  rw [Tryd.underlying9] at ho
  have ho' : Cell.ok Tryd.prog W .any base 9 v := ho
  unfold Cell.ok at ho'
  rw [Tryd.underlying9] at ho'
  cases v <;> simp only at ho'
  exact ⟨_, rfl⟩
set_option maxRecDepth 100000 in
/-- A resource that came in. -/
theorem open_config {W : World} {base : Nat} {v : Value} (h : Value.okWide Tryd.prog W .any base 23 v) : ∃ (nm sc : ByteArray) (k : Nat → Int), v = .agg (cfgC nm sc k) ∧ ∀ i, -9223372036854775808 ≤ k i ∧ k i ≤ 9223372036854775807 := by
  unfold Value.okWide at h
  rw [Tryd.underlying23] at h
  obtain ⟨cs, rfl, hsz, ts, hts, _, hc⟩ := h
  obtain rfl := Option.some.inj (config_cells.symm.trans hts)
  have h18 : cs.size = 18 := hsz.trans (by kernel_rfl)
  have hi : ∀ i, i < 18 → ([9, 3, 3, 3, 3, 3, 3, 3, 3, 3, 3, 9, 3, 3, 3, 3, 3, 3] : List TypeId)[i]? = some 3 → ∃ n, cs[i]? = some (.int .i64 n) ∧ -9223372036854775808 ≤ n ∧ n ≤ 9223372036854775807 := by
    intro i hlt ht
    have hv : cs[i]? = some (cs[i]'(by omega)) := Array.getElem?_eq_getElem (by omega)
    obtain ⟨u, hu, ho⟩ := hc i _ hv
    simp only [List.length_cons, List.length_nil, Nat.zero_add, Nat.reduceAdd, Nat.mod_eq_of_lt hlt] at hu
    obtain rfl : u = 3 := Option.some.inj (hu.symm.trans ht)
    obtain ⟨n, hn, hb⟩ := cell_int ho
    exact ⟨n, hv.trans (congrArg some hn), hb⟩
  have hs : ∀ i, i < 18 → ([9, 3, 3, 3, 3, 3, 3, 3, 3, 3, 3, 9, 3, 3, 3, 3, 3, 3] : List TypeId)[i]? = some 9 → ∃ s, cs[i]? = some (.string s) := by
    intro i hlt ht
    have hv : cs[i]? = some (cs[i]'(by omega)) := Array.getElem?_eq_getElem (by omega)
    obtain ⟨u, hu, ho⟩ := hc i _ hv
    simp only [List.length_cons, List.length_nil, Nat.zero_add, Nat.reduceAdd, Nat.mod_eq_of_lt hlt] at hu
    obtain rfl : u = 9 := Option.some.inj (hu.symm.trans ht)
    obtain ⟨s, hn⟩ := cell_str ho
    exact ⟨s, hv.trans (congrArg some hn)⟩
  obtain ⟨nm, e0⟩ := hs 0 (by decide) rfl
  obtain ⟨sc, e11⟩ := hs 11 (by decide) rfl
  obtain ⟨n1, e1, b1⟩ := hi 1 (by decide) rfl
  obtain ⟨n2, e2, b2⟩ := hi 2 (by decide) rfl
  obtain ⟨n3, e3, b3⟩ := hi 3 (by decide) rfl
  obtain ⟨n4, e4, b4⟩ := hi 4 (by decide) rfl
  obtain ⟨n5, e5, b5⟩ := hi 5 (by decide) rfl
  obtain ⟨n6, e6, b6⟩ := hi 6 (by decide) rfl
  obtain ⟨n7, e7, b7⟩ := hi 7 (by decide) rfl
  obtain ⟨n8, e8, b8⟩ := hi 8 (by decide) rfl
  obtain ⟨n9, e9, b9⟩ := hi 9 (by decide) rfl
  obtain ⟨n10, e10, b10⟩ := hi 10 (by decide) rfl
  obtain ⟨n12, e12, b12⟩ := hi 12 (by decide) rfl
  obtain ⟨n13, e13, b13⟩ := hi 13 (by decide) rfl
  obtain ⟨n14, e14, b14⟩ := hi 14 (by decide) rfl
  obtain ⟨n15, e15, b15⟩ := hi 15 (by decide) rfl
  obtain ⟨n16, e16, b16⟩ := hi 16 (by decide) rfl
  obtain ⟨n17, e17, b17⟩ := hi 17 (by decide) rfl
  refine ⟨nm, sc, fun i => ([n4, n1, n2, n3, n5, n6, n7, n8, n9, n10, n12, n13, n14, n15, n16, n17] : List Int).getD i 0, ?_, fun i => ?_⟩
  · congr 1
    apply Array.ext'
    apply List.ext_getElem?
    intro i
    rw [Array.getElem?_toList]
    rcases i with _ | _ | _ | _ | _ | _ | _ | _ | _ | _ | _ | _ | _ | _ | _ | _ | _ | _ | i
    · exact e0.trans rfl
    · exact e1.trans rfl
    · exact e2.trans rfl
    · exact e3.trans rfl
    · exact e4.trans rfl
    · exact e5.trans rfl
    · exact e6.trans rfl
    · exact e7.trans rfl
    · exact e8.trans rfl
    · exact e9.trans rfl
    · exact e10.trans rfl
    · exact e11.trans rfl
    · exact e12.trans rfl
    · exact e13.trans rfl
    · exact e14.trans rfl
    · exact e15.trans rfl
    · exact e16.trans rfl
    · exact e17.trans rfl
    · rw [Array.getElem?_eq_none (by omega)]
      rfl
  · rcases i with _ | _ | _ | _ | _ | _ | _ | _ | _ | _ | _ | _ | _ | _ | _ | _ | i
    · exact b4
    · exact b1
    · exact b2
    · exact b3
    · exact b5
    · exact b6
    · exact b7
    · exact b8
    · exact b9
    · exact b10
    · exact b12
    · exact b13
    · exact b14
    · exact b15
    · exact b16
    · exact b17
    · simp

set_option maxRecDepth 100000 in
theorem u8extra : U8Extra Tryd.prog Tryd.laysValid_ren := ⟨by kernel_rfl, by kernel_rfl, by kernel_rfl, by kernel_rfl, by kernel_rfl, by kernel_rfl, by kernel_rfl⟩
set_option maxRecDepth 100000 in
theorem utf_of {W : World} {l : List (String × DataW Unit)} (h : laidMet Tryd.prog l W) (h1 : (l.filter fun x => x.1 == "unicode/utf8.first") = [("unicode/utf8.first", Lib.firstData)]) (h2 : (l.filter fun x => x.1 == "unicode/utf8.acceptRanges") = [("unicode/utf8.acceptRanges", Lib.acceptData)]) : Utf W := by
  have m1 : ("unicode/utf8.first", Lib.firstData) ∈ l := (List.mem_filter.1 (h1 ▸ List.mem_singleton.2 rfl : ("unicode/utf8.first", Lib.firstData) ∈ l.filter fun x => x.1 == "unicode/utf8.first")).1
  have m2 : ("unicode/utf8.acceptRanges", Lib.acceptData) ∈ l := (List.mem_filter.1 (h2 ▸ List.mem_singleton.2 rfl : ("unicode/utf8.acceptRanges", Lib.acceptData) ∈ l.filter fun x => x.1 == "unicode/utf8.acceptRanges")).1
  have ht := utf8Tabs_of_readsT (U8Types.of196 Tryd.laysValid) u8extra (Lib.laidMet.reads h m1) (Lib.laidMet.reads h m2)
  exact fun w' hb => Utf8Tabs_below ht hb
end Go.Proofs.YtfecfgimfjcbdaaDoor.Cf
