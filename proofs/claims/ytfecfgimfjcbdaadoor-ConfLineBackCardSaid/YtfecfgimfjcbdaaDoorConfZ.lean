/- idle, num and told: the laws' own helpers, walked. -/
import Derived.Test.YtfecfgimfjcbdaaDoorConfY
import Derived.Test.YtfecfgimfjcbdaaDoorConfU
namespace Go.Proofs.YtfecfgimfjcbdaaDoor.Cf
open Go.RowKit Go.Proofs.YtfecfgimfjcbdaaDoorW.PrintWords Go.Proofs.YtfecfgimfjcbdaaDoorW.PrintLast Go.Proofs.YtfecfgimfjcbdaaDoorW.PrintMore

theorem wr_short {t : ByteArray × Option (List ByteArray) × Int} (ht : t ∈ cTab) {n : Int} (hn : n ≤ 9223372036854775807) {x : List UInt8} (h : wrI t n = some x) : x.length ≤ 1000 := by
  obtain ⟨i, hi⟩ := List.mem_iff_getElem?.1 ht
  have h1 := (cTab_facts i _ hi).1
  have h2 := cTab_small i _ hi
  unfold wrI at h
  split at h
  · split at h
    · obtain rfl := Option.some.inj h
      have := itoa_length (by assumption) hn
      rw [List.length_append, bl_length]
      omega
    · cases h
  · rename_i ws hw
    split at h
    · rename_i hc
      obtain rfl := Option.some.inj h
      have hlt : (n - t.2.2).toNat < ws.length := by omega
      have h3 := h2 ws hw _ (show ws.getD (n - t.2.2).toNat ByteArray.empty ∈ ws by rw [List.getD_eq_getElem?_getD, List.getElem?_eq_getElem hlt]; exact List.getElem_mem hlt)
      rw [List.length_append, bl_length, bl_length]
      omega
    · cases h
theorem out_short : ∀ (ts : List (ByteArray × Option (List ByteArray) × Int)) (ns : List Int) (l l' : List UInt8), (∀ t ∈ ts, t ∈ cTab) → (∀ n ∈ ns, n ≤ 9223372036854775807) → outI ts ns l = some l' → l'.length ≤ l.length + 1000 * ts.length
  | [], ns, l, l', _, _, h => by
    obtain rfl : l = l' := by cases ns <;> exact Option.some.inj h
    simp
  | t :: ts, [], l, l', _, _, h => by
    obtain rfl := Option.some.inj h
    omega
  | t :: ts, n :: ns, l, l', ht, hn, h => by
    have h' : (wrI t n).bind (fun x => outI ts ns (l ++ x)) = some l' := h
    cases hx : wrI t n with
    | none => rw [hx] at h'; cases h'
    | some x =>
      rw [hx, Option.bind_some] at h'
      have h1 := wr_short (ht t (List.mem_cons_self ..)) (hn n (List.mem_cons_self ..)) hx
      have h2 := out_short ts ns (l ++ x) l' (fun t h => ht t (List.mem_cons_of_mem _ h)) (fun n h => hn n (List.mem_cons_of_mem _ h)) h'
      rw [List.length_append] at h2
      rw [List.length_cons]
      omega
theorem line_short {xs : List Int} (hb : ∀ x ∈ xs, x ≤ 9223372036854775807) {l : List UInt8} (h : lineI xs = (l, 0)) : l.length ≤ 15000 := by
  have := out_short cTab xs [] l (fun _ h => h) hb (out_of_line h)
  simpa [cTab] using this

theorem num_any (e : Int) (w : World) : Calls Tryd.prog 20 #[.int .i64 e] w fun e' w' => e' = .returned (.int .i64 e) ∧ w = w' := by
  go_enter Tryd.func20, Tryd.ntmps20
  go_wp2
  go_ret
  exact ⟨rfl, rfl⟩
set_option maxRecDepth 100000 in
set_option maxHeartbeats 1000000 in
theorem idle_any (w : World) : Calls Tryd.prog 19 #[] w fun e w' => e = .returned (.agg (ints idleXs)) ∧ Below w.heap.size w w' := by
  go_enter Tryd.func19, Tryd.ntmps19
  go_wp2
  first
    | (go_ret; exact ⟨rfl, (Below.refl _ _).alloc (Nat.le_refl _) _⟩)
    | (go_ret; exact ⟨rfl, Below.refl _ _⟩)
    | (refine bodyPost_ret (v := .agg (ints idleXs)) (by simp [results, Tryd.results19, go_sem] <;> rfl) rfl ⟨rfl, (Below.refl _ _).alloc (Nat.le_refl _) _⟩)
theorem ints15 {xs : List Int} (h : xs.length = 15) : ∃ x0 x1 x2 x3 x4 x5 x6 x7 x8 x9 x10 x11 x12 x13 x14, Value.agg (ints xs) = .agg #[.int .i64 x0, .int .i64 x1, .int .i64 x2, .int .i64 x3, .int .i64 x4, .int .i64 x5, .int .i64 x6, .int .i64 x7, .int .i64 x8, .int .i64 x9, .int .i64 x10, .int .i64 x11, .int .i64 x12, .int .i64 x13, .int .i64 x14] := by
  obtain ⟨x0, x1, x2, x3, x4, x5, x6, x7, x8, x9, x10, x11, x12, x13, x14, rfl⟩ := fifteen' h
  exact ⟨x0, x1, x2, x3, x4, x5, x6, x7, x8, x9, x10, x11, x12, x13, x14, rfl⟩
set_option maxRecDepth 100000 in
set_option maxHeartbeats 1000000 in
theorem told_any (xs : List Int) (hx : xs.length = 15) (hbd : ∀ x ∈ xs, -9223372036854775808 ≤ x ∧ x ≤ 9223372036854775807) (l : List UInt8) (hl : lineI xs = (l, 0)) (w : World) (htab : Tab10 w) :
    Calls Tryd.prog 18 #[.agg (ints xs)] w fun e w' => e = .returned (.bool true) ∧ Below w.heap.size w w' := by
  obtain ⟨x0, x1, x2, x3, x4, x5, x6, x7, x8, x9, x10, x11, x12, x13, x14, hi⟩ := ints15 hx
  have hbm : ∀ x ∈ xs, x ≤ 9223372036854775807 := fun x h => (hbd x h).2
  have hshort := line_short hbm hl
  have hsome := line_some hx hl
  have hshown := line_shown hl
  have hstat := stat_of_line hx hbm hl
  have hz : bl (⟨l.toArray⟩ : ByteArray) = l := by simp [bl]
  have hle : l.isEmpty = false := by simpa using hsome
  have h1 : ∀ w', Below w.heap.size w w' → Calls Tryd.prog 16 #[.agg #[.int .i64 x0, .int .i64 x1, .int .i64 x2, .int .i64 x3, .int .i64 x4, .int .i64 x5, .int .i64 x6, .int .i64 x7, .int .i64 x8, .int .i64 x9, .int .i64 x10, .int .i64 x11, .int .i64 x12, .int .i64 x13, .int .i64 x14]] w' fun e w2 => e = .returned (.tuple #[.string ⟨l.toArray⟩, .int .i64 0]) ∧ Below w'.heap.size w' w2 := fun w' hb => by
    have h := status_any xs hx hbd w' (fun w2 hb2 => htab w2 (below_then hb hb.size hb2))
    rw [hl, hi] at h
    exact h
  have h2 : ∀ w', Calls Tryd.prog 21 #[.string ⟨l.toArray⟩] w' fun e w2 => e = .returned (.tuple #[.agg #[.int .i64 x0, .int .i64 x1, .int .i64 x2, .int .i64 x3, .int .i64 x4, .int .i64 x5, .int .i64 x6, .int .i64 x7, .int .i64 x8, .int .i64 x9, .int .i64 x10, .int .i64 x11, .int .i64 x12, .int .i64 x13, .int .i64 x14], .int .i64 0, .int .i64 0]) ∧ Below w'.heap.size w' w2 := fun w' => by
    have h := parse_any ⟨l.toArray⟩ w' (by show l.length ≤ _; omega)
    rw [hz, hstat, hi] at h
    exact h
  rw [hi]
  have H1 := Aside0.mk h1
  have H2 := Aside0.mk h2
  clear h1 h2 hstat hbm hi htab hbd hl hx
  have K1 := Aside0.mk (blk_new w (.cells #[.int .i64 x0, .int .i64 x1, .int .i64 x2, .int .i64 x3, .int .i64 x4, .int .i64 x5, .int .i64 x6, .int .i64 x7, .int .i64 x8, .int .i64 x9, .int .i64 x10, .int .i64 x11, .int .i64 x12, .int .i64 x13, .int .i64 x14] 28))
  have HB1 := Aside0.mk ((Below.refl w.heap.size w).alloc (Nat.le_refl _) (.cells #[.int .i64 x0, .int .i64 x1, .int .i64 x2, .int .i64 x3, .int .i64 x4, .int .i64 x5, .int .i64 x6, .int .i64 x7, .int .i64 x8, .int .i64 x9, .int .i64 x10, .int .i64 x11, .int .i64 x12, .int .i64 x13, .int .i64 x14] 28))
  go_enter Tryd.func18, Tryd.ntmps18
  go_wp2_with ((with_reducible refine gate_dst (N := 10) rfl ?_); refine wpList_load_row rfl 28 _ rfl w.heap.size rfl 28 _ (0, 0) _ K1.out Tryd.underlying28 rfl (by kernel_rfl) ?_)
  generalize w.alloc (.cells #[.int .i64 x0, .int .i64 x1, .int .i64 x2, .int .i64 x3, .int .i64 x4, .int .i64 x5, .int .i64 x6, .int .i64 x7, .int .i64 x8, .int .i64 x9, .int .i64 x10, .int .i64 x11, .int .i64 x12, .int .i64 x13, .int .i64 x14] 28) = w1 at *
  refine (H1.out _ HB1.out).mono ?_
  rintro e w2 ⟨rfl, hB2⟩
  have K2 := Aside0.mk (blk_below K1.out hB2)
  have HB2 := Aside0.mk (below_then HB1.out HB1.out.size hB2)
  clear hB2 K1 HB1
  go_wp2
  have hss : (⟨l.toArray⟩ : ByteArray).size = l.length := rfl
  generalize (⟨l.toArray⟩ : ByteArray) = s at *
  have HBr := Aside0.mk (Below.refl w2.heap.size w2)
  go_loopg [5] l.length (fun kq v5 wr => ∃ j : Nat, j ≤ l.length ∧ kq = l.length - j ∧ v5 = .int .i64 j ∧ Aside0 (Below w2.heap.size w2 wr))
  case atStart => exact ⟨0, by omega, rfl, rfl, HBr⟩
  case round =>
    clear HBr
    obtain ⟨j, hj, rfl, rfl, HW⟩ := hrel
    by_cases hlt : j < l.length
    · have hltb : decide ((j : Int) < l.length) = true := decide_eq_true (by omega)
      have hj' : j < s.size := by omega
      obtain ⟨hb0, hb1⟩ := hshown (s[j]'hj') (by
        rw [← hz]
        have hjl : j < (bl s).length := by rw [bl_length]; exact hj'
        have : (bl s)[j]'hjl = s[j]'hj' := by simp [bl]; rfl
        rw [← this]
        exact List.getElem_mem _)
      have hq0 : (32 : Int) ≤ ((s[j]'hj').toNat : Int) := by omega
      have hq1 : ((s[j]'hj').toNat : Int) ≤ 126 := by omega
      have hj0 : (j : Int) < s.size := by omega
      go_wp2
      go_roundg (l.length - (j + 1))
      case measure => omega
      case rel => exact ⟨j + 1, by omega, rfl, by go_num, HW⟩
    · have hltb : decide ((j : Int) < l.length) = false := decide_eq_false (by omega)
      go_wp2_with fail
      refine (H2.out _).mono ?_
      rintro e w4 ⟨rfl, hB4⟩
      have k1 := blk_alloc (blk_below (blk_below K2.out HW.out) hB4) (.cells #[.int .i64 x0, .int .i64 x1, .int .i64 x2, .int .i64 x3, .int .i64 x4, .int .i64 x5, .int .i64 x6, .int .i64 x7, .int .i64 x8, .int .i64 x9, .int .i64 x10, .int .i64 x11, .int .i64 x12, .int .i64 x13, .int .i64 x14] 28)
      have k2 := blk_new w4 (.cells #[.int .i64 x0, .int .i64 x1, .int .i64 x2, .int .i64 x3, .int .i64 x4, .int .i64 x5, .int .i64 x6, .int .i64 x7, .int .i64 x8, .int .i64 x9, .int .i64 x10, .int .i64 x11, .int .i64 x12, .int .i64 x13, .int .i64 x14] 28)
      have HB : Below w.heap.size w (w4.alloc (.cells #[.int .i64 x0, .int .i64 x1, .int .i64 x2, .int .i64 x3, .int .i64 x4, .int .i64 x5, .int .i64 x6, .int .i64 x7, .int .i64 x8, .int .i64 x9, .int .i64 x10, .int .i64 x11, .int .i64 x12, .int .i64 x13, .int .i64 x14] 28)) := by
        have h1 := below_then HB2.out HB2.out.size HW.out
        have h2 := below_then h1 h1.size hB4
        exact h2.alloc h2.size _
      have K3 := Aside0.mk k1
      have K4 := Aside0.mk k2
      clear k1 k2 hB4 K2 HW H1 H2
      go_wp2_with (first
        | ((with_reducible refine gate_dst (N := 51) rfl ?_); refine wpList_load_row rfl 28 _ rfl w4.heap.size rfl 28 _ (0, 0) _ K4.out Tryd.underlying28 rfl (by kernel_rfl) ?_)
        | ((with_reducible refine gate_dst (N := 52) rfl ?_); refine wpList_load_row rfl 28 _ rfl w.heap.size rfl 28 _ (0, 0) _ K3.out Tryd.underlying28 rfl (by kernel_rfl) ?_))
      refine (num_any _ _).mono ?_
      rintro e w5 ⟨rfl, rfl⟩
      generalize w4.alloc (.cells #[.int .i64 x0, .int .i64 x1, .int .i64 x2, .int .i64 x3, .int .i64 x4, .int .i64 x5, .int .i64 x6, .int .i64 x7, .int .i64 x8, .int .i64 x9, .int .i64 x10, .int .i64 x11, .int .i64 x12, .int .i64 x13, .int .i64 x14] 28) = w6 at *
      generalize w4.heap.size = b4 at *
      have c0 : w6.cell? ⟨w.heap.size, 0, none⟩ = some (.int .i64 x0) := blk_cell K3.out 0
      have d0 : w6.cell? ⟨b4, 0, none⟩ = some (.int .i64 x0) := blk_cell K4.out 0
      have c1 : w6.cell? ⟨w.heap.size, 1, none⟩ = some (.int .i64 x1) := blk_cell K3.out 1
      have d1 : w6.cell? ⟨b4, 1, none⟩ = some (.int .i64 x1) := blk_cell K4.out 1
      have c2 : w6.cell? ⟨w.heap.size, 2, none⟩ = some (.int .i64 x2) := blk_cell K3.out 2
      have d2 : w6.cell? ⟨b4, 2, none⟩ = some (.int .i64 x2) := blk_cell K4.out 2
      have c3 : w6.cell? ⟨w.heap.size, 3, none⟩ = some (.int .i64 x3) := blk_cell K3.out 3
      have d3 : w6.cell? ⟨b4, 3, none⟩ = some (.int .i64 x3) := blk_cell K4.out 3
      have c4 : w6.cell? ⟨w.heap.size, 4, none⟩ = some (.int .i64 x4) := blk_cell K3.out 4
      have d4 : w6.cell? ⟨b4, 4, none⟩ = some (.int .i64 x4) := blk_cell K4.out 4
      have c5 : w6.cell? ⟨w.heap.size, 5, none⟩ = some (.int .i64 x5) := blk_cell K3.out 5
      have d5 : w6.cell? ⟨b4, 5, none⟩ = some (.int .i64 x5) := blk_cell K4.out 5
      have c6 : w6.cell? ⟨w.heap.size, 6, none⟩ = some (.int .i64 x6) := blk_cell K3.out 6
      have d6 : w6.cell? ⟨b4, 6, none⟩ = some (.int .i64 x6) := blk_cell K4.out 6
      have c7 : w6.cell? ⟨w.heap.size, 7, none⟩ = some (.int .i64 x7) := blk_cell K3.out 7
      have d7 : w6.cell? ⟨b4, 7, none⟩ = some (.int .i64 x7) := blk_cell K4.out 7
      have c8 : w6.cell? ⟨w.heap.size, 8, none⟩ = some (.int .i64 x8) := blk_cell K3.out 8
      have d8 : w6.cell? ⟨b4, 8, none⟩ = some (.int .i64 x8) := blk_cell K4.out 8
      have c9 : w6.cell? ⟨w.heap.size, 9, none⟩ = some (.int .i64 x9) := blk_cell K3.out 9
      have d9 : w6.cell? ⟨b4, 9, none⟩ = some (.int .i64 x9) := blk_cell K4.out 9
      have c10 : w6.cell? ⟨w.heap.size, 10, none⟩ = some (.int .i64 x10) := blk_cell K3.out 10
      have d10 : w6.cell? ⟨b4, 10, none⟩ = some (.int .i64 x10) := blk_cell K4.out 10
      have c11 : w6.cell? ⟨w.heap.size, 11, none⟩ = some (.int .i64 x11) := blk_cell K3.out 11
      have d11 : w6.cell? ⟨b4, 11, none⟩ = some (.int .i64 x11) := blk_cell K4.out 11
      have c12 : w6.cell? ⟨w.heap.size, 12, none⟩ = some (.int .i64 x12) := blk_cell K3.out 12
      have d12 : w6.cell? ⟨b4, 12, none⟩ = some (.int .i64 x12) := blk_cell K4.out 12
      have c13 : w6.cell? ⟨w.heap.size, 13, none⟩ = some (.int .i64 x13) := blk_cell K3.out 13
      have d13 : w6.cell? ⟨b4, 13, none⟩ = some (.int .i64 x13) := blk_cell K4.out 13
      have c14 : w6.cell? ⟨w.heap.size, 14, none⟩ = some (.int .i64 x14) := blk_cell K3.out 14
      have d14 : w6.cell? ⟨b4, 14, none⟩ = some (.int .i64 x14) := blk_cell K4.out 14
      clear K3 K4
      go_wp2
      go_ret
      exact ⟨rfl, HB⟩
end Go.Proofs.YtfecfgimfjcbdaaDoor.Cf
