/- The reference's ParseStatus, walked. -/
import Derived.Test.YtfecfgimfjcbdaaConfJ
import Derived.Test.YtfecfgimfjcbdaaConfH
import Derived.Test.YtfecfgimfjcbdaaPConfLinesx3
namespace Go.Proofs.Ytfecfgimfjcbdaa.Cf
open Go.RowKit Go.Proofs.YtfecfgimfjcbdaaW.PrintWords Go.Proofs.YtfecfgimfjcbdaaW.PrintLast Go.Proofs.YtfecfgimfjcbdaaW.PrintMore Go.Proofs.Ytfecfgimfjcbdaa.PConfLines

/-- From place n on, the values so far xs: the place, and all values if all is read. -/
def runR (s : List UInt8) : List Pt → Nat → List Int → Nat × Option (List Int)
  | [], n, xs => (n, some xs)
  | p :: ps, n, xs => if (oneP (s.drop n) p).2.1 = true then runR s ps (n + (oneP (s.drop n) p).1) (if p.isLit = true then xs else xs ++ [((oneP (s.drop n) p).2.2 : Int)]) else (n + (oneP (s.drop n) p).1, none)

def statR (s : List UInt8) : List Int × Nat × Int :=
  match runR s rTab 0 [] with
  | (n, none) => (List.replicate 15 0, n, 126)
  | (n, some xs) => if n < s.length then (List.replicate 15 0, n, 126) else (xs.set 5 (wrap64 (xs.getD 5 0 + 1)), 0, 0)

theorem oneP_le (l : List UInt8) (p : Pt) (t : ByteArray) (ys : List ByteArray) (bb : Bool) (hp : ptIs p t ys bb) : (oneP l p).1 ≤ l.length ∧ (oneP l p).2.2 ≤ 9223372036854775807 := by
  cases p with
  | lit t => exact ⟨com_le_left _ _, by simp [oneP]⟩
  | words ws =>
    have h := pick_le l ws 0 0 (Nat.zero_le _)
    have hw := hp.2.2.2.1
    simp only [oneP]
    omega
  | num =>
    have h1 := nm_ge l 0 0
    have h2 := nm_lt l 0 0 (Nat.zero_le _)
    rw [MX_eq] at h2
    simp only [oneP]
    omega

theorem runR_fail {s : List UInt8} {xs : List Int} {n j : Nat} {p : Pt} (ht : rTab[j]? = some p) (hr : runR s (rTab.drop j) n xs = runR s rTab 0 []) (m : Nat) (v : Nat) (h : oneP (s.drop n) p = (m, false, v)) : statR s = (List.replicate 15 0, n + m, 126) := by
  have hd : rTab.drop j = p :: rTab.drop (j + 1) := by rw [List.drop_eq_getElem?_toList_append, ht]; rfl
  have hrun : runR s rTab 0 [] = (n + m, none) := by
    rw [← hr, hd]
    simp only [runR, h]
    rfl
  unfold statR
  rw [hrun]
theorem runR_on {s : List UInt8} {xs : List Int} {n j : Nat} {p : Pt} (ht : rTab[j]? = some p) (hr : runR s (rTab.drop j) n xs = runR s rTab 0 []) (m : Nat) (v : Nat) (h : oneP (s.drop n) p = (m, true, v)) :
    runR s (rTab.drop (j + 1)) (n + m) (if p.isLit = true then xs else xs ++ [(v : Int)]) = runR s rTab 0 [] := by
  have hd : rTab.drop j = p :: rTab.drop (j + 1) := by rw [List.drop_eq_getElem?_toList_append, ht]; rfl
  rw [← hr, hd]
  simp only [runR, h, if_true]

/-- How many values the first i parts have. -/
def cnt (i : Nat) : Nat := ((rTab.take i).filter fun p => !p.isLit).length
theorem cnt_succ {i : Nat} {p : Pt} (h : rTab[i]? = some p) : cnt (i + 1) = cnt i + if p.isLit = true then 0 else 1 := by
  unfold cnt
  rw [List.take_add_one, h, List.filter_append, List.length_append]
  cases hl : p.isLit <;> simp [hl]
theorem fifteen {xs : List Int} (h : xs.length = 15) : ∃ a b c d e f g h i j k l m n o, xs = [a, b, c, d, e, f, g, h, i, j, k, l, m, n, o] := by
  rcases xs with _ | ⟨a, _ | ⟨b, _ | ⟨c, _ | ⟨d, _ | ⟨e, _ | ⟨f, _ | ⟨g, _ | ⟨h', _ | ⟨i, _ | ⟨j, _ | ⟨k, _ | ⟨l, _ | ⟨m, _ | ⟨n, _ | ⟨o, xs⟩⟩⟩⟩⟩⟩⟩⟩⟩⟩⟩⟩⟩⟩⟩ <;> simp only [List.length_nil, List.length_cons] at h
  all_goals try omega
  have : xs = [] := List.length_eq_zero_iff.1 (by omega)
  subst this
  exact ⟨a, b, c, d, e, f, g, h', i, j, k, l, m, n, o, rfl⟩
theorem status_any (w : World) (A : Option Addr) (c : Nat) (xs : List Int) (h : xs.length = 15) (hr : Kd.C (Kd.int .i64) w A xs.length xs) (hc : xs.length ≤ c) :
    Calls Try.prog 12 #[.slice A xs.length c] w fun e w' => e = .returned (.agg (ints (xs.set 5 (wrap64 (xs.getD 5 0 + 1))))) ∧ Below w.heap.size w w' := by
  obtain ⟨x0, x1, x2, x3, x4, x5, x6, x7, x8, x9, x10, x11, x12, x13, x14, rfl⟩ := fifteen h
  exact replicaref12_status.calls A c _ x0 x1 x2 x3 x4 (wrap64 (x5 + 1)) x6 x7 x8 x9 x10 x11 x12 x13 x14 w hr hc rfl

theorem own_ints_C {k : IntKind} {w : World} {base : Nat} {e : TypeId} {v : Value} {xs : List Int} (h : w.ownsRow base e 1 v xs.length (nums k xs)) (hl : xs.length ≤ 1000) : ∃ A c, v = .slice A xs.length c ∧ xs.length ≤ c ∧ Kd.C (Kd.int k) w A xs.length xs := by
  obtain ⟨_, ⟨rfl, h0⟩ | ⟨g, cap, cur, rfl, hg, hh, hc, hm, hs, ht⟩⟩ := h
  · exact ⟨none, 0, by rw [h0], by omega, rfl, by omega, fun h => absurd h (by omega)⟩
  · refine ⟨_, cap, rfl, hc, rfl, by omega, fun _ => ⟨_, rfl, fun j p hj => ⟨[.int k p], rfl, rfl, fun i u hu => ?_⟩⟩⟩
    have hi : i = 0 := by
      rcases i with _ | i
      · rfl
      · simp at hu
    subst hi
    have hj' : j < xs.length := (List.getElem?_eq_some_iff.1 hj).1
    rw [show (Kd.int k).sz = 1 from rfl, show j * 1 + 0 = j by omega, add_plain, blk_cell hh j, ← hu, ← Array.getElem?_toList]
    have e1 : (cur.toList.take (xs.length * 1))[j]? = cur.toList[j]? := List.getElem?_take_of_lt (by omega)
    rw [← e1, ht]
    simp [nums, hj]

set_option maxRecDepth 100000 in
set_option maxHeartbeats 1000000 in
theorem refparse_any (s : ByteArray) (w : World) (hs : s.size ≤ 140737488351232) :
    Calls Try.prog 5 #[.string s] w fun e w' => e = .returned (.tuple #[.agg (ints (statR (bl s)).1), .int .i64 ((statR (bl s)).2.1 : Int), .int .i64 (statR (bl s)).2.2]) ∧ Below w.heap.size w w' := by
  go_enter Try.func5, Try.ntmps5
  go_wp2_with fail
  generalize hz0 : Obj.cells _ 23 = Z
  generalize hw1 : w.alloc Z = w1
  generalize hb : w.heap.size = b
  have hs1 : w1.heap.size = b + 1 := by rw [← hw1, ← hb]; simp
  have hZ : Z = .cells (ints (List.replicate 15 0)) 23 (0, 0) := by rw [← hz0]; rfl
  have k1 : w1.heap[b]? = some Z := by rw [← hw1, ← hb]; exact blk_new w Z
  have hB : Below w.heap.size w w1 := by rw [← hw1]; exact (Below.refl _ _).alloc (Nat.le_refl _) _
  rw [hZ] at k1
  clear hw1 hz0 hZ
  refine (refparts_any w1).mono ?_
  rintro e w2 ⟨g, c, rfl, hB2, hP⟩
  have HZ := Aside0.mk (blk_below k1 hB2)
  have HB := Aside0.mk (below_then hB (by omega) hB2)
  have HP := Aside0.mk hP
  have HH := Aside0.mk hb
  have h2 : b + 1 ≤ w2.heap.size := by have := hB2.size; omega
  clear hB2 hP hB k1 hs1 hb
  have HW2 := Aside0.mk (Below.refl w2.heap.size w2)
  have HO : Aside0 (w2.ownsRow w2.heap.size 3 1 (.slice none 0 0) ([] : List Int).length (nums .i64 [])) := ⟨own_nil _ _ _ _⟩
  go_wp2
  go_loopg [6, 7, 8] 30 (fun kq v6 v7 v8 wr => ∃ (i n : Nat) (xs : List Int), i ≤ 30 ∧ kq = 30 - i ∧ v7 = .int .i64 n ∧ v8 = .int .i64 i ∧ n ≤ s.size ∧ xs.length ≤ i ∧ Aside0 (xs.length = cnt i) ∧ Aside0 (runR (bl s) (rTab.drop i) n xs = runR (bl s) rTab 0 []) ∧ Aside0 (wr.ownsRow w2.heap.size 3 1 v6 xs.length (nums .i64 xs)) ∧ Aside0 (Below w2.heap.size w2 wr))
  case atStart => exact ⟨0, 0, [], by omega, rfl, rfl, rfl, by omega, by simp, ⟨rfl⟩, ⟨rfl⟩, HO, HW2⟩
  case round =>
    clear HO HW2
    obtain ⟨i, n, xs, hi, rfl, rfl, rfl, hn, hxl, HX, HR, HO, HW⟩ := hrel
    by_cases hlt : i < 30
    · have hltb : decide ((i : Int) < 30) = true := decide_eq_true (by omega)
      obtain ⟨p, ht⟩ : ∃ p, rTab[i]? = some p := ⟨_, List.getElem?_eq_getElem hlt⟩
      have HPi := Aside0.mk (HP.out i p ht)
      obtain ⟨t, v, bb, ws, c0, c1, c2, ⟨A, cc, rfl, hcc, hC⟩, hpt, htl⟩ := (HPi.out).below HW.out
      have hle := oneP_le ((bl s).drop n) p t ws bb hpt
      rw [List.length_drop, bl_length] at hle
      obtain ⟨r, hone⟩ := one_f s hs n hn p t ws bb hpt
      have HT := Aside0.mk ht
      have HC := Aside0.mk hC
      have HTL := Aside0.mk htl
      clear ht hC htl hpt
      go_wp2_with fail
      refine (replicaref12_one.calls r s (n : Int) t A cc ws bb _ _ _ _ HC.out hcc hone).mono ?_
      rintro e w3 ⟨rfl, hB3⟩
      have HB3 := Aside0.mk (below_then HW.out HW.out.size hB3)
      have HO3 := Aside0.mk (pw_own_below HO.out hB3)
      have c0' := pw_cell_below hB3 c0
      clear hone hB3 c0 c1 c2 HW HO
      generalize ho : oneP ((bl s).drop n) p = o at *
      obtain ⟨m, ok, val⟩ := o
      simp only at hle
      obtain ⟨hle1, hle2⟩ := hle
      have HOO := Aside0.mk ho
      clear ho
      cases ok with
      | false =>
        have HRes := Aside0.mk (runR_fail HT.out HR.out _ _ HOO.out)
        go_wp2_with (refine store_whole rfl rfl rfl (g := b) rfl (ints (List.replicate 15 0)) rfl (blk_below (w := w2) HZ.out HB3.out) (by kernel_rfl) rfl (by decide) ?_; intro w6 hZ6 hg6)
        refine bodyPost_ret (results_ctt rfl _ _ b 23 _ _ _ rfl hZ6 Try.underlying23 rfl (by kernel_rfl)) rfl ?_
        rw [HRes.out]
        have hb0 : Below w.heap.size w w3 := below_then HB.out HB.out.size HB3.out
        exact ⟨rfl, pw_below_grown hb0 (some b) hb0.size hg6 (fun k hk => by obtain rfl := Option.some.inj hk; rw [HH.out]; exact Nat.le_refl _)⟩
      | true =>
        have HRun := Aside0.mk (runR_on HT.out HR.out _ _ HOO.out)
        have hl8 : (xs.length + 1) * 8 ≤ 140737488355328 := Nat.le_trans (Nat.mul_le_mul_right 8 (show xs.length + 1 ≤ 40 by omega)) (by decide)
        cases hlit : p.isLit with
        | true =>
          have htl : (t.toList == ([] : List UInt8)) = false := by rw [HTL.out, hlit]; rfl
          have hte : t.toList.isEmpty = false := by
            cases h : t.toList with
            | nil => rw [h] at htl; cases htl
            | cons a l => rfl
          have HX' : Aside0 (xs.length = cnt (i + 1)) := ⟨by rw [cnt_succ HT.out, hlit, HX.out]; rfl⟩
          have hrun : Aside0 (runR (bl s) (rTab.drop (i + 1)) (n + m) xs = runR (bl s) rTab 0 []) := ⟨by have h := HRun.out; rw [hlit, if_pos rfl] at h; exact h⟩
          clear htl
          go_wp2
          go_roundg (30 - (i + 1))
          case measure => omega
          case rel => exact ⟨i + 1, n + m, xs, by omega, rfl, by go_num, by go_num, by omega, by omega, HX', hrun, HO3, HB3⟩
        | false =>
          have htl : (t.toList == ([] : List UInt8)) = true := by rw [HTL.out, hlit]; rfl
          have hte : t.toList.isEmpty = true := by
            cases h : t.toList with
            | nil => rfl
            | cons a l => rw [h] at htl; cases htl
          have HX' : Aside0 ((xs ++ [(val : Int)]).length = cnt (i + 1)) := ⟨by rw [cnt_succ HT.out, hlit, List.length_append, HX.out]; rfl⟩
          have hrun : Aside0 (runR (bl s) (rTab.drop (i + 1)) (n + m) (xs ++ [(val : Int)]) = runR (bl s) rTab 0 []) := ⟨by have h := HRun.out; rw [hlit, if_neg (by decide)] at h; exact h⟩
          clear htl
          go_wp2_with ((with_reducible refine gate_dst (N := 46) rfl ?_); refine print_append_num (w0 := w2) w2.heap.size rfl (.tmp 43) (.tmp 45) 45 3 .i64 8 rfl Try.underlying45 (by kernel_rfl) (by decide) _ xs (val : Int) rfl rfl HO3.out HB3.out HB3.out.size hl8 ?_; intro u1 W1 hown1 hB1 hg1 hat1; have HO1 := Aside0.mk hown1; have HB1 := Aside0.mk hB1; clear hown1 hB1 hg1 hat1)
          go_roundg (30 - (i + 1))
          case measure => omega
          case rel => exact ⟨i + 1, n + m, xs ++ [(val : Int)], by omega, rfl, by go_num, by go_num, by omega, by simp; omega, HX', hrun, HO1, HB1⟩
    · have hltb : decide ((i : Int) < 30) = false := decide_eq_false (by omega)
      have hrun : runR (bl s) rTab 0 [] = (n, some xs) := by rw [← HR.out, List.drop_of_length_le (show rTab.length ≤ i from (by have : rTab.length = 30 := rfl; omega))]; rfl
      have HRun := Aside0.mk hrun
      clear hrun
      have hb0 : Below w.heap.size w wr := below_then HB.out HB.out.size HW.out
      have HB0 := Aside0.mk hb0
      clear hb0
      by_cases hend : n < s.size
      · have HRes : Aside0 (statR (bl s) = (List.replicate 15 0, n, 126)) := ⟨by unfold statR; rw [HRun.out]; simp only; rw [if_pos (by rw [bl_length]; exact hend)]⟩
        go_wp2_with (refine store_whole rfl rfl rfl (g := b) rfl (ints (List.replicate 15 0)) rfl (blk_below (w := w2) HZ.out HW.out) (by kernel_rfl) rfl (by decide) ?_; intro w6 hZ6 hg6)
        refine bodyPost_ret (results_ctt rfl _ _ b 23 _ _ _ rfl hZ6 Try.underlying23 rfl (by kernel_rfl)) rfl ?_
        rw [HRes.out]
        exact ⟨rfl, pw_below_grown HB0.out (some b) HB0.out.size hg6 (fun k hk => by obtain rfl := Option.some.inj hk; rw [HH.out]; exact Nat.le_refl _)⟩
      · have HRes : Aside0 (statR (bl s) = (xs.set 5 (wrap64 (xs.getD 5 0 + 1)), 0, 0)) := ⟨by unfold statR; rw [HRun.out]; simp only; rw [if_neg (by rw [bl_length]; exact hend)]⟩
        obtain rfl : i = 30 := by omega
        have h15 : xs.length = 15 := HX.out
        obtain ⟨A, cc, rfl, hcc, hC⟩ := own_ints_C HO.out (by omega)
        have H15 := Aside0.mk h15
        have HC := Aside0.mk hC
        clear h15 hC
        go_wp2_with fail
        refine (status_any _ A cc xs H15.out HC.out hcc).mono ?_
        rintro e w3 ⟨rfl, hB3⟩
        have hZ3 := blk_below (blk_below HZ.out HW.out) hB3
        have hb3 : Below w.heap.size w w3 := below_then HB0.out HB0.out.size hB3
        have HZ3 := Aside0.mk hZ3
        have HB3 := Aside0.mk hb3
        clear hZ3 hb3 hB3
        have hys : (xs.set 5 (wrap64 (xs.getD 5 0 + 1))).length = 15 := by rw [List.length_set]; exact H15.out
        generalize xs.set 5 (wrap64 (xs.getD 5 0 + 1)) = ys at *
        have h15 : (ints ys).size = 15 := by simp [ints, hys]
        have hi15 : (Try.prog.info? 23).map (·.size) = some (ints ys).size := by rw [h15]; kernel_rfl
        have hone : ∀ q ∈ (ints ys).toList, q.oneCell' = true := by
          intro q hq
          simp only [ints, List.mem_map] at hq
          obtain ⟨x, _, rfl⟩ := hq
          rfl
        have hsz : (ints ys).size = (ints (List.replicate 15 0)).size := by rw [h15]; rfl
        clear h15 hys
        go_wp2_with (refine store_whole rfl rfl rfl (g := b) rfl (ints ys) rfl HZ3.out hi15 hsz hone ?_; intro w6 hZ6 hg6)
        refine bodyPost_ret (results_ctt rfl _ _ b 23 (ints ys) (0, 0) _ rfl hZ6 Try.underlying23 rfl hi15) rfl ?_
        rw [HRes.out]
        exact ⟨rfl, pw_below_grown HB3.out (some b) HB3.out.size hg6 (fun k hk => by obtain rfl := Option.some.inj hk; rw [HH.out]; exact Nat.le_refl _)⟩
end Go.Proofs.Ytfecfgimfjcbdaa.Cf
