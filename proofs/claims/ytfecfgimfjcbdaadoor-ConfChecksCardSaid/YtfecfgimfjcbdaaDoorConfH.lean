/- ParseStatus, walked. -/
import Derived.Test.YtfecfgimfjcbdaaDoorConfG
import Derived.Test.YtfecfgimfjcbdaaDoorConfL
import Derived.StillTailTactics
namespace Go.Proofs.YtfecfgimfjcbdaaDoor.Cf
open Go.RowKit Go.Proofs.YtfecfgimfjcbdaaDoorW.PrintWords Go.Proofs.YtfecfgimfjcbdaaDoorW.PrintLast Go.Proofs.YtfecfgimfjcbdaaDoorW.PrintMore Go.Proofs.YtfecfgimfjcbdaaDoor.QCParseStatus

def ints (xs : List Int) : Array Value := (xs.map (Value.int .i64)).toArray

/-- How the memory stands in a round: the line at b + 1, the answer's zero at b, the status at b + 2; what was there by w4 from b + 3 on is as it was. -/
def St (w w4 wr : World) (b : Nat) (s : ByteArray) (n : Nat) (xs : List Int) : Prop :=
  IsLine w wr (b + 1) s n ∧ wr.heap[b]? = some (.cells (ints (List.replicate 15 0)) 28 (0, 0)) ∧ wr.heap[b + 1 + 1]? = some (.cells (ints xs) 28 (0, 0)) ∧ Below w.heap.size w wr ∧ w4.heap.size ≤ wr.heap.size ∧ ∀ k, b + 3 ≤ k → k < w4.heap.size → wr.heap[k]? = w4.heap[k]?
theorem St.call {w w4 wr w5 : World} {b n n' : Nat} {s : ByteArray} {xs : List Int} (h : St w w4 wr b s n xs) (hI : IsLine w w5 (b + 1) s n') (hB : Below w.heap.size w w5) (hK : KeepBut wr w5 (b + 1) none) : St w w4 w5 b s n' xs :=
  ⟨hI, hK.blk h.2.1 (by omega) (by simp), hK.blk h.2.2.1 (by omega) (by simp), hB, Nat.le_trans h.2.2.2.2.1 hK.1, fun k h1 h2 => (hK.2 k (Nat.lt_of_lt_of_le h2 h.2.2.2.2.1) (by omega) (by simp)).trans (h.2.2.2.2.2 k h1 h2)⟩
theorem St.drew {w w4 wr : World} {b n : Nat} {s : ByteArray} {xs : List Int} (h : St w w4 wr b s n xs) : St w w4 wr.drew b s n xs :=
  ⟨IsS91.drew h.1, h.2.1, h.2.2.1, below_drew h.2.2.2.1, h.2.2.2.2.1, h.2.2.2.2.2⟩
theorem St.piece {w w3 w4 wr : World} {b n g j : Nat} {s : ByteArray} {xs : List Int} {t : ByteArray × Option (List ByteArray) × Int} (h : St w w4 wr b s n xs) (hs : w3.heap.size = b + 3) (hg : b + 3 ≤ g) (hp : Piece w4 w3.heap.size g j t) : Piece wr w3.heap.size g j t :=
  hp.keep (by omega) (fun k h1 h2 => h.2.2.2.2.2 k (by omega) h2)
theorem St.size {w w4 wr : World} {b n : Nat} {s : ByteArray} {xs : List Int} (h : St w w4 wr b s n xs) : b + 2 < wr.heap.size := blk_lt h.2.2.1

theorem St.as {w w4 wr : World} {b n n' : Nat} {s : ByteArray} {xs : List Int} (h : St w w4 wr b s n xs) (e : n = n') : St w w4 wr b s n' xs := e ▸ h
theorem ints_get (xs : List Int) (j : Nat) (h : j < xs.length) : (ints xs)[j]? = some (.int .i64 (xs.getD j 0)) := by
  simp [ints, h]
theorem ints_set (xs : List Int) (j : Nat) (v : Int) : (ints xs).setIfInBounds j (.int .i64 v) = ints (xs.set j v) := by
  simp [ints, List.map_set]
theorem St.put {w w4 wr : World} {b n j : Nat} {s : ByteArray} {xs : List Int} (h : St w w4 wr b s n xs) (hb : w.heap.size ≤ b) (v : Int) : St w w4 (wr.setCell ⟨b + 1 + 1, j, none⟩ (.int .i64 v)) b s n (xs.set j v) := by
  refine ⟨IsS91.far h.1 (show b + 1 ≠ b + 1 + 1 by omega) _, blk_far h.2.1 (show b ≠ b + 1 + 1 by omega) _, ?_, below_set h.2.2.2.1 (show w.heap.size ≤ b + 1 + 1 by omega), ?_, fun k h1 h2 => ?_⟩
  · have := blk_set h.2.2.1 j (.int .i64 v)
    rw [ints_set] at this
    exact this
  · simpa [World.setCell] using h.2.2.2.2.1
  · rw [Below.heap_setCell wr _ _ k (show k ≠ b + 1 + 1 by omega)]
    exact h.2.2.2.2.2 k h1 h2
theorem call_field (j : Nat) (hj : j < 15) (args : Array Value) (W : World) : (callFunc (79 + j) args).run Tryd.prog W = .ok (.enter (79 + j) args) W := by
  rcases j with _ | _ | _ | _ | _ | _ | _ | _ | _ | _ | _ | _ | _ | _ | _ | j
  case succ.succ.succ.succ.succ.succ.succ.succ.succ.succ.succ.succ.succ.succ.succ => omega
  all_goals go_simp
theorem run_fail {s : List UInt8} {xs : List Int} {n j : Nat} {t : ByteArray × Option (List ByteArray) × Int} (ht : cTab[j]? = some t) (hr : runI s (cTab.drop j) n j xs = runI s cTab 0 0 (List.replicate 15 0)) (m : Nat) (v : Int) (h : stepI (s.drop n) t = (m, false, v)) : statI s = (List.replicate 15 0, n + m, 126) := by
  have hd : cTab.drop j = t :: cTab.drop (j + 1) := by rw [List.drop_eq_getElem?_toList_append, ht]; rfl
  have hrun : runI s cTab 0 0 (List.replicate 15 0) = (n + m, none) := by
    rw [← hr, hd]
    simp only [runI, h]
    rfl
  unfold statI
  rw [hrun]
theorem run_on {s : List UInt8} {xs : List Int} {n j : Nat} {t : ByteArray × Option (List ByteArray) × Int} (ht : cTab[j]? = some t) (hr : runI s (cTab.drop j) n j xs = runI s cTab 0 0 (List.replicate 15 0)) (m : Nat) (v : Int) (h : stepI (s.drop n) t = (m, true, v)) :
    runI s (cTab.drop (j + 1)) (n + m) (j + 1) (xs.set j (v + t.2.2)) = runI s cTab 0 0 (List.replicate 15 0) := by
  have hd : cTab.drop j = t :: cTab.drop (j + 1) := by rw [List.drop_eq_getElem?_toList_append, ht]; rfl
  rw [← hr, hd]
  simp only [runI, h, if_true]

theorem zero15 {W : World} {b : Nat} (h : W.heap[b]? = some (.cells (ints (List.replicate 15 0)) 28 (0, 0))) : (((((((((((((((W.setCell ⟨b, 0, none⟩ (.int .i64 0)).setCell ⟨b, 1, none⟩ (.int .i64 0)).setCell ⟨b, 2, none⟩ (.int .i64 0)).setCell ⟨b, 3, none⟩ (.int .i64 0)).setCell ⟨b, 4, none⟩ (.int .i64 0)).setCell ⟨b, 5, none⟩ (.int .i64 0)).setCell ⟨b, 6, none⟩ (.int .i64 0)).setCell ⟨b, 7, none⟩ (.int .i64 0)).setCell ⟨b, 8, none⟩ (.int .i64 0)).setCell ⟨b, 9, none⟩ (.int .i64 0)).setCell ⟨b, 10, none⟩ (.int .i64 0)).setCell ⟨b, 11, none⟩ (.int .i64 0)).setCell ⟨b, 12, none⟩ (.int .i64 0)).setCell ⟨b, 13, none⟩ (.int .i64 0)).setCell ⟨b, 14, none⟩ (.int .i64 0)).heap[b]? = some (.cells (ints (List.replicate 15 0)) 28 (0, 0)) ∧ W.grownBy (((((((((((((((W.setCell ⟨b, 0, none⟩ (.int .i64 0)).setCell ⟨b, 1, none⟩ (.int .i64 0)).setCell ⟨b, 2, none⟩ (.int .i64 0)).setCell ⟨b, 3, none⟩ (.int .i64 0)).setCell ⟨b, 4, none⟩ (.int .i64 0)).setCell ⟨b, 5, none⟩ (.int .i64 0)).setCell ⟨b, 6, none⟩ (.int .i64 0)).setCell ⟨b, 7, none⟩ (.int .i64 0)).setCell ⟨b, 8, none⟩ (.int .i64 0)).setCell ⟨b, 9, none⟩ (.int .i64 0)).setCell ⟨b, 10, none⟩ (.int .i64 0)).setCell ⟨b, 11, none⟩ (.int .i64 0)).setCell ⟨b, 12, none⟩ (.int .i64 0)).setCell ⟨b, 13, none⟩ (.int .i64 0)).setCell ⟨b, 14, none⟩ (.int .i64 0)) (some b) :=
  whole_blk (ints (List.replicate 15 0)) h rfl

set_option maxRecDepth 100000 in
set_option maxHeartbeats 1000000 in
theorem parse_big (s : ByteArray) (w : World) (hs : s.size ≤ 1125899906842624) :
    Calls Tryd.prog 21 #[.string s] w fun e w' => e = .returned (.tuple #[.agg (ints (statI (bl s)).1), .int .i64 ((statI (bl s)).2.1 : Int), .int .i64 (statI (bl s)).2.2]) ∧ Below w.heap.size w w' := by
  go_enter Tryd.func21, Tryd.ntmps21
  go_wp2_with fail
  generalize hz0 : Obj.cells _ 28 = Z
  generalize hL0 : Obj.cells _ 91 = L
  generalize hw1 : w.alloc Z = w1
  generalize hw2 : w1.alloc L = w2
  generalize hw3 : w2.alloc Z = w3
  generalize hb : w.heap.size = b
  have hs1 : w1.heap.size = b + 1 := by rw [← hw1, ← hb]; simp
  have hs2 : w2.heap.size = b + 1 + 1 := by rw [← hw2]; simp [hs1]
  have hs3 : w3.heap.size = b + 1 + 1 + 1 := by rw [← hw3]; simp [hs2]
  have hZ : Z = .cells (ints (List.replicate 15 0)) 28 (0, 0) := by rw [← hz0]; rfl
  have hL : L = .cells #[.string s, .int .i64 0] 91 (0, 0) := by rw [← hL0]
  have k1 : w1.heap[b]? = some Z := by rw [← hw1, ← hb]; exact blk_new w Z
  have k2 : w2.heap[b + 1]? = some L := by rw [← hw2, ← hs1]; exact blk_new w1 L
  have k3 : w3.heap[b + 1 + 1]? = some Z := by rw [← hw3, ← hs2]; exact blk_new w2 Z
  have k1' : w3.heap[b]? = some Z := by rw [← hw3]; refine blk_alloc ?_ Z; rw [← hw2]; exact blk_alloc k1 L
  have k2' : w3.heap[b + 1]? = some L := by rw [← hw3]; exact blk_alloc k2 Z
  have hB : Below w.heap.size w w3 := by
    rw [← hw3, ← hw2, ← hw1]
    exact ((((Below.refl _ _).alloc (Nat.le_refl _) _).alloc (by simp) _).alloc (by simp; omega) _)
  rw [hZ] at k1' k3
  rw [hL] at k2'
  clear k1 k2 hs1 hs2 hw1 hw2 hw3 hz0 hL0 hZ hL
  refine (parts_any w3).mono ?_
  rintro e w4 ⟨g, rfl, hg, hB4, hg4, hP⟩
  have hS : St w w4 w4 b s 0 (List.replicate 15 0) := ⟨⟨blk_below k2' hB4, by omega⟩, blk_below k1' hB4, blk_below k3 hB4, below_then hB (by omega) hB4, Nat.le_refl _, fun _ _ _ => rfl⟩
  have HS := Aside0.mk hS
  have HP := Aside0.mk hP
  have HH := Aside0.mk hb
  have hgb : b + 3 ≤ g := by omega
  have HB3 : Aside0 (w3.heap.size = b + 3) := ⟨hs3⟩
  have h4 : g < w4.heap.size := hg4
  clear hS hP hB4 hB k1' k2' k3 hg hs3 hb hg4
  have qT : ∀ (w : World) (a : Option Addr) (n c n' c' : Nat), (binOp .eql 45 (.slice a n c) (.slice none n' c')).run Tryd.prog w = .ok (.bool a.isNone) w := fun w a n c n' c' => Lib.run_eql_slice_nil w _ _ a n c n' c' Tryd.underlying45
  go_wp2
  go_loopg [18] 15 (fun kq v18 wr => ∃ (j n : Nat) (xs : List Int), j ≤ 15 ∧ kq = 15 - j ∧ v18 = .int .i64 j ∧ n ≤ s.size ∧ xs.length = 15 ∧ Aside0 (runI (bl s) (cTab.drop j) n j xs = runI (bl s) cTab 0 0 (List.replicate 15 0)) ∧ Aside0 (St w w4 wr b s n xs))
  case atStart => exact ⟨0, 0, List.replicate 15 0, by omega, rfl, rfl, by omega, by simp, ⟨rfl⟩, HS⟩
  case round =>
    clear HS
    obtain ⟨j, n, xs, hj, rfl, rfl, hn, hxs, HR, HS⟩ := hrel
    have hsz := HS.out.size
    by_cases hlt : j < 15
    · have hltb : decide ((j : Int) < 15) = true := decide_eq_true (by omega)
      obtain ⟨⟨ta, two, tl⟩, ht⟩ : ∃ t, cTab[j]? = some t := ⟨_, List.getElem?_eq_getElem hlt⟩
      have hf := cTab_facts j _ ht
      have hst := stepI_le ((bl s).drop n) j _ ht
      have HPj := Aside0.mk (HP.out j _ ht)
      obtain ⟨c0, ⟨v1, c1, hv1⟩, c2, c3⟩ := HS.out.piece HB3.out hgb HPj.out
      have hlen : (j : Int) < 15 := by omega
      simp only at c0 c1 c2 c3 hf hv1
      obtain ⟨hf1, hf2, hf3, hf4⟩ := hf
      have hca := com_le_left ((bl s).drop n) (bl ta)
      have hcb := com_le_right ((bl s).drop n) (bl ta)
      rw [List.length_drop, bl_length] at hca
      rw [bl_length] at hcb
      go_wp2_with fail
      refine (literal_any w _ _ n s ta hs (by omega) hn HS.out.1 HS.out.2.2.2.1).mono ?_
      rintro e w5 ⟨rfl, hI5, hB5, hK5⟩
      have HS5 := Aside0.mk (HS.out.call hI5 hB5 hK5)
      clear c0 c1 c2 c3 hv1 hI5 hB5 hK5 HS hsz
      have hsz := HS5.out.size
      by_cases hc : com ((bl s).drop n) (bl ta) = ta.size
      · have hcd : decide (com ((bl s).drop n) (bl ta) = ta.size) = true := decide_eq_true hc
        have HC := Aside0.mk hc
        obtain ⟨c0, ⟨v1, c1, hv1⟩, c2, c3⟩ := HS5.out.piece HB3.out hgb HPj.out
        simp only at c0 c1 c2 c3 hv1
        cases two with
        | none =>
          simp only at hv1
          subst hv1
          obtain rfl : tl = 0 := hf4
          have hnn : n + ta.size ≤ s.size := by omega
          clear hc
          go_wp2_with fail
          rw [HC.out] at HS5
          refine (number_any w _ _ (n + ta.size) s hs hnn HS5.out.1 HS5.out.2.2.2.1).mono ?_
          rintro e w6 ⟨rfl, hI6, hB6, hK6⟩
          have HS6 := Aside0.mk (HS5.out.call hI6 hB6 hK6)
          have hsi : stepI ((bl s).drop n) (ta, none, 0) = (ta.size + (nm ((bl s).drop (n + ta.size)) 0 0).1, nok (nm ((bl s).drop (n + ta.size)) 0 0), nval (nm ((bl s).drop (n + ta.size)) 0 0)) := by
            unfold stepI
            rw [if_pos HC.out, List.drop_drop]
          clear hI6 hB6 hK6 HS5 c0 c1 c2 c3 hsz
          have hsz := HS6.out.size
          have hgt := nm_ge ((bl s).drop (n + ta.size)) 0 0
          rw [List.length_drop, bl_length] at hgt
          rw [hsi] at hst
          generalize (nm ((bl s).drop (n + ta.size)) 0 0).1 = m at *
          generalize nval (nm ((bl s).drop (n + ta.size)) 0 0) = v at *
          generalize nok (nm ((bl s).drop (n + ta.size)) 0 0) = ok at *
          have HSI := Aside0.mk hsi
          clear hsi
          have l1 : w6.cell? ⟨b + 1, 1, none⟩ = some (.int .i64 (n + ta.size + m : Nat)) := cellS91_1 HS6.out.1.1
          cases ok with
          | false =>
            have HRes := Aside0.mk (run_fail ht HR.out _ _ HSI.out)
            have z0 : w6.cell? ⟨b, 0, none⟩ = some (.int .i64 0) := (blk_cell HS6.out.2.1 0).trans rfl
            have z1 : w6.cell? ⟨b, 1, none⟩ = some (.int .i64 0) := (blk_cell HS6.out.2.1 1).trans rfl
            have z2 : w6.cell? ⟨b, 2, none⟩ = some (.int .i64 0) := (blk_cell HS6.out.2.1 2).trans rfl
            have z3 : w6.cell? ⟨b, 3, none⟩ = some (.int .i64 0) := (blk_cell HS6.out.2.1 3).trans rfl
            have z4 : w6.cell? ⟨b, 4, none⟩ = some (.int .i64 0) := (blk_cell HS6.out.2.1 4).trans rfl
            have z5 : w6.cell? ⟨b, 5, none⟩ = some (.int .i64 0) := (blk_cell HS6.out.2.1 5).trans rfl
            have z6 : w6.cell? ⟨b, 6, none⟩ = some (.int .i64 0) := (blk_cell HS6.out.2.1 6).trans rfl
            have z7 : w6.cell? ⟨b, 7, none⟩ = some (.int .i64 0) := (blk_cell HS6.out.2.1 7).trans rfl
            have z8 : w6.cell? ⟨b, 8, none⟩ = some (.int .i64 0) := (blk_cell HS6.out.2.1 8).trans rfl
            have z9 : w6.cell? ⟨b, 9, none⟩ = some (.int .i64 0) := (blk_cell HS6.out.2.1 9).trans rfl
            have z10 : w6.cell? ⟨b, 10, none⟩ = some (.int .i64 0) := (blk_cell HS6.out.2.1 10).trans rfl
            have z11 : w6.cell? ⟨b, 11, none⟩ = some (.int .i64 0) := (blk_cell HS6.out.2.1 11).trans rfl
            have z12 : w6.cell? ⟨b, 12, none⟩ = some (.int .i64 0) := (blk_cell HS6.out.2.1 12).trans rfl
            have z13 : w6.cell? ⟨b, 13, none⟩ = some (.int .i64 0) := (blk_cell HS6.out.2.1 13).trans rfl
            have z14 : w6.cell? ⟨b, 14, none⟩ = some (.int .i64 0) := (blk_cell HS6.out.2.1 14).trans rfl
            have zf : ∀ i, w6.frozen? ⟨b, i, none⟩ = false := fun i => blk_frozen HS6.out.2.1 i
            go_wp2
            go_region
            go_wp2
            have hz := zero15 (W := w6) HS6.out.2.1
            refine bodyPost_ret (results_ctt rfl _ _ b 28 (ints (List.replicate 15 0)) (0, 0) _ rfl (blk_drew hz.1) Tryd.underlying28 rfl (by kernel_rfl)) rfl ?_
            rw [HRes.out]
            exact ⟨by rw [← Nat.add_assoc]; rfl, below_drew (pw_below_grown HS6.out.2.2.2.1 (some b) HS6.out.2.2.2.1.size hz.2 (fun k hk => by obtain rfl := Option.some.inj hk; rw [HH.out]; exact Nat.le_refl _))⟩
          | true =>
            have HRun : Aside0 (runI (bl s) (cTab.drop (j + 1)) (n + (ta.size + m)) (j + 1) (xs.set j v) = runI (bl s) cTab 0 0 (List.replicate 15 0)) := ⟨by have h := run_on ht HR.out _ _ HSI.out; rw [Int.add_zero] at h; exact h⟩
            obtain ⟨c0, ⟨v1, c1, hv1⟩, c2, c3⟩ := HS6.out.piece HB3.out hgb HPj.out
            simp only at c0 c1 c2 c3 hv1 hst
            obtain ⟨hst1, hst2, hst3⟩ := hst
            have hcf := fun args W => call_field j hlt args W
            go_wp2
            go_still_tail 12, (by kernel_rfl)
            still_call ((field_any j hlt (b + 1 + 1) _).mono (fun e w' h => ⟨h.1, h.2.symm⟩))
            repeat still_step
            refine wpStill_nil ?_
            have lj : w6.cell? ⟨b + 1 + 1, j, none⟩ = some (.int .i64 (xs.getD j 0)) := (blk_cell HS6.out.2.2.1 j).trans (ints_get xs j (by omega))
            have fj : w6.frozen? ⟨b + 1 + 1, j, none⟩ = false := blk_frozen HS6.out.2.2.1 j
            go_wp2
            go_roundg (15 - (j + 1))
            case measure => omega
            case rel => exact ⟨j + 1, n + (ta.size + m), xs.set j v, by omega, rfl, by go_num, by omega, by simp [hxs], HRun, ⟨(HS6.out.put (by rw [HH.out]; exact Nat.le_refl _) v).drew.as (by omega)⟩⟩
        | some ws =>
          simp only at hv1
          have hnn : n + ta.size ≤ s.size := by omega
          clear hc
          obtain ⟨ad, cc, rfl, hr⟩ := hv1.reads
          simp only at hf4
          go_wp2_with fail
          rw [HC.out] at HS5
          refine (oneOf_any w _ _ (n + ta.size) s (some ad) cc ws hs hf4.2 hnn hf4.1 hr HS5.out.1 HS5.out.2.2.2.1).mono ?_
          rintro e w6 ⟨rfl, hI6, hB6, hK6⟩
          have HS6 := Aside0.mk (HS5.out.call hI6 hB6 hK6)
          have hsi : stepI ((bl s).drop n) (ta, some ws, tl) = (ta.size + (pick ((bl s).drop (n + ta.size)) ws 0 0).1, (pick ((bl s).drop (n + ta.size)) ws 0 0).2.isSome, (((pick ((bl s).drop (n + ta.size)) ws 0 0).2.getD 0 : Nat) : Int)) := by
            unfold stepI
            rw [if_pos HC.out, List.drop_drop]
          clear hI6 hB6 hK6 HS5 c0 c1 c2 c3 hsz hv1 hr
          have hsz := HS6.out.size
          have hgt := (pick_le ((bl s).drop (n + ta.size)) ws 0 0 (Nat.zero_le _)).1
          rw [List.length_drop, bl_length] at hgt
          rw [hsi] at hst
          generalize (pick ((bl s).drop (n + ta.size)) ws 0 0).1 = m at *
          generalize (((pick ((bl s).drop (n + ta.size)) ws 0 0).2.getD 0 : Nat) : Int) = v at *
          generalize (pick ((bl s).drop (n + ta.size)) ws 0 0).2.isSome = ok at *
          have HSI := Aside0.mk hsi
          clear hsi
          have l1 : w6.cell? ⟨b + 1, 1, none⟩ = some (.int .i64 (n + ta.size + m : Nat)) := cellS91_1 HS6.out.1.1
          cases ok with
          | false =>
            have HRes := Aside0.mk (run_fail ht HR.out _ _ HSI.out)
            have z0 : w6.cell? ⟨b, 0, none⟩ = some (.int .i64 0) := (blk_cell HS6.out.2.1 0).trans rfl
            have z1 : w6.cell? ⟨b, 1, none⟩ = some (.int .i64 0) := (blk_cell HS6.out.2.1 1).trans rfl
            have z2 : w6.cell? ⟨b, 2, none⟩ = some (.int .i64 0) := (blk_cell HS6.out.2.1 2).trans rfl
            have z3 : w6.cell? ⟨b, 3, none⟩ = some (.int .i64 0) := (blk_cell HS6.out.2.1 3).trans rfl
            have z4 : w6.cell? ⟨b, 4, none⟩ = some (.int .i64 0) := (blk_cell HS6.out.2.1 4).trans rfl
            have z5 : w6.cell? ⟨b, 5, none⟩ = some (.int .i64 0) := (blk_cell HS6.out.2.1 5).trans rfl
            have z6 : w6.cell? ⟨b, 6, none⟩ = some (.int .i64 0) := (blk_cell HS6.out.2.1 6).trans rfl
            have z7 : w6.cell? ⟨b, 7, none⟩ = some (.int .i64 0) := (blk_cell HS6.out.2.1 7).trans rfl
            have z8 : w6.cell? ⟨b, 8, none⟩ = some (.int .i64 0) := (blk_cell HS6.out.2.1 8).trans rfl
            have z9 : w6.cell? ⟨b, 9, none⟩ = some (.int .i64 0) := (blk_cell HS6.out.2.1 9).trans rfl
            have z10 : w6.cell? ⟨b, 10, none⟩ = some (.int .i64 0) := (blk_cell HS6.out.2.1 10).trans rfl
            have z11 : w6.cell? ⟨b, 11, none⟩ = some (.int .i64 0) := (blk_cell HS6.out.2.1 11).trans rfl
            have z12 : w6.cell? ⟨b, 12, none⟩ = some (.int .i64 0) := (blk_cell HS6.out.2.1 12).trans rfl
            have z13 : w6.cell? ⟨b, 13, none⟩ = some (.int .i64 0) := (blk_cell HS6.out.2.1 13).trans rfl
            have z14 : w6.cell? ⟨b, 14, none⟩ = some (.int .i64 0) := (blk_cell HS6.out.2.1 14).trans rfl
            have zf : ∀ i, w6.frozen? ⟨b, i, none⟩ = false := fun i => blk_frozen HS6.out.2.1 i
            go_wp2
            go_region
            go_wp2
            have hz := zero15 (W := w6) HS6.out.2.1
            refine bodyPost_ret (results_ctt rfl _ _ b 28 (ints (List.replicate 15 0)) (0, 0) _ rfl (blk_drew hz.1) Tryd.underlying28 rfl (by kernel_rfl)) rfl ?_
            rw [HRes.out]
            exact ⟨by rw [← Nat.add_assoc]; rfl, below_drew (pw_below_grown HS6.out.2.2.2.1 (some b) HS6.out.2.2.2.1.size hz.2 (fun k hk => by obtain rfl := Option.some.inj hk; rw [HH.out]; exact Nat.le_refl _))⟩
          | true =>
            have HRun := Aside0.mk (run_on ht HR.out _ _ HSI.out)
            obtain ⟨c0, ⟨v1, c1, hv1⟩, c2, c3⟩ := HS6.out.piece HB3.out hgb HPj.out
            simp only at c0 c1 c2 c3 hv1 hst
            obtain ⟨hst1, hst2, hst3⟩ := hst
            have hcf := fun args W => call_field j hlt args W
            go_wp2
            go_still_tail 12, (by kernel_rfl)
            still_call ((field_any j hlt (b + 1 + 1) _).mono (fun e w' h => ⟨h.1, h.2.symm⟩))
            repeat still_step
            refine wpStill_nil ?_
            have lj : w6.cell? ⟨b + 1 + 1, j, none⟩ = some (.int .i64 (xs.getD j 0)) := (blk_cell HS6.out.2.2.1 j).trans (ints_get xs j (by omega))
            have fj : w6.frozen? ⟨b + 1 + 1, j, none⟩ = false := blk_frozen HS6.out.2.2.1 j
            go_wp2
            go_roundg (15 - (j + 1))
            case measure => omega
            case rel => exact ⟨j + 1, n + (ta.size + m), xs.set j (v + tl), by omega, rfl, by go_num, by omega, by simp [hxs], HRun, ⟨(HS6.out.put (by rw [HH.out]; exact Nat.le_refl _) (v + tl)).drew.as (by omega)⟩⟩
      · have hcd : decide (com ((bl s).drop n) (bl ta) = ta.size) = false := decide_eq_false hc
        have HC := Aside0.mk hc
        clear hc
        have l1 : w5.cell? ⟨b + 1, 1, none⟩ = some (.int .i64 (n + com ((bl s).drop n) (bl ta) : Nat)) := cellS91_1 HS5.out.1.1
        have HRes := Aside0.mk (run_fail ht HR.out (com ((bl s).drop n) (bl ta)) 0 (by unfold stepI; rw [if_neg HC.out]))
        generalize com ((bl s).drop n) (bl ta) = c at *
        have z0 : w5.cell? ⟨b, 0, none⟩ = some (.int .i64 0) := (blk_cell HS5.out.2.1 0).trans rfl
        have z1 : w5.cell? ⟨b, 1, none⟩ = some (.int .i64 0) := (blk_cell HS5.out.2.1 1).trans rfl
        have z2 : w5.cell? ⟨b, 2, none⟩ = some (.int .i64 0) := (blk_cell HS5.out.2.1 2).trans rfl
        have z3 : w5.cell? ⟨b, 3, none⟩ = some (.int .i64 0) := (blk_cell HS5.out.2.1 3).trans rfl
        have z4 : w5.cell? ⟨b, 4, none⟩ = some (.int .i64 0) := (blk_cell HS5.out.2.1 4).trans rfl
        have z5 : w5.cell? ⟨b, 5, none⟩ = some (.int .i64 0) := (blk_cell HS5.out.2.1 5).trans rfl
        have z6 : w5.cell? ⟨b, 6, none⟩ = some (.int .i64 0) := (blk_cell HS5.out.2.1 6).trans rfl
        have z7 : w5.cell? ⟨b, 7, none⟩ = some (.int .i64 0) := (blk_cell HS5.out.2.1 7).trans rfl
        have z8 : w5.cell? ⟨b, 8, none⟩ = some (.int .i64 0) := (blk_cell HS5.out.2.1 8).trans rfl
        have z9 : w5.cell? ⟨b, 9, none⟩ = some (.int .i64 0) := (blk_cell HS5.out.2.1 9).trans rfl
        have z10 : w5.cell? ⟨b, 10, none⟩ = some (.int .i64 0) := (blk_cell HS5.out.2.1 10).trans rfl
        have z11 : w5.cell? ⟨b, 11, none⟩ = some (.int .i64 0) := (blk_cell HS5.out.2.1 11).trans rfl
        have z12 : w5.cell? ⟨b, 12, none⟩ = some (.int .i64 0) := (blk_cell HS5.out.2.1 12).trans rfl
        have z13 : w5.cell? ⟨b, 13, none⟩ = some (.int .i64 0) := (blk_cell HS5.out.2.1 13).trans rfl
        have z14 : w5.cell? ⟨b, 14, none⟩ = some (.int .i64 0) := (blk_cell HS5.out.2.1 14).trans rfl
        have zf : ∀ i, w5.frozen? ⟨b, i, none⟩ = false := fun i => blk_frozen HS5.out.2.1 i
        go_wp2
        go_region
        go_wp2
        have hz := zero15 (W := w5) HS5.out.2.1
        refine bodyPost_ret (results_ctt rfl _ _ b 28 (ints (List.replicate 15 0)) (0, 0) _ rfl (blk_drew hz.1) Tryd.underlying28 rfl (by kernel_rfl)) rfl ?_
        rw [HRes.out]
        exact ⟨rfl, below_drew (pw_below_grown HS5.out.2.2.2.1 (some b) HS5.out.2.2.2.1.size hz.2 (fun k hk => by obtain rfl := Option.some.inj hk; rw [HH.out]; exact Nat.le_refl _))⟩
    · have hltb : decide ((j : Int) < 15) = false := decide_eq_false (by omega)
      have l1 : wr.cell? ⟨b + 1, 1, none⟩ = some (.int .i64 n) := cellS91_1 HS.out.1.1
      have hrun : runI (bl s) cTab 0 0 (List.replicate 15 0) = (n, some xs) := by rw [← HR.out, List.drop_of_length_le (show cTab.length ≤ j from (by have : cTab.length = 15 := rfl; omega))]; rfl
      have HRun := Aside0.mk hrun
      clear hrun
      by_cases hend : n < s.size
      · have HRes : Aside0 (statI (bl s) = (List.replicate 15 0, n, 126)) := ⟨by unfold statI; rw [HRun.out]; simp only; rw [if_pos (by rw [bl_length]; exact hend)]⟩
        have z0 : wr.cell? ⟨b, 0, none⟩ = some (.int .i64 0) := (blk_cell HS.out.2.1 0).trans rfl
        have z1 : wr.cell? ⟨b, 1, none⟩ = some (.int .i64 0) := (blk_cell HS.out.2.1 1).trans rfl
        have z2 : wr.cell? ⟨b, 2, none⟩ = some (.int .i64 0) := (blk_cell HS.out.2.1 2).trans rfl
        have z3 : wr.cell? ⟨b, 3, none⟩ = some (.int .i64 0) := (blk_cell HS.out.2.1 3).trans rfl
        have z4 : wr.cell? ⟨b, 4, none⟩ = some (.int .i64 0) := (blk_cell HS.out.2.1 4).trans rfl
        have z5 : wr.cell? ⟨b, 5, none⟩ = some (.int .i64 0) := (blk_cell HS.out.2.1 5).trans rfl
        have z6 : wr.cell? ⟨b, 6, none⟩ = some (.int .i64 0) := (blk_cell HS.out.2.1 6).trans rfl
        have z7 : wr.cell? ⟨b, 7, none⟩ = some (.int .i64 0) := (blk_cell HS.out.2.1 7).trans rfl
        have z8 : wr.cell? ⟨b, 8, none⟩ = some (.int .i64 0) := (blk_cell HS.out.2.1 8).trans rfl
        have z9 : wr.cell? ⟨b, 9, none⟩ = some (.int .i64 0) := (blk_cell HS.out.2.1 9).trans rfl
        have z10 : wr.cell? ⟨b, 10, none⟩ = some (.int .i64 0) := (blk_cell HS.out.2.1 10).trans rfl
        have z11 : wr.cell? ⟨b, 11, none⟩ = some (.int .i64 0) := (blk_cell HS.out.2.1 11).trans rfl
        have z12 : wr.cell? ⟨b, 12, none⟩ = some (.int .i64 0) := (blk_cell HS.out.2.1 12).trans rfl
        have z13 : wr.cell? ⟨b, 13, none⟩ = some (.int .i64 0) := (blk_cell HS.out.2.1 13).trans rfl
        have z14 : wr.cell? ⟨b, 14, none⟩ = some (.int .i64 0) := (blk_cell HS.out.2.1 14).trans rfl
        have zf : ∀ i, wr.frozen? ⟨b, i, none⟩ = false := fun i => blk_frozen HS.out.2.1 i
        go_wp2
        go_region
        go_wp2
        have hz := zero15 (W := wr) HS.out.2.1
        refine bodyPost_ret (results_ctt rfl _ _ b 28 (ints (List.replicate 15 0)) (0, 0) _ rfl (blk_drew hz.1) Tryd.underlying28 rfl (by kernel_rfl)) rfl ?_
        rw [HRes.out]
        exact ⟨rfl, below_drew (pw_below_grown HS.out.2.2.2.1 (some b) HS.out.2.2.2.1.size hz.2 (fun k hk => by obtain rfl := Option.some.inj hk; rw [HH.out]; exact Nat.le_refl _))⟩
      · have HRes : Aside0 (statI (bl s) = (xs, 0, 0)) := ⟨by unfold statI; rw [HRun.out]; simp only; rw [if_neg (by rw [bl_length]; exact hend)]⟩
        have h15 : (ints xs).size = 15 := by simp [ints, hxs]
        have hi15 : (Tryd.prog.info? 28).map (·.size) = some (ints xs).size := by rw [h15]; kernel_rfl
        have hone : ∀ q ∈ (ints xs).toList, q.oneCell' = true := by
          intro q hq
          simp only [ints, List.mem_map] at hq
          obtain ⟨x, _, rfl⟩ := hq
          rfl
        have hsz : (ints xs).size = (ints (List.replicate 15 0)).size := by rw [h15]; rfl
        clear h15
        go_wp2_with (first | refine wpList_load_row rfl 28 _ rfl (b + 1 + 1) rfl 28 (ints xs) (0, 0) _ HS.out.2.2.1 Tryd.underlying28 rfl hi15 ?_ | (refine store_whole rfl rfl rfl (g := b) rfl (ints xs) rfl HS.out.2.1 hi15 hsz hone ?_; intro w6 hZ6 hg6))
        refine bodyPost_ret (results_ctt rfl _ _ b 28 (ints xs) (0, 0) _ rfl hZ6 Tryd.underlying28 rfl hi15) rfl ?_
        rw [HRes.out]
        exact ⟨rfl, pw_below_grown HS.out.2.2.2.1 (some b) HS.out.2.2.2.1.size hg6 (fun k hk => by obtain rfl := Option.some.inj hk; rw [HH.out]; exact Nat.le_refl _)⟩
theorem parse_any (s : ByteArray) (w : World) (hs : s.size ≤ 140737488351232) :
    Calls Tryd.prog 21 #[.string s] w fun e w' => e = .returned (.tuple #[.agg (ints (statI (bl s)).1), .int .i64 ((statI (bl s)).2.1 : Int), .int .i64 (statI (bl s)).2.2]) ∧ Below w.heap.size w w' := parse_big s w (Nat.le_trans hs (by decide))
end Go.Proofs.YtfecfgimfjcbdaaDoor.Cf
