/- The reference's Status: the plain words, the digits, the walk. -/
import Derived.Test.YtfecfgimfjcbdaaDoorConfJ
import Derived.Test.YtfecfgimfjcbdaaDoorConfT
import Derived.Test.YtfecfgimfjcbdaaDoorQRStatus1
namespace Go.Proofs.YtfecfgimfjcbdaaDoor.Cf
open Go.RowKit Go.Proofs.YtfecfgimfjcbdaaDoorW.PrintWords Go.Proofs.YtfecfgimfjcbdaaDoorW.PrintLast Go.Proofs.YtfecfgimfjcbdaaDoorW.PrintMore

/-- What a part that is no text writes. -/
def wrR : Pt → Int → Option (List UInt8)
  | .words ws, n => if 0 ≤ n ∧ n < ws.length then some (bl (rdOf ByteArray.empty ws n)) else none
  | _, n => if 0 ≤ n then some (Lib.itoa n) else none
def outR : List Pt → List Int → List UInt8 → Option (List UInt8)
  | .lit t :: ps, ns, l => outR ps ns (l ++ bl t)
  | p :: ps, n :: ns, l => (wrR p n).bind fun x => outR ps ns (l ++ x)
  | _, _, l => some l
def lineR (xs : List Int) : List UInt8 × Int :=
  if xs.getD 5 0 < 1 then ([], 1) else
  match outR rTab (xs.set 5 (xs.getD 5 0 - 1)) [] with
  | some l => (l, 0)
  | none => ([], 1)

theorem digits_l0 : ∀ (n : Nat), n ≤ 9223372036854775807 → ∀ y : ByteArray, y.size + Lib.nDigits n ≤ 9223372036854775807 →
    ∃ k, QRStatus.replicaref12_digits.l0 k n (strOfNums [(wrap64 (48 + (Int.tmod (n : Int) 10))) % 256] ++ y) = some (⟨(Lib.decDigits n).toArray⟩ ++ y) := by
  intro n
  induction n using Nat.strongRecOn with
  | _ n ih =>
    intro hn y hy
    have e1 : Int.tmod (n : Int) 10 = ((n % 10 : Nat) : Int) := by rw [Int.tmod_eq_emod_of_nonneg (by omega)]; rfl
    have e2 : wrap64 (48 + ((n % 10 : Nat) : Int)) = ((48 + n % 10 : Nat) : Int) := by rw [wrap_id (by omega) (by omega)]; omega
    have e3 : (((48 + n % 10 : Nat) : Int)) % 256 = ((48 + n % 10 : Nat) : Int) := by omega
    rw [e1, e2, e3]
    have e4 : strOfNums [((48 + n % 10 : Nat) : Int)] = ⟨#[UInt8.ofNat (48 + n % 10)]⟩ := by
      show (⟨#[UInt8.ofNat ((48 + n % 10 : Nat) : Int).toNat]⟩ : ByteArray) = _
      rw [Int.toNat_natCast]
    rw [e4]
    by_cases h : n < 10
    · refine ⟨1, ?_⟩
      unfold QRStatus.replicaref12_digits.l0
      rw [if_neg (by omega), Lib.decDigits_one h, Nat.mod_eq_of_lt h]
    · have hd : wrap64 (Int.tdiv (n : Int) 10) = ((n / 10 : Nat) : Int) := by
        rw [Int.tdiv_eq_ediv_of_nonneg (by omega), wrap_id (by omega) (by omega)]; rfl
      have hs : ((⟨#[UInt8.ofNat (48 + n % 10)]⟩ : ByteArray) ++ y).size = y.size + 1 := by rw [ByteArray.size_append]; show 1 + y.size = _; omega
      have hb := Lib.nDigits_big h
      obtain ⟨k, hk⟩ := ih (n / 10) (by omega) (by omega) ((⟨#[UInt8.ofNat (48 + n % 10)]⟩ : ByteArray) ++ y) (by rw [hs]; omega)
      refine ⟨k + 1, ?_⟩
      unfold QRStatus.replicaref12_digits.l0
      rw [if_pos (by omega), Option.bind_some, hd, hs, if_pos (by have := Lib.nDigits_pos (n / 10); show 1 + (y.size + 1) ≤ _; omega), hk]
      rw [show Lib.decDigits n = Lib.decDigits (n / 10) ++ [UInt8.ofNat (48 + n % 10)] by rw [Lib.decDigits, dif_neg h], ← ByteArray.append_assoc]
      congr 1
theorem digits_f (n : Int) (h0 : 0 ≤ n) (h1 : n ≤ 9223372036854775807) : ∃ k, QRStatus.replicaref12_digits.f k n = some ⟨(Lib.itoa n).toArray⟩ := by
  obtain ⟨m, rfl⟩ : ∃ m : Nat, n = m := ⟨n.toNat, by omega⟩
  have hm : m ≤ 9223372036854775807 := by omega
  have hd := nDigits_le 19 m (by omega) (Nat.lt_of_le_of_lt hm (by decide))
  obtain ⟨k, hk⟩ := digits_l0 m hm ByteArray.empty (by show 0 + _ ≤ _; omega)
  refine ⟨k, ?_⟩
  unfold QRStatus.replicaref12_digits.f
  have e : ∀ z : ByteArray, z ++ ByteArray.empty = z := fun z => by simp
  rw [e, e] at hk
  rw [hk]
  unfold Lib.itoa
  rw [if_neg (by omega)]
  rfl
theorem digits_any (n : Int) (h0 : 0 ≤ n) (h1 : n ≤ 9223372036854775807) (w : World) : Calls Tryd.prog 47 #[.int .i64 n] w fun e w' => e = .returned (.string ⟨(Lib.itoa n).toArray⟩) ∧ Below w.heap.size w w' := by
  obtain ⟨k, hk⟩ := digits_f n h0 h1
  exact QRStatus.replicaref12_digits.calls k n _ w hk

theorem fifteen' {xs : List Int} (h : xs.length = 15) : ∃ a b c d e f g h i j k l m n o, xs = [a, b, c, d, e, f, g, h, i, j, k, l, m, n, o] := by
  rcases xs with _ | ⟨a, _ | ⟨b, _ | ⟨c, _ | ⟨d, _ | ⟨e, _ | ⟨f, _ | ⟨g, _ | ⟨h', _ | ⟨i, _ | ⟨j, _ | ⟨k, _ | ⟨l, _ | ⟨m, _ | ⟨n, _ | ⟨o, xs⟩⟩⟩⟩⟩⟩⟩⟩⟩⟩⟩⟩⟩⟩⟩ <;> simp only [List.length_nil, List.length_cons] at h
  all_goals try omega
  have : xs = [] := List.length_eq_zero_iff.1 (by omega)
  subst this
  exact ⟨a, b, c, d, e, f, g, h', i, j, k, l, m, n, o, rfl⟩
theorem fields_any (xs : List Int) (hx : xs.length = 15) (h5 : -9223372036854775807 ≤ xs.getD 5 0) (h5' : xs.getD 5 0 ≤ 9223372036854775807) (w : World) :
    Calls Tryd.prog 46 #[.agg (ints xs)] w fun e w' => ∃ (A : Addr) (c : Nat), e = .returned (.slice (some A) 15 c) ∧ Kd.C (Kd.int .i64) w' (some A) 15 (xs.set 5 (xs.getD 5 0 - 1)) ∧ Below w.heap.size w w' := by
  obtain ⟨x0, x1, x2, x3, x4, x5, x6, x7, x8, x9, x10, x11, x12, x13, x14, rfl⟩ := fifteen' hx
  have h5 : -9223372036854775807 ≤ x5 := h5
  have h5' : x5 ≤ 9223372036854775807 := h5'
  refine (QRStatus.replicaref12_fields.calls x0 x1 x2 x3 x4 x5 x6 x7 x8 x9 x10 x11 x12 x13 x14 _ w rfl).mono ?_
  rintro e w' ⟨v, rfl, hR, hB⟩
  obtain ⟨ad, c, rfl⟩ := Kd.R_slice1 hR (Nat.zero_lt_succ _)
  refine ⟨ad, c, rfl, ?_, hB⟩
  have e : wrap64 (x5 - 1) = x5 - 1 := wrap_id (by omega) (by omega)
  have hC := (Kd.R_reads' hR).2.2
  rw [e] at hC
  exact hC

/-- How many values the first i parts have. -/
def cntU (i : Nat) : Nat := ((rTab.take i).filter fun p => !p.isLit).length
theorem cntU_succ {i : Nat} {p : Pt} (h : rTab[i]? = some p) : cntU (i + 1) = cntU i + if p.isLit = true then 0 else 1 := by
  unfold cntU
  rw [List.take_add_one, h, List.filter_append, List.length_append]
  cases hl : p.isLit <;> simp [hl]
theorem cntU_le (i : Nat) : cntU i ≤ 15 := by
  have h : ((rTab.take i).filter fun p => !p.isLit).Sublist (rTab.filter fun p => !p.isLit) := (List.take_sublist i rTab).filter _
  exact h.length_le
theorem bl_app (a b : ByteArray) : bl (a ++ b) = bl a ++ bl b := by simp [bl]

set_option maxRecDepth 100000 in
set_option maxHeartbeats 1000000 in
theorem refstatus_any (xs : List Int) (hx : xs.length = 15) (hbd : ∀ x ∈ xs, -9223372036854775808 ≤ x ∧ x ≤ 9223372036854775807) (w : World) :
    Calls Tryd.prog 17 #[.agg (ints xs)] w fun e w' => e = .returned (.tuple #[.string ⟨(lineR xs).1.toArray⟩, .int .i64 (lineR xs).2]) ∧ Below w.heap.size w w' := by
  obtain ⟨x5, h5, h5g⟩ : ∃ x, xs[5]? = some x ∧ xs.getD 5 0 = x := ⟨_, List.getElem?_eq_getElem (by omega), by simp [List.getD_eq_getElem?_getD, hx]⟩
  obtain ⟨hx0, hx1⟩ := hbd x5 (List.mem_of_getElem? h5)
  have hc5 : (ints xs)[5]? = some (.int .i64 x5) := by simp [ints, h5]
  by_cases hp : x5 < 1
  · have hpb : decide (x5 < 1) = true := decide_eq_true hp
    have HRes : Aside0 (lineR xs = ([], 1)) := ⟨by unfold lineR; rw [h5g, if_pos hp]⟩
    go_enter Tryd.func17, Tryd.ntmps17
    go_wp2
    go_ret2
    rw [HRes.out]
    exact ⟨rfl, (Below.refl _ _).alloc (Nat.le_refl _) _⟩
  · have hpb : decide (x5 < 1) = false := decide_eq_false hp
    go_enter Tryd.func17, Tryd.ntmps17
    go_wp2_with fail
    generalize hw1 : w.alloc (.cells (ints xs) 28) = w1
    generalize hb : w.heap.size = b
    have hs1 : w1.heap.size = b + 1 := by rw [← hw1, ← hb]; simp
    have k1 : w1.heap[b]? = some (.cells (ints xs) 28 (0, 0)) := by rw [← hw1, ← hb]; exact blk_new w _
    have hB : Below w.heap.size w w1 := by rw [← hw1]; exact (Below.refl _ _).alloc (Nat.le_refl _) _
    clear hw1
    refine (refparts_any w1).mono ?_
    rintro e w2 ⟨g, c, rfl, hB2, hP⟩
    have K2 := Aside0.mk (blk_below k1 hB2)
    have HB2 := Aside0.mk (below_then hB (by omega) hB2)
    have HP := Aside0.mk hP
    clear hB2 hP hB k1 hs1
    have h15 : (ints xs).size = 15 := by simp [ints, hx]
    have hi15 : (Tryd.prog.info? 28).map (·.size) = some (ints xs).size := by rw [h15]; kernel_rfl
    go_wp2_with ((with_reducible refine gate_dst (N := 15) rfl ?_); refine wpList_load_row rfl 28 _ rfl b rfl 28 _ (0, 0) _ K2.out Tryd.underlying28 rfl hi15 ?_)
    refine (fields_any xs hx (by rw [h5g]; omega) (by rw [h5g]; exact hx1) _).mono ?_
    rintro e w3 ⟨A, cn, rfl, hC, hB3⟩
    have hB4 := below_then HB2.out HB2.out.size hB3
    rw [h5g] at hC
    generalize hys : xs.set 5 (x5 - 1) = ys at *
    have hyl : ys.length = 15 := by rw [← hys, List.length_set]; exact hx
    have hyb : ∀ y ∈ ys, -9223372036854775808 ≤ y ∧ y ≤ 9223372036854775807 := by
      intro y hy
      rw [← hys] at hy
      rcases List.mem_or_eq_of_mem_set hy with h | rfl
      · exact hbd y h
      · omega
    have HL : Aside0 (lineR xs = match outR rTab ys [] with | some l => (l, 0) | none => ([], 1)) := ⟨by unfold lineR; rw [h5g, if_neg (by omega), hys]⟩
    have HPB : Aside0 (∀ (i : Nat) (p : Pt), rTab[i]? = some p → PieceR w3 g i p) := ⟨fun i p h => (HP.out i p h).below hB3⟩
    have HB4 := Aside0.mk hB4
    have HC := Aside0.mk hC
    have HYL := Aside0.mk hyl
    have HYB := Aside0.mk hyb
    clear hB3 hB4 hC HP HB2 K2 hc5 h5 h5g hi15 h15 hys hyl hyb hbd hx hx0 hx1 hp hpb hb
    go_wp2
    have HBr := Aside0.mk (Below.refl w3.heap.size w3)
    go_loopg [6, 7, 8] 30 (fun kq v6 v7 v8 wr => ∃ (i j : Nat) (z : ByteArray), i ≤ 30 ∧ kq = 30 - i ∧ v6 = .int .i64 j ∧ v7 = .string z ∧ v8 = .int .i64 i ∧ j ≤ 15 ∧ z.size ≤ 1000 * i ∧ Aside0 (j = cntU i) ∧ Aside0 (outR (rTab.drop i) (ys.drop j) (bl z) = outR rTab ys []) ∧ Aside0 (Below w3.heap.size w3 wr))
    case atStart => exact ⟨0, 0, ⟨#[]⟩, by omega, rfl, rfl, rfl, rfl, by omega, by decide, ⟨rfl⟩, ⟨rfl⟩, HBr⟩
    case round =>
      clear HBr
      obtain ⟨i, j, z, hi, rfl, rfl, rfl, rfl, hj, hz, HJ, HR, HW⟩ := hrel
      by_cases hlt : i < 30
      · have hltb : decide ((i : Int) < 30) = true := decide_eq_true (by omega)
        obtain ⟨p, ht⟩ : ∃ p, rTab[i]? = some p := ⟨_, List.getElem?_eq_getElem hlt⟩
        obtain ⟨t, v, bb, ws, c0, c1, c2, ⟨A2, cc, rfl, hcc, hC2⟩, hpt, htl⟩ := (HPB.out i p ht).below HW.out
        have HC2 := Aside0.mk hC2
        have HT := Aside0.mk ht
        clear hC2 ht
        cases p with
        | lit t' =>
          obtain ⟨rfl, hte0, hts⟩ := hpt
          have hte : t.toList.isEmpty = false := by
            cases h : t.toList with
            | nil => exact absurd h hte0
            | cons a l => rfl
          have HX' : Aside0 (j = cntU (i + 1)) := ⟨by rw [cntU_succ HT.out, ← HJ.out]; rfl⟩
          have HR' : Aside0 (outR (rTab.drop (i + 1)) (ys.drop j) (bl (z ++ t)) = outR rTab ys []) := ⟨by
            rw [← HR.out, show rTab.drop i = Pt.lit t :: rTab.drop (i + 1) by rw [List.drop_eq_getElem?_toList_append, HT.out]; rfl, bl_app]
            rfl⟩
          have hz' : (z ++ t).size ≤ 1000 * (i + 1) := by rw [ByteArray.size_append]; omega
          clear htl hte0
          go_wp2
          go_roundg (30 - (i + 1))
          case measure => omega
          case rel => exact ⟨i + 1, j, z ++ t, by omega, rfl, rfl, rfl, by go_num, hj, hz', HX', HR', ⟨HW.out.alloc HW.out.size _⟩⟩
        | words ws' =>
          obtain ⟨rfl, rfl, rfl, hwl, hws⟩ := hpt
          have hte : ByteArray.empty.toList.isEmpty = true := by decide +kernel
          have hj15 : j < 15 := by
            have h1 := cntU_succ HT.out
            have h2 := cntU_le (i + 1)
            rw [← HJ.out] at h1
            simp [Pt.isLit] at h1
            omega
          have hJ1 : Aside0 (j + 1 = cntU (i + 1)) := ⟨by rw [cntU_succ HT.out, ← HJ.out]; rfl⟩
          obtain ⟨y, hy⟩ : ∃ y, ys[j]? = some y := ⟨_, List.getElem?_eq_getElem (by rw [HYL.out]; exact hj15)⟩
          have hrd : rd ys (j : Int) = y := by simp [rd, hy]
          obtain ⟨A', e1, cy⟩ := Kd.at_int HC.out (j : Int) (by omega) (by omega)
          cases e1
          rw [hrd, Int.toNat_natCast] at cy
          have cy : ∀ o : Obj, (wr.alloc o).cell? (A.add j) = some (.int .i64 y) := fun o => pw_cell_below (HW.out.alloc HW.out.size o) cy
          have hst : Aside0 (outR (rTab.drop i) (ys.drop j) (bl z) = (wrR (.words ws) y).bind fun x => outR (rTab.drop (i + 1)) (ys.drop (j + 1)) (bl z ++ x)) := ⟨by
            rw [show rTab.drop i = Pt.words ws :: rTab.drop (i + 1) by rw [List.drop_eq_getElem?_toList_append, HT.out]; rfl,
              show ys.drop j = y :: ys.drop (j + 1) by rw [List.drop_eq_getElem?_toList_append, hy]; rfl]
            rfl⟩
          have hjc : (j : Int) < 15 := by omega
          obtain ⟨hy0, hy1⟩ := HYB.out y (List.mem_of_getElem? hy)
          clear hrd hy htl
          by_cases hn0 : y < 0
          · have hb0 : decide (y < 0) = true := decide_eq_true hn0
            have HRes : Aside0 (lineR xs = ([], 1)) := ⟨by
              rw [HL.out, ← HR.out, hst.out]
              have : wrR (.words ws) y = none := by unfold wrR; simp only; rw [if_neg (fun h => by omega)]
              rw [this]
              rfl⟩
            go_wp2
            go_ret2
            rw [HRes.out]
            exact ⟨rfl, below_then HB4.out HB4.out.size (HW.out.alloc HW.out.size _)⟩
          · have hb0 : decide (y < 0) = false := decide_eq_false hn0
            by_cases hnw : (ws.length : Int) ≤ y
            · have hbw : decide ((ws.length : Int) ≤ y) = true := decide_eq_true hnw
              have HRes : Aside0 (lineR xs = ([], 1)) := ⟨by
                rw [HL.out, ← HR.out, hst.out]
                have : wrR (.words ws) y = none := by unfold wrR; simp only; rw [if_neg (fun h => by omega)]
                rw [this]
                rfl⟩
              go_wp2
              go_ret2
              rw [HRes.out]
              exact ⟨rfl, below_then HB4.out HB4.out.size (HW.out.alloc HW.out.size _)⟩
            · have hbw : decide ((ws.length : Int) ≤ y) = false := decide_eq_false hnw
              have hy2 : 0 ≤ y := by omega
              have hy3 : y < ws.length := by omega
              obtain ⟨ad, rfl, cs⟩ := Kd.at_string HC2.out y hy2 hy3
              have cs : ∀ o : Obj, (wr.alloc o).cell? (ad.add y.toNat) = some (.string (rdOf ByteArray.empty ws y)) := fun o => pw_cell_below ((Below.refl _ wr).alloc (Nat.le_refl _) o) cs
              have hsz : (rdOf ByteArray.empty ws y).size ≤ 100 := by
                refine hws _ ?_
                unfold rdOf
                have hlw : y.toNat < ws.length := by omega
                rw [List.getD_eq_getElem?_getD, List.getElem?_eq_getElem hlw]
                exact List.getElem_mem hlw
              have hw : wrR (.words ws) y = some (bl (rdOf ByteArray.empty ws y)) := by unfold wrR; simp only; rw [if_pos ⟨hy2, hy3⟩]
              have HW2 := Aside0.mk hw
              clear hw
              generalize rdOf ByteArray.empty ws y = sw at *
              have HR' : Aside0 (outR (rTab.drop (i + 1)) (ys.drop (j + 1)) (bl (z ++ sw)) = outR rTab ys []) := ⟨by
                rw [← HR.out, hst.out, HW2.out, bl_app]
                rfl⟩
              have hz' : (z ++ sw).size ≤ 1000 * (i + 1) := by rw [ByteArray.size_append]; omega
              go_wp2
              go_roundg (30 - (i + 1))
              case measure => omega
              case rel => exact ⟨i + 1, j + 1, z ++ sw, by omega, rfl, by go_num, rfl, by go_num, by omega, hz', hJ1, HR', ⟨HW.out.alloc HW.out.size _⟩⟩
        | num =>
          obtain ⟨rfl, rfl⟩ := hpt
          have hte : ByteArray.empty.toList.isEmpty = true := by decide +kernel
          have hj15 : j < 15 := by
            have h1 := cntU_succ HT.out
            have h2 := cntU_le (i + 1)
            rw [← HJ.out] at h1
            simp [Pt.isLit] at h1
            omega
          have hJ1 : Aside0 (j + 1 = cntU (i + 1)) := ⟨by rw [cntU_succ HT.out, ← HJ.out]; rfl⟩
          obtain ⟨y, hy⟩ : ∃ y, ys[j]? = some y := ⟨_, List.getElem?_eq_getElem (by rw [HYL.out]; exact hj15)⟩
          have hrd : rd ys (j : Int) = y := by simp [rd, hy]
          obtain ⟨A', e1, cy⟩ := Kd.at_int HC.out (j : Int) (by omega) (by omega)
          cases e1
          rw [hrd, Int.toNat_natCast] at cy
          have cy : ∀ o : Obj, (wr.alloc o).cell? (A.add j) = some (.int .i64 y) := fun o => pw_cell_below (HW.out.alloc HW.out.size o) cy
          have hst : Aside0 (outR (rTab.drop i) (ys.drop j) (bl z) = (wrR .num y).bind fun x => outR (rTab.drop (i + 1)) (ys.drop (j + 1)) (bl z ++ x)) := ⟨by
            rw [show rTab.drop i = Pt.num :: rTab.drop (i + 1) by rw [List.drop_eq_getElem?_toList_append, HT.out]; rfl,
              show ys.drop j = y :: ys.drop (j + 1) by rw [List.drop_eq_getElem?_toList_append, hy]; rfl]
            rfl⟩
          have hjc : (j : Int) < 15 := by omega
          obtain ⟨hy0, hy1⟩ := HYB.out y (List.mem_of_getElem? hy)
          clear hrd hy htl
          by_cases hn0 : y < 0
          · have hb0 : decide (y < 0) = true := decide_eq_true hn0
            have HRes : Aside0 (lineR xs = ([], 1)) := ⟨by
              rw [HL.out, ← HR.out, hst.out]
              have : wrR .num y = none := by unfold wrR; simp only; rw [if_neg (fun h => by omega)]
              rw [this]
              rfl⟩
            go_wp2
            go_ret2
            rw [HRes.out]
            exact ⟨rfl, below_then HB4.out HB4.out.size (HW.out.alloc HW.out.size _)⟩
          · have hb0 : decide (y < 0) = false := decide_eq_false hn0
            have hy2 : 0 ≤ y := by omega
            have hw : wrR .num y = some (Lib.itoa y) := by unfold wrR; simp only; rw [if_pos hy2]
            have HW2 := Aside0.mk hw
            clear hw
            have hit := itoa_length hy2 hy1
            have HR' : Aside0 (outR (rTab.drop (i + 1)) (ys.drop (j + 1)) (bl (z ++ ⟨(Lib.itoa y).toArray⟩)) = outR rTab ys []) := ⟨by
              rw [← HR.out, hst.out, HW2.out, bl_app]
              rfl⟩
            have hsz : (⟨(Lib.itoa y).toArray⟩ : ByteArray).size ≤ 19 := hit
            have hz' : (z ++ ⟨(Lib.itoa y).toArray⟩).size ≤ 1000 * (i + 1) := by rw [ByteArray.size_append]; omega
            go_wp2_with fail
            refine (digits_any y hy2 hy1 _).mono ?_
            rintro e w5 ⟨rfl, hB5⟩
            have HW5 : Aside0 (Below w3.heap.size w3 w5) := ⟨below_then (HW.out.alloc HW.out.size _) (HW.out.alloc HW.out.size _).size hB5⟩
            generalize (⟨(Lib.itoa y).toArray⟩ : ByteArray) = sw at *
            go_wp2
            go_roundg (30 - (i + 1))
            case measure => omega
            case rel => exact ⟨i + 1, j + 1, z ++ sw, by omega, rfl, by go_num, rfl, by go_num, by omega, hz', hJ1, HR', HW5⟩
      · have hltb : decide ((i : Int) < 30) = false := decide_eq_false (by omega)
        have HRes : Aside0 (lineR xs = (bl z, 0)) := ⟨by
          rw [HL.out, ← HR.out, List.drop_of_length_le (show rTab.length ≤ i from (by have : rTab.length = 30 := rfl; omega))]
          rfl⟩
        go_wp2
        go_ret2
        rw [HRes.out]
        exact ⟨rfl, below_then HB4.out HB4.out.size HW.out⟩
end Go.Proofs.YtfecfgimfjcbdaaDoor.Cf
