/- conf.Status, walked. -/
import Derived.Test.YtfecfgimfjcbdaaDoorConfH
import Derived.Test.YtfecfgimfjcbdaaDoorConfS
import Derived.Test.YtfecfgimfjcbdaaDoorShelfA
import Derived.StillTailTactics
import Derived.WalkSpells
import Derived.IntWalk
namespace Go.Proofs.YtfecfgimfjcbdaaDoor.Cf
open Go.RowKit Go.Proofs.YtfecfgimfjcbdaaDoorW.PrintWords Go.Proofs.YtfecfgimfjcbdaaDoorW.PrintLast Go.Proofs.YtfecfgimfjcbdaaDoorW.PrintMore

/-- What a piece of a status line is, for the field's value n; none: it has none. -/
def wrI (t : ByteArray × Option (List ByteArray) × Int) (n : Int) : Option (List UInt8) :=
  match t.2.1 with
  | none => if 0 ≤ n then some (bl t.1 ++ Lib.itoa n) else none
  | some ws => if t.2.2 ≤ n ∧ n - t.2.2 < ws.length then some (bl t.1 ++ bl (ws.getD (n - t.2.2).toNat ByteArray.empty)) else none
def outI : List (ByteArray × Option (List ByteArray) × Int) → List Int → List UInt8 → Option (List UInt8)
  | t :: ts, n :: ns, l => (wrI t n).bind fun x => outI ts ns (l ++ x)
  | _, _, l => some l
/-- What Status answers: the line, the error. -/
def lineI (xs : List Int) : List UInt8 × Int :=
  match outI cTab xs [] with
  | some l => (l, 0)
  | none => ([], 1)

theorem StrBlk.bkeep {w w1 : World} {B b : Nat} {v : Value} {ws : List ByteArray} (h : StrBlk w B v ws) (hk : BKeep w w1 b) (hb : b < B) : StrBlk w1 B v ws := by
  obtain ⟨gw, c, rest, rfl, hc, hl, hB, hg⟩ := h
  exact ⟨gw, c, rest, rfl, hc, hl, hB, hk.cell hg (by omega) (by decide)⟩
theorem Piece.bkeep {w w1 : World} {B b g i : Nat} {t : ByteArray × Option (List ByteArray) × Int} (h : Piece w B g i t) (hk : BKeep w w1 b) (hb : b < B) (hg : B ≤ g) {cs : Array Value} (hc : w.heap[g]? = some (.cells cs 76 (0, 0))) : Piece w1 B g i t := by
  obtain ⟨h0, ⟨v, h1, hv⟩, h2, h3⟩ := h
  have hc1 := hk.cell hc (by omega) (by decide)
  have e : ∀ j, w1.cell? ⟨g, j, none⟩ = w.cell? ⟨g, j, none⟩ := fun j => by rw [blk_cell hc1, blk_cell hc]
  refine ⟨(e _).trans h0, ⟨v, (e _).trans h1, ?_⟩, (e _).trans h2, (e _).trans h3⟩
  cases ee : t.2.1 with
  | none => rw [ee] at hv; exact hv
  | some ws => rw [ee] at hv; exact StrBlk.bkeep hv hk hb

/-- The memory in a round: the status at b0, the builder at b0 + 1 with l written; what else was there by w4 stands. -/
def St2 (w w4 wr : World) (b0 : Nat) (xs : List Int) (l : List UInt8) : Prop :=
  wr.heap[b0]? = some (.cells (ints xs) 28 (0, 0)) ∧ IsB w.heap.size (b0 + 1) (Lib.byteCells l) wr ∧ Below w.heap.size w wr ∧ BKeep w4 wr (b0 + 1)
theorem St2.step {w w4 wr w5 : World} {b0 : Nat} {xs : List Int} {l l' : List UInt8} (h : St2 w w4 wr b0 xs l) (hI : IsB w.heap.size (b0 + 1) (Lib.byteCells l') w5) (hB : Below w.heap.size wr w5) (hK : BKeep wr w5 (b0 + 1)) : St2 w w4 w5 b0 xs l' :=
  ⟨hK.cell h.1 (by omega) (by decide), hI, h.2.2.1.trans hB, h.2.2.2.trans hK⟩
theorem St2.drew {w w4 wr : World} {b0 : Nat} {xs : List Int} {l : List UInt8} (h : St2 w w4 wr b0 xs l) : St2 w w4 wr.drew b0 xs l := by
  obtain ⟨h1, h2, h3, h4⟩ := h
  exact ⟨h1, h2, below_drew h3, h4⟩

theorem isB_below {B b : Nat} {bs : List Value} {w w1 : World} (h : IsB B b bs w) (hb : Below w.heap.size w w1) : IsB B b bs w1 := by
  have h1 : ∀ {p}, Lib.BuilderAt 70 5 B b p bs w → Lib.BuilderAt 70 5 B b p bs w1 := fun ⟨hB, v, hbk, hown, hne⟩ => ⟨hB, v, blk_below hbk hb, pw_own_below hown hb, hne⟩
  exact h.elim (fun x => .inl (h1 x)) (fun x => .inr (h1 x))
theorem below_growN {w w1 : World} {B : Nat} (h : Below B w w1) (hB : B ≤ w1.heap.size) (q : Nat) (os : Array Obj) : Below B w (Go.Sort.grow (w1.drewN q) os) :=
  ⟨h.os, h.tape, h.output, by simp only [Go.Sort.grow, Array.size_append]; exact Nat.le_trans h.size (Nat.le_add_right _ _), fun k hk => by
    have e : (Go.Sort.grow (w1.drewN q) os).heap = w1.heap ++ os := rfl
    rw [e, Array.getElem?_append_left (by omega)]
    exact h.block k hk⟩
theorem below_lower {B : Nat} {w w1 : World} (h : Below w.heap.size w w1) (hB : B ≤ w.heap.size) : Below B w w1 := ⟨h.os, h.tape, h.output, h.size, fun k hk => h.block k (by omega)⟩
theorem cells_snoc (l : List UInt8) (s : ByteArray) : Lib.byteCells l ++ Lib.strCells s = Lib.byteCells (l ++ bl s) := by
  simp [Lib.byteCells, Lib.strCells, bl]

theorem writeString_any (w0 w : World) (b : Nat) (l : List UInt8) (s : ByteArray) (h : IsB w0.heap.size b (Lib.byteCells l) w) (hlen : l.length + s.size ≤ 1000000) (hBw : w0.heap.size ≤ w.heap.size) :
    Calls Tryd.prog 42 #[.pointer (some ⟨b, 0, none⟩), .string s] w fun e w' => e = .returned (.tuple #[.int .i64 s.size, .nilIface]) ∧ IsB w0.heap.size b (Lib.byteCells (l ++ bl s)) w' ∧ Below w0.heap.size w w' ∧ BKeep w w' b := by
  refine (writeString_cells w0.heap.size b _ s w h (by rw [Lib.byteCells_length]; omega) hBw).mono ?_
  rintro e w' ⟨rfl, h1, h2, h3⟩
  rw [cells_snoc] at h1
  exact ⟨rfl, .inr h1, h2, h3⟩

theorem nDigits_le : ∀ (k u : Nat), 1 ≤ k → u < 10 ^ k → Lib.nDigits u ≤ k
  | 0, _, h, _ => by omega
  | 1, u, _, h => by rw [Lib.nDigits_small (by omega)]; exact Nat.le_refl _
  | k + 2, u, _, h => by
    by_cases hu : u < 10
    · rw [Lib.nDigits_small hu]; omega
    · have hd : u / 10 < 10 ^ (k + 1) := by
        rw [Nat.pow_succ] at h
        exact Nat.div_lt_of_lt_mul (by rw [Nat.mul_comm]; exact h)
      have := nDigits_le (k + 1) (u / 10) (by omega) hd
      rw [Lib.nDigits_big hu]
      omega
theorem itoa_length {n : Int} (h0 : 0 ≤ n) (h1 : n ≤ 9223372036854775807) : (Lib.itoa n).length ≤ 19 := by
  unfold Lib.itoa
  rw [if_neg (by omega), Lib.decDigits_length]
  refine nDigits_le 19 _ (by omega) ?_
  have : n.toNat ≤ 9223372036854775807 := by omega
  exact Nat.lt_of_le_of_lt this (by decide)

theorem cTab_small : ∀ (i : Nat) (t : ByteArray × Option (List ByteArray) × Int), cTab[i]? = some t → ∀ ws, t.2.1 = some ws → ∀ x ∈ ws, x.size ≤ 100 := by
  intro i t hi ws hw
  have hl : i < 15 := (List.getElem?_eq_some_iff.1 hi).1
  rcases i with _ | _ | _ | _ | _ | _ | _ | _ | _ | _ | _ | _ | _ | _ | _ | i
  case succ.succ.succ.succ.succ.succ.succ.succ.succ.succ.succ.succ.succ.succ.succ => omega
  all_goals
    obtain rfl := Option.some.inj hi
    first
      | cases hw; done
      | (obtain rfl := Option.some.inj hw; decide)
theorem outI_step {j : Nat} {t : ByteArray × Option (List ByteArray) × Int} {n : Int} {xs : List Int} {l : List UInt8} (ht : cTab[j]? = some t) (hn : xs[j]? = some n) : outI (cTab.drop j) (xs.drop j) l = (wrI t n).bind fun x => outI (cTab.drop (j + 1)) (xs.drop (j + 1)) (l ++ x) := by
  have h1 : cTab.drop j = t :: cTab.drop (j + 1) := by rw [List.drop_eq_getElem?_toList_append, ht]; rfl
  have h2 : xs.drop j = n :: xs.drop (j + 1) := by rw [List.drop_eq_getElem?_toList_append, hn]; rfl
  rw [h1, h2]
  rfl

/-- The table of powers of ten, there as long as nothing that was there by w is changed. -/
def Tab10 (w : World) : Prop := ∀ w', Below w.heap.size w w' → Lib.TabIs Tryd.prog w' "internal/strconv.uint64pow10" .u64 Lib.pow10Tab

set_option maxRecDepth 100000 in
set_option maxHeartbeats 1000000 in
theorem status_any (xs : List Int) (hx : xs.length = 15) (hbd : ∀ x ∈ xs, -9223372036854775808 ≤ x ∧ x ≤ 9223372036854775807) (w : World) (htab : Tab10 w) :
    Calls Tryd.prog 16 #[.agg (ints xs)] w fun e w' => e = .returned (.tuple #[.string ⟨(lineI xs).1.toArray⟩, .int .i64 (lineI xs).2]) ∧ Below w.heap.size w w' := by
  have HTab := Aside0.mk htab
  clear htab
  go_enter Tryd.func16, Tryd.ntmps16
  go_wp2_with fail
  generalize hw1 : w.alloc (.cells (ints xs) 28) = w1
  generalize hC : Obj.cells #[.pointer none, .slice none 0 0] 70 = C
  generalize hw2 : w1.alloc C = w2
  generalize hb : w.heap.size = b
  have hs1 : w1.heap.size = b + 1 := by rw [← hw1, ← hb]; simp
  have hs2 : w2.heap.size = b + 2 := by rw [← hw2]; simp [hs1]
  have k1 : w2.heap[b]? = some (.cells (ints xs) 28 (0, 0)) := by rw [← hw2, ← hw1, ← hb]; exact blk_alloc (blk_new w _) C
  have k2 : w2.heap[b + 1]? = some C := by rw [← hw2, ← hs1]; exact blk_new w1 C
  have hB : Below w.heap.size w w2 := by
    rw [← hw2, ← hw1]
    exact ((Below.refl _ _).alloc (Nat.le_refl _) _).alloc (by simp) _
  subst hC
  have hI : IsB w.heap.size (b + 1) [] w2 := .inl ⟨by omega, .slice none 0 0, k2, own_nil _ _ _ _, by simp [Value.ownBlock]⟩
  clear hw1 hw2 hs1 k2
  refine (parts_typed w2).mono ?_
  rintro e w4 ⟨g, rfl, hg, hB4, ⟨cs4, hc4⟩, hP⟩
  have hS : St2 w w4 w4 b xs [] := ⟨blk_below k1 hB4, isB_below hI hB4, below_then hB (by omega) hB4, BKeep.refl _ _⟩
  have HS := Aside0.mk hS
  have HP := Aside0.mk hP
  have HH := Aside0.mk hb
  have HC4 := Aside0.mk hc4
  have HX := Aside0.mk hx
  have HW2 := Aside0.mk hs2
  have hg2 : b + 2 ≤ g := by omega
  have HBd := Aside0.mk hbd
  clear hS hP hB4 hB k1 hI hg hs2 hb hc4 hx hbd
  have qT : ∀ (w : World) (a : Option Addr) (n c n' c' : Nat), (binOp .eql 45 (.slice a n c) (.slice none n' c')).run Tryd.prog w = .ok (.bool a.isNone) w := fun w a n c n' c' => Lib.run_eql_slice_nil w _ _ a n c n' c' Tryd.underlying45
  have qN : ∀ (w : World) (a : Option Addr) (n c n' c' : Nat), (binOp .neq 45 (.slice a n c) (.slice none n' c')).run Tryd.prog w = .ok (.bool (!a.isNone)) w := fun w a n c n' c' => run_neq_slice_nil_any w _ _ a n c n' c' Tryd.underlying45
  go_wp2
  go_loopg [12] 15 (fun kq v12 wr => ∃ (j : Nat) (l : List UInt8), j ≤ 15 ∧ kq = 15 - j ∧ v12 = .int .i64 j ∧ l.length ≤ 1000 * j ∧ Aside0 (outI (cTab.drop j) (xs.drop j) l = outI cTab xs []) ∧ Aside0 (St2 w w4 wr b xs l))
  case atStart => exact ⟨0, [], by omega, rfl, rfl, by simp, ⟨rfl⟩, HS⟩
  case round =>
    clear HS
    obtain ⟨j, l, hj, rfl, rfl, hl, HR, HS⟩ := hrel
    by_cases hlt : j < 15
    · have hltb : decide ((j : Int) < 15) = true := decide_eq_true (by omega)
      obtain ⟨⟨ta, two, tl⟩, ht⟩ : ∃ t, cTab[j]? = some t := ⟨_, List.getElem?_eq_getElem hlt⟩
      have hf := cTab_facts j _ ht
      obtain ⟨x, hxj⟩ : ∃ x, xs[j]? = some x := ⟨_, List.getElem?_eq_getElem (by rw [HX.out]; exact hlt)⟩
      obtain ⟨hx0, hx1⟩ := HBd.out x (List.mem_of_getElem? hxj)
      have HO := Aside0.mk (outI_step (l := l) ht hxj)
      have HPj := Aside0.mk (HP.out j _ ht)
      obtain ⟨c0, ⟨v1, c1, hv1⟩, c2, c3⟩ := HPj.out.bkeep HS.out.2.2.2 (show b + 1 < w2.heap.size by rw [HW2.out]; omega) (show w2.heap.size ≤ g by rw [HW2.out]; exact hg2) HC4.out
      have cx : wr.cell? ⟨b, j, none⟩ = some (.int .i64 x) := by
        rw [blk_cell HS.out.1 j]
        simp [ints, hxj]
      have hlen : (j : Int) < 15 := by omega
      simp only at c0 c1 c2 c3 hf hv1
      obtain ⟨hf1, hf2, hf3, hf4⟩ := hf
      have hcf := fun args W => call_field j hlt args W
      have HSm := Aside0.mk (cTab_small j _ ht)
      clear hxj ht
      go_wp2_with fail
      refine (field_any j hlt b _).mono ?_
      rintro e w5 ⟨rfl, rfl⟩
      go_wp2_with fail
      refine (writeString_any w wr (b + 1) l ta HS.out.2.1 (by omega) HS.out.2.2.1.size).mono ?_
      rintro e w5 ⟨rfl, hI5, hB5, hK5⟩
      have HS5 := Aside0.mk (HS.out.step hI5 hB5 hK5)
      clear c0 c1 c2 c3 hv1 cx hI5 hB5 hK5 HS
      obtain ⟨c0, ⟨v1, c1, hv1⟩, c2, c3⟩ := HPj.out.bkeep HS5.out.2.2.2 (show b + 1 < w2.heap.size by rw [HW2.out]; omega) (show w2.heap.size ≤ g by rw [HW2.out]; exact hg2) HC4.out
      simp only at c0 c1 c2 c3 hv1
      have hl5 : (l ++ bl ta).length ≤ 1000 * j + 100 := by rw [List.length_append, bl_length]; omega
      cases two with
      | none =>
        simp only at hv1
        subst hv1
        by_cases h0 : 0 ≤ x
        · have hit := itoa_length h0 hx1
          have hw : wrI (ta, none, tl) x = some (bl ta ++ Lib.itoa x) := by unfold wrI; simp only; rw [if_pos h0]
          have HW := Aside0.mk hw
          clear hw
          go_wp2_with fail
          refine (Tryd.strconv_Itoa x hx0 hx1 _ (HTab.out _ HS5.out.2.2.1)).mono ?_
          rintro e w6 ⟨rfl, q, os, rfl⟩
          have hB6 := below_growN HS5.out.2.2.1 HS5.out.2.2.1.size q os
          have hb6 := below_growN (Below.refl w5.heap.size w5) (Nat.le_refl _) q os
          generalize Go.Sort.grow (w5.drewN q) os = w6 at *
          have HS6 : Aside0 (St2 w w4 w6 b xs (l ++ bl ta)) := ⟨HS5.out.step (isB_below HS5.out.2.1 hb6) (below_lower hb6 HS5.out.2.2.1.size) (BKeep.of_below hb6 _)⟩
          clear hB6 hb6 HS5 c0 c1 c2 c3
          go_wp2_with fail
          have hsz : (⟨(Lib.itoa x).toArray⟩ : ByteArray).size = (Lib.itoa x).length := rfl
          refine (writeString_any w w6 (b + 1) (l ++ bl ta) ⟨(Lib.itoa x).toArray⟩ HS6.out.2.1 (by omega) HS6.out.2.2.1.size).mono ?_
          rintro e w7 ⟨rfl, hI7, hB7, hK7⟩
          have HS7 := Aside0.mk (HS6.out.step hI7 hB7 hK7)
          clear hI7 hB7 hK7 HS6
          have HR7 : Aside0 (outI (cTab.drop (j + 1)) (xs.drop (j + 1)) (l ++ bl ta ++ bl ⟨(Lib.itoa x).toArray⟩) = outI cTab xs []) := ⟨by
            rw [← HR.out, HO.out, HW.out, Option.bind_some, List.append_assoc]
            rfl⟩
          have hl7 : (l ++ bl ta ++ bl ⟨(Lib.itoa x).toArray⟩).length ≤ 1000 * (j + 1) := by
            rw [List.length_append, bl_length, hsz]
            omega
          go_wp2
          go_roundg (15 - (j + 1))
          case measure => omega
          case rel => exact ⟨j + 1, _, by omega, rfl, by go_num, hl7, HR7, HS7⟩
        · have hw : lineI xs = ([], 1) := by
            unfold lineI
            rw [← HR.out, HO.out]
            have : wrI (ta, none, tl) x = none := by unfold wrI; simp only; rw [if_neg h0]
            rw [this]
            rfl
          have HRes := Aside0.mk hw
          clear hw
          go_wp2
          go_region
          all_goals
            go_wp2
            go_ret2
            rw [HRes.out]
            exact ⟨rfl, below_drew HS5.out.2.2.1⟩
      | some ws =>
        obtain ⟨ad, cc, rfl, hr⟩ := StrBlk.reads hv1
        simp only at hf4
        by_cases ha : tl ≤ x
        · have hda : decide (tl ≤ x) = true := decide_eq_true ha
          by_cases hb : x - tl < ws.length
          · have hdb : decide (x - tl < (ws.length : Int)) = true := decide_eq_true hb
            have hit : 0 ≤ x - tl := by omega
            have hdw : ws.getD (x - tl).toNat ByteArray.empty = rdOf ByteArray.empty ws (x - tl) := rfl
            have hw : wrI (ta, some ws, tl) x = some (bl ta ++ bl (rdOf ByteArray.empty ws (x - tl))) := by unfold wrI; simp only; rw [if_pos ⟨ha, hb⟩, hdw]
            have HW := Aside0.mk hw
            clear hw hdw
            obtain ⟨ad1, e1, hx1c⟩ := Kd.at_string hr (x - tl) hit hb
            cases e1
            have hmem : rdOf ByteArray.empty ws (x - tl) ∈ ws := by
              unfold rdOf
              have hlw : (x - tl).toNat < ws.length := by omega
              rw [List.getD_eq_getElem?_getD, List.getElem?_eq_getElem hlw]
              exact List.getElem_mem hlw
            have hsm := HSm.out ws rfl _ hmem
            generalize rdOf ByteArray.empty ws (x - tl) = sw at *
            go_wp2
            go_region
            go_wp2
            refine wp_region_still_tail 12 (by kernel_rfl) (by kernel_rfl) ?_
            simp only [List.take_succ_cons, List.take_zero, List.drop_succ_cons, List.drop_zero]
            generalize hwd : ({ heap := w5.drew.heap, tape := w5.drew.tape, drawn := w5.drew.drawn + 1, os := w5.drew.os, output := w5.drew.output } : World) = w7
            have ew : ∀ ad, w7.cell? ad = w5.cell? ad := fun ad => by rw [← hwd]; rfl
            have d1 := (ew _).trans c1
            have d2 := (ew _).trans c2
            have dx := (ew _).trans hx1c
            have HS6 : Aside0 (St2 w w4 w7 b xs (l ++ bl ta)) := ⟨by rw [← hwd]; exact HS5.out.drew.drew⟩
            clear ew c0 c1 c2 c3 hx1c hr hv1 HS5 hwd
            repeat still_step
            refine wpStill_step (fun K hK => ?_)
            go_simp
            rw [show IntKind.i64.wrap (x - tl) = x - tl from IntWalk.i64_in _ ⟨by omega, by omega⟩, if_pos ⟨hit, hb⟩]
            go_simp
            refine hK _ ?_
            clear hK K
            repeat still_step
            refine wpStill_nil ?_
            go_wp2_with fail
            refine (writeString_any w w7 (b + 1) (l ++ bl ta) sw HS6.out.2.1 (by omega) HS6.out.2.2.1.size).mono ?_
            rintro e w8 ⟨rfl, hI7, hB7, hK7⟩
            have HS7 := Aside0.mk (HS6.out.step hI7 hB7 hK7)
            clear hI7 hB7 hK7 HS6 d1 d2 dx
            have HR7 : Aside0 (outI (cTab.drop (j + 1)) (xs.drop (j + 1)) (l ++ bl ta ++ bl sw) = outI cTab xs []) := ⟨by
              rw [← HR.out, HO.out, HW.out, Option.bind_some, List.append_assoc]⟩
            have hl7 : (l ++ bl ta ++ bl sw).length ≤ 1000 * (j + 1) := by
              rw [List.length_append, bl_length]
              omega
            go_wp2
            go_roundg (15 - (j + 1))
            case measure => omega
            case rel => exact ⟨j + 1, _, by omega, rfl, by go_num, hl7, HR7, HS7⟩
          · have hw : lineI xs = ([], 1) := by
              unfold lineI
              rw [← HR.out, HO.out]
              have : wrI (ta, some ws, tl) x = none := by unfold wrI; simp only; rw [if_neg (fun h => hb h.2)]
              rw [this]
              rfl
            have hdb : decide (x - tl < (ws.length : Int)) = false := decide_eq_false hb
            have HRes := Aside0.mk hw
            clear hw
            go_wp2
            go_region
            all_goals
              go_wp2
              go_ret2
              rw [HRes.out]
              exact ⟨rfl, below_drew HS5.out.2.2.1⟩
        · have hw : lineI xs = ([], 1) := by
            unfold lineI
            rw [← HR.out, HO.out]
            have : wrI (ta, some ws, tl) x = none := by unfold wrI; simp only; rw [if_neg (fun h => ha h.1)]
            rw [this]
            rfl
          have hda : decide (tl ≤ x) = false := decide_eq_false ha
          have HRes := Aside0.mk hw
          clear hw
          go_wp2
          go_region
          all_goals
            go_wp2
            go_ret2
            rw [HRes.out]
            exact ⟨rfl, below_drew HS5.out.2.2.1⟩
    · have hltb : decide ((j : Int) < 15) = false := decide_eq_false (by omega)
      have hj15 : j = 15 := by omega
      subst hj15
      have hw : lineI xs = (l, 0) := by
        unfold lineI
        rw [← HR.out]
        rfl
      have HRes := Aside0.mk hw
      clear hw
      go_wp2_with fail
      refine (Tryd.Builder_String_any w.heap.size (b + 1) l _ (by first | exact HS.out.2.1 | exact HS.out.drew.2.1) (by first | exact HS.out.2.2.1.size | exact HS.out.drew.2.2.1.size)).mono ?_
      rintro e w5 ⟨rfl, hB5⟩
      have hB6 : Below w.heap.size w w5 := by first | exact HS.out.2.2.1.trans hB5 | exact HS.out.drew.2.2.1.trans hB5
      go_wp2
      go_ret2
      rw [HRes.out]
      exact ⟨rfl, hB6⟩
end Go.Proofs.YtfecfgimfjcbdaaDoor.Cf
