/- Contracts of simple functions that replica/replicaref12.Print calls (namespace and imports turned to those of the print for Check). The lines were written by the kit's print.sh (called for that function, which is no law), not by hand; kept as a text of this claim. -/
import Derived.Test.YtfecfgimfjcbdaaDoorQRCheck0
import Derived.Test.YtfecfgimfjcbdaaDoorQRCheck4
namespace Go.Proofs.YtfecfgimfjcbdaaDoor.QRCheck
open Go.RowKit Go.Proofs.YtfecfgimfjcbdaaDoorW.PrintWords Go.Proofs.YtfecfgimfjcbdaaDoorW.PrintLast Go.Proofs.YtfecfgimfjcbdaaDoorW.PrintMore
attribute [local go_sem] max2_int min2_int max_two min_two max_three min_three max_four min_four   -- for this text's walks alone
set_option linter.unusedVariables false
set_option linter.unusedSimpArgs false

/-! ### replicaref12_shown: function 54 -/
mutual
def replicaref12_shown.l0 : Nat → ByteArray → ByteArray → Int → Option (ByteArray)
  | 0, _, _, _ => none
  | k + 1, x0, x3, x4 => if x4 < (x0.size : Int) then ((replicaref12_wide.f k x0 x4).bind fun bt157 => (if bt157.2 = 34 then (replicaref12_shown.j1 k x0 x3 x4 bt157.1 bt157.2 true) else (replicaref12_shown.j1 k x0 x3 x4 bt157.1 bt157.2 (bt157.2 == 92)))) else (if x3.size + 1 ≤ 9223372036854775807 then (some (x3 ++ (⟨#[34]⟩ : ByteArray))) else (none))
def replicaref12_shown.j1 : Nat → ByteArray → ByteArray → Int → Int → Int → Bool → Option (ByteArray)
  | 0, _, _, _, _, _, _ => none
  | k + 1, x0, x3, x4, x5, x6, x26 => if x26 = true then (if x3.size + 1 ≤ 9223372036854775807 then (if 0 ≤ x4 then (if x4 ≤ (wrap64 (x4 + x5)) then (if (wrap64 (x4 + x5)) ≤ (x0.size : Int) then (if (x3 ++ (⟨#[92]⟩ : ByteArray)).size + (x0.extract (x4 : Int).toNat ((wrap64 (x4 + x5)) : Int).toNat).size ≤ 9223372036854775807 then (replicaref12_shown.l0 k x0 ((x3 ++ (⟨#[92]⟩ : ByteArray)) ++ (x0.extract (x4 : Int).toNat ((wrap64 (x4 + x5)) : Int).toNat)) (wrap64 (x4 + x5))) else (none)) else (none)) else (none)) else (none)) else (none)) else (if x6 = 10 then (if x3.size + 2 ≤ 9223372036854775807 then (replicaref12_shown.l0 k x0 (x3 ++ (⟨#[92, 110]⟩ : ByteArray)) (wrap64 (x4 + x5))) else (none)) else (if x6 = 9 then (if x3.size + 2 ≤ 9223372036854775807 then (replicaref12_shown.l0 k x0 (x3 ++ (⟨#[92, 116]⟩ : ByteArray)) (wrap64 (x4 + x5))) else (none)) else (if x6 < 32 then (replicaref12_shown.j2 k x0 x3 x4 x5 x6 true) else (replicaref12_shown.j2 k x0 x3 x4 x5 x6 (x6 == 127)))))
def replicaref12_shown.j2 : Nat → ByteArray → ByteArray → Int → Int → Int → Bool → Option (ByteArray)
  | 0, _, _, _, _, _, _ => none
  | k + 1, x0, x3, x4, x5, x6, x52 => if x52 = true then (if x3.size + 3 ≤ 9223372036854775807 then (if x6 > 15 then (if 0 ≤ (wrap64 (Int.tdiv x6 16)) then (if (wrap64 (Int.tdiv x6 16)) ≤ (wrap64 ((wrap64 (Int.tdiv x6 16)) + 1)) then (if (wrap64 ((wrap64 (Int.tdiv x6 16)) + 1)) ≤ 16 then (if (x3 ++ (⟨#[92, 117, 123]⟩ : ByteArray)).size + ((⟨#[48, 49, 50, 51, 52, 53, 54, 55, 56, 57, 97, 98, 99, 100, 101, 102]⟩ : ByteArray).extract ((wrap64 (Int.tdiv x6 16)) : Int).toNat ((wrap64 ((wrap64 (Int.tdiv x6 16)) + 1)) : Int).toNat).size ≤ 9223372036854775807 then (if 0 ≤ (Int.tmod x6 16) then (if (Int.tmod x6 16) ≤ (wrap64 ((Int.tmod x6 16) + 1)) then (if (wrap64 ((Int.tmod x6 16) + 1)) ≤ 16 then (if ((x3 ++ (⟨#[92, 117, 123]⟩ : ByteArray)) ++ ((⟨#[48, 49, 50, 51, 52, 53, 54, 55, 56, 57, 97, 98, 99, 100, 101, 102]⟩ : ByteArray).extract ((wrap64 (Int.tdiv x6 16)) : Int).toNat ((wrap64 ((wrap64 (Int.tdiv x6 16)) + 1)) : Int).toNat)).size + ((⟨#[48, 49, 50, 51, 52, 53, 54, 55, 56, 57, 97, 98, 99, 100, 101, 102]⟩ : ByteArray).extract ((Int.tmod x6 16) : Int).toNat ((wrap64 ((Int.tmod x6 16) + 1)) : Int).toNat).size ≤ 9223372036854775807 then (if (((x3 ++ (⟨#[92, 117, 123]⟩ : ByteArray)) ++ ((⟨#[48, 49, 50, 51, 52, 53, 54, 55, 56, 57, 97, 98, 99, 100, 101, 102]⟩ : ByteArray).extract ((wrap64 (Int.tdiv x6 16)) : Int).toNat ((wrap64 ((wrap64 (Int.tdiv x6 16)) + 1)) : Int).toNat)) ++ ((⟨#[48, 49, 50, 51, 52, 53, 54, 55, 56, 57, 97, 98, 99, 100, 101, 102]⟩ : ByteArray).extract ((Int.tmod x6 16) : Int).toNat ((wrap64 ((Int.tmod x6 16) + 1)) : Int).toNat)).size + 1 ≤ 9223372036854775807 then (replicaref12_shown.l0 k x0 ((((x3 ++ (⟨#[92, 117, 123]⟩ : ByteArray)) ++ ((⟨#[48, 49, 50, 51, 52, 53, 54, 55, 56, 57, 97, 98, 99, 100, 101, 102]⟩ : ByteArray).extract ((wrap64 (Int.tdiv x6 16)) : Int).toNat ((wrap64 ((wrap64 (Int.tdiv x6 16)) + 1)) : Int).toNat)) ++ ((⟨#[48, 49, 50, 51, 52, 53, 54, 55, 56, 57, 97, 98, 99, 100, 101, 102]⟩ : ByteArray).extract ((Int.tmod x6 16) : Int).toNat ((wrap64 ((Int.tmod x6 16) + 1)) : Int).toNat)) ++ (⟨#[125]⟩ : ByteArray)) (wrap64 (x4 + x5))) else (none)) else (none)) else (none)) else (none)) else (none)) else (none)) else (none)) else (none)) else (none)) else (if 0 ≤ (Int.tmod x6 16) then (if (Int.tmod x6 16) ≤ (wrap64 ((Int.tmod x6 16) + 1)) then (if (wrap64 ((Int.tmod x6 16) + 1)) ≤ 16 then (if (x3 ++ (⟨#[92, 117, 123]⟩ : ByteArray)).size + ((⟨#[48, 49, 50, 51, 52, 53, 54, 55, 56, 57, 97, 98, 99, 100, 101, 102]⟩ : ByteArray).extract ((Int.tmod x6 16) : Int).toNat ((wrap64 ((Int.tmod x6 16) + 1)) : Int).toNat).size ≤ 9223372036854775807 then (if ((x3 ++ (⟨#[92, 117, 123]⟩ : ByteArray)) ++ ((⟨#[48, 49, 50, 51, 52, 53, 54, 55, 56, 57, 97, 98, 99, 100, 101, 102]⟩ : ByteArray).extract ((Int.tmod x6 16) : Int).toNat ((wrap64 ((Int.tmod x6 16) + 1)) : Int).toNat)).size + 1 ≤ 9223372036854775807 then (replicaref12_shown.l0 k x0 (((x3 ++ (⟨#[92, 117, 123]⟩ : ByteArray)) ++ ((⟨#[48, 49, 50, 51, 52, 53, 54, 55, 56, 57, 97, 98, 99, 100, 101, 102]⟩ : ByteArray).extract ((Int.tmod x6 16) : Int).toNat ((wrap64 ((Int.tmod x6 16) + 1)) : Int).toNat)) ++ (⟨#[125]⟩ : ByteArray)) (wrap64 (x4 + x5))) else (none)) else (none)) else (none)) else (none)) else (none))) else (none)) else (if 0 ≤ x4 then (if x4 ≤ (wrap64 (x4 + x5)) then (if (wrap64 (x4 + x5)) ≤ (x0.size : Int) then (if x3.size + (x0.extract (x4 : Int).toNat ((wrap64 (x4 + x5)) : Int).toNat).size ≤ 9223372036854775807 then (replicaref12_shown.l0 k x0 (x3 ++ (x0.extract (x4 : Int).toNat ((wrap64 (x4 + x5)) : Int).toNat)) (wrap64 (x4 + x5))) else (none)) else (none)) else (none)) else (none))
end
def replicaref12_shown.f (k : Nat) (a0 : ByteArray) : Option (ByteArray) := replicaref12_shown.l0 k a0 (⟨#[34]⟩ : ByteArray) 0
theorem replicaref12_shown.mono_l : ∀ k, (∀ y0 y1 y2, LeO (replicaref12_shown.l0 k y0 y1 y2) (replicaref12_shown.l0 (k + 1) y0 y1 y2)) ∧ (∀ y0 y1 y2 y3 y4 y5, LeO (replicaref12_shown.j1 k y0 y1 y2 y3 y4 y5) (replicaref12_shown.j1 (k + 1) y0 y1 y2 y3 y4 y5)) ∧ (∀ y0 y1 y2 y3 y4 y5, LeO (replicaref12_shown.j2 k y0 y1 y2 y3 y4 y5) (replicaref12_shown.j2 (k + 1) y0 y1 y2 y3 y4 y5))
  | 0 => ⟨fun _ _ _ r h => by simp [replicaref12_shown.l0] at h, fun _ _ _ _ _ _ r h => by simp [replicaref12_shown.j1] at h, fun _ _ _ _ _ _ r h => by simp [replicaref12_shown.j2] at h⟩
  | k + 1 => by
    obtain ⟨ih0, ih1, ih2⟩ := replicaref12_shown.mono_l k
    refine ⟨?_, ?_, ?_⟩
    · intro y0 y1 y2
      unfold replicaref12_shown.l0
      repeat' first
      | (with_reducible exact ih0 _ _ _)
      | (with_reducible exact ih1 _ _ _ _ _ _)
      | (with_reducible exact ih2 _ _ _ _ _ _)
      | (with_reducible exact replicaref12_wide.mono _ _ _)
      | (with_reducible exact LeO.refl _)
      | (with_reducible exact LeO.none _)
      | (with_reducible refine LeO.ite ?_ ?_)
      | (with_reducible refine LeO.bind ?_ (fun _ => ?_))
      | exact ih0 _ _ _
      | exact ih1 _ _ _ _ _ _
      | exact ih2 _ _ _ _ _ _
      | exact replicaref12_wide.mono _ _ _
      | exact LeO.none _
      | refine LeO.ite ?_ ?_
      | refine LeO.bind ?_ (fun _ => ?_)
    · intro y0 y1 y2 y3 y4 y5
      unfold replicaref12_shown.j1
      repeat' first
      | (with_reducible exact ih0 _ _ _)
      | (with_reducible exact ih1 _ _ _ _ _ _)
      | (with_reducible exact ih2 _ _ _ _ _ _)
      | (with_reducible exact replicaref12_wide.mono _ _ _)
      | (with_reducible exact LeO.refl _)
      | (with_reducible exact LeO.none _)
      | (with_reducible refine LeO.ite ?_ ?_)
      | (with_reducible refine LeO.bind ?_ (fun _ => ?_))
      | exact ih0 _ _ _
      | exact ih1 _ _ _ _ _ _
      | exact ih2 _ _ _ _ _ _
      | exact replicaref12_wide.mono _ _ _
      | exact LeO.none _
      | refine LeO.ite ?_ ?_
      | refine LeO.bind ?_ (fun _ => ?_)
    · intro y0 y1 y2 y3 y4 y5
      unfold replicaref12_shown.j2
      repeat' first
      | (with_reducible exact ih0 _ _ _)
      | (with_reducible exact ih1 _ _ _ _ _ _)
      | (with_reducible exact ih2 _ _ _ _ _ _)
      | (with_reducible exact replicaref12_wide.mono _ _ _)
      | (with_reducible exact LeO.refl _)
      | (with_reducible exact LeO.none _)
      | (with_reducible refine LeO.ite ?_ ?_)
      | (with_reducible refine LeO.bind ?_ (fun _ => ?_))
      | exact ih0 _ _ _
      | exact ih1 _ _ _ _ _ _
      | exact ih2 _ _ _ _ _ _
      | exact replicaref12_wide.mono _ _ _
      | exact LeO.none _
      | refine LeO.ite ?_ ?_
      | refine LeO.bind ?_ (fun _ => ?_)
theorem replicaref12_shown.mono : ∀ a0 k, LeO (replicaref12_shown.f k a0) (replicaref12_shown.f (k + 1) a0) := by
  intro a0 k
  obtain ⟨ih0, ih1, ih2⟩ := replicaref12_shown.mono_l k
  unfold replicaref12_shown.f
  repeat' first
      | (with_reducible exact ih0 _ _ _)
      | (with_reducible exact ih1 _ _ _ _ _ _)
      | (with_reducible exact ih2 _ _ _ _ _ _)
      | (with_reducible exact replicaref12_wide.mono _ _ _)
      | (with_reducible exact LeO.refl _)
      | (with_reducible exact LeO.none _)
      | (with_reducible refine LeO.ite ?_ ?_)
      | (with_reducible refine LeO.bind ?_ (fun _ => ?_))
      | exact ih0 _ _ _
      | exact ih1 _ _ _ _ _ _
      | exact ih2 _ _ _ _ _ _
      | exact replicaref12_wide.mono _ _ _
      | exact LeO.none _
      | refine LeO.ite ?_ ?_
      | refine LeO.bind ?_ (fun _ => ?_)
set_option maxHeartbeats 8000000 in
set_option maxRecDepth 100000 in
theorem replicaref12_shown.calls (k : Nat) (a0 : ByteArray) (r : ByteArray) (w : World) (h : replicaref12_shown.f k a0 = some r) :
    Calls Tryd.prog 54 #[.string a0] w fun e w' => e = .returned (.string r) ∧ Below w.heap.size w w' := by
  have HB := Aside0.mk (Below.refl w.heap.size w)
  have H : (replicaref12_shown.l0 k a0 (⟨#[34]⟩ : ByteArray) 0) = some r := h
  clear h
  have H' := Aside0.mk H
  clear H
  go_enter Tryd.func54, Tryd.ntmps54
  go_wp2
  go_loopg [3, 4] k (fun kq v3 v4 w' => ∃ (x3_1 : ByteArray) (x4_1 : Int), v3 = .string x3_1 ∧ v4 = .int .i64 x4_1 ∧ Aside0 (replicaref12_shown.l0 kq a0 x3_1 x4_1 = some r) ∧ Aside0 (kq ≤ k) ∧ Aside0 (Below w.heap.size w w'))
  case atStart => exact ⟨((⟨#[34]⟩ : ByteArray)), (0), (by first | rfl | (simp; done) | (simp [*]; done)), (by first | rfl | (simp; done) | (simp [*]; done)), H', ⟨Nat.le_refl _⟩, ⟨by repeat (first | (with_reducible first | exact HB.out | apply below_alloc | apply pw_below_drewN | apply below_drew1) | exact HB.out)⟩⟩
  case round =>
    clear H'
    obtain ⟨x3_1, x4_1, rfl, rfl, HA, HK1, HB⟩ := hrel
    cases gk with
    | zero => exact absurd HA.out (by simp [replicaref12_shown.l0])
    | succ k1 =>
      have H := HA.out
      clear HA
      simp only [replicaref12_shown.l0] at H
      by_cases c2 : x4_1 < (a0.size : Int)
      · rw [if_pos c2] at H
        have c2b0 : decide (x4_1 < (a0.size : Int)) = true := decide_eq_true c2
        clear c2
        replace H := Option.bind_eq_some_iff.mp H
        obtain ⟨⟨t157, t158⟩, A30, H⟩ := H
        replace H : (if t158 = 34 then (replicaref12_shown.j1 k1 a0 x3_1 x4_1 t157 t158 true) else (replicaref12_shown.j1 k1 a0 x3_1 x4_1 t157 t158 (t158 == 92))) = some r := H
        have A3 := Aside0.mk A30
        clear A30
        have HC4 := Aside0.mk H
        clear H
        go_upto_region 6 with (first | ((with_reducible refine gate_callee (f := 40) rfl ?_); refine goesL_ (some 15) rfl rfl Tryd.func40 (by kernel_rfl) rfl #[.string a0, .int .i64 x4_1] rfl (by (try simp only [List.map_toArray, List.map_cons, List.map_nil]); first | done | rfl | (simp only [List.length_drop, List.length_take]; rfl)) ?_; (with_reducible refine (replicaref12_wide.calls k1 a0 x4_1 t157 t158 _ A3.out).mono ?_); rintro e w5 ⟨rfl, hb⟩; refine ⟨_, rfl, ?_⟩; have n0_ := Aside0.mk (below_step (by repeat (first | (with_reducible first | exact HB.out | apply below_alloc | apply pw_below_drewN | apply below_drew1) | exact HB.out)) hb); clear HB; have HB := n0_; clear n0_; (try clear hb); (try clear hb2); (try clear hk); (try clear hi)))
        (try simp only [Act.put, List.setIfInBounds_toArray, List.set_cons_zero, List.set_cons_succ])
        go_cut [26] (fun v26 wc => ∃ (kq : Nat) (x26_3 : Bool), v26 = .bool x26_3 ∧ Aside0 (replicaref12_shown.j1 kq a0 x3_1 x4_1 t157 t158 x26_3 = some r) ∧ Aside0 (kq ≤ k1) ∧ Aside0 (Below w.heap.size w wc))
        case first =>
          have H := HC4.out
          clear HC4
          by_cases c6 : t158 = 34
          · rw [if_pos c6] at H
            have c6b0 : (t158 == 34) = true := beq_iff_eq.mpr c6
            have c6b1 : (t158 != 34) = false := bne_eq_false_iff_eq.mpr c6
            clear c6
            (first | rw [c6b0] | (simp only [i64_w, i32_w]; rw [c6b0]) | skip)
            have H' := Aside0.mk H
            clear H
            go_wp2
            go_meet
            case rel => exact ⟨_, (true), (by first | rfl | (simp; done) | (simp [*]; done)), H', ⟨by have := HK1.out; first | omega | exact Nat.le_refl _⟩, ⟨by repeat (first | (with_reducible first | exact HB.out | apply below_alloc | apply pw_below_drewN | apply below_drew1) | exact HB.out)⟩⟩
          · rw [if_neg c6] at H
            have c6b0 : (t158 == 34) = false := beq_eq_false_iff_ne.mpr c6
            have c6b1 : (t158 != 34) = true := bne_iff_ne.mpr c6
            (first | rw [c6b0] | (simp only [i64_w, i32_w]; rw [c6b0]) | skip)
            have H' := Aside0.mk H
            clear H
            go_wp2
            go_meet
            case rel => exact ⟨_, ((t158 == 92)), (by first | rfl | (simp; done) | (simp [*]; done)), H', ⟨by have := HK1.out; first | omega | exact Nat.le_refl _⟩, ⟨by repeat (first | (with_reducible first | exact HB.out | apply below_alloc | apply pw_below_drewN | apply below_drew1) | exact HB.out)⟩⟩
        case rest =>
          clear HC4
          try clear c2
          try clear c2b0
          try clear p2
          try clear c4
          try clear c5
          try clear c6
          try clear c6b0
          try clear c6b1
          obtain ⟨kq, x26_3, rfl, HA, HJ3, HB⟩ := hcut
          cases kq with
          | zero => exact absurd HA.out (by simp [replicaref12_shown.j1])
          | succ kj3 =>
            have H := HA.out
            clear HA
            simp only [replicaref12_shown.j1] at H
            by_cases c7 : x26_3 = true
            · subst c7
              have H1 : (if x3_1.size + 1 ≤ 9223372036854775807 then (if 0 ≤ x4_1 then (if x4_1 ≤ (wrap64 (x4_1 + t157)) then (if (wrap64 (x4_1 + t157)) ≤ (a0.size : Int) then (if (x3_1 ++ (⟨#[92]⟩ : ByteArray)).size + (a0.extract (x4_1 : Int).toNat ((wrap64 (x4_1 + t157)) : Int).toNat).size ≤ 9223372036854775807 then (replicaref12_shown.l0 kj3 a0 ((x3_1 ++ (⟨#[92]⟩ : ByteArray)) ++ (a0.extract (x4_1 : Int).toNat ((wrap64 (x4_1 + t157)) : Int).toNat)) (wrap64 (x4_1 + t157))) else (none)) else (none)) else (none)) else (none)) else (none)) = some r := by rw [if_pos rfl] at H; exact H
              clear H
              have H := H1
              clear H1
              by_cases c8 : x3_1.size + 1 ≤ 9223372036854775807
              · rw [if_pos c8] at H
                have c8b0 := eq_true c8
                have c8b1 : decide (x3_1.size + 1 ≤ 9223372036854775807) = true := decide_eq_true c8
                try have c8b2 : (9223372036854775807 < x3_1.size + 1) = False := eq_false (Nat.not_lt.2 c8)
                by_cases c9 : 0 ≤ x4_1
                · rw [if_pos c9] at H
                  have c9b0 := eq_true c9
                  have c9b1 : decide (0 ≤ x4_1) = true := decide_eq_true c9
                  clear c9
                  by_cases c10 : x4_1 ≤ (wrap64 (x4_1 + t157))
                  · rw [if_pos c10] at H
                    have c10b0 := eq_true c10
                    have c10b1 : decide (x4_1 ≤ (wrap64 (x4_1 + t157))) = true := decide_eq_true c10
                    by_cases c11 : (wrap64 (x4_1 + t157)) ≤ (a0.size : Int)
                    · rw [if_pos c11] at H
                      have c11b0 := eq_true c11
                      have c11b1 : decide ((wrap64 (x4_1 + t157)) ≤ (a0.size : Int)) = true := decide_eq_true c11
                      by_cases c12 : (x3_1 ++ (⟨#[92]⟩ : ByteArray)).size + (a0.extract (x4_1 : Int).toNat ((wrap64 (x4_1 + t157)) : Int).toNat).size ≤ 9223372036854775807
                      · rw [if_pos c12] at H
                        have c12b0 := eq_true c12
                        have c12b1 : decide ((x3_1 ++ (⟨#[92]⟩ : ByteArray)).size + (a0.extract (x4_1 : Int).toNat ((wrap64 (x4_1 + t157)) : Int).toNat).size ≤ 9223372036854775807) = true := decide_eq_true c12
                        try have c12b2 : (9223372036854775807 < (x3_1 ++ (⟨#[92]⟩ : ByteArray)).size + (a0.extract (x4_1 : Int).toNat ((wrap64 (x4_1 + t157)) : Int).toNat).size) = False := eq_false (Nat.not_lt.2 c12)
                        have H' := Aside0.mk H
                        clear H
                        go_wp2
                        go_roundg kj3
                        case measure => have := HK1.out; have := HJ3.out; omega
                        case rel => exact ⟨((x3_1 ++ (⟨#[92]⟩ : ByteArray)) ++ (a0.extract (x4_1 : Int).toNat ((wrap64 (x4_1 + t157)) : Int).toNat)), (wrap64 (x4_1 + t157)), (by first | rfl | (simp; done) | (simp [*]; done)), (by first | rfl | (simp; done) | (simp [*]; done)), H', ⟨by have := HK1.out; have := HJ3.out; omega⟩, ⟨by repeat (first | (with_reducible first | exact HB.out | apply below_alloc | apply pw_below_drewN | apply below_drew1) | exact HB.out)⟩⟩
                      · rw [if_neg c12] at H
                        exact absurd H (by simp)
                    · rw [if_neg c11] at H
                      exact absurd H (by simp)
                  · rw [if_neg c10] at H
                    exact absurd H (by simp)
                · rw [if_neg c9] at H
                  exact absurd H (by simp)
              · rw [if_neg c8] at H
                exact absurd H (by simp)
            · replace c7 := Bool.eq_false_iff.mpr c7
              subst c7
              have H1 : (if t158 = 10 then (if x3_1.size + 2 ≤ 9223372036854775807 then (replicaref12_shown.l0 kj3 a0 (x3_1 ++ (⟨#[92, 110]⟩ : ByteArray)) (wrap64 (x4_1 + t157))) else (none)) else (if t158 = 9 then (if x3_1.size + 2 ≤ 9223372036854775807 then (replicaref12_shown.l0 kj3 a0 (x3_1 ++ (⟨#[92, 116]⟩ : ByteArray)) (wrap64 (x4_1 + t157))) else (none)) else (if t158 < 32 then (replicaref12_shown.j2 kj3 a0 x3_1 x4_1 t157 t158 true) else (replicaref12_shown.j2 kj3 a0 x3_1 x4_1 t157 t158 (t158 == 127))))) = some r := by rw [if_neg (show ¬ (false = true) by decide)] at H; exact H
              clear H
              have H := H1
              clear H1
              by_cases c13 : t158 = 10
              · rw [if_pos c13] at H
                have c13b0 : (t158 == 10) = true := beq_iff_eq.mpr c13
                have c13b1 : (t158 != 10) = false := bne_eq_false_iff_eq.mpr c13
                clear c13
                by_cases c14 : x3_1.size + 2 ≤ 9223372036854775807
                · rw [if_pos c14] at H
                  have c14b0 := eq_true c14
                  have c14b1 : decide (x3_1.size + 2 ≤ 9223372036854775807) = true := decide_eq_true c14
                  try have c14b2 : (9223372036854775807 < x3_1.size + 2) = False := eq_false (Nat.not_lt.2 c14)
                  have H' := Aside0.mk H
                  clear H
                  go_wp2
                  go_roundg kj3
                  case measure => have := HK1.out; have := HJ3.out; omega
                  case rel => exact ⟨(x3_1 ++ (⟨#[92, 110]⟩ : ByteArray)), (wrap64 (x4_1 + t157)), (by first | rfl | (simp; done) | (simp [*]; done)), (by first | rfl | (simp; done) | (simp [*]; done)), H', ⟨by have := HK1.out; have := HJ3.out; omega⟩, ⟨by repeat (first | (with_reducible first | exact HB.out | apply below_alloc | apply pw_below_drewN | apply below_drew1) | exact HB.out)⟩⟩
                · rw [if_neg c14] at H
                  exact absurd H (by simp)
              · rw [if_neg c13] at H
                have c13b0 : (t158 == 10) = false := beq_eq_false_iff_ne.mpr c13
                have c13b1 : (t158 != 10) = true := bne_iff_ne.mpr c13
                by_cases c15 : t158 = 9
                · rw [if_pos c15] at H
                  have c15b0 : (t158 == 9) = true := beq_iff_eq.mpr c15
                  have c15b1 : (t158 != 9) = false := bne_eq_false_iff_eq.mpr c15
                  clear c15
                  by_cases c16 : x3_1.size + 2 ≤ 9223372036854775807
                  · rw [if_pos c16] at H
                    have c16b0 := eq_true c16
                    have c16b1 : decide (x3_1.size + 2 ≤ 9223372036854775807) = true := decide_eq_true c16
                    try have c16b2 : (9223372036854775807 < x3_1.size + 2) = False := eq_false (Nat.not_lt.2 c16)
                    have H' := Aside0.mk H
                    clear H
                    go_wp2
                    go_roundg kj3
                    case measure => have := HK1.out; have := HJ3.out; omega
                    case rel => exact ⟨(x3_1 ++ (⟨#[92, 116]⟩ : ByteArray)), (wrap64 (x4_1 + t157)), (by first | rfl | (simp; done) | (simp [*]; done)), (by first | rfl | (simp; done) | (simp [*]; done)), H', ⟨by have := HK1.out; have := HJ3.out; omega⟩, ⟨by repeat (first | (with_reducible first | exact HB.out | apply below_alloc | apply pw_below_drewN | apply below_drew1) | exact HB.out)⟩⟩
                  · rw [if_neg c16] at H
                    exact absurd H (by simp)
                · rw [if_neg c15] at H
                  have c15b0 : (t158 == 9) = false := beq_eq_false_iff_ne.mpr c15
                  have c15b1 : (t158 != 9) = true := bne_iff_ne.mpr c15
                  have HC17 := Aside0.mk H
                  clear H
                  go_upto_region 12 with (fail)
                  go_cut [52] (fun v52 wc => ∃ (kq : Nat) (x52_16 : Bool), v52 = .bool x52_16 ∧ Aside0 (replicaref12_shown.j2 kq a0 x3_1 x4_1 t157 t158 x52_16 = some r) ∧ Aside0 (kq ≤ kj3) ∧ Aside0 (Below w.heap.size w wc))
                  case first =>
                    have H := HC17.out
                    clear HC17
                    by_cases c18 : t158 < 32
                    · rw [if_pos c18] at H
                      have c18b0 : decide (t158 < 32) = true := decide_eq_true c18
                      clear c18
                      (first | rw [c18b0] | (simp only [i64_w, i32_w]; rw [c18b0]) | skip)
                      have H' := Aside0.mk H
                      clear H
                      go_wp2
                      go_meet
                      case rel => exact ⟨_, (true), (by first | rfl | (simp; done) | (simp [*]; done)), H', ⟨by have := HK1.out; have := HJ3.out; first | omega | exact Nat.le_refl _⟩, ⟨by repeat (first | (with_reducible first | exact HB.out | apply below_alloc | apply pw_below_drewN | apply below_drew1) | exact HB.out)⟩⟩
                    · rw [if_neg c18] at H
                      have c18b0 : decide (t158 < 32) = false := decide_eq_false c18
                      clear c18
                      (first | rw [c18b0] | (simp only [i64_w, i32_w]; rw [c18b0]) | skip)
                      have H' := Aside0.mk H
                      clear H
                      go_wp2
                      go_meet
                      case rel => exact ⟨_, ((t158 == 127)), (by first | rfl | (simp; done) | (simp [*]; done)), H', ⟨by have := HK1.out; have := HJ3.out; first | omega | exact Nat.le_refl _⟩, ⟨by repeat (first | (with_reducible first | exact HB.out | apply below_alloc | apply pw_below_drewN | apply below_drew1) | exact HB.out)⟩⟩
                  case rest =>
                    clear HC17
                    try clear c1
                    try clear c2
                    try clear c2b0
                    try clear p2
                    try clear c4
                    try clear c5
                    try clear c6
                    try clear c6b0
                    try clear c6b1
                    try clear p6
                    try clear c7
                    try clear c8
                    try clear c8b0
                    try clear c8b1
                    try clear c8b2
                    try clear c9
                    try clear c9b0
                    try clear c9b1
                    try clear c10
                    try clear c10b0
                    try clear c10b1
                    try clear c11
                    try clear c11b0
                    try clear c11b1
                    try clear c12
                    try clear c12b0
                    try clear c12b1
                    try clear c12b2
                    try clear c13
                    try clear c13b0
                    try clear c13b1
                    try clear c14
                    try clear c14b0
                    try clear c14b1
                    try clear c14b2
                    try clear c15
                    try clear c15b0
                    try clear c15b1
                    try clear c16
                    try clear c16b0
                    try clear c16b1
                    try clear c16b2
                    try clear c18
                    try clear c18b0
                    try clear p2
                    obtain ⟨kq, x52_16, rfl, HA, HJ16, HB⟩ := hcut
                    cases kq with
                    | zero => exact absurd HA.out (by simp [replicaref12_shown.j2])
                    | succ kj16 =>
                      have H := HA.out
                      clear HA
                      simp only [replicaref12_shown.j2] at H
                      by_cases c19 : x52_16 = true
                      · subst c19
                        have H1 : (if x3_1.size + 3 ≤ 9223372036854775807 then (if t158 > 15 then (if 0 ≤ (wrap64 (Int.tdiv t158 16)) then (if (wrap64 (Int.tdiv t158 16)) ≤ (wrap64 ((wrap64 (Int.tdiv t158 16)) + 1)) then (if (wrap64 ((wrap64 (Int.tdiv t158 16)) + 1)) ≤ 16 then (if (x3_1 ++ (⟨#[92, 117, 123]⟩ : ByteArray)).size + ((⟨#[48, 49, 50, 51, 52, 53, 54, 55, 56, 57, 97, 98, 99, 100, 101, 102]⟩ : ByteArray).extract ((wrap64 (Int.tdiv t158 16)) : Int).toNat ((wrap64 ((wrap64 (Int.tdiv t158 16)) + 1)) : Int).toNat).size ≤ 9223372036854775807 then (if 0 ≤ (Int.tmod t158 16) then (if (Int.tmod t158 16) ≤ (wrap64 ((Int.tmod t158 16) + 1)) then (if (wrap64 ((Int.tmod t158 16) + 1)) ≤ 16 then (if ((x3_1 ++ (⟨#[92, 117, 123]⟩ : ByteArray)) ++ ((⟨#[48, 49, 50, 51, 52, 53, 54, 55, 56, 57, 97, 98, 99, 100, 101, 102]⟩ : ByteArray).extract ((wrap64 (Int.tdiv t158 16)) : Int).toNat ((wrap64 ((wrap64 (Int.tdiv t158 16)) + 1)) : Int).toNat)).size + ((⟨#[48, 49, 50, 51, 52, 53, 54, 55, 56, 57, 97, 98, 99, 100, 101, 102]⟩ : ByteArray).extract ((Int.tmod t158 16) : Int).toNat ((wrap64 ((Int.tmod t158 16) + 1)) : Int).toNat).size ≤ 9223372036854775807 then (if (((x3_1 ++ (⟨#[92, 117, 123]⟩ : ByteArray)) ++ ((⟨#[48, 49, 50, 51, 52, 53, 54, 55, 56, 57, 97, 98, 99, 100, 101, 102]⟩ : ByteArray).extract ((wrap64 (Int.tdiv t158 16)) : Int).toNat ((wrap64 ((wrap64 (Int.tdiv t158 16)) + 1)) : Int).toNat)) ++ ((⟨#[48, 49, 50, 51, 52, 53, 54, 55, 56, 57, 97, 98, 99, 100, 101, 102]⟩ : ByteArray).extract ((Int.tmod t158 16) : Int).toNat ((wrap64 ((Int.tmod t158 16) + 1)) : Int).toNat)).size + 1 ≤ 9223372036854775807 then (replicaref12_shown.l0 kj16 a0 ((((x3_1 ++ (⟨#[92, 117, 123]⟩ : ByteArray)) ++ ((⟨#[48, 49, 50, 51, 52, 53, 54, 55, 56, 57, 97, 98, 99, 100, 101, 102]⟩ : ByteArray).extract ((wrap64 (Int.tdiv t158 16)) : Int).toNat ((wrap64 ((wrap64 (Int.tdiv t158 16)) + 1)) : Int).toNat)) ++ ((⟨#[48, 49, 50, 51, 52, 53, 54, 55, 56, 57, 97, 98, 99, 100, 101, 102]⟩ : ByteArray).extract ((Int.tmod t158 16) : Int).toNat ((wrap64 ((Int.tmod t158 16) + 1)) : Int).toNat)) ++ (⟨#[125]⟩ : ByteArray)) (wrap64 (x4_1 + t157))) else (none)) else (none)) else (none)) else (none)) else (none)) else (none)) else (none)) else (none)) else (none)) else (if 0 ≤ (Int.tmod t158 16) then (if (Int.tmod t158 16) ≤ (wrap64 ((Int.tmod t158 16) + 1)) then (if (wrap64 ((Int.tmod t158 16) + 1)) ≤ 16 then (if (x3_1 ++ (⟨#[92, 117, 123]⟩ : ByteArray)).size + ((⟨#[48, 49, 50, 51, 52, 53, 54, 55, 56, 57, 97, 98, 99, 100, 101, 102]⟩ : ByteArray).extract ((Int.tmod t158 16) : Int).toNat ((wrap64 ((Int.tmod t158 16) + 1)) : Int).toNat).size ≤ 9223372036854775807 then (if ((x3_1 ++ (⟨#[92, 117, 123]⟩ : ByteArray)) ++ ((⟨#[48, 49, 50, 51, 52, 53, 54, 55, 56, 57, 97, 98, 99, 100, 101, 102]⟩ : ByteArray).extract ((Int.tmod t158 16) : Int).toNat ((wrap64 ((Int.tmod t158 16) + 1)) : Int).toNat)).size + 1 ≤ 9223372036854775807 then (replicaref12_shown.l0 kj16 a0 (((x3_1 ++ (⟨#[92, 117, 123]⟩ : ByteArray)) ++ ((⟨#[48, 49, 50, 51, 52, 53, 54, 55, 56, 57, 97, 98, 99, 100, 101, 102]⟩ : ByteArray).extract ((Int.tmod t158 16) : Int).toNat ((wrap64 ((Int.tmod t158 16) + 1)) : Int).toNat)) ++ (⟨#[125]⟩ : ByteArray)) (wrap64 (x4_1 + t157))) else (none)) else (none)) else (none)) else (none)) else (none))) else (none)) = some r := by rw [if_pos rfl] at H; exact H
                        clear H
                        have H := H1
                        clear H1
                        by_cases c20 : x3_1.size + 3 ≤ 9223372036854775807
                        · rw [if_pos c20] at H
                          have c20b0 := eq_true c20
                          have c20b1 : decide (x3_1.size + 3 ≤ 9223372036854775807) = true := decide_eq_true c20
                          try have c20b2 : (9223372036854775807 < x3_1.size + 3) = False := eq_false (Nat.not_lt.2 c20)
                          by_cases c21 : t158 > 15
                          · rw [if_pos c21] at H
                            have c21b0 : decide (15 < t158) = true := decide_eq_true c21
                            clear c21
                            obtain ⟨ji22, hji22⟩ : ∃ j_ : Int, (wrap64 (Int.tdiv t158 16)) = j_ := ⟨_, rfl⟩
                            replace H : (if 0 ≤ (ji22) then (if (ji22) ≤ (wrap64 ((ji22) + 1)) then (if (wrap64 ((ji22) + 1)) ≤ 16 then (if (x3_1 ++ (⟨#[92, 117, 123]⟩ : ByteArray)).size + ((⟨#[48, 49, 50, 51, 52, 53, 54, 55, 56, 57, 97, 98, 99, 100, 101, 102]⟩ : ByteArray).extract ((ji22) : Int).toNat ((wrap64 ((ji22) + 1)) : Int).toNat).size ≤ 9223372036854775807 then (if 0 ≤ (Int.tmod t158 16) then (if (Int.tmod t158 16) ≤ (wrap64 ((Int.tmod t158 16) + 1)) then (if (wrap64 ((Int.tmod t158 16) + 1)) ≤ 16 then (if ((x3_1 ++ (⟨#[92, 117, 123]⟩ : ByteArray)) ++ ((⟨#[48, 49, 50, 51, 52, 53, 54, 55, 56, 57, 97, 98, 99, 100, 101, 102]⟩ : ByteArray).extract ((ji22) : Int).toNat ((wrap64 ((ji22) + 1)) : Int).toNat)).size + ((⟨#[48, 49, 50, 51, 52, 53, 54, 55, 56, 57, 97, 98, 99, 100, 101, 102]⟩ : ByteArray).extract ((Int.tmod t158 16) : Int).toNat ((wrap64 ((Int.tmod t158 16) + 1)) : Int).toNat).size ≤ 9223372036854775807 then (if (((x3_1 ++ (⟨#[92, 117, 123]⟩ : ByteArray)) ++ ((⟨#[48, 49, 50, 51, 52, 53, 54, 55, 56, 57, 97, 98, 99, 100, 101, 102]⟩ : ByteArray).extract ((ji22) : Int).toNat ((wrap64 ((ji22) + 1)) : Int).toNat)) ++ ((⟨#[48, 49, 50, 51, 52, 53, 54, 55, 56, 57, 97, 98, 99, 100, 101, 102]⟩ : ByteArray).extract ((Int.tmod t158 16) : Int).toNat ((wrap64 ((Int.tmod t158 16) + 1)) : Int).toNat)).size + 1 ≤ 9223372036854775807 then (replicaref12_shown.l0 kj16 a0 ((((x3_1 ++ (⟨#[92, 117, 123]⟩ : ByteArray)) ++ ((⟨#[48, 49, 50, 51, 52, 53, 54, 55, 56, 57, 97, 98, 99, 100, 101, 102]⟩ : ByteArray).extract ((ji22) : Int).toNat ((wrap64 ((ji22) + 1)) : Int).toNat)) ++ ((⟨#[48, 49, 50, 51, 52, 53, 54, 55, 56, 57, 97, 98, 99, 100, 101, 102]⟩ : ByteArray).extract ((Int.tmod t158 16) : Int).toNat ((wrap64 ((Int.tmod t158 16) + 1)) : Int).toNat)) ++ (⟨#[125]⟩ : ByteArray)) (wrap64 (x4_1 + t157))) else (none)) else (none)) else (none)) else (none)) else (none)) else (none)) else (none)) else (none)) else (none)) = some r := by first | (rw [hji22] at H; exact H) | (simp only [hji22] at H ⊢; exact H)
                            have hji22w : (IntKind.i64.wrap (Int.tdiv t158 16)) = ji22 := (i64_w _).trans hji22
                            by_cases c23 : 0 ≤ (ji22)
                            · rw [if_pos c23] at H
                              have c23b0 := eq_true c23
                              have c23b1 : decide (0 ≤ (ji22)) = true := decide_eq_true c23
                              clear c23
                              by_cases c24 : (ji22) ≤ (wrap64 ((ji22) + 1))
                              · rw [if_pos c24] at H
                                have c24b0 := eq_true c24
                                have c24b1 : decide ((ji22) ≤ (wrap64 ((ji22) + 1))) = true := decide_eq_true c24
                                by_cases c25 : (wrap64 ((ji22) + 1)) ≤ 16
                                · rw [if_pos c25] at H
                                  have c25b0 := eq_true c25
                                  have c25b1 : decide ((wrap64 ((ji22) + 1)) ≤ 16) = true := decide_eq_true c25
                                  by_cases c26 : (x3_1 ++ (⟨#[92, 117, 123]⟩ : ByteArray)).size + ((⟨#[48, 49, 50, 51, 52, 53, 54, 55, 56, 57, 97, 98, 99, 100, 101, 102]⟩ : ByteArray).extract ((ji22) : Int).toNat ((wrap64 ((ji22) + 1)) : Int).toNat).size ≤ 9223372036854775807
                                  · rw [if_pos c26] at H
                                    have c26b0 := eq_true c26
                                    have c26b1 : decide ((x3_1 ++ (⟨#[92, 117, 123]⟩ : ByteArray)).size + ((⟨#[48, 49, 50, 51, 52, 53, 54, 55, 56, 57, 97, 98, 99, 100, 101, 102]⟩ : ByteArray).extract ((ji22) : Int).toNat ((wrap64 ((ji22) + 1)) : Int).toNat).size ≤ 9223372036854775807) = true := decide_eq_true c26
                                    try have c26b2 : (9223372036854775807 < (x3_1 ++ (⟨#[92, 117, 123]⟩ : ByteArray)).size + ((⟨#[48, 49, 50, 51, 52, 53, 54, 55, 56, 57, 97, 98, 99, 100, 101, 102]⟩ : ByteArray).extract ((ji22) : Int).toNat ((wrap64 ((ji22) + 1)) : Int).toNat).size) = False := eq_false (Nat.not_lt.2 c26)
                                    obtain ⟨ji27, hji27⟩ : ∃ j_ : Int, (Int.tmod t158 16) = j_ := ⟨_, rfl⟩
                                    replace H : (if 0 ≤ (ji27) then (if (ji27) ≤ (wrap64 ((ji27) + 1)) then (if (wrap64 ((ji27) + 1)) ≤ 16 then (if ((x3_1 ++ (⟨#[92, 117, 123]⟩ : ByteArray)) ++ ((⟨#[48, 49, 50, 51, 52, 53, 54, 55, 56, 57, 97, 98, 99, 100, 101, 102]⟩ : ByteArray).extract ((ji22) : Int).toNat ((wrap64 ((ji22) + 1)) : Int).toNat)).size + ((⟨#[48, 49, 50, 51, 52, 53, 54, 55, 56, 57, 97, 98, 99, 100, 101, 102]⟩ : ByteArray).extract ((ji27) : Int).toNat ((wrap64 ((ji27) + 1)) : Int).toNat).size ≤ 9223372036854775807 then (if (((x3_1 ++ (⟨#[92, 117, 123]⟩ : ByteArray)) ++ ((⟨#[48, 49, 50, 51, 52, 53, 54, 55, 56, 57, 97, 98, 99, 100, 101, 102]⟩ : ByteArray).extract ((ji22) : Int).toNat ((wrap64 ((ji22) + 1)) : Int).toNat)) ++ ((⟨#[48, 49, 50, 51, 52, 53, 54, 55, 56, 57, 97, 98, 99, 100, 101, 102]⟩ : ByteArray).extract ((ji27) : Int).toNat ((wrap64 ((ji27) + 1)) : Int).toNat)).size + 1 ≤ 9223372036854775807 then (replicaref12_shown.l0 kj16 a0 ((((x3_1 ++ (⟨#[92, 117, 123]⟩ : ByteArray)) ++ ((⟨#[48, 49, 50, 51, 52, 53, 54, 55, 56, 57, 97, 98, 99, 100, 101, 102]⟩ : ByteArray).extract ((ji22) : Int).toNat ((wrap64 ((ji22) + 1)) : Int).toNat)) ++ ((⟨#[48, 49, 50, 51, 52, 53, 54, 55, 56, 57, 97, 98, 99, 100, 101, 102]⟩ : ByteArray).extract ((ji27) : Int).toNat ((wrap64 ((ji27) + 1)) : Int).toNat)) ++ (⟨#[125]⟩ : ByteArray)) (wrap64 (x4_1 + t157))) else (none)) else (none)) else (none)) else (none)) else (none)) = some r := by first | (rw [hji27] at H; exact H) | (simp only [hji27] at H ⊢; exact H)
                                    by_cases c28 : 0 ≤ (ji27)
                                    · rw [if_pos c28] at H
                                      have c28b0 := eq_true c28
                                      have c28b1 : decide (0 ≤ (ji27)) = true := decide_eq_true c28
                                      clear c28
                                      by_cases c29 : (ji27) ≤ (wrap64 ((ji27) + 1))
                                      · rw [if_pos c29] at H
                                        have c29b0 := eq_true c29
                                        have c29b1 : decide ((ji27) ≤ (wrap64 ((ji27) + 1))) = true := decide_eq_true c29
                                        by_cases c30 : (wrap64 ((ji27) + 1)) ≤ 16
                                        · rw [if_pos c30] at H
                                          have c30b0 := eq_true c30
                                          have c30b1 : decide ((wrap64 ((ji27) + 1)) ≤ 16) = true := decide_eq_true c30
                                          by_cases c31 : ((x3_1 ++ (⟨#[92, 117, 123]⟩ : ByteArray)) ++ ((⟨#[48, 49, 50, 51, 52, 53, 54, 55, 56, 57, 97, 98, 99, 100, 101, 102]⟩ : ByteArray).extract ((ji22) : Int).toNat ((wrap64 ((ji22) + 1)) : Int).toNat)).size + ((⟨#[48, 49, 50, 51, 52, 53, 54, 55, 56, 57, 97, 98, 99, 100, 101, 102]⟩ : ByteArray).extract ((ji27) : Int).toNat ((wrap64 ((ji27) + 1)) : Int).toNat).size ≤ 9223372036854775807
                                          · rw [if_pos c31] at H
                                            have c31b0 := eq_true c31
                                            have c31b1 : decide (((x3_1 ++ (⟨#[92, 117, 123]⟩ : ByteArray)) ++ ((⟨#[48, 49, 50, 51, 52, 53, 54, 55, 56, 57, 97, 98, 99, 100, 101, 102]⟩ : ByteArray).extract ((ji22) : Int).toNat ((wrap64 ((ji22) + 1)) : Int).toNat)).size + ((⟨#[48, 49, 50, 51, 52, 53, 54, 55, 56, 57, 97, 98, 99, 100, 101, 102]⟩ : ByteArray).extract ((ji27) : Int).toNat ((wrap64 ((ji27) + 1)) : Int).toNat).size ≤ 9223372036854775807) = true := decide_eq_true c31
                                            try have c31b2 : (9223372036854775807 < ((x3_1 ++ (⟨#[92, 117, 123]⟩ : ByteArray)) ++ ((⟨#[48, 49, 50, 51, 52, 53, 54, 55, 56, 57, 97, 98, 99, 100, 101, 102]⟩ : ByteArray).extract ((ji22) : Int).toNat ((wrap64 ((ji22) + 1)) : Int).toNat)).size + ((⟨#[48, 49, 50, 51, 52, 53, 54, 55, 56, 57, 97, 98, 99, 100, 101, 102]⟩ : ByteArray).extract ((ji27) : Int).toNat ((wrap64 ((ji27) + 1)) : Int).toNat).size) = False := eq_false (Nat.not_lt.2 c31)
                                            by_cases c32 : (((x3_1 ++ (⟨#[92, 117, 123]⟩ : ByteArray)) ++ ((⟨#[48, 49, 50, 51, 52, 53, 54, 55, 56, 57, 97, 98, 99, 100, 101, 102]⟩ : ByteArray).extract ((ji22) : Int).toNat ((wrap64 ((ji22) + 1)) : Int).toNat)) ++ ((⟨#[48, 49, 50, 51, 52, 53, 54, 55, 56, 57, 97, 98, 99, 100, 101, 102]⟩ : ByteArray).extract ((ji27) : Int).toNat ((wrap64 ((ji27) + 1)) : Int).toNat)).size + 1 ≤ 9223372036854775807
                                            · rw [if_pos c32] at H
                                              have c32b0 := eq_true c32
                                              have c32b1 : decide ((((x3_1 ++ (⟨#[92, 117, 123]⟩ : ByteArray)) ++ ((⟨#[48, 49, 50, 51, 52, 53, 54, 55, 56, 57, 97, 98, 99, 100, 101, 102]⟩ : ByteArray).extract ((ji22) : Int).toNat ((wrap64 ((ji22) + 1)) : Int).toNat)) ++ ((⟨#[48, 49, 50, 51, 52, 53, 54, 55, 56, 57, 97, 98, 99, 100, 101, 102]⟩ : ByteArray).extract ((ji27) : Int).toNat ((wrap64 ((ji27) + 1)) : Int).toNat)).size + 1 ≤ 9223372036854775807) = true := decide_eq_true c32
                                              try have c32b2 : (9223372036854775807 < (((x3_1 ++ (⟨#[92, 117, 123]⟩ : ByteArray)) ++ ((⟨#[48, 49, 50, 51, 52, 53, 54, 55, 56, 57, 97, 98, 99, 100, 101, 102]⟩ : ByteArray).extract ((ji22) : Int).toNat ((wrap64 ((ji22) + 1)) : Int).toNat)) ++ ((⟨#[48, 49, 50, 51, 52, 53, 54, 55, 56, 57, 97, 98, 99, 100, 101, 102]⟩ : ByteArray).extract ((ji27) : Int).toNat ((wrap64 ((ji27) + 1)) : Int).toNat)).size + 1) = False := eq_false (Nat.not_lt.2 c32)
                                              have c32n : x3_1.size + 3 + ((wrap64 (ji22 + 1)).toNat - ji22.toNat) + ((wrap64 (ji27 + 1)).toNat - ji27.toNat) + 1 ≤ 9223372036854775807 := by
                                                have q := c32
                                                simp only [ByteArray.size_append, ByteArray.size_extract] at q
                                                rw [show (⟨#[92, 117, 123]⟩ : ByteArray).size = 3 from rfl, show (⟨#[48, 49, 50, 51, 52, 53, 54, 55, 56, 57, 97, 98, 99, 100, 101, 102]⟩ : ByteArray).size = 16 from rfl] at q
                                                omega
                                              have H' := Aside0.mk H
                                              clear H
                                              go_wp2
                                              go_roundg kj16
                                              case measure => have := HK1.out; have := HJ3.out; have := HJ16.out; omega
                                              case rel => exact ⟨((((x3_1 ++ (⟨#[92, 117, 123]⟩ : ByteArray)) ++ ((⟨#[48, 49, 50, 51, 52, 53, 54, 55, 56, 57, 97, 98, 99, 100, 101, 102]⟩ : ByteArray).extract ((ji22) : Int).toNat ((wrap64 ((ji22) + 1)) : Int).toNat)) ++ ((⟨#[48, 49, 50, 51, 52, 53, 54, 55, 56, 57, 97, 98, 99, 100, 101, 102]⟩ : ByteArray).extract ((ji27) : Int).toNat ((wrap64 ((ji27) + 1)) : Int).toNat)) ++ (⟨#[125]⟩ : ByteArray)), (wrap64 (x4_1 + t157)), (by first | rfl | (simp; done) | (simp only [← hji22, ← hji27] <;> (first | rfl | simp)) | (simp [*]; done)), (by first | rfl | (simp; done) | (simp [*]; done)), H', ⟨by have := HK1.out; have := HJ3.out; have := HJ16.out; omega⟩, ⟨by repeat (first | (with_reducible first | exact HB.out | apply below_alloc | apply pw_below_drewN | apply below_drew1) | exact HB.out)⟩⟩
                                            · rw [if_neg c32] at H
                                              exact absurd H (by simp)
                                          · rw [if_neg c31] at H
                                            exact absurd H (by simp)
                                        · rw [if_neg c30] at H
                                          exact absurd H (by simp)
                                      · rw [if_neg c29] at H
                                        exact absurd H (by simp)
                                    · rw [if_neg c28] at H
                                      exact absurd H (by simp)
                                  · rw [if_neg c26] at H
                                    exact absurd H (by simp)
                                · rw [if_neg c25] at H
                                  exact absurd H (by simp)
                              · rw [if_neg c24] at H
                                exact absurd H (by simp)
                            · rw [if_neg c23] at H
                              exact absurd H (by simp)
                          · rw [if_neg c21] at H
                            have c21b0 : decide (15 < t158) = false := decide_eq_false c21
                            clear c21
                            obtain ⟨ji33, hji33⟩ : ∃ j_ : Int, (Int.tmod t158 16) = j_ := ⟨_, rfl⟩
                            replace H : (if 0 ≤ (ji33) then (if (ji33) ≤ (wrap64 ((ji33) + 1)) then (if (wrap64 ((ji33) + 1)) ≤ 16 then (if (x3_1 ++ (⟨#[92, 117, 123]⟩ : ByteArray)).size + ((⟨#[48, 49, 50, 51, 52, 53, 54, 55, 56, 57, 97, 98, 99, 100, 101, 102]⟩ : ByteArray).extract ((ji33) : Int).toNat ((wrap64 ((ji33) + 1)) : Int).toNat).size ≤ 9223372036854775807 then (if ((x3_1 ++ (⟨#[92, 117, 123]⟩ : ByteArray)) ++ ((⟨#[48, 49, 50, 51, 52, 53, 54, 55, 56, 57, 97, 98, 99, 100, 101, 102]⟩ : ByteArray).extract ((ji33) : Int).toNat ((wrap64 ((ji33) + 1)) : Int).toNat)).size + 1 ≤ 9223372036854775807 then (replicaref12_shown.l0 kj16 a0 (((x3_1 ++ (⟨#[92, 117, 123]⟩ : ByteArray)) ++ ((⟨#[48, 49, 50, 51, 52, 53, 54, 55, 56, 57, 97, 98, 99, 100, 101, 102]⟩ : ByteArray).extract ((ji33) : Int).toNat ((wrap64 ((ji33) + 1)) : Int).toNat)) ++ (⟨#[125]⟩ : ByteArray)) (wrap64 (x4_1 + t157))) else (none)) else (none)) else (none)) else (none)) else (none)) = some r := by first | (rw [hji33] at H; exact H) | (simp only [hji33] at H ⊢; exact H)
                            by_cases c34 : 0 ≤ (ji33)
                            · rw [if_pos c34] at H
                              have c34b0 := eq_true c34
                              have c34b1 : decide (0 ≤ (ji33)) = true := decide_eq_true c34
                              clear c34
                              by_cases c35 : (ji33) ≤ (wrap64 ((ji33) + 1))
                              · rw [if_pos c35] at H
                                have c35b0 := eq_true c35
                                have c35b1 : decide ((ji33) ≤ (wrap64 ((ji33) + 1))) = true := decide_eq_true c35
                                by_cases c36 : (wrap64 ((ji33) + 1)) ≤ 16
                                · rw [if_pos c36] at H
                                  have c36b0 := eq_true c36
                                  have c36b1 : decide ((wrap64 ((ji33) + 1)) ≤ 16) = true := decide_eq_true c36
                                  by_cases c37 : (x3_1 ++ (⟨#[92, 117, 123]⟩ : ByteArray)).size + ((⟨#[48, 49, 50, 51, 52, 53, 54, 55, 56, 57, 97, 98, 99, 100, 101, 102]⟩ : ByteArray).extract ((ji33) : Int).toNat ((wrap64 ((ji33) + 1)) : Int).toNat).size ≤ 9223372036854775807
                                  · rw [if_pos c37] at H
                                    have c37b0 := eq_true c37
                                    have c37b1 : decide ((x3_1 ++ (⟨#[92, 117, 123]⟩ : ByteArray)).size + ((⟨#[48, 49, 50, 51, 52, 53, 54, 55, 56, 57, 97, 98, 99, 100, 101, 102]⟩ : ByteArray).extract ((ji33) : Int).toNat ((wrap64 ((ji33) + 1)) : Int).toNat).size ≤ 9223372036854775807) = true := decide_eq_true c37
                                    try have c37b2 : (9223372036854775807 < (x3_1 ++ (⟨#[92, 117, 123]⟩ : ByteArray)).size + ((⟨#[48, 49, 50, 51, 52, 53, 54, 55, 56, 57, 97, 98, 99, 100, 101, 102]⟩ : ByteArray).extract ((ji33) : Int).toNat ((wrap64 ((ji33) + 1)) : Int).toNat).size) = False := eq_false (Nat.not_lt.2 c37)
                                    by_cases c38 : ((x3_1 ++ (⟨#[92, 117, 123]⟩ : ByteArray)) ++ ((⟨#[48, 49, 50, 51, 52, 53, 54, 55, 56, 57, 97, 98, 99, 100, 101, 102]⟩ : ByteArray).extract ((ji33) : Int).toNat ((wrap64 ((ji33) + 1)) : Int).toNat)).size + 1 ≤ 9223372036854775807
                                    · rw [if_pos c38] at H
                                      have c38b0 := eq_true c38
                                      have c38b1 : decide (((x3_1 ++ (⟨#[92, 117, 123]⟩ : ByteArray)) ++ ((⟨#[48, 49, 50, 51, 52, 53, 54, 55, 56, 57, 97, 98, 99, 100, 101, 102]⟩ : ByteArray).extract ((ji33) : Int).toNat ((wrap64 ((ji33) + 1)) : Int).toNat)).size + 1 ≤ 9223372036854775807) = true := decide_eq_true c38
                                      try have c38b2 : (9223372036854775807 < ((x3_1 ++ (⟨#[92, 117, 123]⟩ : ByteArray)) ++ ((⟨#[48, 49, 50, 51, 52, 53, 54, 55, 56, 57, 97, 98, 99, 100, 101, 102]⟩ : ByteArray).extract ((ji33) : Int).toNat ((wrap64 ((ji33) + 1)) : Int).toNat)).size + 1) = False := eq_false (Nat.not_lt.2 c38)
                                      have c38n : x3_1.size + 3 + ((wrap64 (ji33 + 1)).toNat - ji33.toNat) + 1 ≤ 9223372036854775807 := by
                                        have q := c38
                                        simp only [ByteArray.size_append, ByteArray.size_extract] at q
                                        rw [show (⟨#[92, 117, 123]⟩ : ByteArray).size = 3 from rfl, show (⟨#[48, 49, 50, 51, 52, 53, 54, 55, 56, 57, 97, 98, 99, 100, 101, 102]⟩ : ByteArray).size = 16 from rfl] at q
                                        omega
                                      have H' := Aside0.mk H
                                      clear H
                                      go_wp2
                                      go_roundg kj16
                                      case measure => have := HK1.out; have := HJ3.out; have := HJ16.out; omega
                                      case rel => exact ⟨(((x3_1 ++ (⟨#[92, 117, 123]⟩ : ByteArray)) ++ ((⟨#[48, 49, 50, 51, 52, 53, 54, 55, 56, 57, 97, 98, 99, 100, 101, 102]⟩ : ByteArray).extract ((ji33) : Int).toNat ((wrap64 ((ji33) + 1)) : Int).toNat)) ++ (⟨#[125]⟩ : ByteArray)), (wrap64 (x4_1 + t157)), (by first | rfl | (simp; done) | (simp only [← hji33] <;> (first | rfl | simp)) | (simp [*]; done)), (by first | rfl | (simp; done) | (simp [*]; done)), H', ⟨by have := HK1.out; have := HJ3.out; have := HJ16.out; omega⟩, ⟨by repeat (first | (with_reducible first | exact HB.out | apply below_alloc | apply pw_below_drewN | apply below_drew1) | exact HB.out)⟩⟩
                                    · rw [if_neg c38] at H
                                      exact absurd H (by simp)
                                  · rw [if_neg c37] at H
                                    exact absurd H (by simp)
                                · rw [if_neg c36] at H
                                  exact absurd H (by simp)
                              · rw [if_neg c35] at H
                                exact absurd H (by simp)
                            · rw [if_neg c34] at H
                              exact absurd H (by simp)
                        · rw [if_neg c20] at H
                          exact absurd H (by simp)
                      · replace c19 := Bool.eq_false_iff.mpr c19
                        subst c19
                        have H1 : (if 0 ≤ x4_1 then (if x4_1 ≤ (wrap64 (x4_1 + t157)) then (if (wrap64 (x4_1 + t157)) ≤ (a0.size : Int) then (if x3_1.size + (a0.extract (x4_1 : Int).toNat ((wrap64 (x4_1 + t157)) : Int).toNat).size ≤ 9223372036854775807 then (replicaref12_shown.l0 kj16 a0 (x3_1 ++ (a0.extract (x4_1 : Int).toNat ((wrap64 (x4_1 + t157)) : Int).toNat)) (wrap64 (x4_1 + t157))) else (none)) else (none)) else (none)) else (none)) = some r := by rw [if_neg (show ¬ (false = true) by decide)] at H; exact H
                        clear H
                        have H := H1
                        clear H1
                        by_cases c39 : 0 ≤ x4_1
                        · rw [if_pos c39] at H
                          have c39b0 := eq_true c39
                          have c39b1 : decide (0 ≤ x4_1) = true := decide_eq_true c39
                          clear c39
                          by_cases c40 : x4_1 ≤ (wrap64 (x4_1 + t157))
                          · rw [if_pos c40] at H
                            have c40b0 := eq_true c40
                            have c40b1 : decide (x4_1 ≤ (wrap64 (x4_1 + t157))) = true := decide_eq_true c40
                            by_cases c41 : (wrap64 (x4_1 + t157)) ≤ (a0.size : Int)
                            · rw [if_pos c41] at H
                              have c41b0 := eq_true c41
                              have c41b1 : decide ((wrap64 (x4_1 + t157)) ≤ (a0.size : Int)) = true := decide_eq_true c41
                              by_cases c42 : x3_1.size + (a0.extract (x4_1 : Int).toNat ((wrap64 (x4_1 + t157)) : Int).toNat).size ≤ 9223372036854775807
                              · rw [if_pos c42] at H
                                have c42b0 := eq_true c42
                                have c42b1 : decide (x3_1.size + (a0.extract (x4_1 : Int).toNat ((wrap64 (x4_1 + t157)) : Int).toNat).size ≤ 9223372036854775807) = true := decide_eq_true c42
                                try have c42b2 : (9223372036854775807 < x3_1.size + (a0.extract (x4_1 : Int).toNat ((wrap64 (x4_1 + t157)) : Int).toNat).size) = False := eq_false (Nat.not_lt.2 c42)
                                have H' := Aside0.mk H
                                clear H
                                go_wp2
                                go_roundg kj16
                                case measure => have := HK1.out; have := HJ3.out; have := HJ16.out; omega
                                case rel => exact ⟨(x3_1 ++ (a0.extract (x4_1 : Int).toNat ((wrap64 (x4_1 + t157)) : Int).toNat)), (wrap64 (x4_1 + t157)), (by first | rfl | (simp; done) | (simp [*]; done)), (by first | rfl | (simp; done) | (simp [*]; done)), H', ⟨by have := HK1.out; have := HJ3.out; have := HJ16.out; omega⟩, ⟨by repeat (first | (with_reducible first | exact HB.out | apply below_alloc | apply pw_below_drewN | apply below_drew1) | exact HB.out)⟩⟩
                              · rw [if_neg c42] at H
                                exact absurd H (by simp)
                            · rw [if_neg c41] at H
                              exact absurd H (by simp)
                          · rw [if_neg c40] at H
                            exact absurd H (by simp)
                        · rw [if_neg c39] at H
                          exact absurd H (by simp)
      · rw [if_neg c2] at H
        have c2b0 : decide (x4_1 < (a0.size : Int)) = false := decide_eq_false c2
        clear c2
        by_cases c43 : x3_1.size + 1 ≤ 9223372036854775807
        · rw [if_pos c43] at H
          have c43b0 := eq_true c43
          have c43b1 : decide (x3_1.size + 1 ≤ 9223372036854775807) = true := decide_eq_true c43
          try have c43b2 : (9223372036854775807 < x3_1.size + 1) = False := eq_false (Nat.not_lt.2 c43)
          obtain rfl := Option.some.inj H
          go_wp2
          go_ret
          exact ⟨by first | rfl | (simp [errW_none, errW_some] <;> rfl) | (simp [*, errW_none, errW_some] <;> rfl), by repeat (first | (with_reducible first | exact HB.out | apply below_alloc | apply pw_below_drewN | apply below_drew1) | exact HB.out)⟩
        · rw [if_neg c43] at H
          exact absurd H (by simp)

-- NOT PRINTED: function 23 (replicaref12_Print)

end Go.Proofs.YtfecfgimfjcbdaaDoor.QRCheck
