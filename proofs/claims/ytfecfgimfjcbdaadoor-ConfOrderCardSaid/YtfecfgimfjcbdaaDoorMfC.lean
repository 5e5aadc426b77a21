/- conf.Check, walked. -/
import Derived.Test.YtfecfgimfjcbdaaDoorMfB
import Derived.Test.YtfecfgimfjcbdaaDoorMfA
import Derived.Test.YtfecfgimfjcbdaaDoorShelfV
namespace Go.Proofs.YtfecfgimfjcbdaaDoor.Cf
open Go.RowKit Go.Proofs.YtfecfgimfjcbdaaDoorW.PrintWords Go.Proofs.YtfecfgimfjcbdaaDoorW.PrintLast Go.Proofs.YtfecfgimfjcbdaaDoorW.PrintMore Go.Proofs.YtfecfgimfjcbdaaDoor.QCCheck

/-- A Config's cells: the keys' values in the keys' order, and the two texts. -/
def cfgC (nm sc : ByteArray) (k : Nat → Int) : Array Value := #[.string nm, .int .i64 (k 1), .int .i64 (k 2), .int .i64 (k 3), .int .i64 (k 0), .int .i64 (k 4), .int .i64 (k 5), .int .i64 (k 6), .int .i64 (k 7), .int .i64 (k 8), .int .i64 (k 9), .string sc, .int .i64 (k 10), .int .i64 (k 11), .int .i64 (k 12), .int .i64 (k 13), .int .i64 (k 14), .int .i64 (k 15)]
theorem cfg_key (nm sc : ByteArray) (k : Nat → Int) (i : Nat) (hi : i < 16) : (cfgC nm sc k)[kOff i]? = some (.int .i64 (k i)) := by
  rcases i with _ | _ | _ | _ | _ | _ | _ | _ | _ | _ | _ | _ | _ | _ | _ | _ | i
  case succ.succ.succ.succ.succ.succ.succ.succ.succ.succ.succ.succ.succ.succ.succ.succ => omega
  all_goals rfl
theorem kOff_lt (i : Nat) (hi : i < 16) : kOff i < 18 := by
  unfold kOff
  repeat' split
  all_goals omega

/-- Are all from key j on in their domains? -/
def okFrom (k : Nat → Int) : Nat → Nat → Bool
  | 0, _ => true
  | n + 1, j => (match kTab[j]? with | some t => tk t (k j) | none => true) && okFrom k n (j + 1)
def okK (k : Nat → Int) : Bool := okFrom k 16 0
def togI (k : Nat → Int) : Bool := if k 7 > k 6 then decide (k 5 ≥ wrap64 (wrap64 (wrap64 (16 + wrap64 (2 * k 15)) + wrap64 (2 * k 9)) + wrap64 (8 * k 8))) else false
theorem tog_f (nm sc : ByteArray) (k : Nat → Int) : conf_together.f nm (k 1) (k 2) (k 3) (k 0) (k 4) (k 5) (k 6) (k 7) (k 8) (k 9) sc (k 10) (k 11) (k 12) (k 13) (k 14) (k 15) = some (togI k) := by
  unfold conf_together.f togI
  split <;> rfl
def restI (nm sc : ByteArray) (k : Nat → Int) : Bool := nameI nm && decide (sc.size ≤ 64) && Lib.validD (bl sc) && togI k
def chkI (nm sc : ByteArray) (k : Nat → Int) : Int := if okK k && restI nm sc k then 0 else 124

def Utf (w : World) : Prop := ∀ w', Below w.heap.size w w' → Lib.Utf8Tabs (Tryd.laysValid_ren.g 3) (Tryd.laysValid_ren.g 4) w'

theorem call_kfield (j : Nat) (hj : j < 16) (args : Array Value) (W : World) : (callFunc (58 + j) args).run Tryd.prog W = .ok (.enter (58 + j) args) W := by
  rcases j with _ | _ | _ | _ | _ | _ | _ | _ | _ | _ | _ | _ | _ | _ | _ | _ | j
  case succ.succ.succ.succ.succ.succ.succ.succ.succ.succ.succ.succ.succ.succ.succ.succ => omega
  all_goals go_simp

set_option maxRecDepth 100000 in
set_option maxHeartbeats 1000000 in
theorem check_any (nm sc : ByteArray) (k : Nat → Int) (hk : ∀ i, -9223372036854775808 ≤ k i ∧ k i ≤ 9223372036854775807) (w : World) (hu : Utf w) :
    Calls Tryd.prog 14 #[.agg (cfgC nm sc k)] w fun e w' => e = .returned (.int .i64 (chkI nm sc k)) ∧ Below w.heap.size w w' := by
  have mixed : Tryd.prog.follows .mixedOrders = true := by kernel_rfl
  have K1 := Aside0.mk (blk_new w (.cells (cfgC nm sc k) 23))
  have HB1 := Aside0.mk ((Below.refl w.heap.size w).alloc (Nat.le_refl _) (.cells (cfgC nm sc k) 23))
  go_enter Tryd.func14, Tryd.ntmps14
  go_wp2_with fail
  generalize w.alloc (.cells (cfgC nm sc k) 23) = w1 at *
  generalize hb : w.heap.size = b at *
  refine (keys_any w1).mono ?_
  rintro e w2 ⟨g, rfl, hg, hB2, hg2, _, hP⟩
  have hw1 : b + 1 ≤ w1.heap.size := blk_lt K1.out
  have K2 := Aside0.mk (blk_below K1.out hB2)
  have HB2 := Aside0.mk (below_then HB1.out (by omega) hB2)
  have HP := Aside0.mk hP
  have HW := Aside0.mk (Below.refl w2.heap.size w2)
  have HO := Aside0.mk (rfl : okFrom k 16 0 = okK k)
  clear hB2 hP K1 HB1
  go_wp2
  go_loopg [8] 16 (fun kq v8 wr => ∃ j : Nat, j ≤ 16 ∧ kq = 16 - j ∧ v8 = .int .i64 j ∧ Aside0 (okFrom k (16 - j) j = okK k) ∧ Aside0 (Below w2.heap.size w2 wr))
  case atStart => exact ⟨0, by omega, rfl, rfl, ⟨rfl⟩, HW⟩
  case round =>
    clear HW HO
    obtain ⟨j, hj, rfl, rfl, HO, HW⟩ := hrel
    have KB := Aside0.mk (blk_below K2.out HW.out)
    by_cases hlt : j < 16
    · have hd : decide ((j : Int) < 16) = true := decide_eq_true (by omega)
      have hjl : (j : Int) < 16 := by omega
      obtain ⟨t, ht⟩ : ∃ t, kTab[j]? = some t := ⟨_, List.getElem?_eq_getElem hlt⟩
      have HK : Aside0 (KeyAt wr w1.heap.size g j t) := ⟨(HP.out j t ht).keep hg (fun q _ hq => HW.out.block q hq)⟩
      have hcf := fun args W => call_kfield j hlt args W
      have cT := takes_any wr.drew w1.heap.size g j t (k j) (HK.out.keep hg (fun _ _ _ => rfl)) (hk j)
      have c7 : wr.cell? ⟨g, j * 8 + 7, none⟩ = some (.func (.func (58 + j)) #[] #[]) := HK.out.2.2.2.2.2.2
      have ck : wr.cell? ⟨b, kOff j, none⟩ = some (.int .i64 (k j)) := (blk_cell KB.out _).trans (cfg_key nm sc k j hlt)
      go_upto_region 5 with fail
      refine wp_region_still_lit (by kernel_rfl) (by kernel_rfl) ?_
      repeat still_step
      still_call ((kfield_any j hlt b _).mono (fun e w' h => ⟨h.1, h.2.symm⟩))
      repeat still_step
      still_call cT
      repeat still_step
      refine wpStill_nil ?_
      change Exit.then _ _ Exit.normal _ wr.drew
      have HO' : okFrom k (16 - j) j = (tk t (k j) && okFrom k (16 - (j + 1)) (j + 1)) := by
        obtain ⟨q, hq⟩ : ∃ q, 16 - j = q + 1 := ⟨15 - j, by omega⟩
        rw [hq, show 16 - (j + 1) = q by omega]
        simp only [okFrom, ht]
      rw [HO'] at HO
      clear HO' hcf c7 ck HK KB cT
      cases htk : tk t (k j) with
      | false =>
        rw [htk, Bool.false_and] at HO
        have HC : Aside0 (chkI nm sc k = 124) := ⟨by unfold chkI; rw [← HO.out]; rfl⟩
        go_wp2
        go_ret
        exact ⟨by rw [HC.out]; rfl, by rw [hb]; exact below_drew (below_then HB2.out (by omega) HW.out)⟩
      | true =>
        rw [htk, Bool.true_and] at HO
        go_wp2
        go_roundg (16 - (j + 1))
        case measure => omega
        case rel => exact ⟨j + 1, by omega, rfl, by go_num, HO, ⟨below_drew HW.out⟩⟩
    · have hd : decide ((j : Int) < 16) = false := decide_eq_false (by omega)
      obtain rfl : j = 16 := by omega
      have HOK : Aside0 (okK k = true) := ⟨HO.out.symm⟩
      have HB3 := Aside0.mk (below_then HB2.out (by omega) HW.out)
      have hwr : b ≤ wr.heap.size := by have := blk_lt KB.out; omega
      clear HO HW
      have c0 : wr.cell? ⟨b, 0, none⟩ = some (.string nm) := (blk_cell KB.out 0).trans rfl
      go_wp2_with fail
      refine (conf_isName.calls (nm.size + 4) nm _ wr (isName_f nm)).mono ?_
      rintro e w4 ⟨rfl, hD⟩
      have K4 := Aside0.mk (blk_below KB.out hD.below)
      have HB4 := Aside0.mk (below_then HB3.out hwr hD.below)
      clear hD KB HB3 c0
      have hw4 : b ≤ w4.heap.size := by have := blk_lt K4.out; omega
      cases hn : nameI nm with
      | false =>
        have HC : Aside0 (chkI nm sc k = 124) := ⟨by unfold chkI restI; rw [HOK.out, hn]; rfl⟩
        go_wp2
        go_ret
        exact ⟨by rw [HC.out]; rfl, by rw [hb]; exact HB4.out⟩
      | true =>
        have c11 : w4.cell? ⟨b, 11, none⟩ = some (.string sc) := (blk_cell K4.out 11).trans rfl
        by_cases hs : 64 < sc.size
        · have hsd : decide ((64 : Int) < (sc.size : Int)) = true := decide_eq_true (by omega)
          have HC : Aside0 (chkI nm sc k = 124) := ⟨by unfold chkI restI; rw [HOK.out, hn, decide_eq_false (by omega : ¬ sc.size ≤ 64)]; rfl⟩
          go_wp2
          go_ret
          exact ⟨by rw [HC.out]; rfl, by rw [hb]; exact HB4.out⟩
        · have hsd : decide ((64 : Int) < (sc.size : Int)) = false := decide_eq_false (by omega)
          have hU := hu w4 (by rw [hb]; exact HB4.out)
          go_wp2_with fail
          refine (Any.utf8_ValidString Tryd.laysValid sc w4 (by omega) hU).mono ?_
          rintro e w5 ⟨rfl, hB5⟩
          have K5 := Aside0.mk (blk_below K4.out hB5)
          have HB5 := Aside0.mk (below_then HB4.out hw4 hB5)
          clear hB5 K4 HB4 c11 hU
          have hw5 : b ≤ w5.heap.size := by have := blk_lt K5.out; omega
          cases hv : Lib.validD sc.data.toList with
          | false =>
            have HC : Aside0 (chkI nm sc k = 124) := ⟨by unfold chkI restI; rw [HOK.out, hn, show Lib.validD (bl sc) = false from hv, decide_eq_true (by omega : sc.size ≤ 64)]; rfl⟩
            go_wp2
            go_ret
            exact ⟨by rw [HC.out]; rfl, by rw [hb]; exact HB5.out⟩
          | true =>
            have c0 : w5.cell? ⟨b, 0, none⟩ = some (.string nm) := (blk_cell K5.out 0).trans rfl
            have c1 : w5.cell? ⟨b, 1, none⟩ = some (.int .i64 (k 1)) := (blk_cell K5.out 1).trans rfl
            have c2 : w5.cell? ⟨b, 2, none⟩ = some (.int .i64 (k 2)) := (blk_cell K5.out 2).trans rfl
            have c3 : w5.cell? ⟨b, 3, none⟩ = some (.int .i64 (k 3)) := (blk_cell K5.out 3).trans rfl
            have c4 : w5.cell? ⟨b, 4, none⟩ = some (.int .i64 (k 0)) := (blk_cell K5.out 4).trans rfl
            have c5 : w5.cell? ⟨b, 5, none⟩ = some (.int .i64 (k 4)) := (blk_cell K5.out 5).trans rfl
            have c6 : w5.cell? ⟨b, 6, none⟩ = some (.int .i64 (k 5)) := (blk_cell K5.out 6).trans rfl
            have c7 : w5.cell? ⟨b, 7, none⟩ = some (.int .i64 (k 6)) := (blk_cell K5.out 7).trans rfl
            have c8 : w5.cell? ⟨b, 8, none⟩ = some (.int .i64 (k 7)) := (blk_cell K5.out 8).trans rfl
            have c9 : w5.cell? ⟨b, 9, none⟩ = some (.int .i64 (k 8)) := (blk_cell K5.out 9).trans rfl
            have c10 : w5.cell? ⟨b, 10, none⟩ = some (.int .i64 (k 9)) := (blk_cell K5.out 10).trans rfl
            have c11 : w5.cell? ⟨b, 11, none⟩ = some (.string sc) := (blk_cell K5.out 11).trans rfl
            have c12 : w5.cell? ⟨b, 12, none⟩ = some (.int .i64 (k 10)) := (blk_cell K5.out 12).trans rfl
            have c13 : w5.cell? ⟨b, 13, none⟩ = some (.int .i64 (k 11)) := (blk_cell K5.out 13).trans rfl
            have c14 : w5.cell? ⟨b, 14, none⟩ = some (.int .i64 (k 12)) := (blk_cell K5.out 14).trans rfl
            have c15 : w5.cell? ⟨b, 15, none⟩ = some (.int .i64 (k 13)) := (blk_cell K5.out 15).trans rfl
            have c16 : w5.cell? ⟨b, 16, none⟩ = some (.int .i64 (k 14)) := (blk_cell K5.out 16).trans rfl
            have c17 : w5.cell? ⟨b, 17, none⟩ = some (.int .i64 (k 15)) := (blk_cell K5.out 17).trans rfl
            go_wp2_with fail
            refine (conf_together.calls nm (k 1) (k 2) (k 3) (k 0) (k 4) (k 5) (k 6) (k 7) (k 8) (k 9) sc (k 10) (k 11) (k 12) (k 13) (k 14) (k 15) _ w5 (tog_f nm sc k)).mono ?_
            rintro e w6 ⟨rfl, hB6⟩
            have HB6 := Aside0.mk (below_then HB5.out hw5 hB6)
            clear hB6 K5 HB5
            have HC : Aside0 (chkI nm sc k = if togI k = true then 0 else 124) := ⟨by unfold chkI restI; rw [HOK.out, hn, show Lib.validD (bl sc) = true from hv, decide_eq_true (by omega : sc.size ≤ 64)]; rfl⟩
            cases htg : togI k with
            | false =>
              rw [htg] at HC
              go_wp2
              go_ret
              exact ⟨by rw [HC.out]; rfl, by rw [hb]; exact HB6.out⟩
            | true =>
              rw [htg] at HC
              go_wp2
              go_ret
              exact ⟨by rw [HC.out]; rfl, by rw [hb]; exact HB6.out⟩
end Go.Proofs.YtfecfgimfjcbdaaDoor.Cf
