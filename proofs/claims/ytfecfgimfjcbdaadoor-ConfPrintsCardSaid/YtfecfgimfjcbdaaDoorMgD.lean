/- A Config that comes in; the tables of unicode/utf8 as they are laid. (Several texts in one: replicaref12.Check, walked. · replicaref12.Check, walked. · A Config that comes in; the tables of unicode/utf8 as they are laid.) -/
import Derived.Test.YtfecfgimfjcbdaaDoorMgC
import Derived.Test.YtfecfgimfjcbdaaDoorQRCheck3
import Derived.Test.YtfecfgimfjcbdaaDoorCards
import Derived.Test.YtfecfgimfjcbdaaDoorTie
import Derived.ProofKit
import Derived.SizedLaws
import Derived.Carry
import Derived.Lay
import Derived.LaidMore
import Derived.LaidSub
import Derived.Lib.LaidU8T
import Derived.SevenTiedAt
import Derived.Stop.Joined
namespace Go.Proofs.YtfecfgimfjcbdaaDoor.Cf
open Go.RowKit Go.Proofs.YtfecfgimfjcbdaaDoorW.PrintWords Go.Proofs.YtfecfgimfjcbdaaDoorW.PrintLast Go.Proofs.YtfecfgimfjcbdaaDoorW.PrintMore Go.Proofs.YtfecfgimfjcbdaaDoor.QRCheck

/-- A result that lies in a cell of its own. -/
theorem results_c1 {P : Program} {fn : Func} {p : Tmp} {ty : TypeId} (h : fn.results = #[.cell p ty]) (tmps : Array Value) (w : World) (g : Nat) (t : TypeId) (cs : Array Value) (fr : Nat × Nat) (d : TypeDesc)
    (hp : tmps.getD p undef = .pointer (some ⟨g, 0, none⟩)) (hg : w.heap[g]? = some (.cells cs t fr))
    (hu : P.underlying ty = some d) (hd : (match d with | .struct _ | .array _ _ => true | _ => false) = true) (hi : (P.info? ty).map (·.size) = some cs.size) :
    (results fn tmps).run P w = .ok (.agg cs) w := by
  have hp' : tmps[p]?.getD undef = .pointer (some ⟨g, 0, none⟩) := by simpa using hp
  simp [results, h, hp', asAddr, run_loadVar_row w g t ty cs fr d hg hu hd hi]

/-- The reference's table of keys, cell by cell. -/
def rTabC : Array Value := #[.string (⟨#[112, 114, 111, 116, 111, 99, 111, 108]⟩ : ByteArray), .string (⟨#[]⟩ : ByteArray), .int .i64 0, .int .i64 0, .int .i64 3, .string (⟨#[98, 108, 111, 99, 107, 115]⟩ : ByteArray), .string (⟨#[100, 101, 118, 105, 99, 101]⟩ : ByteArray), .int .i64 1, .int .i64 4096, .int .i64 (-1), .string (⟨#[98, 108, 111, 99, 107, 45, 115, 105, 122, 101]⟩ : ByteArray), .string (⟨#[100, 101, 118, 105, 99, 101]⟩ : ByteArray), .int .i64 128, .int .i64 1024, .int .i64 (-1), .string (⟨#[97, 108, 45, 115, 108, 111, 116, 115]⟩ : ByteArray), .string (⟨#[100, 101, 118, 105, 99, 101]⟩ : ByteArray), .int .i64 1, .int .i64 16, .int .i64 4, .string (⟨#[119, 105, 110, 100, 111, 119]⟩ : ByteArray), .string (⟨#[110, 101, 116]⟩ : ByteArray), .int .i64 1, .int .i64 64, .int .i64 8, .string (⟨#[98, 97, 99, 107, 108, 111, 103]⟩ : ByteArray), .string (⟨#[110, 101, 116]⟩ : ByteArray), .int .i64 1, .int .i64 1024, .int .i64 256, .string (⟨#[114, 101, 115, 101, 110, 100]⟩ : ByteArray), .string (⟨#[110, 101, 116]⟩ : ByteArray), .int .i64 1, .int .i64 1000, .int .i64 3, .string (⟨#[116, 105, 109, 101, 111, 117, 116]⟩ : ByteArray), .string (⟨#[110, 101, 116]⟩ : ByteArray), .int .i64 1, .int .i64 1000, .int .i64 20, .string (⟨#[109, 97, 120, 45, 101, 112, 111, 99, 104, 45, 115, 105, 122, 101]⟩ : ByteArray), .string (⟨#[110, 101, 116]⟩ : ByteArray), .int .i64 1, .int .i64 64, .int .i64 16, .string (⟨#[109, 97, 120, 45, 113, 117, 101, 117, 101]⟩ : ByteArray), .string (⟨#[110, 101, 116]⟩ : ByteArray), .int .i64 1, .int .i64 256, .int .i64 32, .string (⟨#[97, 102, 116, 101, 114, 45, 115, 98, 45, 48, 112, 114, 105]⟩ : ByteArray), .string (⟨#[110, 101, 116]⟩ : ByteArray), .int .i64 0, .int .i64 0, .int .i64 0, .string (⟨#[97, 102, 116, 101, 114, 45, 115, 98, 45, 49, 112, 114, 105]⟩ : ByteArray), .string (⟨#[110, 101, 116]⟩ : ByteArray), .int .i64 0, .int .i64 0, .int .i64 0, .string (⟨#[97, 102, 116, 101, 114, 45, 115, 98, 45, 50, 112, 114, 105]⟩ : ByteArray), .string (⟨#[110, 101, 116]⟩ : ByteArray), .int .i64 0, .int .i64 0, .int .i64 0, .string (⟨#[114, 97, 116, 101]⟩ : ByteArray), .string (⟨#[115, 121, 110, 99, 101, 114]⟩ : ByteArray), .int .i64 1, .int .i64 1024, .int .i64 4, .string (⟨#[98, 117, 114, 115, 116]⟩ : ByteArray), .string (⟨#[115, 121, 110, 99, 101, 114]⟩ : ByteArray), .int .i64 1, .int .i64 1024, .int .i64 8, .string (⟨#[97, 104, 101, 97, 100]⟩ : ByteArray), .string (⟨#[115, 121, 110, 99, 101, 114]⟩ : ByteArray), .int .i64 1, .int .i64 64, .int .i64 4]
set_option maxRecDepth 100000 in
set_option maxHeartbeats 4000000 in
theorem table_any (w : World) : Calls Tryd.prog 35 #[] w fun e w' => e = .returned (.agg rTabC) ∧ Below w.heap.size w w' := by
  have hB := (Below.refl w.heap.size w).alloc (Nat.le_refl _) (.cells Tryd.zeroCells61 61)
  have hn := blk_new w (.cells Tryd.zeroCells61 61)
  go_enter Tryd.func35, Tryd.ntmps35
  go_wp2_with (refine store_whole rfl rfl rfl (g := w.heap.size) rfl rTabC (by rfl) hn (by kernel_rfl) (by kernel_rfl) (by decide +kernel) ?_; intro w6 h6 hg6)
  refine bodyPost_ret (results_c1 rfl _ _ w.heap.size 61 rTabC (0, 0) _ rfl h6 Tryd.underlying61 rfl (by kernel_rfl)) rfl ?_
  exact ⟨rfl, pw_below_grown hB (some w.heap.size) hB.size hg6 (fun q hq => by obtain rfl := Option.some.inj hq; exact Nat.le_refl _)⟩

def numC (k : Nat → Int) : Array Value := #[.int .i64 (k 0), .int .i64 (k 1), .int .i64 (k 2), .int .i64 (k 3), .int .i64 (k 4), .int .i64 (k 5), .int .i64 (k 6), .int .i64 (k 7), .int .i64 (k 8), .int .i64 (k 9), .int .i64 (k 10), .int .i64 (k 11), .int .i64 (k 12), .int .i64 (k 13), .int .i64 (k 14), .int .i64 (k 15)]
set_option maxRecDepth 100000 in
set_option maxHeartbeats 4000000 in
theorem numbers_any (nm sc : ByteArray) (k : Nat → Int) (w : World) : Calls Tryd.prog 36 #[.agg (cfgC nm sc k)] w fun e w' => e = .returned (.agg (numC k)) ∧ Below w.heap.size w w' := by
  unfold cfgC
  go_enter Tryd.func36, Tryd.ntmps36
  go_wp2
  refine bodyPost_ret (results_c1 rfl _ _ (w.heap.size + 1) 63 (numC k) (0, 0) _ rfl (made_get [_, _] w 1 _ rfl) Tryd.underlying63 rfl (by kernel_rfl)) rfl ?_
  exact ⟨rfl, made_below [_, _] w w _ (Below.refl _ _) (Nat.le_refl _)⟩

theorem rTab_key (i : Nat) (t : KeyT) (ht : kTab[i]? = some t) : ∃ els : Int, rTabC[i * 5]? = some (.string t.2.1) ∧ rTabC[i * 5 + 1]? = some (.string t.1) ∧ rTabC[i * 5 + 2]? = some (.int .i64 t.2.2.1) ∧ rTabC[i * 5 + 3]? = some (.int .i64 t.2.2.2.1) ∧ rTabC[i * 5 + 4]? = some (.int .i64 els) := by
  have hl : i < 16 := (List.getElem?_eq_some_iff.1 ht).1
  rcases i with _ | _ | _ | _ | _ | _ | _ | _ | _ | _ | _ | _ | _ | _ | _ | _ | i
  case succ.succ.succ.succ.succ.succ.succ.succ.succ.succ.succ.succ.succ.succ.succ.succ => omega
  all_goals
    obtain rfl := Option.some.inj ht
    exact ⟨_, rfl, rfl, rfl, rfl, rfl⟩
theorem num_key (k : Nat → Int) (i : Nat) (hi : i < 16) : (numC k)[i]? = some (.int .i64 (k i)) := by
  rcases i with _ | _ | _ | _ | _ | _ | _ | _ | _ | _ | _ | _ | _ | _ | _ | _ | i
  case succ.succ.succ.succ.succ.succ.succ.succ.succ.succ.succ.succ.succ.succ.succ.succ => omega
  all_goals rfl
theorem rtog_f (nm sc : ByteArray) (k : Nat → Int) : replicaref12_together.f nm (k 1) (k 2) (k 3) (k 0) (k 4) (k 5) (k 6) (k 7) (k 8) (k 9) sc (k 10) (k 11) (k 12) (k 13) (k 14) (k 15) = some (togI k) := by
  unfold replicaref12_together.f togI
  split <;> rfl

end Go.Proofs.YtfecfgimfjcbdaaDoor.Cf

namespace Go.Proofs.YtfecfgimfjcbdaaDoor.Cf
open Go.RowKit Go.Proofs.YtfecfgimfjcbdaaDoorW.PrintWords Go.Proofs.YtfecfgimfjcbdaaDoorW.PrintLast Go.Proofs.YtfecfgimfjcbdaaDoorW.PrintMore Go.Proofs.YtfecfgimfjcbdaaDoor.QRCheck

theorem num_one (k : Nat → Int) : ∀ q ∈ (numC k).toList, q.oneCell' = true := by
  intro q hq
  simp only [numC, List.mem_cons, List.not_mem_nil, or_false] at hq
  rcases hq with rfl | rfl | rfl | rfl | rfl | rfl | rfl | rfl | rfl | rfl | rfl | rfl | rfl | rfl | rfl | rfl <;> rfl
set_option maxRecDepth 100000 in
set_option maxHeartbeats 1000000 in
theorem refcheck_any (nm sc : ByteArray) (k : Nat → Int) (w : World) :
    Calls Tryd.prog 15 #[.agg (cfgC nm sc k)] w fun e w' => e = .returned (.int .i64 (chkI nm sc k)) ∧ Below w.heap.size w w' := by
  have K1 := Aside0.mk (blk_new w (.cells (cfgC nm sc k) 23))
  have HB1 := Aside0.mk ((Below.refl w.heap.size w).alloc (Nat.le_refl _) (.cells (cfgC nm sc k) 23))
  go_enter Tryd.func15, Tryd.ntmps15
  go_wp2_with fail
  generalize w.alloc (.cells (cfgC nm sc k) 23) = w1 at *
  generalize hb : w.heap.size = b at *
  refine (table_any w1).mono ?_
  rintro e w2 ⟨rfl, hB2⟩
  have hw1 : b + 1 ≤ w1.heap.size := blk_lt K1.out
  have K2 := Aside0.mk (blk_below K1.out hB2)
  have HB2 := Aside0.mk (below_then HB1.out (by omega) hB2)
  clear hB2 K1 HB1
  have hw2 : b + 1 ≤ w2.heap.size := blk_lt K2.out
  have hn := blk_new w2 (.cells Tryd.zeroCells61 61)
  have K3 := Aside0.mk (blk_alloc K2.out (.cells Tryd.zeroCells61 61))
  have HB3 := Aside0.mk (HB2.out.alloc (by omega) (.cells Tryd.zeroCells61 61))
  clear K2 HB2
  go_upto_region 2 with (refine store_whole rfl rfl rfl (g := w2.heap.size) rfl rTabC rfl hn (by kernel_rfl) (by kernel_rfl) (by decide +kernel) ?_; intro w3 h3 hg3)
  have K4 := Aside0.mk (grown_blk hg3 K3.out (by omega))
  have HB4 := Aside0.mk (pw_below_grown HB3.out (some w2.heap.size) (by have := HB3.out.size; omega) hg3 (fun q hq => by obtain rfl := Option.some.inj hq; omega))
  have HL := Aside0.mk h3
  clear K3 HB3 hg3 h3 hn
  go_wp2_with ((with_reducible refine gate_dst (N := 13) rfl ?_); refine wpList_load_row rfl 23 _ rfl b rfl 23 (cfgC nm sc k) (0, 0) _ K4.out Tryd.underlying23 rfl (by kernel_rfl) ?_)
  refine (numbers_any nm sc k w3).mono ?_
  rintro e w4 ⟨rfl, hB5⟩
  have hw3 : b + 1 ≤ w3.heap.size := blk_lt K4.out
  have hl3 : w2.heap.size < w3.heap.size := blk_lt HL.out
  have K5 := Aside0.mk (blk_below K4.out hB5)
  have HL5 := Aside0.mk (blk_below HL.out hB5)
  have HB5 := Aside0.mk (below_then HB4.out (by omega) hB5)
  clear hB5 K4 HL HB4
  have hw4 : b + 1 ≤ w4.heap.size := blk_lt K5.out
  have hl4 : w2.heap.size < w4.heap.size := blk_lt HL5.out
  have hn := blk_new w4 (.cells #[.int .i64 0, .int .i64 0, .int .i64 0, .int .i64 0, .int .i64 0, .int .i64 0, .int .i64 0, .int .i64 0, .int .i64 0, .int .i64 0, .int .i64 0, .int .i64 0, .int .i64 0, .int .i64 0, .int .i64 0, .int .i64 0] 63)
  have K6 := Aside0.mk (blk_alloc K5.out (.cells #[.int .i64 0, .int .i64 0, .int .i64 0, .int .i64 0, .int .i64 0, .int .i64 0, .int .i64 0, .int .i64 0, .int .i64 0, .int .i64 0, .int .i64 0, .int .i64 0, .int .i64 0, .int .i64 0, .int .i64 0, .int .i64 0] 63))
  have HL6 := Aside0.mk (blk_alloc HL5.out (.cells #[.int .i64 0, .int .i64 0, .int .i64 0, .int .i64 0, .int .i64 0, .int .i64 0, .int .i64 0, .int .i64 0, .int .i64 0, .int .i64 0, .int .i64 0, .int .i64 0, .int .i64 0, .int .i64 0, .int .i64 0, .int .i64 0] 63))
  have HB6 := Aside0.mk (HB5.out.alloc (by omega) (.cells #[.int .i64 0, .int .i64 0, .int .i64 0, .int .i64 0, .int .i64 0, .int .i64 0, .int .i64 0, .int .i64 0, .int .i64 0, .int .i64 0, .int .i64 0, .int .i64 0, .int .i64 0, .int .i64 0, .int .i64 0, .int .i64 0] 63))
  clear K5 HL5 HB5
  go_upto_region 3 with (refine store_whole rfl rfl rfl (g := w4.heap.size) rfl (numC k) rfl hn (by kernel_rfl) (by rfl) (num_one k) ?_; intro w5 h5 hg5)
  have K7 := Aside0.mk (grown_blk hg5 K6.out (by omega))
  have HL7 := Aside0.mk (grown_blk hg5 HL6.out (by omega))
  have HB7 := Aside0.mk (pw_below_grown HB6.out (some w4.heap.size) (by have := HB6.out.size; omega) hg5 (fun q hq => by obtain rfl := Option.some.inj hq; omega))
  have HN7 := Aside0.mk h5
  clear K6 HL6 HB6 hg5 h5 hn
  generalize w2.heap.size = gl at *
  generalize w4.heap.size = gn at *
  go_wp2
  have HW := Aside0.mk (Below.refl w5.heap.size w5)
  go_loopg [5] 16 (fun kq v5 wr => ∃ j : Nat, j ≤ 16 ∧ kq = 16 - j ∧ v5 = .int .i64 j ∧ Aside0 (okFrom k (16 - j) j = okK k) ∧ Aside0 (Below w5.heap.size w5 wr))
  case atStart => exact ⟨0, by omega, rfl, rfl, ⟨rfl⟩, HW⟩
  case round =>
    clear HW
    obtain ⟨j, hj, rfl, rfl, HO, HW⟩ := hrel
    have KB := Aside0.mk (blk_below K7.out HW.out)
    have KL := Aside0.mk (blk_below HL7.out HW.out)
    have KN := Aside0.mk (blk_below HN7.out HW.out)
    by_cases hlt : j < 16
    · have hd : decide ((j : Int) < 16) = true := decide_eq_true (by omega)
      have hjl : (j : Int) < 16 := by omega
      obtain ⟨t, ht⟩ : ∃ t, kTab[j]? = some t := ⟨_, List.getElem?_eq_getElem hlt⟩
      obtain ⟨els, e0, e1, e2, e3, e4⟩ := rTab_key j t ht
      have l0 : wr.cell? ⟨gl, j * 5, none⟩ = some (.string t.2.1) := (blk_cell KL.out _).trans e0
      have l1 : wr.cell? ⟨gl, j * 5 + 1, none⟩ = some (.string t.1) := (blk_cell KL.out _).trans e1
      have l2 : wr.cell? ⟨gl, j * 5 + 2, none⟩ = some (.int .i64 t.2.2.1) := (blk_cell KL.out _).trans e2
      have l3 : wr.cell? ⟨gl, j * 5 + 3, none⟩ = some (.int .i64 t.2.2.2.1) := (blk_cell KL.out _).trans e3
      have l4 : wr.cell? ⟨gl, j * 5 + 4, none⟩ = some (.int .i64 els) := (blk_cell KL.out _).trans e4
      have n0 : wr.cell? ⟨gn, j, none⟩ = some (.int .i64 (k j)) := (blk_cell KN.out _).trans (num_key k j hlt)
      have cT := fun W => replicaref12_fits.calls 40 t.2.1 t.1 t.2.2.1 t.2.2.2.1 els (k j) _ W (fits_f j t ht els (k j))
      have HO' : okFrom k (16 - j) j = (tk t (k j) && okFrom k (16 - (j + 1)) (j + 1)) := by
        obtain ⟨q, hq⟩ : ∃ q, 16 - j = q + 1 := ⟨15 - j, by omega⟩
        rw [hq, show 16 - (j + 1) = q by omega]
        simp only [okFrom, ht]
      rw [HO'] at HO
      have CT := Aside0.mk cT
      clear HO' e0 e1 e2 e3 e4 cT ht
      go_upto_region 6 with fail
      refine wp_region_still_tail 6 (by kernel_rfl) (by kernel_rfl) ?_
      simp only [List.take_succ_cons, List.take_zero, List.drop_succ_cons, List.drop_zero]
      repeat still_step
      refine wpStill_nil ?_
      change wpList _ _ _ _ _ wr.drew
      have HWd := Aside0.mk (below_drew HW.out)
      clear l0 l1 l2 l3 l4 n0 HW KB KL KN
      generalize wr.drew = wd at *
      go_wp2_with fail
      refine (CT.out _).mono ?_
      rintro e w8 ⟨rfl, hB8⟩
      have HW8 := Aside0.mk (below_then HWd.out HWd.out.size hB8)
      clear HWd hB8 CT
      cases htk : tk t (k j) with
      | false =>
        rw [htk, Bool.false_and] at HO
        have HC : Aside0 (chkI nm sc k = 124) := ⟨by unfold chkI; rw [← HO.out]; rfl⟩
        go_wp2
        go_ret
        exact ⟨by rw [HC.out]; rfl, by rw [hb]; exact below_then HB7.out (by have := HB7.out.size; omega) HW8.out⟩
      | true =>
        rw [htk, Bool.true_and] at HO
        go_wp2
        go_roundg (16 - (j + 1))
        case measure => omega
        case rel => exact ⟨j + 1, by omega, rfl, by go_num, HO, HW8⟩
    · have hd : decide ((j : Int) < 16) = false := decide_eq_false (by omega)
      obtain rfl : j = 16 := by omega
      have HOK : Aside0 (okK k = true) := ⟨HO.out.symm⟩
      have hw5 : b + 1 ≤ w5.heap.size := blk_lt K7.out
      have HB8 := Aside0.mk (below_then HB7.out (by omega) HW.out)
      have hwr : b + 1 ≤ wr.heap.size := blk_lt KB.out
      clear HO HW KL KN HL7 HN7 K7 HB7
      have c0 : wr.cell? ⟨b, 0, none⟩ = some (.string nm) := (blk_cell KB.out 0).trans rfl
      go_wp2_with fail
      refine (replicaref12_name.calls (nm.size + 4) nm _ wr (name_f nm)).mono ?_
      rintro e w9 ⟨rfl, hD⟩
      have K9 := Aside0.mk (blk_below KB.out hD.below)
      have HB9 := Aside0.mk (below_then HB8.out (by omega) hD.below)
      clear hD KB HB8 c0
      have hw9 : b + 1 ≤ w9.heap.size := blk_lt K9.out
      go_wp2_with ((with_reducible refine gate_dst (N := 31) rfl ?_); refine wpList_load_row rfl 23 _ rfl b rfl 23 (cfgC nm sc k) (0, 0) _ K9.out Tryd.underlying23 rfl (by kernel_rfl) ?_)
      refine (replicaref12_together.calls nm (k 1) (k 2) (k 3) (k 0) (k 4) (k 5) (k 6) (k 7) (k 8) (k 9) sc (k 10) (k 11) (k 12) (k 13) (k 14) (k 15) _ w9 (rtog_f nm sc k)).mono ?_
      rintro e w10 ⟨rfl, hB⟩
      have KA := Aside0.mk (blk_below K9.out hB)
      have HBA := Aside0.mk (below_then HB9.out (by omega) hB)
      clear hB K9 HB9
      have hwA : b + 1 ≤ w10.heap.size := blk_lt KA.out
      have c11 : w10.cell? ⟨b, 11, none⟩ = some (.string sc) := (blk_cell KA.out 11).trans rfl
      cases hn : nameI nm with
      | false =>
        have HC : Aside0 (chkI nm sc k = 124) := ⟨by unfold chkI restI; rw [HOK.out, hn]; rfl⟩
        go_wp2
        go_ret
        exact ⟨by rw [HC.out]; rfl, by rw [hb]; exact HBA.out⟩
      | true =>
        cases htg : togI k with
        | false =>
          have HC : Aside0 (chkI nm sc k = 124) := ⟨by unfold chkI restI; rw [HOK.out, hn, htg, Bool.and_false]; rfl⟩
          go_wp2
          go_ret
          exact ⟨by rw [HC.out]; rfl, by rw [hb]; exact HBA.out⟩
        | true =>
          by_cases hs : 64 < sc.size
          · have hsd : decide ((64 : Int) < (sc.size : Int)) = true := decide_eq_true (by omega)
            have HC : Aside0 (chkI nm sc k = 124) := ⟨by unfold chkI restI; rw [HOK.out, hn, decide_eq_false (by omega : ¬ sc.size ≤ 64)]; rfl⟩
            go_wp2
            go_ret
            exact ⟨by rw [HC.out]; rfl, by rw [hb]; exact HBA.out⟩
          · have hsd : decide ((64 : Int) < (sc.size : Int)) = false := decide_eq_false (by omega)
            have HC : Aside0 (chkI nm sc k = if Lib.validD (bl sc) = true then 0 else 124) := ⟨by unfold chkI restI; rw [HOK.out, hn, htg, decide_eq_true (by omega : sc.size ≤ 64), Bool.and_true]; rfl⟩
            go_wp2
            have HV := Aside0.mk (Below.refl w10.heap.size w10)
            go_loopg [9] sc.size (fun kq v9 wr => ∃ i : Nat, i ≤ sc.size ∧ kq = sc.size - i ∧ v9 = .int .i64 i ∧ Aside0 (Lib.validD ((bl sc).drop i) = Lib.validD (bl sc)) ∧ Aside0 (Below w10.heap.size w10 wr))
            case atStart => exact ⟨0, by omega, rfl, rfl, ⟨rfl⟩, HV⟩
            case round =>
              clear HV c11
              obtain ⟨i, hi, rfl, rfl, HO, HW⟩ := hrel
              have c11 : wr.cell? ⟨b, 11, none⟩ = some (.string sc) := (blk_cell (blk_below KA.out HW.out) 11).trans rfl
              have HBW := Aside0.mk (below_then HBA.out (by omega) HW.out)
              by_cases hlt : i < sc.size
              · have hd : decide ((i : Int) < (sc.size : Int)) = true := decide_eq_true (by omega)
                have hne : (bl sc).drop i ≠ [] := fun e => by
                  have := congrArg List.length e
                  rw [List.length_drop, bl_length, List.length_nil] at this
                  omega
                have HV1 := Aside0.mk (valid_on _ hne)
                have hle := wd_le _ hne
                rw [List.length_drop, bl_length] at hle
                have CW := Aside0.mk (fun W => replicaref12_wide.calls 30 sc (i : Int) _ _ W (wide_spec sc (by omega) i hlt))
                obtain ⟨m, hm⟩ : ∃ m, (wdL ((bl sc).drop i)).1 = m := ⟨_, rfl⟩
                obtain ⟨r, hr⟩ : ∃ r, (wdL ((bl sc).drop i)).2 = r := ⟨_, rfl⟩
                rw [hm] at HV1 hle CW
                rw [hr] at CW
                rw [List.drop_drop] at HV1
                clear hm hr hne
                go_wp2_with fail
                refine (CW.out _).mono ?_
                rintro e w11 ⟨rfl, hB⟩
                have HW2 := Aside0.mk (below_then HW.out HW.out.size hB)
                clear hB HW HBW CW
                by_cases hm0 : m = 0
                · subst hm0
                  have HC' : Aside0 (chkI nm sc k = 124) := ⟨by rw [HC.out, ← HO.out, HV1.out]; rfl⟩
                  go_wp2
                  go_ret
                  exact ⟨by rw [HC'.out]; rfl, by rw [hb]; exact below_then HBA.out (by omega) HW2.out⟩
                · have hmb : ((m : Int) == 0) = false := by simp; omega
                  have HV2 : Aside0 (Lib.validD ((bl sc).drop (i + m)) = Lib.validD (bl sc)) := ⟨by rw [← HO.out, HV1.out, if_neg hm0]⟩
                  go_wp2
                  go_roundg (sc.size - (i + m))
                  case measure => omega
                  case rel => exact ⟨i + m, by omega, rfl, by go_num, HV2, HW2⟩
              · have hd : decide ((i : Int) < (sc.size : Int)) = false := decide_eq_false (by omega)
                obtain rfl : i = sc.size := by omega
                have HC' : Aside0 (chkI nm sc k = 0) := ⟨by rw [HC.out, ← HO.out, List.drop_eq_nil_of_le (by rw [bl_length]; omega)]; rfl⟩
                go_wp2
                go_ret
                exact ⟨by rw [HC'.out]; rfl, by rw [hb]; exact HBW.out⟩
end Go.Proofs.YtfecfgimfjcbdaaDoor.Cf

namespace Go.Proofs.YtfecfgimfjcbdaaDoor.Cf
open Go.ChangeShapes Go.WideShapes Go.ChangeAt Go.RowKit Go.Proofs.YtfecfgimfjcbdaaDoorW.PrintWords

set_option maxRecDepth 100000 in
theorem config_cells : Tryd.prog.cellTypes Tryd.prog.depth 23 = some [9, 3, 3, 3, 3, 3, 3, 3, 3, 3, 3, 9, 3, 3, 3, 3, 3, 3] := by kernel_rfl
set_option maxRecDepth 100000 in
theorem cell_int {W : World} {base : Nat} {v : Value} (ho : Cell.okWide Tryd.prog W .any base 3 v) : ∃ n, v = .int .i64 n ∧ -9223372036854775808 ≤ n ∧ n ≤ 9223372036854775807 := by
  unfold Cell.okWide at ho
  rw [Tryd.underlying3] at ho
  have ho' : Cell.ok Tryd.prog W .any base 3 v := ho
  unfold Cell.ok at ho'
  rw [Tryd.underlying3] at ho'
  cases v <;> simp only at ho'
  rename_i k n
  obtain ⟨rfl, hk⟩ := ho'
  exact ⟨n, rfl, hk⟩
set_option maxRecDepth 100000 in
theorem cell_str {W : World} {base : Nat} {v : Value} (ho : Cell.okWide Tryd.prog W .any base 9 v) : ∃ s, v = .string s := by
  unfold Cell.okWide at ho
  rw [Tryd.underlying9] at ho
  have ho' : Cell.ok Tryd.prog W .any base 9 v := ho
  unfold Cell.ok at ho'
  rw [Tryd.underlying9] at ho'
  cases v <;> simp only at ho'
  exact ⟨_, rfl⟩
set_option maxRecDepth 100000 in
/-- A resource that came in. -/
theorem open_config {W : World} {base : Nat} {v : Value} (h : Value.okWide Tryd.prog W .any base 23 v) : ∃ (nm sc : ByteArray) (k : Nat → Int), v = .agg (cfgC nm sc k) ∧ ∀ i, -9223372036854775808 ≤ k i ∧ k i ≤ 9223372036854775807 := by
  unfold Value.okWide at h
  rw [Tryd.underlying23] at h
  obtain ⟨cs, rfl, hsz, ts, hts, _, hc⟩ := h
  obtain rfl := Option.some.inj (config_cells.symm.trans hts)
  have h18 : cs.size = 18 := hsz.trans (by kernel_rfl)
  have hi : ∀ i, i < 18 → ([9, 3, 3, 3, 3, 3, 3, 3, 3, 3, 3, 9, 3, 3, 3, 3, 3, 3] : List TypeId)[i]? = some 3 → ∃ n, cs[i]? = some (.int .i64 n) ∧ -9223372036854775808 ≤ n ∧ n ≤ 9223372036854775807 := by
    intro i hlt ht
    have hv : cs[i]? = some (cs[i]'(by omega)) := Array.getElem?_eq_getElem (by omega)
    obtain ⟨u, hu, ho⟩ := hc i _ hv
    simp only [List.length_cons, List.length_nil, Nat.zero_add, Nat.reduceAdd, Nat.mod_eq_of_lt hlt] at hu
    obtain rfl : u = 3 := Option.some.inj (hu.symm.trans ht)
    obtain ⟨n, hn, hb⟩ := cell_int ho
    exact ⟨n, hv.trans (congrArg some hn), hb⟩
  have hs : ∀ i, i < 18 → ([9, 3, 3, 3, 3, 3, 3, 3, 3, 3, 3, 9, 3, 3, 3, 3, 3, 3] : List TypeId)[i]? = some 9 → ∃ s, cs[i]? = some (.string s) := by
    intro i hlt ht
    have hv : cs[i]? = some (cs[i]'(by omega)) := Array.getElem?_eq_getElem (by omega)
    obtain ⟨u, hu, ho⟩ := hc i _ hv
    simp only [List.length_cons, List.length_nil, Nat.zero_add, Nat.reduceAdd, Nat.mod_eq_of_lt hlt] at hu
    obtain rfl : u = 9 := Option.some.inj (hu.symm.trans ht)
    obtain ⟨s, hn⟩ := cell_str ho
    exact ⟨s, hv.trans (congrArg some hn)⟩
  obtain ⟨nm, e0⟩ := hs 0 (by decide) rfl
  obtain ⟨sc, e11⟩ := hs 11 (by decide) rfl
  obtain ⟨n1, e1, b1⟩ := hi 1 (by decide) rfl
  obtain ⟨n2, e2, b2⟩ := hi 2 (by decide) rfl
  obtain ⟨n3, e3, b3⟩ := hi 3 (by decide) rfl
  obtain ⟨n4, e4, b4⟩ := hi 4 (by decide) rfl
  obtain ⟨n5, e5, b5⟩ := hi 5 (by decide) rfl
  obtain ⟨n6, e6, b6⟩ := hi 6 (by decide) rfl
  obtain ⟨n7, e7, b7⟩ := hi 7 (by decide) rfl
  obtain ⟨n8, e8, b8⟩ := hi 8 (by decide) rfl
  obtain ⟨n9, e9, b9⟩ := hi 9 (by decide) rfl
  obtain ⟨n10, e10, b10⟩ := hi 10 (by decide) rfl
  obtain ⟨n12, e12, b12⟩ := hi 12 (by decide) rfl
  obtain ⟨n13, e13, b13⟩ := hi 13 (by decide) rfl
  obtain ⟨n14, e14, b14⟩ := hi 14 (by decide) rfl
  obtain ⟨n15, e15, b15⟩ := hi 15 (by decide) rfl
  obtain ⟨n16, e16, b16⟩ := hi 16 (by decide) rfl
  obtain ⟨n17, e17, b17⟩ := hi 17 (by decide) rfl
  refine ⟨nm, sc, fun i => ([n4, n1, n2, n3, n5, n6, n7, n8, n9, n10, n12, n13, n14, n15, n16, n17] : List Int).getD i 0, ?_, fun i => ?_⟩
  · congr 1
    apply Array.ext'
    apply List.ext_getElem?
    intro i
    rw [Array.getElem?_toList]
    rcases i with _ | _ | _ | _ | _ | _ | _ | _ | _ | _ | _ | _ | _ | _ | _ | _ | _ | _ | i
    · exact e0.trans rfl
    · exact e1.trans rfl
    · exact e2.trans rfl
    · exact e3.trans rfl
    · exact e4.trans rfl
    · exact e5.trans rfl
    · exact e6.trans rfl
    · exact e7.trans rfl
    · exact e8.trans rfl
    · exact e9.trans rfl
    · exact e10.trans rfl
    · exact e11.trans rfl
    · exact e12.trans rfl
    · exact e13.trans rfl
    · exact e14.trans rfl
    · exact e15.trans rfl
    · exact e16.trans rfl
    · exact e17.trans rfl
    · rw [Array.getElem?_eq_none (by omega)]
      rfl
  · rcases i with _ | _ | _ | _ | _ | _ | _ | _ | _ | _ | _ | _ | _ | _ | _ | _ | i
    · exact b4
    · exact b1
    · exact b2
    · exact b3
    · exact b5
    · exact b6
    · exact b7
    · exact b8
    · exact b9
    · exact b10
    · exact b12
    · exact b13
    · exact b14
    · exact b15
    · exact b16
    · exact b17
    · simp

set_option maxRecDepth 100000 in
theorem u8extra : U8Extra Tryd.prog Tryd.laysValid_ren := ⟨by kernel_rfl, by kernel_rfl, by kernel_rfl, by kernel_rfl, by kernel_rfl, by kernel_rfl, by kernel_rfl⟩
set_option maxRecDepth 100000 in
theorem utf_of {W : World} {l : List (String × DataW Unit)} (h : laidMet Tryd.prog l W) (h1 : (l.filter fun x => x.1 == "unicode/utf8.first") = [("unicode/utf8.first", Lib.firstData)]) (h2 : (l.filter fun x => x.1 == "unicode/utf8.acceptRanges") = [("unicode/utf8.acceptRanges", Lib.acceptData)]) : Utf W := by
  have m1 : ("unicode/utf8.first", Lib.firstData) ∈ l := (List.mem_filter.1 (h1 ▸ List.mem_singleton.2 rfl : ("unicode/utf8.first", Lib.firstData) ∈ l.filter fun x => x.1 == "unicode/utf8.first")).1
  have m2 : ("unicode/utf8.acceptRanges", Lib.acceptData) ∈ l := (List.mem_filter.1 (h2 ▸ List.mem_singleton.2 rfl : ("unicode/utf8.acceptRanges", Lib.acceptData) ∈ l.filter fun x => x.1 == "unicode/utf8.acceptRanges")).1
  have ht := utf8Tabs_of_readsT (U8Types.of196 Tryd.laysValid) u8extra (Lib.laidMet.reads h m1) (Lib.laidMet.reads h m2)
  exact fun w' hb => Utf8Tabs_below ht hb
end Go.Proofs.YtfecfgimfjcbdaaDoor.Cf
