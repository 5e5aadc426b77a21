/- The reference's Parse: walked. -/
import Derived.Test.YtfecfgimfjcbdaaGreatDoorKConfYp
import Derived.Test.YtfecfgimfjcbdaaGreatDoorKQRCut
namespace Go.Proofs.YtfecfgimfjcbdaaGreatDoor.Cf
open Go.RowKit Go.Proofs.YtfecfgimfjcbdaaGreatDoorW.PrintWords Go.Proofs.YtfecfgimfjcbdaaGreatDoorW.PrintLast Go.Proofs.YtfecfgimfjcbdaaGreatDoorW.PrintMore Go.Proofs.YtfecfgimfjcbdaaGreatDoor.QRParse

theorem tokR_of {w : World} {B : Nat} {v : Value} {xs : List TkT} (h : Kd.R k63 63 w B (fun _ => True) v xs) (hp : 0 < xs.length) :
    ∃ b c, v = .slice (some ⟨b, 0, none⟩) xs.length c ∧ xs.length ≤ c ∧ B ≤ b ∧ b < w.heap.size ∧ ∀ i t, xs[i]? = some t → TokAt w b i t := by
  obtain ⟨g, cap, rfl, hB, hl, _⟩ := Kd.R_form h hp
  obtain ⟨A, c, he, hle, hC⟩ := Kd.R_reads h
  injection he with h1 h2 h3
  subst h1 h3
  refine ⟨g, cap, rfl, hle, hB, hl, fun i t ht => ?_⟩
  have hi : i < xs.length := (List.getElem?_eq_some_iff.1 ht).1
  obtain ⟨ad, had, t0, t1, t2⟩ := at_T63 hC (i : Int) (by omega) (by omega)
  cases had
  have hr : rd_T63 xs (i : Int) = t := by simp [rd_T63, ht]
  rw [hr, Int.toNat_natCast, Addr.add_mid] at t0 t1 t2
  simp only [Nat.zero_add] at t0 t1 t2
  exact ⟨t0, t1, t2⟩
theorem tkL_length (s : ByteArray) : ∀ f p, (tkL s f p).length ≤ f
  | 0, _ => Nat.le_refl _
  | f + 1, p => by
    simp only [tkL]
    split
    · rw [List.length_cons]
      have := tkL_length s f (by assumption)
      omega
    · simp
theorem tkL_pos (s : ByteArray) (f p : Nat) : 0 < (tkL s (f + 1) p).length := by
  simp only [tkL]
  split <;> simp
set_option maxRecDepth 100000 in
set_option maxHeartbeats 2000000 in
theorem rparse_any (s : ByteArray) (w : World) (out : Except (Nat × Int) (ByteArray × ByteArray × (Nat → Int))) (hout : parseP s = out) :
    Calls Tryz.prog 5 #[.string s] w fun e w' => e = .returned (parseV out) ∧ Below w.heap.size w w' := by
  have HQ := Aside0.mk hout
  clear hout
  unfold parseP at HQ
  have hb0 := blk_new w (.cells #[.string ⟨#[]⟩, .int .i64 0, .int .i64 0, .int .i64 0, .int .i64 0, .int .i64 0, .int .i64 0, .int .i64 0, .int .i64 0, .int .i64 0, .int .i64 0, .string ⟨#[]⟩, .int .i64 0, .int .i64 0, .int .i64 0, .int .i64 0, .int .i64 0, .int .i64 0] 23)
  have HB0 := Aside0.mk ((Below.refl w.heap.size w).alloc (Nat.le_refl _) (.cells #[.string ⟨#[]⟩, .int .i64 0, .int .i64 0, .int .i64 0, .int .i64 0, .int .i64 0, .int .i64 0, .int .i64 0, .int .i64 0, .int .i64 0, .int .i64 0, .string ⟨#[]⟩, .int .i64 0, .int .i64 0, .int .i64 0, .int .i64 0, .int .i64 0, .int .i64 0] 23))
  by_cases h4 : 4096 < s.size
  · rw [if_pos h4] at HQ
    obtain rfl : out = .error (0, 6) := HQ.out.symm
    have hd : decide ((4096 : Int) < (s.size : Int)) = true := decide_eq_true (by omega)
    clear HQ h4
    go_enter Tryz.func5, Tryz.ntmps5
    go_wp2_with (refine store_whole rfl rfl rfl (g := w.heap.size) rfl cfg0 rfl hb0 (by kernel_rfl) (by rfl) cfg0_one ?_; intro wa ha hga)
    refine bodyPost_ret (results_ctt rfl _ _ w.heap.size 23 cfg0 (0, 0) _ rfl ha Tryz.underlying23 rfl (by kernel_rfl)) rfl ?_
    exact ⟨rfl, pw_below_grown HB0.out (some w.heap.size) (by have := HB0.out.size; omega) hga (fun q hq => by obtain rfl := Option.some.inj hq; omega)⟩
  · rw [if_neg h4] at HQ
    have hd : decide ((4096 : Int) < (s.size : Int)) = false := decide_eq_false (by omega)
    have hc := rcut s (by omega) (7 * s.size + 100) (Nat.le_refl _)
    go_enter Tryz.func5, Tryz.ntmps5
    go_wp2_with fail
    have hl0 : w.heap.size + 1 = (w.alloc (.cells #[.string ⟨#[]⟩, .int .i64 0, .int .i64 0, .int .i64 0, .int .i64 0, .int .i64 0, .int .i64 0, .int .i64 0, .int .i64 0, .int .i64 0, .int .i64 0, .string ⟨#[]⟩, .int .i64 0, .int .i64 0, .int .i64 0, .int .i64 0, .int .i64 0, .int .i64 0] 23)).heap.size := by simp
    generalize w.alloc (.cells #[.string ⟨#[]⟩, .int .i64 0, .int .i64 0, .int .i64 0, .int .i64 0, .int .i64 0, .int .i64 0, .int .i64 0, .int .i64 0, .int .i64 0, .int .i64 0, .string ⟨#[]⟩, .int .i64 0, .int .i64 0, .int .i64 0, .int .i64 0, .int .i64 0, .int .i64 0] 23) = w0 at *
    refine (replicaref12_cut.calls _ s _ w0 hc).mono ?_
    rintro e w1 ⟨v1, rfl, hR, hB⟩
    obtain ⟨b, c, rfl, hcc, hb, hbl, hcells⟩ := tokR_of hR (tkL_pos s _ 0)
    have hlen := tkL_length s (s.size + 1) 0
    have K1 := Aside0.mk (blk_below hb0 hB)
    have HB1 := Aside0.mk (below_then HB0.out (by omega) hB)
    have HCE := Aside0.mk hcells
    clear hR hb0 HB0 hB hcells hc
    go_wp2_with fail
    have hT : Toked w1 w1.heap.size (.slice (some ⟨b, 0, none⟩) (tkL s (s.size + 1) 0).length c) (tkL s (s.size + 1) 0) := ⟨⟨b, c, rfl, hcc, hbl, by omega, HCE.out⟩, by omega⟩
    have hRF : RF (w1.alloc (.cells (fileC (.slice (some ⟨b, 0, none⟩) (tkL s (s.size + 1) 0).length c) v00 0 0) 42)) w1.heap.size (.slice (some ⟨b, 0, none⟩) (tkL s (s.size + 1) 0).length c) (tkL s (s.size + 1) 0) s v00 0 :=
      ⟨⟨0, 0, blk_new w1 _⟩, hT.ch ((Ch.refl _ w1).alloc _), ⟨Nat.zero_le _, s.size + 1, by omega, by rw [show v00.at_ = 0 from rfl, List.drop_zero]⟩⟩
    have HFL := Aside0.mk (rfile_any (by omega) hRF rfl rfl rfl HQ.out)
    clear hRF hT HCE HQ
    refine HFL.out.mono ?_
    clear HFL
    cases out with
    | error ae =>
      obtain ⟨a, er⟩ := ae
      rintro e w2 ⟨rfl, ⟨lv', v', hf⟩, c2⟩
      have hc2 : Ch [w1.heap.size] w1 w2 := ((Ch.refl _ w1).alloc _).trans c2
      have K2 := hc2.blk K1.out (by simp; have := blk_lt K1.out; omega)
      have hw1 := HB1.out.size
      have HB2 := Aside0.mk (hc2.below (B := w.heap.size) (by simp; omega) HB1.out hw1)
      have d37 : w2.cell? ⟨w1.heap.size, 37, none⟩ = some (.int .i64 er) := blk_cell hf 37
      have d38 : w2.cell? ⟨w1.heap.size, 38, none⟩ = some (.int .i64 (a : Int)) := blk_cell hf 38
      clear hf c2 hc2
      go_wp2_with fail
      have z0 : w2.cell? ⟨w.heap.size, 0, none⟩ = some (.string ⟨#[]⟩) := blk_cell K2 0
      have y0 : w2.frozen? ⟨w.heap.size, 0, none⟩ = false := blk_frozen K2 0
      have z1 : w2.cell? ⟨w.heap.size, 1, none⟩ = some (.int .i64 0) := blk_cell K2 1
      have y1 : w2.frozen? ⟨w.heap.size, 1, none⟩ = false := blk_frozen K2 1
      have z2 : w2.cell? ⟨w.heap.size, 2, none⟩ = some (.int .i64 0) := blk_cell K2 2
      have y2 : w2.frozen? ⟨w.heap.size, 2, none⟩ = false := blk_frozen K2 2
      have z3 : w2.cell? ⟨w.heap.size, 3, none⟩ = some (.int .i64 0) := blk_cell K2 3
      have y3 : w2.frozen? ⟨w.heap.size, 3, none⟩ = false := blk_frozen K2 3
      have z4 : w2.cell? ⟨w.heap.size, 4, none⟩ = some (.int .i64 0) := blk_cell K2 4
      have y4 : w2.frozen? ⟨w.heap.size, 4, none⟩ = false := blk_frozen K2 4
      have z5 : w2.cell? ⟨w.heap.size, 5, none⟩ = some (.int .i64 0) := blk_cell K2 5
      have y5 : w2.frozen? ⟨w.heap.size, 5, none⟩ = false := blk_frozen K2 5
      have z6 : w2.cell? ⟨w.heap.size, 6, none⟩ = some (.int .i64 0) := blk_cell K2 6
      have y6 : w2.frozen? ⟨w.heap.size, 6, none⟩ = false := blk_frozen K2 6
      have z7 : w2.cell? ⟨w.heap.size, 7, none⟩ = some (.int .i64 0) := blk_cell K2 7
      have y7 : w2.frozen? ⟨w.heap.size, 7, none⟩ = false := blk_frozen K2 7
      have z8 : w2.cell? ⟨w.heap.size, 8, none⟩ = some (.int .i64 0) := blk_cell K2 8
      have y8 : w2.frozen? ⟨w.heap.size, 8, none⟩ = false := blk_frozen K2 8
      have z9 : w2.cell? ⟨w.heap.size, 9, none⟩ = some (.int .i64 0) := blk_cell K2 9
      have y9 : w2.frozen? ⟨w.heap.size, 9, none⟩ = false := blk_frozen K2 9
      have z10 : w2.cell? ⟨w.heap.size, 10, none⟩ = some (.int .i64 0) := blk_cell K2 10
      have y10 : w2.frozen? ⟨w.heap.size, 10, none⟩ = false := blk_frozen K2 10
      have z11 : w2.cell? ⟨w.heap.size, 11, none⟩ = some (.string ⟨#[]⟩) := blk_cell K2 11
      have y11 : w2.frozen? ⟨w.heap.size, 11, none⟩ = false := blk_frozen K2 11
      have z12 : w2.cell? ⟨w.heap.size, 12, none⟩ = some (.int .i64 0) := blk_cell K2 12
      have y12 : w2.frozen? ⟨w.heap.size, 12, none⟩ = false := blk_frozen K2 12
      have z13 : w2.cell? ⟨w.heap.size, 13, none⟩ = some (.int .i64 0) := blk_cell K2 13
      have y13 : w2.frozen? ⟨w.heap.size, 13, none⟩ = false := blk_frozen K2 13
      have z14 : w2.cell? ⟨w.heap.size, 14, none⟩ = some (.int .i64 0) := blk_cell K2 14
      have y14 : w2.frozen? ⟨w.heap.size, 14, none⟩ = false := blk_frozen K2 14
      have z15 : w2.cell? ⟨w.heap.size, 15, none⟩ = some (.int .i64 0) := blk_cell K2 15
      have y15 : w2.frozen? ⟨w.heap.size, 15, none⟩ = false := blk_frozen K2 15
      have z16 : w2.cell? ⟨w.heap.size, 16, none⟩ = some (.int .i64 0) := blk_cell K2 16
      have y16 : w2.frozen? ⟨w.heap.size, 16, none⟩ = false := blk_frozen K2 16
      have z17 : w2.cell? ⟨w.heap.size, 17, none⟩ = some (.int .i64 0) := blk_cell K2 17
      have y17 : w2.frozen? ⟨w.heap.size, 17, none⟩ = false := blk_frozen K2 17
      have hgw := hw1
      have hwg : w.heap.size < w1.heap.size := blk_lt K1.out
      have hne : w.heap.size ≠ w1.heap.size := by omega
      have KK := Aside0.mk K2
      clear K2 K1 HB1
      go_region_held3 (fun W => W.cell? ⟨w1.heap.size, 37, none⟩ = some (.int .i64 er) ∧ W.cell? ⟨w1.heap.size, 38, none⟩ = some (.int .i64 (a : Int))) (go_keep) (fail)
      all_goals
        go_wp2
        refine bodyPost_ret (results_ctt rfl _ _ w.heap.size 23 cfg0 (0, 0) _ rfl (blk_drew (blk_put (blk_set (blk_set (blk_set (blk_set (blk_set (blk_set (blk_set (blk_set (blk_set (blk_set (blk_set (blk_set (blk_set (blk_set (blk_set (blk_set (blk_set KK.out 0 (.string ⟨#[]⟩)) 1 (.int .i64 0)) 2 (.int .i64 0)) 3 (.int .i64 0)) 4 (.int .i64 0)) 5 (.int .i64 0)) 6 (.int .i64 0)) 7 (.int .i64 0)) 8 (.int .i64 0)) 9 (.int .i64 0)) 10 (.int .i64 0)) 11 (.string ⟨#[]⟩)) 12 (.int .i64 0)) 13 (.int .i64 0)) 14 (.int .i64 0)) 15 (.int .i64 0)) 16 (.int .i64 0)) 17 (.int .i64 0) (cs' := cfg0) rfl)) Tryz.underlying23 rfl (by kernel_rfl)) rfl ?_
        exact ⟨rfl, below_drew ((((((((((((((((((HB2.out.setCell (Nat.le_refl _) _).setCell (Nat.le_refl _) _).setCell (Nat.le_refl _) _).setCell (Nat.le_refl _) _).setCell (Nat.le_refl _) _).setCell (Nat.le_refl _) _).setCell (Nat.le_refl _) _).setCell (Nat.le_refl _) _).setCell (Nat.le_refl _) _).setCell (Nat.le_refl _) _).setCell (Nat.le_refl _) _).setCell (Nat.le_refl _) _).setCell (Nat.le_refl _) _).setCell (Nat.le_refl _) _).setCell (Nat.le_refl _) _).setCell (Nat.le_refl _) _).setCell (Nat.le_refl _) _).setCell (Nat.le_refl _) _)⟩
    | ok y =>
      obtain ⟨nm, sc, k⟩ := y
      rintro e w2 ⟨rfl, ⟨lv', v', bd, ps, hf, hnm, hsc, hk⟩, c2⟩
      have hc2 : Ch [w1.heap.size] w1 w2 := ((Ch.refl _ w1).alloc _).trans c2
      have K2 := Aside0.mk (hc2.blk K1.out (by simp; have := blk_lt K1.out; omega))
      have hw1 := HB1.out.size
      have HB2 := Aside0.mk (hc2.below (B := w.heap.size) (by simp; omega) HB1.out hw1)
      have hrg := file_range hf
      clear hf c2 hc2 K1 HB1
      go_wp2_with ((with_reducible refine gate_dst (N := 31) rfl ?_); refine wpList_load_mid rfl 40 _ rfl w1.heap.size 2 rfl _ _ hrg Tryz.underlying40 rfl (by kernel_rfl) ?_)
      refine (rconfig_any v' w2).mono ?_
      rintro e w3 ⟨rfl, hB3⟩
      rw [cfgC_cong v'.nm v'.sc hk, hnm, hsc]
      have K3 := blk_below K2.out hB3
      have HB3 := Aside0.mk (below_then HB2.out HB2.out.size hB3)
      clear hrg hB3 K2 HB2
      go_wp2_with (refine store_whole rfl rfl rfl (g := w.heap.size) rfl (cfgC nm sc k) rfl K3 (by kernel_rfl) (by rfl) (cfgOne' _ _ _) ?_; intro wa ha hga)
      refine bodyPost_ret (results_ctt rfl _ _ w.heap.size 23 _ (0, 0) _ rfl ha Tryz.underlying23 rfl (by kernel_rfl)) rfl ?_
      exact ⟨rfl, pw_below_grown HB3.out (some w.heap.size) HB3.out.size hga (fun q hq => by obtain rfl := Option.some.inj hq; exact Nat.le_refl _)⟩
end Go.Proofs.YtfecfgimfjcbdaaGreatDoor.Cf
