/- The reference's config: walked. -/
import Derived.Test.YtfecfgimfjcbdaaGreatDoorKConfYm
import Derived.Deep.MidRow
namespace Go.Proofs.YtfecfgimfjcbdaaGreatDoor.Cf
open Go.RowKit Go.Proofs.YtfecfgimfjcbdaaGreatDoorW.PrintWords Go.Proofs.YtfecfgimfjcbdaaGreatDoorW.PrintLast Go.Proofs.YtfecfgimfjcbdaaGreatDoorW.PrintMore Go.Proofs.YtfecfgimfjcbdaaGreatDoor.QRParse
def valC (v : FV) : Array Value := #[.string v.nm, .string v.sc,
  .int .i64 (v.is 0), .int .i64 (v.is 1), .int .i64 (v.is 2), .int .i64 (v.is 3), .int .i64 (v.is 4), .int .i64 (v.is 5), .int .i64 (v.is 6), .int .i64 (v.is 7), .int .i64 (v.is 8), .int .i64 (v.is 9), .int .i64 (v.is 10), .int .i64 (v.is 11), .int .i64 (v.is 12), .int .i64 (v.is 13), .int .i64 (v.is 14), .int .i64 (v.is 15),
  .bool (v.th 0), .bool (v.th 1), .bool (v.th 2), .bool (v.th 3), .bool (v.th 4), .bool (v.th 5), .bool (v.th 6), .bool (v.th 7), .bool (v.th 8), .bool (v.th 9), .bool (v.th 10), .bool (v.th 11), .bool (v.th 12), .bool (v.th 13), .bool (v.th 14), .bool (v.th 15),
  .bool v.st]
def numC (k : Nat → Int) : Array Value := #[.int .i64 (k 0), .int .i64 (k 1), .int .i64 (k 2), .int .i64 (k 3), .int .i64 (k 4), .int .i64 (k 5), .int .i64 (k 6), .int .i64 (k 7), .int .i64 (k 8), .int .i64 (k 9), .int .i64 (k 10), .int .i64 (k 11), .int .i64 (k 12), .int .i64 (k 13), .int .i64 (k 14), .int .i64 (k 15)]
theorem num_key (k : Nat → Int) (i : Nat) (hi : i < 16) : (numC k)[i]? = some (.int .i64 (k i)) := by
  rcases i with _ | _ | _ | _ | _ | _ | _ | _ | _ | _ | _ | _ | _ | _ | _ | _ | i
  case succ.succ.succ.succ.succ.succ.succ.succ.succ.succ.succ.succ.succ.succ.succ.succ => omega
  all_goals rfl
theorem num_one (k : Nat → Int) : ∀ q ∈ (numC k).toList, q.oneCell' = true := by
  intro q hq
  simp only [numC, List.mem_cons, List.not_mem_nil, or_false] at hq
  rcases hq with rfl | rfl | rfl | rfl | rfl | rfl | rfl | rfl | rfl | rfl | rfl | rfl | rfl | rfl | rfl | rfl <;> rfl
theorem val_th (v : FV) (i : Nat) (hi : i < 16) : (valC v)[18 + i]? = some (.bool (v.th i)) := by
  rcases i with _ | _ | _ | _ | _ | _ | _ | _ | _ | _ | _ | _ | _ | _ | _ | _ | i
  case succ.succ.succ.succ.succ.succ.succ.succ.succ.succ.succ.succ.succ.succ.succ.succ => omega
  all_goals rfl
theorem val_is (v : FV) (i : Nat) (hi : i < 16) : (valC v)[2 + i]? = some (.int .i64 (v.is i)) := by
  rcases i with _ | _ | _ | _ | _ | _ | _ | _ | _ | _ | _ | _ | _ | _ | _ | _ | i
  case succ.succ.succ.succ.succ.succ.succ.succ.succ.succ.succ.succ.succ.succ.succ.succ => omega
  all_goals rfl
theorem val_setI (v : FV) (i : Nat) (hi : i < 16) (n : Int) : (valC v).setIfInBounds (2 + i) (.int .i64 n) = valC (v.putI i n) := by
  rcases i with _ | _ | _ | _ | _ | _ | _ | _ | _ | _ | _ | _ | _ | _ | _ | _ | i
  case succ.succ.succ.succ.succ.succ.succ.succ.succ.succ.succ.succ.succ.succ.succ.succ => omega
  all_goals rfl
/-- What the reference's table says where a file says nothing. -/
def rE : Nat → Int := fun i => ([3, -1, -1, 4, 8, 256, 3, 20, 16, 32, 0, 0, 0, 4, 8, 4] : List Int).getD i 0
theorem rTab_else (i : Nat) (hi : i < 16) : rTabC[i * 5 + 4]? = some (.int .i64 (rE i)) := by
  rcases i with _ | _ | _ | _ | _ | _ | _ | _ | _ | _ | _ | _ | _ | _ | _ | _ | i
  case succ.succ.succ.succ.succ.succ.succ.succ.succ.succ.succ.succ.succ.succ.succ.succ => omega
  all_goals rfl
def FV.upto (v : FV) (j : Nat) : FV := { v with is := fun i => if i < j ∧ v.th i = false then rE i else v.is i }
def confK (v : FV) : Nat → Int := fun i => if v.th i = true then v.is i else rE i
theorem upto_zero (v : FV) : v.upto 0 = v := by
  simp [FV.upto]
theorem upto_yes (v : FV) (j : Nat) (h : v.th j = true) : v.upto (j + 1) = v.upto j := by
  unfold FV.upto
  congr 1
  funext i
  by_cases e : i = j
  · subst e
    rw [if_neg (by rw [h]; simp), if_neg (by rw [h]; simp)]
  · by_cases hc : i < j ∧ v.th i = false
    · rw [if_pos hc, if_pos ⟨by omega, hc.2⟩]
    · rw [if_neg hc, if_neg (fun h' => hc ⟨by omega, h'.2⟩)]
theorem upto_no (v : FV) (j : Nat) (h : v.th j = false) : v.upto (j + 1) = (v.upto j).putI j (rE j) := by
  unfold FV.upto FV.putI
  congr 1
  funext i
  dsimp only
  by_cases e : i = j
  · subst e
    rw [if_pos ⟨by omega, h⟩, if_pos rfl]
  · rw [if_neg e]
    by_cases hc : i < j ∧ v.th i = false
    · rw [if_pos hc, if_pos ⟨by omega, hc.2⟩]
    · rw [if_neg hc, if_neg (fun h' => hc ⟨by omega, h'.2⟩)]
theorem upto_end (v : FV) (i : Nat) (hi : i < 16) : (v.upto 16).is i = confK v i := by
  unfold FV.upto confK
  dsimp only
  cases h : v.th i with
  | true => rw [if_neg (by simp), if_pos rfl]
  | false => rw [if_pos ⟨hi, rfl⟩, if_neg (by simp)]
theorem cfgOne' (nm sc : ByteArray) (k : Nat → Int) : ∀ q ∈ (cfgC nm sc k).toList, q.oneCell' = true := by
  intro q hq
  simp only [cfgC, List.mem_cons, List.not_mem_nil, or_false] at hq
  rcases hq with rfl | rfl | rfl | rfl | rfl | rfl | rfl | rfl | rfl | rfl | rfl | rfl | rfl | rfl | rfl | rfl | rfl | rfl <;> rfl
set_option maxRecDepth 100000 in
set_option maxHeartbeats 2000000 in
theorem rconfig_any (v : FV) (w : World) :
    Calls Tryz.prog 11 #[.agg (valC v)] w fun e w' => e = .returned (.agg (cfgC v.nm v.sc (confK v))) ∧ Below w.heap.size w w' := by
  have hb1 := blk_new w (.cells (valC v) 40)
  have HB1 := Aside0.mk ((Below.refl w.heap.size w).alloc (Nat.le_refl _) (.cells (valC v) 40))
  go_enter Tryz.func11, Tryz.ntmps11
  go_wp2_with fail
  have K1 := Aside0.mk (blk_alloc hb1 (.cells #[.string ⟨#[]⟩, .int .i64 0, .int .i64 0, .int .i64 0, .int .i64 0, .int .i64 0, .int .i64 0, .int .i64 0, .int .i64 0, .int .i64 0, .int .i64 0, .string ⟨#[]⟩, .int .i64 0, .int .i64 0, .int .i64 0, .int .i64 0, .int .i64 0, .int .i64 0] 23))
  have HB2 := Aside0.mk (HB1.out.alloc (by have := HB1.out.size; omega) (.cells #[.string ⟨#[]⟩, .int .i64 0, .int .i64 0, .int .i64 0, .int .i64 0, .int .i64 0, .int .i64 0, .int .i64 0, .int .i64 0, .int .i64 0, .int .i64 0, .string ⟨#[]⟩, .int .i64 0, .int .i64 0, .int .i64 0, .int .i64 0, .int .i64 0, .int .i64 0] 23))
  have R1 := blk_new (w.alloc (.cells (valC v) 40)) (.cells #[.string ⟨#[]⟩, .int .i64 0, .int .i64 0, .int .i64 0, .int .i64 0, .int .i64 0, .int .i64 0, .int .i64 0, .int .i64 0, .int .i64 0, .int .i64 0, .string ⟨#[]⟩, .int .i64 0, .int .i64 0, .int .i64 0, .int .i64 0, .int .i64 0, .int .i64 0] 23)
  rw [show (w.alloc (.cells (valC v) 40)).heap.size = w.heap.size + 1 by simp] at R1
  have R2 := Aside0.mk R1
  clear hb1 HB1 R1
  generalize ((w.alloc (.cells (valC v) 40)).alloc (.cells #[.string ⟨#[]⟩, .int .i64 0, .int .i64 0, .int .i64 0, .int .i64 0, .int .i64 0, .int .i64 0, .int .i64 0, .int .i64 0, .int .i64 0, .int .i64 0, .string ⟨#[]⟩, .int .i64 0, .int .i64 0, .int .i64 0, .int .i64 0, .int .i64 0, .int .i64 0] 23)) = w0 at *
  obtain ⟨cb, hcb⟩ : ∃ cb, w.heap.size = cb := ⟨_, rfl⟩
  rw [hcb] at K1 R2 HB2 ⊢
  have hw0 : cb + 1 < w0.heap.size := blk_lt R2.out
  refine (table_any w0).mono ?_
  rintro e w1 ⟨rfl, hB⟩
  have hn := blk_new w1 (.cells Tryz.zeroCells74 74)
  have hle := hB.size
  have K3 := Aside0.mk (blk_alloc (blk_below K1.out hB) (.cells Tryz.zeroCells74 74))
  have R3 := Aside0.mk (blk_alloc (blk_below R2.out hB) (.cells Tryz.zeroCells74 74))
  have HB3 := Aside0.mk ((below_then HB2.out (by omega) hB).alloc (by omega) (.cells Tryz.zeroCells74 74))
  clear hB K1 R2 HB2
  go_upto_region 2 with (refine store_whole rfl rfl rfl (g := w1.heap.size) rfl rTabC rfl hn (by kernel_rfl) (by kernel_rfl) (by decide +kernel) ?_; intro w3 h3 hg3)
  have K4 := Aside0.mk (grown_blk hg3 K3.out (by omega))
  have R4 := Aside0.mk (grown_blk hg3 R3.out (by omega))
  have HB4 := Aside0.mk (pw_below_grown HB3.out (some w1.heap.size) (by have := HB3.out.size; omega) hg3 (fun q hq => by obtain rfl := Option.some.inj hq; omega))
  have HL := Aside0.mk h3
  have hgl : cb + 1 < w1.heap.size := by omega
  clear K3 R3 HB3 hg3 h3 hn hle
  generalize w1.heap.size = gl at *
  go_wp2_with fail
  go_loopg [4] 16 (fun kq v4 wr => ∃ j : Nat, j ≤ 16 ∧ kq = 16 - j ∧ v4 = .int .i64 j ∧ Aside0 (wr.heap[cb]? = some (.cells (valC (v.upto j)) 40 (0, 0))) ∧ Aside0 (Below cb w3 wr) ∧ Aside0 (∀ b, b ≠ cb → b < w3.heap.size → wr.heap[b]? = w3.heap[b]?))
  case atStart => exact ⟨0, by omega, rfl, rfl, ⟨by rw [upto_zero]; exact K4.out⟩, ⟨Below.refl _ _⟩, ⟨fun _ _ _ => rfl⟩⟩
  case round =>
    obtain ⟨j, hj, rfl, rfl, HK, HB, HE⟩ := hrel
    have HLr := Aside0.mk ((HE.out gl (by omega) (blk_lt HL.out)).trans HL.out)
    have hcl := blk_lt HK.out
    by_cases hlt : j < 16
    · have hd : decide ((j : Int) < 16) = true := decide_eq_true (by omega)
      have hjl : (j : Int) < 16 := by omega
      have cT : wr.cell? ⟨cb, 18 + j, none⟩ = some (.bool (v.th j)) := (blk_cell HK.out _).trans (val_th (v.upto j) j hlt)
      have cI : wr.cell? ⟨cb, 2 + j, none⟩ = some (.int .i64 ((v.upto j).is j)) := (blk_cell HK.out _).trans (val_is (v.upto j) j hlt)
      have fI : wr.frozen? ⟨cb, 2 + j, none⟩ = false := blk_frozen HK.out _
      have l4 : wr.cell? ⟨gl, j * 5 + 4, none⟩ = some (.int .i64 (rE j)) := (blk_cell HLr.out _).trans (rTab_else j hlt)
      cases hth : v.th j with
      | true =>
        rw [hth] at cT
        go_wp2
        go_roundg (16 - (j + 1))
        case measure => omega
        case rel => exact ⟨j + 1, by omega, rfl, by go_num, ⟨by rw [upto_yes v j hth]; exact HK.out⟩, HB, HE⟩
      | false =>
        rw [hth] at cT
        go_wp2
        go_roundg (16 - (j + 1))
        case measure => omega
        case rel =>
          refine ⟨j + 1, by omega, rfl, by go_num, ⟨by rw [upto_no v j hth]; exact blk_put HK.out _ _ (val_setI (v.upto j) j hlt (rE j))⟩, ⟨HB.out.setCell (Nat.le_refl _) _⟩, ⟨fun b hb hl => ?_⟩⟩
          rw [← HE.out b hb hl]
          exact Below.heap_setCell _ _ _ _ hb
    · have hd : decide ((j : Int) < 16) = false := decide_eq_false (by omega)
      obtain rfl : j = 16 := by omega
      have c0 : wr.cell? ⟨cb, 0, none⟩ = some (.string v.nm) := blk_cell HK.out 0
      have c1 : wr.cell? ⟨cb, 1, none⟩ = some (.string v.sc) := blk_cell HK.out 1
      have R5 := Aside0.mk ((HE.out (cb + 1) (by omega) (blk_lt R4.out)).trans R4.out)
      have HB5 := Aside0.mk (HB4.out.trans HB.out)
      have hrg : wr.rangeAt cb 2 (numC (v.upto 16).is).toList := fun i x hx => by
        have hi : i < 16 := (List.getElem?_eq_some_iff.1 hx).1
        rw [Array.getElem?_toList] at hx
        rw [num_key _ i hi] at hx
        cases hx
        exact (blk_cell HK.out _).trans (val_is _ i hi)
      have hn := blk_new wr (.cells #[.int .i64 0, .int .i64 0, .int .i64 0, .int .i64 0, .int .i64 0, .int .i64 0, .int .i64 0, .int .i64 0, .int .i64 0, .int .i64 0, .int .i64 0, .int .i64 0, .int .i64 0, .int .i64 0, .int .i64 0, .int .i64 0] 37)
      have K6 := Aside0.mk (blk_alloc HK.out (.cells #[.int .i64 0, .int .i64 0, .int .i64 0, .int .i64 0, .int .i64 0, .int .i64 0, .int .i64 0, .int .i64 0, .int .i64 0, .int .i64 0, .int .i64 0, .int .i64 0, .int .i64 0, .int .i64 0, .int .i64 0, .int .i64 0] 37))
      have R6 := Aside0.mk (blk_alloc R5.out (.cells #[.int .i64 0, .int .i64 0, .int .i64 0, .int .i64 0, .int .i64 0, .int .i64 0, .int .i64 0, .int .i64 0, .int .i64 0, .int .i64 0, .int .i64 0, .int .i64 0, .int .i64 0, .int .i64 0, .int .i64 0, .int .i64 0] 37))
      have HB6 := Aside0.mk (HB5.out.alloc (by have := HB5.out.size; omega) (.cells #[.int .i64 0, .int .i64 0, .int .i64 0, .int .i64 0, .int .i64 0, .int .i64 0, .int .i64 0, .int .i64 0, .int .i64 0, .int .i64 0, .int .i64 0, .int .i64 0, .int .i64 0, .int .i64 0, .int .i64 0, .int .i64 0] 37))
      have hwr := blk_lt R5.out
      clear R5 HB5 HE HB HLr c0 c1
      go_upto_region 8 with (first
        | ((with_reducible refine gate_dst (N := 24) rfl ?_); refine wpList_load_mid rfl 37 _ rfl cb 2 rfl _ _ hrg Tryz.underlying37 rfl (by kernel_rfl) ?_)
        | (refine store_whole rfl rfl rfl (g := wr.heap.size) rfl (numC (v.upto 16).is) rfl hn (by kernel_rfl) (by rfl) (num_one _) ?_; intro w5 h5 hg5))
      have K7 := Aside0.mk (grown_blk hg5 K6.out (by omega))
      have R7 := Aside0.mk (grown_blk hg5 R6.out (by omega))
      have HB7 := Aside0.mk (pw_below_grown HB6.out (some wr.heap.size) (by have := HB6.out.size; omega) hg5 (fun q hq => by obtain rfl := Option.some.inj hq; omega))
      clear K6 R6 HB6 hg5 hn
      generalize wr.heap.size = gn at *
      have c0 : w5.cell? ⟨cb, 0, none⟩ = some (.string v.nm) := blk_cell K7.out 0
      have c1 : w5.cell? ⟨cb, 1, none⟩ = some (.string v.sc) := blk_cell K7.out 1
      have n0 : w5.cell? ⟨gn, 0, none⟩ = some (.int .i64 ((v.upto 16).is 0)) := blk_cell h5 0
      have n1 : w5.cell? ⟨gn, 1, none⟩ = some (.int .i64 ((v.upto 16).is 1)) := blk_cell h5 1
      have n2 : w5.cell? ⟨gn, 2, none⟩ = some (.int .i64 ((v.upto 16).is 2)) := blk_cell h5 2
      have n3 : w5.cell? ⟨gn, 3, none⟩ = some (.int .i64 ((v.upto 16).is 3)) := blk_cell h5 3
      have n4 : w5.cell? ⟨gn, 4, none⟩ = some (.int .i64 ((v.upto 16).is 4)) := blk_cell h5 4
      have n5 : w5.cell? ⟨gn, 5, none⟩ = some (.int .i64 ((v.upto 16).is 5)) := blk_cell h5 5
      have n6 : w5.cell? ⟨gn, 6, none⟩ = some (.int .i64 ((v.upto 16).is 6)) := blk_cell h5 6
      have n7 : w5.cell? ⟨gn, 7, none⟩ = some (.int .i64 ((v.upto 16).is 7)) := blk_cell h5 7
      have n8 : w5.cell? ⟨gn, 8, none⟩ = some (.int .i64 ((v.upto 16).is 8)) := blk_cell h5 8
      have n9 : w5.cell? ⟨gn, 9, none⟩ = some (.int .i64 ((v.upto 16).is 9)) := blk_cell h5 9
      have n10 : w5.cell? ⟨gn, 10, none⟩ = some (.int .i64 ((v.upto 16).is 10)) := blk_cell h5 10
      have n11 : w5.cell? ⟨gn, 11, none⟩ = some (.int .i64 ((v.upto 16).is 11)) := blk_cell h5 11
      have n12 : w5.cell? ⟨gn, 12, none⟩ = some (.int .i64 ((v.upto 16).is 12)) := blk_cell h5 12
      have n13 : w5.cell? ⟨gn, 13, none⟩ = some (.int .i64 ((v.upto 16).is 13)) := blk_cell h5 13
      have n14 : w5.cell? ⟨gn, 14, none⟩ = some (.int .i64 ((v.upto 16).is 14)) := blk_cell h5 14
      have n15 : w5.cell? ⟨gn, 15, none⟩ = some (.int .i64 ((v.upto 16).is 15)) := blk_cell h5 15
      go_wp2_with (refine store_whole rfl rfl rfl (g := cb + 1) rfl (cfgC v.nm v.sc (v.upto 16).is) rfl R7.out (by kernel_rfl) (by rfl) (cfgOne' _ _ _) ?_; intro w6 h6 hg6)
      refine bodyPost_ret (results_c1 rfl _ _ (cb + 1) 23 _ (0, 0) _ rfl h6 Tryz.underlying23 rfl (by kernel_rfl)) rfl ?_
      have e : cfgC v.nm v.sc (v.upto 16).is = cfgC v.nm v.sc (confK v) := by
        simp only [cfgC, upto_end v _ (by decide : 0 < 16), upto_end v 1 (by decide), upto_end v 2 (by decide), upto_end v 3 (by decide), upto_end v 4 (by decide), upto_end v 5 (by decide), upto_end v 6 (by decide), upto_end v 7 (by decide), upto_end v 8 (by decide), upto_end v 9 (by decide), upto_end v 10 (by decide), upto_end v 11 (by decide), upto_end v 12 (by decide), upto_end v 13 (by decide), upto_end v 14 (by decide), upto_end v 15 (by decide)]
      exact ⟨by rw [e], by rw [hcb]; exact pw_below_grown HB7.out (some (cb + 1)) (by have := HB7.out.size; omega) hg6 (fun q hq => by obtain rfl := Option.some.inj hq; omega)⟩
end Go.Proofs.YtfecfgimfjcbdaaGreatDoor.Cf
