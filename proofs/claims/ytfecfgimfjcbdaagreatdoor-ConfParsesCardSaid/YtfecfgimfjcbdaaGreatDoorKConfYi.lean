/- The reference's table, find: walked. -/
import Derived.Test.YtfecfgimfjcbdaaGreatDoorKConfYh
namespace Go.Proofs.YtfecfgimfjcbdaaGreatDoor.Cf
open Go.RowKit Go.Proofs.YtfecfgimfjcbdaaGreatDoorW.PrintWords Go.Proofs.YtfecfgimfjcbdaaGreatDoorW.PrintLast Go.Proofs.YtfecfgimfjcbdaaGreatDoorW.PrintMore Go.Proofs.YtfecfgimfjcbdaaGreatDoor.QRParse

/-- The reference's table of keys, cell by cell. -/
def rTabC : Array Value := #[.string (⟨#[112, 114, 111, 116, 111, 99, 111, 108]⟩ : ByteArray), .string (⟨#[]⟩ : ByteArray), .int .i64 0, .int .i64 0, .int .i64 3, .string (⟨#[98, 108, 111, 99, 107, 115]⟩ : ByteArray), .string (⟨#[100, 101, 118, 105, 99, 101]⟩ : ByteArray), .int .i64 1, .int .i64 4096, .int .i64 (-1), .string (⟨#[98, 108, 111, 99, 107, 45, 115, 105, 122, 101]⟩ : ByteArray), .string (⟨#[100, 101, 118, 105, 99, 101]⟩ : ByteArray), .int .i64 128, .int .i64 1024, .int .i64 (-1), .string (⟨#[97, 108, 45, 115, 108, 111, 116, 115]⟩ : ByteArray), .string (⟨#[100, 101, 118, 105, 99, 101]⟩ : ByteArray), .int .i64 1, .int .i64 16, .int .i64 4, .string (⟨#[119, 105, 110, 100, 111, 119]⟩ : ByteArray), .string (⟨#[110, 101, 116]⟩ : ByteArray), .int .i64 1, .int .i64 64, .int .i64 8, .string (⟨#[98, 97, 99, 107, 108, 111, 103]⟩ : ByteArray), .string (⟨#[110, 101, 116]⟩ : ByteArray), .int .i64 1, .int .i64 1024, .int .i64 256, .string (⟨#[114, 101, 115, 101, 110, 100]⟩ : ByteArray), .string (⟨#[110, 101, 116]⟩ : ByteArray), .int .i64 1, .int .i64 1000, .int .i64 3, .string (⟨#[116, 105, 109, 101, 111, 117, 116]⟩ : ByteArray), .string (⟨#[110, 101, 116]⟩ : ByteArray), .int .i64 1, .int .i64 1000, .int .i64 20, .string (⟨#[109, 97, 120, 45, 101, 112, 111, 99, 104, 45, 115, 105, 122, 101]⟩ : ByteArray), .string (⟨#[110, 101, 116]⟩ : ByteArray), .int .i64 1, .int .i64 64, .int .i64 16, .string (⟨#[109, 97, 120, 45, 113, 117, 101, 117, 101]⟩ : ByteArray), .string (⟨#[110, 101, 116]⟩ : ByteArray), .int .i64 1, .int .i64 256, .int .i64 32, .string (⟨#[97, 102, 116, 101, 114, 45, 115, 98, 45, 48, 112, 114, 105]⟩ : ByteArray), .string (⟨#[110, 101, 116]⟩ : ByteArray), .int .i64 0, .int .i64 0, .int .i64 0, .string (⟨#[97, 102, 116, 101, 114, 45, 115, 98, 45, 49, 112, 114, 105]⟩ : ByteArray), .string (⟨#[110, 101, 116]⟩ : ByteArray), .int .i64 0, .int .i64 0, .int .i64 0, .string (⟨#[97, 102, 116, 101, 114, 45, 115, 98, 45, 50, 112, 114, 105]⟩ : ByteArray), .string (⟨#[110, 101, 116]⟩ : ByteArray), .int .i64 0, .int .i64 0, .int .i64 0, .string (⟨#[114, 97, 116, 101]⟩ : ByteArray), .string (⟨#[115, 121, 110, 99, 101, 114]⟩ : ByteArray), .int .i64 1, .int .i64 1024, .int .i64 4, .string (⟨#[98, 117, 114, 115, 116]⟩ : ByteArray), .string (⟨#[115, 121, 110, 99, 101, 114]⟩ : ByteArray), .int .i64 1, .int .i64 1024, .int .i64 8, .string (⟨#[97, 104, 101, 97, 100]⟩ : ByteArray), .string (⟨#[115, 121, 110, 99, 101, 114]⟩ : ByteArray), .int .i64 1, .int .i64 64, .int .i64 4]
set_option maxRecDepth 100000 in
set_option maxHeartbeats 4000000 in
theorem table_any (w : World) : Calls Tryz.prog 31 #[] w fun e w' => e = .returned (.agg rTabC) ∧ Below w.heap.size w w' := by
  have hB := (Below.refl w.heap.size w).alloc (Nat.le_refl _) (.cells Tryz.zeroCells74 74)
  have hn := blk_new w (.cells Tryz.zeroCells74 74)
  go_enter Tryz.func31, Tryz.ntmps31
  go_wp2_with (refine store_whole rfl rfl rfl (g := w.heap.size) rfl rTabC (by rfl) hn (by kernel_rfl) (by kernel_rfl) (by decide +kernel) ?_; intro w6 h6 hg6)
  refine bodyPost_ret (results_c1 rfl _ _ w.heap.size 74 rTabC (0, 0) _ rfl h6 Tryz.underlying74 rfl (by kernel_rfl)) rfl ?_
  exact ⟨rfl, pw_below_grown hB (some w.heap.size) hB.size hg6 (fun q hq => by obtain rfl := Option.some.inj hq; exact Nat.le_refl _)⟩

theorem rTab_key (i : Nat) (t : KeyT) (ht : kTab[i]? = some t) : ∃ els : Int, rTabC[i * 5]? = some (.string t.2.1) ∧ rTabC[i * 5 + 1]? = some (.string t.1) ∧ rTabC[i * 5 + 2]? = some (.int .i64 t.2.2.1) ∧ rTabC[i * 5 + 3]? = some (.int .i64 t.2.2.2.1) ∧ rTabC[i * 5 + 4]? = some (.int .i64 els) := by
  have hl : i < 16 := (List.getElem?_eq_some_iff.1 ht).1
  rcases i with _ | _ | _ | _ | _ | _ | _ | _ | _ | _ | _ | _ | _ | _ | _ | _ | i
  case succ.succ.succ.succ.succ.succ.succ.succ.succ.succ.succ.succ.succ.succ.succ.succ => omega
  all_goals
    obtain rfl := Option.some.inj ht
    exact ⟨_, rfl, rfl, rfl, rfl, rfl⟩
theorem rtog_f (nm sc : ByteArray) (k : Nat → Int) : replicaref12_together.f nm (k 1) (k 2) (k 3) (k 0) (k 4) (k 5) (k 6) (k 7) (k 8) (k 9) sc (k 10) (k 11) (k 12) (k 13) (k 14) (k 15) = some (togI k) := by
  unfold replicaref12_together.f togI
  split <;> rfl
def fnI : Option (Option Nat) → Int
  | none => -2
  | some none => -1
  | some (some i) => (i : Int)
set_option maxRecDepth 100000 in
set_option maxHeartbeats 1000000 in
theorem rfind_any (sec nm : ByteArray) (w : World) (out : Option (Option Nat)) (hout : findP sec nm = out) :
    Calls Tryz.prog 70 #[.string sec, .string nm] w fun e w' => e = .returned (.int .i64 (fnI out)) ∧ Below w.heap.size w w' := by
  have HOUT := Aside0.mk hout
  clear hout
  unfold findP at HOUT
  by_cases hs : sec.toList = netB ∧ nm.toList = secB
  · rw [if_pos hs] at HOUT
    obtain rfl : out = some none := HOUT.out.symm
    have e1 : (sec.toList == [110, 101, 116]) = true := beq_iff_eq.2 hs.1
    have e2 : (nm.toList == [115, 104, 97, 114, 101, 100, 45, 115, 101, 99, 114, 101, 116]) = true := beq_iff_eq.2 hs.2
    clear HOUT hs
    go_enter Tryz.func70, Tryz.ntmps70
    go_wp2
    go_ret
    exact ⟨rfl, Below.refl _ _⟩
  · rw [if_neg hs] at HOUT
    have hcase : (sec.toList == [110, 101, 116]) = false ∨ ((sec.toList == [110, 101, 116]) = true ∧ (nm.toList == [115, 104, 97, 114, 101, 100, 45, 115, 101, 99, 114, 101, 116]) = false) := by
      by_cases h1 : sec.toList = netB
      · exact .inr ⟨beq_iff_eq.2 h1, beq_eq_false_iff_ne.2 (fun e => hs ⟨h1, e⟩)⟩
      · exact .inl (beq_eq_false_iff_ne.2 h1)
    clear hs
    have HN := Aside0.mk (fun w1 : World => blk_new w1 (.cells Tryz.zeroCells74 74))
    go_enter Tryz.func70, Tryz.ntmps70
    go_upto_region 1 with fail
    go_cut [12] from 7 (fun v12 wx => v12 = .bool false ∧ w = wx)
    case first =>
      rcases hcase with e1 | ⟨e1, e2⟩
      all_goals
        go_wp2_with fail
        go_meet
        exact ⟨rfl, rfl⟩
    case rest =>
    obtain ⟨rfl, rfl⟩ := hcut
    clear hcase
    go_wp2_with fail
    refine (table_any w).mono ?_
    rintro e w1 ⟨rfl, hB⟩
    have hn := blk_new w1 (.cells Tryz.zeroCells74 74)
    have HB := Aside0.mk (hB.alloc (B := w.heap.size) hB.size (.cells Tryz.zeroCells74 74))
    have hle := hB.size
    clear hB
    go_upto_region 3 with (refine store_whole rfl rfl rfl (g := w1.heap.size) rfl rTabC rfl hn (by kernel_rfl) (by kernel_rfl) (by decide +kernel) ?_; intro w3 h3 hg3)
    have HB4 := Aside0.mk (pw_below_grown HB.out (some w1.heap.size) HB.out.size hg3 (fun q hq => by obtain rfl := Option.some.inj hq; omega))
    have HL := Aside0.mk h3
    clear HB hg3 h3 hn
    generalize w1.heap.size = gl at *
    go_wp2_with fail
    go_loopg [6] 16 (fun kq v6 wr => ∃ j : Nat, j ≤ 16 ∧ kq = 16 - j ∧ v6 = .int .i64 j ∧ Aside0 ((fIdx sec nm (16 - j) j).map some = out) ∧ wr = w3)
    case atStart => exact ⟨0, by omega, rfl, rfl, HOUT, rfl⟩
    case round =>
      clear HOUT
      obtain ⟨j, hj, rfl, rfl, HA, hwr⟩ := hrel
      subst hwr
      by_cases hlt : j < 16
      · have hd : decide ((j : Int) < 16) = true := decide_eq_true (by omega)
        have hjl : (j : Int) < 16 := by omega
        obtain ⟨t, ht⟩ : ∃ t, kTab[j]? = some t := ⟨_, List.getElem?_eq_getElem hlt⟩
        obtain ⟨els, e0, e1, _, _, _⟩ := rTab_key j t ht
        have s0 : wr.cell? ⟨gl, j * 5, none⟩ = some (.string t.2.1) := (blk_cell HL.out _).trans e0
        have s1 : wr.cell? ⟨gl, j * 5 + 1, none⟩ = some (.string t.1) := (blk_cell HL.out _).trans e1
        have HA2 : Aside0 ((if t.1.toList = sec.toList ∧ t.2.1.toList = nm.toList then some j else fIdx sec nm (16 - (j + 1)) (j + 1)).map some = out) := ⟨by
          rw [← HA.out]
          obtain ⟨q, hq⟩ : ∃ q, 16 - j = q + 1 := ⟨15 - j, by omega⟩
          rw [hq, show 16 - (j + 1) = q by omega]
          simp only [fIdx, ht]⟩
        clear HA ht e0 e1
        by_cases h1 : t.1.toList = sec.toList
        · have e1 : (t.1.toList == sec.toList) = true := beq_iff_eq.2 h1
          by_cases h2 : t.2.1.toList = nm.toList
          · have e2 : (t.2.1.toList == nm.toList) = true := beq_iff_eq.2 h2
            rw [if_pos ⟨h1, h2⟩] at HA2
            obtain rfl : out = some (some j) := HA2.out.symm
            clear HA2 h1 h2
            go_wp2
            go_ret
            exact ⟨rfl, HB4.out⟩
          · have e2 : (t.2.1.toList == nm.toList) = false := beq_eq_false_iff_ne.2 h2
            rw [if_neg (fun h => h2 h.2)] at HA2
            clear h1 h2
            go_wp2
            go_roundg (16 - (j + 1))
            case measure => omega
            case rel => exact ⟨j + 1, by omega, rfl, by go_num, HA2, rfl⟩
        · have e1 : (t.1.toList == sec.toList) = false := beq_eq_false_iff_ne.2 h1
          rw [if_neg (fun h => h1 h.1)] at HA2
          clear h1
          go_wp2
          go_roundg (16 - (j + 1))
          case measure => omega
          case rel => exact ⟨j + 1, by omega, rfl, by go_num, HA2, rfl⟩
      · have hd : decide ((j : Int) < 16) = false := decide_eq_false (by omega)
        obtain rfl : j = 16 := by omega
        obtain rfl : out = none := HA.out.symm
        clear HA
        go_wp2
        go_ret
        exact ⟨rfl, HB4.out⟩
end Go.Proofs.YtfecfgimfjcbdaaGreatDoor.Cf
