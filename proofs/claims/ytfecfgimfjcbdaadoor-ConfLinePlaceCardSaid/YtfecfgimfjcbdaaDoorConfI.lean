/- The reference's table of parts, as it is made. -/
import Derived.Test.YtfecfgimfjcbdaaDoorConfG
import Derived.Test.YtfecfgimfjcbdaaDoorConfL
namespace Go.Proofs.YtfecfgimfjcbdaaDoor.Cf
open Go.RowKit Go.Proofs.YtfecfgimfjcbdaaDoorW.PrintWords Go.Proofs.YtfecfgimfjcbdaaDoorW.PrintLast Go.Proofs.YtfecfgimfjcbdaaDoorW.PrintMore Go.Proofs.YtfecfgimfjcbdaaDoor.QCParseStatus

def rHead (v0 v1 v2 v3 v4 v5 : Value) : List Value :=
  [.string (⟨#[99, 115, 58]⟩ : ByteArray), .slice none 0 0, .bool false, .string ⟨#[]⟩, v0, .bool false, .string (⟨#[32, 114, 111, 58]⟩ : ByteArray), .slice none 0 0, .bool false, .string ⟨#[]⟩, v1, .bool false, .string (⟨#[47]⟩ : ByteArray), .slice none 0 0, .bool false, .string ⟨#[]⟩, v2, .bool false,
   .string (⟨#[32, 100, 115, 58]⟩ : ByteArray), .slice none 0 0, .bool false, .string ⟨#[]⟩, v3, .bool false, .string (⟨#[47]⟩ : ByteArray), .slice none 0 0, .bool false, .string ⟨#[]⟩, v4, .bool false, .string (⟨#[32]⟩ : ByteArray), .slice none 0 0, .bool false, .string ⟨#[]⟩, v5, .bool false]
def rNum (t : ByteArray) : List Value := [.string t, .slice none 0 0, .bool false, .string ⟨#[]⟩, .slice none 0 0, .bool true]
def rNames : List ByteArray := [(⟨#[32, 110, 115, 58]⟩ : ByteArray), (⟨#[32, 110, 114, 58]⟩ : ByteArray), (⟨#[32, 100, 119, 58]⟩ : ByteArray), (⟨#[32, 100, 114, 58]⟩ : ByteArray), (⟨#[32, 97, 108, 58]⟩ : ByteArray), (⟨#[32, 97, 112, 58]⟩ : ByteArray), (⟨#[32, 117, 97, 58]⟩ : ByteArray), (⟨#[32, 101, 112, 58]⟩ : ByteArray), (⟨#[32, 111, 111, 115, 58]⟩ : ByteArray)]
def rShort : List ByteArray := [(⟨#[110, 115]⟩ : ByteArray), (⟨#[110, 114]⟩ : ByteArray), (⟨#[100, 119]⟩ : ByteArray), (⟨#[100, 114]⟩ : ByteArray), (⟨#[97, 108]⟩ : ByteArray), (⟨#[97, 112]⟩ : ByteArray), (⟨#[117, 97]⟩ : ByteArray), (⟨#[101, 112]⟩ : ByteArray), (⟨#[111, 111, 115]⟩ : ByteArray)]

theorem small48 (i : Nat) (hi : i < 9) : (12 + 2 * i + 1) * 48 ≤ 140737488355328 ∧ (12 + 2 * i + 1 + 1) * 48 ≤ 140737488355328 := by
  have h2 : 12 + 2 * i + 1 + 1 ≤ 40 := by omega
  have h1 : 12 + 2 * i + 1 ≤ 40 := by omega
  have h : 40 * 48 ≤ 140737488355328 := by decide
  exact ⟨Nat.le_trans (Nat.mul_le_mul_right 48 h1) h, Nat.le_trans (Nat.mul_le_mul_right 48 h2) h⟩
theorem short_name (i : Nat) (hi : i < 9) : ∃ x : ByteArray, rShort[i]? = some x ∧ x.size ≤ 3 ∧ rNames[i]? = some ((⟨#[32]⟩ : ByteArray) ++ x ++ (⟨#[58]⟩ : ByteArray)) := by
  rcases i with _ | _ | _ | _ | _ | _ | _ | _ | _ | i
  case succ.succ.succ.succ.succ.succ.succ.succ.succ => omega
  all_goals exact ⟨_, rfl, by decide, by decide +kernel⟩

set_option maxRecDepth 100000 in
set_option maxHeartbeats 4000000 in
theorem refparts_blk (w : World) : Calls Tryd.prog 45 #[] w fun e w' => ∃ (v v0 v1 v2 v3 v4 v5 : Value), e = .returned v ∧ Below w.heap.size w w' ∧
    w'.ownsRow w.heap.size 88 3 v 30 (rHead v0 v1 v2 v3 v4 v5 ++ rNames.flatMap rNum) ∧
    StrBlk w' w.heap.size v0 cConn ∧ StrBlk w' w.heap.size v1 (cRoles.take 2) ∧ StrBlk w' w.heap.size v2 cRoles ∧ StrBlk w' w.heap.size v3 (cDisks.take 3) ∧ StrBlk w' w.heap.size v4 cDisks ∧ StrBlk w' w.heap.size v5 cProt := by
  go_enter Tryd.func45, Tryd.ntmps45
  go_wp2
  refine wp_allocs (w := w) [_, _, _, _, _, _, _, _] rfl ?_
  intro W hat hB hs
  have h0 := hat 0 _ rfl
  have h1 := hat 1 _ rfl
  have h2 := hat 2 _ rfl
  have h3 := hat 3 _ rfl
  have h4 := hat 4 _ rfl
  have h5 := hat 5 _ rfl
  have h6 := hat 6 _ rfl
  have h7 := hat 7 _ rfl
  clear hat
  have hs8 : W.heap.size = w.heap.size + 8 := hs
  clear hs
  have hs := hs8
  clear hs8
  have s0 : ∀ W' : World, W'.heap[w.heap.size + 0]? = W.heap[w.heap.size + 0]? → StrBlk W' w.heap.size (.slice (some ⟨w.heap.size, 0, none⟩) 8 8) cConn := fun W' e => ⟨_, _, [], rfl, by decide, by decide, Nat.le_refl _, e.trans h0⟩
  have s1 : ∀ W' : World, W'.heap[w.heap.size + 1]? = W.heap[w.heap.size + 1]? → StrBlk W' w.heap.size (.slice (some ⟨w.heap.size + 1, 0, none⟩) 2 2) (cRoles.take 2) := fun W' e => ⟨_, _, [], rfl, by decide, by decide, by omega, e.trans h1⟩
  have s2 : ∀ W' : World, W'.heap[w.heap.size + 2]? = W.heap[w.heap.size + 2]? → StrBlk W' w.heap.size (.slice (some ⟨w.heap.size + 1 + 1, 0, none⟩) 3 3) cRoles := fun W' e => ⟨_, _, [], rfl, by decide, by decide, by omega, e.trans h2⟩
  have s3 : ∀ W' : World, W'.heap[w.heap.size + 3]? = W.heap[w.heap.size + 3]? → StrBlk W' w.heap.size (.slice (some ⟨w.heap.size + 1 + 1 + 1, 0, none⟩) 3 3) (cDisks.take 3) := fun W' e => ⟨_, _, [], rfl, by decide, by decide, by omega, e.trans h3⟩
  have s4 : ∀ W' : World, W'.heap[w.heap.size + 4]? = W.heap[w.heap.size + 4]? → StrBlk W' w.heap.size (.slice (some ⟨w.heap.size + 1 + 1 + 1 + 1, 0, none⟩) 4 4) cDisks := fun W' e => ⟨_, _, [], rfl, by decide, by decide, by omega, e.trans h4⟩
  have s5 : ∀ W' : World, W'.heap[w.heap.size + 5]? = W.heap[w.heap.size + 5]? → StrBlk W' w.heap.size (.slice (some ⟨w.heap.size + 1 + 1 + 1 + 1 + 1, 0, none⟩) 3 3) cProt := fun W' e => ⟨_, _, [], rfl, by decide, by decide, by omega, e.trans h5⟩
  clear h0 h1 h2 h3 h4 h5
  have H7 : Aside0 (W.heap[w.heap.size + 7]? = some (.cells (rShort.map Value.string).toArray 113 (0, 0))) := ⟨h7⟩
  clear h7
  have HS := Aside0.mk (And.intro s0 (And.intro s1 (And.intro s2 (And.intro s3 (And.intro s4 s5)))))
  clear s0 s1 s2 s3 s4 s5
  generalize (Value.slice (some ⟨w.heap.size, 0, none⟩) 8 8) = v0 at *
  generalize (Value.slice (some ⟨w.heap.size + 1, 0, none⟩) 2 2) = v1 at *
  generalize (Value.slice (some ⟨w.heap.size + 1 + 1, 0, none⟩) 3 3) = v2 at *
  generalize (Value.slice (some ⟨w.heap.size + 1 + 1 + 1, 0, none⟩) 3 3) = v3 at *
  generalize (Value.slice (some ⟨w.heap.size + 1 + 1 + 1 + 1, 0, none⟩) 4 4) = v4 at *
  generalize (Value.slice (some ⟨w.heap.size + 1 + 1 + 1 + 1 + 1, 0, none⟩) 3 3) = v5 at *
  have HO : Aside0 (W.ownsRow w.heap.size 88 3 (.slice (some ⟨w.heap.size + 1 + 1 + 1 + 1 + 1 + 1, 0, none⟩) 12 12) 12 (rHead v0 v1 v2 v3 v4 v5)) := ⟨rfl, .inr ⟨_, 12, _, rfl, by omega, h6, Nat.le_refl _, by decide, rfl, rfl⟩⟩
  clear h6
  have HB := Aside0.mk hB
  clear hB
  have HW := Aside0.mk hs
  clear hs
  go_loopg [6, 8] 9 (fun kq v6 v8 wr => ∃ i : Nat, i ≤ 9 ∧ kq = 9 - i ∧ v8 = .int .i64 i ∧ Aside0 (wr.ownsRow w.heap.size 88 3 v6 (12 + 2 * i) (rHead v0 v1 v2 v3 v4 v5 ++ (rNames.take i).flatMap rNum)) ∧ Aside0 (Below w.heap.size w wr) ∧ Aside0 (∀ k, v6.ownBlock = some k → k = w.heap.size + 6 ∨ W.heap.size ≤ k) ∧ Aside0 (W.heap.size ≤ wr.heap.size ∧ ∀ k, k < W.heap.size → k ≠ w.heap.size + 6 → wr.heap[k]? = W.heap[k]?))
  case atStart => exact ⟨0, by omega, rfl, rfl, HO, HB, ⟨fun k hk => by simp [Value.ownBlock] at hk; omega⟩, ⟨⟨Nat.le_refl _, fun _ _ _ => rfl⟩⟩⟩
  case round =>
    clear HO HB
    obtain ⟨i, hi, rfl, rfl, HO, HB, HV, HK⟩ := hrel
    have hwb : w.heap.size + 8 ≤ wr.heap.size := by have := HK.out.1; rw [HW.out] at this; exact this
    by_cases hlt : i < 9
    · have hltb : decide ((i : Int) < 9) = true := decide_eq_true (by omega)
      obtain ⟨x, hx, hxs, hxn⟩ : ∃ x : ByteArray, rShort[i]? = some x ∧ x.size ≤ 3 ∧ rNames[i]? = some ((⟨#[32]⟩ : ByteArray) ++ x ++ (⟨#[58]⟩ : ByteArray)) := short_name i hlt
      have c7 : wr.cell? ⟨w.heap.size + 7, i, none⟩ = some (.string x) := by
        rw [blk_cell ((HK.out.2 _ (by rw [HW.out]; omega) (by omega)).trans H7.out) i]
        simp [hx]
      have HN := Aside0.mk hxn
      clear hx hxn
      have hin := Aside0.mk (show 12 + 2 * i + 2 = 12 + 2 * (i + 1) by omega)
      have o1 : ∀ u ∈ [Value.string ((⟨#[32]⟩ : ByteArray) ++ x ++ (⟨#[58]⟩ : ByteArray)), .slice none 0 0, .bool false], u.oneCell' = true := by
        intro u hu
        simp only [List.mem_cons, List.not_mem_nil, or_false] at hu
        rcases hu with rfl | rfl | rfl <;> rfl
      have o2 : ∀ u ∈ [Value.string (⟨#[]⟩ : ByteArray), .slice none 0 0, .bool true], u.oneCell' = true := by
        intro u hu
        simp only [List.mem_cons, List.not_mem_nil, or_false] at hu
        rcases hu with rfl | rfl | rfl <;> rfl
      have hb1 : w.heap.size ≤ wr.heap.size := by omega
      have hl1 := (small48 i hlt).1
      have hl2 := (small48 i hlt).2
      have O1 := Aside0.mk o1
      have O2 := Aside0.mk o2
      clear o1 o2
      go_wp2_with (first
        | ((with_reducible refine gate_dst (N := 46) rfl ?_); refine print_append_cells (w0 := w) w.heap.size rfl (.tmp 38) (.tmp 45) 84 88 (.agg #[.string ⟨#[]⟩, .slice none 0 0, .bool false]) 3 48 rfl Tryd.underlying84 (by kernel_rfl) rfl (by decide) (by decide) _ _ _ [.string ((⟨#[32]⟩ : ByteArray) ++ x ++ (⟨#[58]⟩ : ByteArray)), .slice none 0 0, .bool false] rfl rfl rfl O1.out HO.out HB.out hb1 hl1 ?_; intro u1 W1 hown1 hB1 hg1 hat1; have HO1 := Aside0.mk hown1; have HB1 := Aside0.mk hB1; have HG1 := Aside0.mk hg1; have HA1 := Aside0.mk hat1; clear hown1 hB1 hg1 hat1)
        | ((with_reducible refine gate_dst (N := 50) rfl ?_); refine print_append_cells (w0 := w) w.heap.size rfl (.tmp 47) (.tmp 49) 84 88 (.agg #[.string ⟨#[]⟩, .slice none 0 0, .bool false]) 3 48 rfl Tryd.underlying84 (by kernel_rfl) rfl (by decide) (by decide) _ _ _ [.string ⟨#[]⟩, .slice none 0 0, .bool true] rfl rfl rfl O2.out HO1.out HB1.out HB1.out.size hl2 ?_; intro u2 W2 hown2 hB2 hg2 hat2; have HO2 := Aside0.mk hown2; have HB2 := Aside0.mk hB2; have HG2 := Aside0.mk hg2; have HA2 := Aside0.mk hat2; clear hown2 hB2 hg2 hat2))
      have hv1 : ∀ k, u1.ownBlock = some k → k = w.heap.size + 6 ∨ W.heap.size ≤ k := by
        intro k hk
        rcases HA1.out with e | ⟨q, e, hq⟩
        · exact HV.out k (e.symm.trans hk)
        · rw [hk] at e
          obtain rfl := Option.some.inj e
          exact .inr (Nat.le_trans HK.out.1 hq)
      have hv2 : ∀ k, u2.ownBlock = some k → k = w.heap.size + 6 ∨ W.heap.size ≤ k := by
        intro k hk
        rcases HA2.out with e | ⟨q, e, hq⟩
        · exact hv1 k (e.symm.trans hk)
        · rw [hk] at e
          obtain rfl := Option.some.inj e
          exact .inr (Nat.le_trans HK.out.1 (Nat.le_trans HG1.out.size hq))
      have hk2 : W.heap.size ≤ W2.heap.size ∧ ∀ k, k < W.heap.size → k ≠ w.heap.size + 6 → W2.heap[k]? = W.heap[k]? := by
        refine ⟨Nat.le_trans HK.out.1 (Nat.le_trans HG1.out.size HG2.out.size), fun k h1 h2 => ?_⟩
        have a1 := Nat.lt_of_lt_of_le h1 HK.out.1
        rw [HG2.out.block k (Nat.lt_of_lt_of_le a1 HG1.out.size) (fun e => by rcases hv1 k e.symm with h | h <;> omega), HG1.out.block k a1 (fun e => by rcases HV.out k e.symm with h | h <;> omega)]
        exact HK.out.2 k h1 h2
      have ho2 : W2.ownsRow w.heap.size 88 3 u2 (12 + 2 * (i + 1)) (rHead v0 v1 v2 v3 v4 v5 ++ (rNames.take (i + 1)).flatMap rNum) := by
        have e : rNames.take (i + 1) = rNames.take i ++ [(⟨#[32]⟩ : ByteArray) ++ x ++ (⟨#[58]⟩ : ByteArray)] := by rw [List.take_add_one, HN.out]; rfl
        rw [e, List.flatMap_append, ← List.append_assoc]
        have h := HO2.out
        rw [List.append_assoc] at h
        exact h
      have HV2 := Aside0.mk hv2
      have HK2 := Aside0.mk hk2
      have HO3 := Aside0.mk ho2
      clear hv1 hv2 hk2 ho2
      go_roundg (9 - (i + 1))
      case measure => omega
      case rel => exact ⟨i + 1, by omega, rfl, by go_num, HO3, HB2, HV2, HK2⟩
    · have hltb : decide ((i : Int) < 9) = false := decide_eq_false (by omega)
      obtain rfl : i = 9 := by omega
      go_wp2
      go_ret
      obtain ⟨s0, s1, s2, s3, s4, s5⟩ := HS.out
      have hw8 := HW.out
      refine ⟨_, v0, v1, v2, v3, v4, v5, rfl, HB.out, HO.out, s0 _ (HK.out.2 _ (by omega) (by omega)), s1 _ (HK.out.2 _ (by omega) (by omega)), s2 _ (HK.out.2 _ (by omega) (by omega)), s3 _ (HK.out.2 _ (by omega) (by omega)), s4 _ (HK.out.2 _ (by omega) (by omega)), s5 _ (HK.out.2 _ (by omega) (by omega))⟩
end Go.Proofs.YtfecfgimfjcbdaaDoor.Cf
