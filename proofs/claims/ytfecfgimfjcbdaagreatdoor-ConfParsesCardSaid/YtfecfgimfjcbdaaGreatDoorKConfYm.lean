/- The reference's resource: walked. -/
import Derived.Test.YtfecfgimfjcbdaaGreatDoorKConfYl
namespace Go.Proofs.YtfecfgimfjcbdaaGreatDoor.Cf
open Go.RowKit Go.Proofs.YtfecfgimfjcbdaaGreatDoorW.PrintWords Go.Proofs.YtfecfgimfjcbdaaGreatDoorW.PrintLast Go.Proofs.YtfecfgimfjcbdaaGreatDoorW.PrintMore Go.Proofs.YtfecfgimfjcbdaaGreatDoor.QRParse

def RcPost (g : Nat) (lv : Value) (T : List TkT) (s : ByteArray) (v : FV) (w : World) (o : Except (Nat × Int) (Nat × List ByteArray × ByteArray × (Nat → Int) × Nat)) (e : Ending) (w' : World) : Prop :=
  match o with
  | .ok (a, D, sc, k, q) => e = .returned (.tuple #[.int .i64 (a : Int), .bool true]) ∧ (∃ v', RF w' g lv T s v' q ∧ Vals v' sc k ∧ v'.nm = v.nm ∧ v'.th 1 = seen D blkB ∧ v'.th 2 = seen D sizB) ∧ Ch [g] w w'
  | .error (a, er) => (∃ n, e = .returned (.tuple #[.int .i64 n, .bool false])) ∧ FaultAt w' g er a ∧ Ch [g] w w'
theorem key0 : kTab[0]? = some ((⟨#[]⟩ : ByteArray), (⟨#[112, 114, 111, 116, 111, 99, 111, 108]⟩ : ByteArray), 0, 0, false, some ([(⟨#[65]⟩ : ByteArray), (⟨#[66]⟩ : ByteArray), (⟨#[67]⟩ : ByteArray)], [1, 2, 3])) := rfl
theorem put_nm (v : FV) (key : Option Nat) (sc : ByteArray) (k : Nat → Int) : (v.put key sc k).nm = v.nm := by cases key <;> rfl
theorem any_rev (L : List ByteArray) (x : ByteArray) : (L.reverse.any fun y => y.toList == x.toList) = seen L x := by unfold seen; rw [List.any_reverse]
set_option maxRecDepth 100000 in
set_option maxHeartbeats 2000000 in
theorem rresource_any {w : World} {g : Nat} {lv : Value} {T : List TkT} {s : ByteArray} (hs : s.size ≤ 1000000) {v0 : FV} {p0 : Nat} (h : RF w g lv T s v0 p0) (sc0 : ByteArray) (k0 : Nat → Int) (hV : Vals v0 sc0 k0) (hP : PInv v0 [] [])
    {out : Except (Nat × Int) (Nat × List ByteArray × ByteArray × (Nat → Int) × Nat)} (hout : partsP s (s.size + 1) p0 [] [] sc0 k0 = out) :
    Calls Tryz.prog 29 #[.pointer (some ⟨g, 0, none⟩)] w (RcPost g lv T s v0 w out) := by
  have HOUT := Aside0.mk hout
  have H0 := Aside0.mk h
  have hg := h.lt
  have hlow := Aside0.mk h.low
  have HV0 := Aside0.mk hV
  have HP0 := Aside0.mk hP
  clear hout h hV hP
  go_enter Tryz.func29, Tryz.ntmps29
  go_wp2_with fail
  refine (table_any w).mono ?_
  rintro e w1 ⟨rfl, hB⟩
  have hn := blk_new w1 (.cells Tryz.zeroCells74 74)
  have HC := Aside0.mk ((Ch.of_below hB []).alloc (.cells Tryz.zeroCells74 74))
  have hle := hB.size
  clear hB
  go_upto_region 2 with (refine store_whole rfl rfl rfl (g := w1.heap.size) rfl rTabC rfl hn (by kernel_rfl) (by kernel_rfl) (by decide +kernel) ?_; intro w3 h3 hg3)
  have HC4 := Aside0.mk ((HC.out.grown hg3 (.inr (by omega))).more (L' := [g]) (by simp))
  have H4 := Aside0.mk (H0.out.keep (HC.out.grown hg3 (.inr (by omega))))
  have HL := Aside0.mk h3
  have hgl : w.heap.size ≤ w1.heap.size := by omega
  clear HC hg3 h3 hn H0
  generalize w1.heap.size = gl at *
  go_wp2_with fail
  have hsl : (∃ xs : List ByteArray, Aside0 (Names w3 (gl + 1) (.slice none 0 0) xs) ∧ xs = []) := ⟨[], ⟨Names.nil _ _⟩, rfl⟩
  obtain ⟨xs0, HN, hxs0⟩ := hsl
  go_loopg [5] (s.size + 1) (fun kq v5 wr => ∃ (p : Nat) (L D : List ByteArray) (sc : ByteArray) (k : Nat → Int) (v : FV), s.size - p < kq ∧ L.length ≤ p ∧ Aside0 (RF wr g lv T s v p) ∧ Aside0 (Vals v sc k) ∧ Aside0 (PInv v L D) ∧ Aside0 (v.nm = v0.nm) ∧ Aside0 (Names wr (gl + 1) v5 L.reverse) ∧ Aside0 (Ch [g] w wr) ∧ Aside0 (wr.heap[gl]? = some (.cells rTabC 74 (0, 0))) ∧ Aside0 (partsP s kq p L D sc k = out))
  case atStart => exact ⟨p0, [], [], sc0, k0, v0, by omega, by simp, H4, HV0, HP0, ⟨rfl⟩, ⟨Names.nil _ _⟩, HC4, HL, HOUT⟩
  case round =>
    clear H4 HV0 HP0 HC4 HL HOUT HN hxs0
    obtain ⟨p, L, D, sc, k, v, hk, hLp, HR, HV, HP, HM, HN, HC, HL, HQ⟩ := hrel
    obtain ⟨f, rfl⟩ : ∃ f, gk = f + 1 := ⟨gk - 1, by omega⟩
    rw [partsP_part] at HQ
    have hp := HR.out.ps.1
    have hglt := blk_lt HL.out
    have hgne : gl ≠ g := by omega
    cases hpt : partP s p with
    | error ae =>
      obtain ⟨a, er⟩ := ae
      rw [hpt] at HQ
      obtain rfl : out = .error (a, er) := HQ.out.symm
      have PX := Aside0.mk (rpart_any HR.out hpt)
      clear HQ HR HV HP HM HN HL hpt
      go_wp2_with (go_at_call 42; refine PX.out.mono ?_; rintro e w2 ⟨⟨t, rfl⟩, h1, h2⟩; dsimp only [tkC])
      go_ret2
      exact ⟨⟨_, rfl⟩, h1.alloc _, (HC.out.trans h2).alloc _⟩
    | ok pk =>
      obtain ⟨b, kd, a, x, q⟩ := pk
      have hq := partP_le hp hpt
      have PX := Aside0.mk (rpart_any HR.out hpt)
      rw [hpt] at HQ
      clear hpt HR
      cases b with
      | true =>
        obtain rfl : out = .ok (a, D, sc, k, q) := HQ.out.symm
        clear HQ
        go_wp2_with (first
          | (go_at_call 42; refine PX.out.mono ?_; rintro e w2 ⟨rfl, h1, h2⟩; have hw2 : gl < w2.heap.size := Nat.lt_of_lt_of_le hglt h2.size; dsimp only [tkV]))
        go_ret2
        exact ⟨rfl, ⟨v.nx, h1.alloc _, HV.out.nx, HM.out, HP.out.blk, HP.out.siz⟩, (HC.out.trans h2).alloc _⟩
      | false =>
        dsimp only at HQ
        by_cases hpart : isPart x = false
        · rw [if_pos hpart] at HQ
          obtain rfl : out = .error (a, 122) := HQ.out.symm
          have hx : (((x.toList == protB) = false ∧ (x.toList == devB) = false) ∧ (x.toList == netB) = false) ∧ (x.toList == synB) = false := by
            unfold isPart at hpart
            simpa only [Bool.or_eq_false_iff] using hpart
          have e1 : (x.toList == [112, 114, 111, 116, 111, 99, 111, 108]) = false := hx.1.1.1
          have e2 : (x.toList == [100, 101, 118, 105, 99, 101]) = false := hx.1.1.2
          have e3 : (x.toList == [110, 101, 116]) = false := hx.1.2
          have e4 : (x.toList == [115, 121, 110, 99, 101, 114]) = false := hx.2
          clear hx
          clear HQ HV HP HM HN HL hpart
          go_wp2_with (first
            | (go_at_call 42; refine PX.out.mono ?_; rintro e w2 ⟨rfl, h1, h2⟩; have hw2 : gl < w2.heap.size := Nat.lt_of_lt_of_le hglt h2.size; dsimp only [tkV])
            | (go_at_call 26; refine (rfail_any (h1.alloc _) _ _).mono ?_; rintro e w5 ⟨rfl, h3, h4⟩))
          go_ret2
          exact ⟨⟨_, rfl⟩, h3, ((HC.out.trans h2).alloc _).trans h4⟩
        · rw [if_neg hpart] at HQ
          have hx : x.toList = protB ∨ (x.toList = devB ∨ x.toList = netB ∨ x.toList = synB) := by
            unfold isPart at hpart
            simp only [Bool.not_eq_false, Bool.or_eq_true, beq_iff_eq] at hpart
            rcases hpart with ((h | h) | h) | h
            · exact .inl h
            · exact .inr (.inl h)
            · exact .inr (.inr (.inl h))
            · exact .inr (.inr (.inr h))
          clear hpart
          rcases hx with hx | hx4
          · have e1 : (x.toList == [112, 114, 111, 116, 111, 99, 111, 108]) = true := by rw [hx]; rfl
            have e2 : (x.toList == [100, 101, 118, 105, 99, 101]) = false := by rw [hx]; rfl
            have e3 : (x.toList == [110, 101, 116]) = false := by rw [hx]; rfl
            have e4 : (x.toList == [115, 121, 110, 99, 101, 114]) = false := by rw [hx]; rfl
            have HX := Aside0.mk hx
            clear hx
            go_wp2_with (first
              | (go_at_call 42; refine PX.out.mono ?_; rintro e w2 ⟨rfl, h1, h2⟩; have hw2 : gl < w2.heap.size := Nat.lt_of_lt_of_le hglt h2.size; dsimp only [tkV]))
            have T0 := blk_new w2 (.cells #[.int .i64 ((kd : Int) + 2), .int .i64 (a : Int), .string x] 63)
            have R5 := Aside0.mk (h1.alloc (.cells #[.int .i64 ((kd : Int) + 2), .int .i64 (a : Int), .string x] 63))
            have HC5 := Aside0.mk ((HC.out.trans h2).alloc (.cells #[.int .i64 ((kd : Int) + 2), .int .i64 (a : Int), .string x] 63))
            have HN5 := Aside0.mk (HN.out.ch (h2.alloc (.cells #[.int .i64 ((kd : Int) + 2), .int .i64 (a : Int), .string x] 63)) (by simp; omega))
            have HL5 := Aside0.mk ((h2.alloc (.cells #[.int .i64 ((kd : Int) + 2), .int .i64 (a : Int), .string x] 63)).blk HL.out (by simp; omega))
            clear HN HC HL h1 h2 PX
            generalize w2.alloc (.cells #[.int .i64 ((kd : Int) + 2), .int .i64 (a : Int), .string x] 63) = w5 at *
            obtain ⟨tb, htb⟩ : ∃ tb, w2.heap.size = tb := ⟨_, rfl⟩
            rw [htb] at T0 hw2 ⊢
            clear htb
            obtain ⟨t0, t1, t2, _, _, _⟩ := row3 T0
            have hw5 := blk_lt HL5.out
            obtain ⟨A, c, hAc, hRd⟩ := HN5.out.reads
            have hLl : L.reverse.length = L.length := List.length_reverse
            obtain ⟨xs, hxs⟩ : ∃ xs, L.reverse = xs := ⟨_, rfl⟩
            have hany := Aside0.mk (any_rev L x)
            rw [hxs] at hAc HN5 hLl hany
            subst hAc
            have hc9 : xs.length ≤ 1000000 := by omega
            clear hRd hLl
            go_loopg [10] xs.length (fun kq v10 wr' => ∃ j : Nat, j ≤ xs.length ∧ kq = xs.length - j ∧ v10 = .int .i64 j ∧ Aside0 (((xs.drop j).any fun y => y.toList == x.toList) = seen L x) ∧ wr' = w5)
            case atStart => exact ⟨0, by omega, rfl, rfl, hany, rfl⟩
            case round =>
              clear hany
              obtain ⟨j, hj, rfl, rfl, HA, hwr⟩ := hrel
              subst hwr
              by_cases hlt : j < xs.length
              · have hd : decide ((j : Int) < (xs.length : Int)) = true := decide_eq_true (by omega)
                have hjl : (j : Int) < (xs.length : Int) := by omega
                obtain ⟨g', cap', hv', _⟩ := World.ownsRow.form HN5.out (by omega)
                injection hv' with hv1 hv2 hv3
                subst hv1 hv3
                have cj := (own_at_of (d := ByteArray.empty) HN5.out (j : Int) (by omega) hjl).1
                obtain ⟨y, hy⟩ : ∃ y, xs[j]? = some y := ⟨_, List.getElem?_eq_getElem hlt⟩
                have hyr : rdOf ByteArray.empty xs (j : Int) = y := by simp [rdOf, hy]
                rw [hyr, Int.toNat_natCast] at cj
                have e2d : xs.drop j = y :: xs.drop (j + 1) := by rw [List.drop_eq_getElem?_toList_append, hy]; rfl
                have HA2 : Aside0 (((y.toList == x.toList) || (xs.drop (j + 1)).any fun y => y.toList == x.toList) = seen L x) := ⟨by rw [← HA.out, e2d, List.any_cons]⟩
                clear HA hyr e2d hy
                cases hyx : (y.toList == x.toList) with
                | true =>
                  rw [hyx, Bool.true_or] at HA2
                  rw [if_pos HA2.out.symm] at HQ
                  obtain rfl : out = .error (a, 123) := HQ.out.symm
                  clear HQ HA2
                  go_wp2_with (first
                    | (go_at_call 26; refine (rfail_any R5.out _ _).mono ?_; rintro e w6 ⟨rfl, h3, h4⟩))
                  go_ret2
                  exact ⟨⟨_, rfl⟩, h3, HC5.out.trans h4⟩
                | false =>
                  rw [hyx, Bool.false_or] at HA2
                  go_wp2_with fail
                  go_roundg (xs.length - (j + 1))
                  case measure => omega
                  case rel => exact ⟨j + 1, by omega, rfl, by go_num, HA2, rfl⟩
              · have hd : decide ((j : Int) < (xs.length : Int)) = false := decide_eq_false (by omega)
                obtain rfl : j = xs.length := by omega
                have hsn : seen L x = false := by rw [← HA.out, List.drop_length]; rfl
                rw [if_neg (by rw [hsn]; simp)] at HQ
                clear HA
                rw [find_prot HX.out] at HQ
                dsimp only at HQ
                cases hval : valueP s q (some 0) sc k with
                | error ae =>
                  obtain ⟨a', er⟩ := ae
                  rw [hval] at HQ
                  obtain rfl : out = .error (a', er) := HQ.out.symm
                  clear HQ
                  go_wp2_with (first
                    | ((with_reducible refine gate_builtin (b := .append) (xs := #[.tmp 62, .tmp 64]) rfl ?_); at_builtin; refine names_append (gl + 1) rfl (.tmp 62) (.tmp 64) 79 rfl Tryz.underlying79 info_str _ xs x rfl (by first | rfl | (go_simp; done) | (go_simp; rfl)) HN5.out (by omega) hc9 ?_; intro v1 w6 l6 hN6 hC6 hl6; have R6 := Aside0.mk (R5.out.high hC6 hl6 (by omega) (fun b n c e => by have := hlow.out b n c e; omega)); have HC6 := Aside0.mk (HC5.out.high hC6 (fun q hq => by have := hl6 q hq; omega)); have HL6 := Aside0.mk (hC6.blk HL5.out (fun e => by have := hl6 gl e; omega)); have HN6 := Aside0.mk hN6; have hw6 := blk_lt HL6.out; clear hN6 hC6 hl6; have l0 : w6.cell? ⟨gl, 0, none⟩ = some (.string (⟨#[112, 114, 111, 116, 111, 99, 111, 108]⟩ : ByteArray)) := (blk_cell HL6.out _).trans rfl; have l1 : w6.cell? ⟨gl, 1, none⟩ = some (.string (⟨#[]⟩ : ByteArray)) := (blk_cell HL6.out _).trans rfl; have l2 : w6.cell? ⟨gl, 2, none⟩ = some (.int .i64 0) := (blk_cell HL6.out _).trans rfl; have l3 : w6.cell? ⟨gl, 3, none⟩ = some (.int .i64 0) := (blk_cell HL6.out _).trans rfl; have l4 : w6.cell? ⟨gl, 4, none⟩ = some (.int .i64 3) := (blk_cell HL6.out _).trans rfl)
                    | (go_at_call 43; refine (rgiven_key hs R6.out 0 _ key0 3 sc k hval).mono ?_; rintro e w7 ⟨rfl, h3, h4⟩))
                  go_ret2
                  exact ⟨⟨_, rfl⟩, h3, HC6.out.trans h4⟩
                | ok y =>
                  obtain ⟨sc', k', q'⟩ := y
                  rw [hval] at HQ
                  dsimp only at HQ
                  go_wp2_with (first
                    | ((with_reducible refine gate_builtin (b := .append) (xs := #[.tmp 62, .tmp 64]) rfl ?_); at_builtin; refine names_append (gl + 1) rfl (.tmp 62) (.tmp 64) 79 rfl Tryz.underlying79 info_str _ xs x rfl (by first | rfl | (go_simp; done) | (go_simp; rfl)) HN5.out (by omega) hc9 ?_; intro v1 w6 l6 hN6 hC6 hl6; have R6 := Aside0.mk (R5.out.high hC6 hl6 (by omega) (fun b n c e => by have := hlow.out b n c e; omega)); have HC6 := Aside0.mk (HC5.out.high hC6 (fun q hq => by have := hl6 q hq; omega)); have HL6 := Aside0.mk (hC6.blk HL5.out (fun e => by have := hl6 gl e; omega)); have HN6 := Aside0.mk hN6; have hw6 := blk_lt HL6.out; clear hN6 hC6 hl6; have l0 : w6.cell? ⟨gl, 0, none⟩ = some (.string (⟨#[112, 114, 111, 116, 111, 99, 111, 108]⟩ : ByteArray)) := (blk_cell HL6.out _).trans rfl; have l1 : w6.cell? ⟨gl, 1, none⟩ = some (.string (⟨#[]⟩ : ByteArray)) := (blk_cell HL6.out _).trans rfl; have l2 : w6.cell? ⟨gl, 2, none⟩ = some (.int .i64 0) := (blk_cell HL6.out _).trans rfl; have l3 : w6.cell? ⟨gl, 3, none⟩ = some (.int .i64 0) := (blk_cell HL6.out _).trans rfl; have l4 : w6.cell? ⟨gl, 4, none⟩ = some (.int .i64 3) := (blk_cell HL6.out _).trans rfl)
                    | (go_at_call 43; refine (rgiven_key hs R6.out 0 _ key0 3 sc k hval).mono ?_; rintro e w7 ⟨rfl, h3, h4⟩))
                  go_roundg f
                  case measure => omega
                  case rel =>
                    have hle2 := valueP_le s q _ sc k _ hq.2 hval
                    dsimp only at hle2
                    refine ⟨q', x :: L, D, sc', k', (v.nx.put (some 0) sc' k').nx, by omega, by simp; omega, ⟨h3⟩, ⟨(HV.out.nx.put hval (fun i e => by cases e; omega)).nx⟩, ⟨(HP.out.nx.prot HX.out ((Oth.refl _ _).put (find_prot HX.out) sc' k')).nx⟩, ⟨(put_nm v.nx (some 0) sc' k').trans HM.out⟩, ⟨?_⟩, ⟨HC6.out.trans h4⟩, ⟨h4.blk HL6.out (by simp; omega)⟩, HQ⟩
                    rw [List.reverse_cons, hxs]
                    exact HN6.out.ch h4 (by simp; omega)
          · have HX4 := Aside0.mk hx4
            rcases hx4 with hx | hx | hx
            · have e1 : (x.toList == [112, 114, 111, 116, 111, 99, 111, 108]) = false := by rw [hx]; rfl
              have e2 : (x.toList == [100, 101, 118, 105, 99, 101]) = true := by rw [hx]; rfl
              have e3 : (x.toList == [110, 101, 116]) = false := by rw [hx]; rfl
              have e4 : (x.toList == [115, 121, 110, 99, 101, 114]) = false := by rw [hx]; rfl
              have HX := Aside0.mk hx
              clear hx
              go_wp2_with (first
                | (go_at_call 42; refine PX.out.mono ?_; rintro e w2 ⟨rfl, h1, h2⟩; have hw2 : gl < w2.heap.size := Nat.lt_of_lt_of_le hglt h2.size; dsimp only [tkV]))
              have T0 := blk_new w2 (.cells #[.int .i64 ((kd : Int) + 2), .int .i64 (a : Int), .string x] 63)
              have R5 := Aside0.mk (h1.alloc (.cells #[.int .i64 ((kd : Int) + 2), .int .i64 (a : Int), .string x] 63))
              have HC5 := Aside0.mk ((HC.out.trans h2).alloc (.cells #[.int .i64 ((kd : Int) + 2), .int .i64 (a : Int), .string x] 63))
              have HN5 := Aside0.mk (HN.out.ch (h2.alloc (.cells #[.int .i64 ((kd : Int) + 2), .int .i64 (a : Int), .string x] 63)) (by simp; omega))
              have HL5 := Aside0.mk ((h2.alloc (.cells #[.int .i64 ((kd : Int) + 2), .int .i64 (a : Int), .string x] 63)).blk HL.out (by simp; omega))
              clear HN HC HL h1 h2 PX
              generalize w2.alloc (.cells #[.int .i64 ((kd : Int) + 2), .int .i64 (a : Int), .string x] 63) = w5 at *
              obtain ⟨tb, htb⟩ : ∃ tb, w2.heap.size = tb := ⟨_, rfl⟩
              rw [htb] at T0 hw2 ⊢
              clear htb
              obtain ⟨t0, t1, t2, _, _, _⟩ := row3 T0
              have hw5 := blk_lt HL5.out
              obtain ⟨A, c, hAc, hRd⟩ := HN5.out.reads
              have hLl : L.reverse.length = L.length := List.length_reverse
              obtain ⟨xs, hxs⟩ : ∃ xs, L.reverse = xs := ⟨_, rfl⟩
              have hany := Aside0.mk (any_rev L x)
              rw [hxs] at hAc HN5 hLl hany
              subst hAc
              have hc9 : xs.length ≤ 1000000 := by omega
              clear hRd hLl
              go_loopg [10] xs.length (fun kq v10 wr' => ∃ j : Nat, j ≤ xs.length ∧ kq = xs.length - j ∧ v10 = .int .i64 j ∧ Aside0 (((xs.drop j).any fun y => y.toList == x.toList) = seen L x) ∧ wr' = w5)
              case atStart => exact ⟨0, by omega, rfl, rfl, hany, rfl⟩
              case round =>
                clear hany
                obtain ⟨j, hj, rfl, rfl, HA, hwr⟩ := hrel
                subst hwr
                by_cases hlt : j < xs.length
                · have hd : decide ((j : Int) < (xs.length : Int)) = true := decide_eq_true (by omega)
                  have hjl : (j : Int) < (xs.length : Int) := by omega
                  obtain ⟨g', cap', hv', _⟩ := World.ownsRow.form HN5.out (by omega)
                  injection hv' with hv1 hv2 hv3
                  subst hv1 hv3
                  have cj := (own_at_of (d := ByteArray.empty) HN5.out (j : Int) (by omega) hjl).1
                  obtain ⟨y, hy⟩ : ∃ y, xs[j]? = some y := ⟨_, List.getElem?_eq_getElem hlt⟩
                  have hyr : rdOf ByteArray.empty xs (j : Int) = y := by simp [rdOf, hy]
                  rw [hyr, Int.toNat_natCast] at cj
                  have e2d : xs.drop j = y :: xs.drop (j + 1) := by rw [List.drop_eq_getElem?_toList_append, hy]; rfl
                  have HA2 : Aside0 (((y.toList == x.toList) || (xs.drop (j + 1)).any fun y => y.toList == x.toList) = seen L x) := ⟨by rw [← HA.out, e2d, List.any_cons]⟩
                  clear HA hyr e2d hy
                  cases hyx : (y.toList == x.toList) with
                  | true =>
                    rw [hyx, Bool.true_or] at HA2
                    rw [if_pos HA2.out.symm] at HQ
                    obtain rfl : out = .error (a, 123) := HQ.out.symm
                    clear HQ HA2
                    go_wp2_with (first
                      | (go_at_call 26; refine (rfail_any R5.out _ _).mono ?_; rintro e w6 ⟨rfl, h3, h4⟩))
                    go_ret2
                    exact ⟨⟨_, rfl⟩, h3, HC5.out.trans h4⟩
                  | false =>
                    rw [hyx, Bool.false_or] at HA2
                    go_wp2_with fail
                    go_roundg (xs.length - (j + 1))
                    case measure => omega
                    case rel => exact ⟨j + 1, by omega, rfl, by go_num, HA2, rfl⟩
                · have hd : decide ((j : Int) < (xs.length : Int)) = false := decide_eq_false (by omega)
                  obtain rfl : j = xs.length := by omega
                  have hsn : seen L x = false := by rw [← HA.out, List.drop_length]; rfl
                  rw [if_neg (by rw [hsn]; simp)] at HQ
                  clear HA
                  rw [find_part HX4.out] at HQ
                  dsimp only at HQ
                  cases hw : wantP s q 1 openB with
                  | error ae =>
                    obtain ⟨a', er⟩ := ae
                    rw [hw] at HQ
                    obtain rfl : out = .error (a', er) := HQ.out.symm
                    clear HQ
                    go_wp2_with (first
                      | ((with_reducible refine gate_builtin (b := .append) (xs := #[.tmp 62, .tmp 64]) rfl ?_); at_builtin; refine names_append (gl + 1) rfl (.tmp 62) (.tmp 64) 79 rfl Tryz.underlying79 info_str _ xs x rfl (by first | rfl | (go_simp; done) | (go_simp; rfl)) HN5.out (by omega) hc9 ?_; intro v1 w6 l6 hN6 hC6 hl6; have R6 := Aside0.mk (R5.out.high hC6 hl6 (by omega) (fun b n c e => by have := hlow.out b n c e; omega)); have HC6 := Aside0.mk (HC5.out.high hC6 (fun q hq => by have := hl6 q hq; omega)); have HL6 := Aside0.mk (hC6.blk HL5.out (fun e => by have := hl6 gl e; omega)); have HN6 := Aside0.mk hN6; have hw6 := blk_lt HL6.out; clear hN6 hC6 hl6)
                      | (go_at_call 28; refine (rmark_any R6.out openB hw).mono ?_; rintro e w7 ⟨rfl, h3, h4⟩))
                    go_ret2
                    exact ⟨⟨_, rfl⟩, h3, HC6.out.trans h4⟩
                  | ok aq =>
                    obtain ⟨a', q1⟩ := aq
                    have hle1 := wantP_le s q 1 openB a' q1 hq.2 hw
                    rw [hw] at HQ
                    dsimp only at HQ
                    cases hsec : sectP s x (s.size + 1) q1 [] sc k with
                    | error ae =>
                      obtain ⟨a'', er⟩ := ae
                      rw [hsec] at HQ
                      obtain rfl : out = .error (a'', er) := HQ.out.symm
                      clear HQ
                      go_wp2_with (first
                        | ((with_reducible refine gate_builtin (b := .append) (xs := #[.tmp 62, .tmp 64]) rfl ?_); at_builtin; refine names_append (gl + 1) rfl (.tmp 62) (.tmp 64) 79 rfl Tryz.underlying79 info_str _ xs x rfl (by first | rfl | (go_simp; done) | (go_simp; rfl)) HN5.out (by omega) hc9 ?_; intro v1 w6 l6 hN6 hC6 hl6; have R6 := Aside0.mk (R5.out.high hC6 hl6 (by omega) (fun b n c e => by have := hlow.out b n c e; omega)); have HC6 := Aside0.mk (HC5.out.high hC6 (fun q hq => by have := hl6 q hq; omega)); have HL6 := Aside0.mk (hC6.blk HL5.out (fun e => by have := hl6 gl e; omega)); have HN6 := Aside0.mk hN6; have hw6 := blk_lt HL6.out; clear hN6 hC6 hl6)
                        | (go_at_call 28; refine (rmark_any R6.out openB hw).mono ?_; rintro e w7 ⟨rfl, h3, h4⟩)
                        | (go_at_call 44; refine (rsection_any hs h3 x sc k HV.out.nx.nx (HP.out.nx.nx.sect HX4.out hsn) hsec).mono ?_; rintro e w8 ⟨rfl, h5, h6⟩))
                      go_ret2
                      exact ⟨⟨_, rfl⟩, h5, (HC6.out.trans h4).trans h6⟩
                    | ok y =>
                      obtain ⟨D', sc', k', q'⟩ := y
                      rw [hsec] at HQ
                      dsimp only at HQ
                      go_wp2_with (first
                        | ((with_reducible refine gate_builtin (b := .append) (xs := #[.tmp 62, .tmp 64]) rfl ?_); at_builtin; refine names_append (gl + 1) rfl (.tmp 62) (.tmp 64) 79 rfl Tryz.underlying79 info_str _ xs x rfl (by first | rfl | (go_simp; done) | (go_simp; rfl)) HN5.out (by omega) hc9 ?_; intro v1 w6 l6 hN6 hC6 hl6; have R6 := Aside0.mk (R5.out.high hC6 hl6 (by omega) (fun b n c e => by have := hlow.out b n c e; omega)); have HC6 := Aside0.mk (HC5.out.high hC6 (fun q hq => by have := hl6 q hq; omega)); have HL6 := Aside0.mk (hC6.blk HL5.out (fun e => by have := hl6 gl e; omega)); have HN6 := Aside0.mk hN6; have hw6 := blk_lt HL6.out; clear hN6 hC6 hl6)
                        | (go_at_call 28; refine (rmark_any R6.out openB hw).mono ?_; rintro e w7 ⟨rfl, h3, h4⟩)
                        | (go_at_call 44; refine (rsection_any hs h3 x sc k HV.out.nx.nx (HP.out.nx.nx.sect HX4.out hsn) hsec).mono ?_; rintro e w8 ⟨rfl, ⟨v', h5, h7, h8, h9⟩, h6⟩))
                      go_roundg f
                      case measure => omega
                      case rel =>
                        have hle2 := sectP_le s x _ q1 [] sc k _ hle1.2 hsec
                        dsimp only at hle2
                        refine ⟨q', x :: L, _, sc', k', v', by omega, by simp; omega, ⟨h5⟩, ⟨h7⟩, ⟨HP.out.nx.nx.sected HX4.out h8 h9⟩, ⟨h9.nm.trans HM.out⟩, ⟨?_⟩, ⟨(HC6.out.trans h4).trans h6⟩, ⟨h6.blk (h4.blk HL6.out (by simp; omega)) (by simp; omega)⟩, HQ⟩
                        rw [List.reverse_cons, hxs]
                        exact (HN6.out.ch h4 (by simp; omega)).ch h6 (by simp; omega)
            · have e1 : (x.toList == [112, 114, 111, 116, 111, 99, 111, 108]) = false := by rw [hx]; rfl
              have e2 : (x.toList == [100, 101, 118, 105, 99, 101]) = false := by rw [hx]; rfl
              have e3 : (x.toList == [110, 101, 116]) = true := by rw [hx]; rfl
              have e4 : (x.toList == [115, 121, 110, 99, 101, 114]) = false := by rw [hx]; rfl
              have HX := Aside0.mk hx
              clear hx
              go_wp2_with (first
                | (go_at_call 42; refine PX.out.mono ?_; rintro e w2 ⟨rfl, h1, h2⟩; have hw2 : gl < w2.heap.size := Nat.lt_of_lt_of_le hglt h2.size; dsimp only [tkV]))
              have T0 := blk_new w2 (.cells #[.int .i64 ((kd : Int) + 2), .int .i64 (a : Int), .string x] 63)
              have R5 := Aside0.mk (h1.alloc (.cells #[.int .i64 ((kd : Int) + 2), .int .i64 (a : Int), .string x] 63))
              have HC5 := Aside0.mk ((HC.out.trans h2).alloc (.cells #[.int .i64 ((kd : Int) + 2), .int .i64 (a : Int), .string x] 63))
              have HN5 := Aside0.mk (HN.out.ch (h2.alloc (.cells #[.int .i64 ((kd : Int) + 2), .int .i64 (a : Int), .string x] 63)) (by simp; omega))
              have HL5 := Aside0.mk ((h2.alloc (.cells #[.int .i64 ((kd : Int) + 2), .int .i64 (a : Int), .string x] 63)).blk HL.out (by simp; omega))
              clear HN HC HL h1 h2 PX
              generalize w2.alloc (.cells #[.int .i64 ((kd : Int) + 2), .int .i64 (a : Int), .string x] 63) = w5 at *
              obtain ⟨tb, htb⟩ : ∃ tb, w2.heap.size = tb := ⟨_, rfl⟩
              rw [htb] at T0 hw2 ⊢
              clear htb
              obtain ⟨t0, t1, t2, _, _, _⟩ := row3 T0
              have hw5 := blk_lt HL5.out
              obtain ⟨A, c, hAc, hRd⟩ := HN5.out.reads
              have hLl : L.reverse.length = L.length := List.length_reverse
              obtain ⟨xs, hxs⟩ : ∃ xs, L.reverse = xs := ⟨_, rfl⟩
              have hany := Aside0.mk (any_rev L x)
              rw [hxs] at hAc HN5 hLl hany
              subst hAc
              have hc9 : xs.length ≤ 1000000 := by omega
              clear hRd hLl
              go_loopg [10] xs.length (fun kq v10 wr' => ∃ j : Nat, j ≤ xs.length ∧ kq = xs.length - j ∧ v10 = .int .i64 j ∧ Aside0 (((xs.drop j).any fun y => y.toList == x.toList) = seen L x) ∧ wr' = w5)
              case atStart => exact ⟨0, by omega, rfl, rfl, hany, rfl⟩
              case round =>
                clear hany
                obtain ⟨j, hj, rfl, rfl, HA, hwr⟩ := hrel
                subst hwr
                by_cases hlt : j < xs.length
                · have hd : decide ((j : Int) < (xs.length : Int)) = true := decide_eq_true (by omega)
                  have hjl : (j : Int) < (xs.length : Int) := by omega
                  obtain ⟨g', cap', hv', _⟩ := World.ownsRow.form HN5.out (by omega)
                  injection hv' with hv1 hv2 hv3
                  subst hv1 hv3
                  have cj := (own_at_of (d := ByteArray.empty) HN5.out (j : Int) (by omega) hjl).1
                  obtain ⟨y, hy⟩ : ∃ y, xs[j]? = some y := ⟨_, List.getElem?_eq_getElem hlt⟩
                  have hyr : rdOf ByteArray.empty xs (j : Int) = y := by simp [rdOf, hy]
                  rw [hyr, Int.toNat_natCast] at cj
                  have e2d : xs.drop j = y :: xs.drop (j + 1) := by rw [List.drop_eq_getElem?_toList_append, hy]; rfl
                  have HA2 : Aside0 (((y.toList == x.toList) || (xs.drop (j + 1)).any fun y => y.toList == x.toList) = seen L x) := ⟨by rw [← HA.out, e2d, List.any_cons]⟩
                  clear HA hyr e2d hy
                  cases hyx : (y.toList == x.toList) with
                  | true =>
                    rw [hyx, Bool.true_or] at HA2
                    rw [if_pos HA2.out.symm] at HQ
                    obtain rfl : out = .error (a, 123) := HQ.out.symm
                    clear HQ HA2
                    go_wp2_with (first
                      | (go_at_call 26; refine (rfail_any R5.out _ _).mono ?_; rintro e w6 ⟨rfl, h3, h4⟩))
                    go_ret2
                    exact ⟨⟨_, rfl⟩, h3, HC5.out.trans h4⟩
                  | false =>
                    rw [hyx, Bool.false_or] at HA2
                    go_wp2_with fail
                    go_roundg (xs.length - (j + 1))
                    case measure => omega
                    case rel => exact ⟨j + 1, by omega, rfl, by go_num, HA2, rfl⟩
                · have hd : decide ((j : Int) < (xs.length : Int)) = false := decide_eq_false (by omega)
                  obtain rfl : j = xs.length := by omega
                  have hsn : seen L x = false := by rw [← HA.out, List.drop_length]; rfl
                  rw [if_neg (by rw [hsn]; simp)] at HQ
                  clear HA
                  rw [find_part HX4.out] at HQ
                  dsimp only at HQ
                  cases hw : wantP s q 1 openB with
                  | error ae =>
                    obtain ⟨a', er⟩ := ae
                    rw [hw] at HQ
                    obtain rfl : out = .error (a', er) := HQ.out.symm
                    clear HQ
                    go_wp2_with (first
                      | ((with_reducible refine gate_builtin (b := .append) (xs := #[.tmp 62, .tmp 64]) rfl ?_); at_builtin; refine names_append (gl + 1) rfl (.tmp 62) (.tmp 64) 79 rfl Tryz.underlying79 info_str _ xs x rfl (by first | rfl | (go_simp; done) | (go_simp; rfl)) HN5.out (by omega) hc9 ?_; intro v1 w6 l6 hN6 hC6 hl6; have R6 := Aside0.mk (R5.out.high hC6 hl6 (by omega) (fun b n c e => by have := hlow.out b n c e; omega)); have HC6 := Aside0.mk (HC5.out.high hC6 (fun q hq => by have := hl6 q hq; omega)); have HL6 := Aside0.mk (hC6.blk HL5.out (fun e => by have := hl6 gl e; omega)); have HN6 := Aside0.mk hN6; have hw6 := blk_lt HL6.out; clear hN6 hC6 hl6)
                      | (go_at_call 28; refine (rmark_any R6.out openB hw).mono ?_; rintro e w7 ⟨rfl, h3, h4⟩))
                    go_ret2
                    exact ⟨⟨_, rfl⟩, h3, HC6.out.trans h4⟩
                  | ok aq =>
                    obtain ⟨a', q1⟩ := aq
                    have hle1 := wantP_le s q 1 openB a' q1 hq.2 hw
                    rw [hw] at HQ
                    dsimp only at HQ
                    cases hsec : sectP s x (s.size + 1) q1 [] sc k with
                    | error ae =>
                      obtain ⟨a'', er⟩ := ae
                      rw [hsec] at HQ
                      obtain rfl : out = .error (a'', er) := HQ.out.symm
                      clear HQ
                      go_wp2_with (first
                        | ((with_reducible refine gate_builtin (b := .append) (xs := #[.tmp 62, .tmp 64]) rfl ?_); at_builtin; refine names_append (gl + 1) rfl (.tmp 62) (.tmp 64) 79 rfl Tryz.underlying79 info_str _ xs x rfl (by first | rfl | (go_simp; done) | (go_simp; rfl)) HN5.out (by omega) hc9 ?_; intro v1 w6 l6 hN6 hC6 hl6; have R6 := Aside0.mk (R5.out.high hC6 hl6 (by omega) (fun b n c e => by have := hlow.out b n c e; omega)); have HC6 := Aside0.mk (HC5.out.high hC6 (fun q hq => by have := hl6 q hq; omega)); have HL6 := Aside0.mk (hC6.blk HL5.out (fun e => by have := hl6 gl e; omega)); have HN6 := Aside0.mk hN6; have hw6 := blk_lt HL6.out; clear hN6 hC6 hl6)
                        | (go_at_call 28; refine (rmark_any R6.out openB hw).mono ?_; rintro e w7 ⟨rfl, h3, h4⟩)
                        | (go_at_call 44; refine (rsection_any hs h3 x sc k HV.out.nx.nx (HP.out.nx.nx.sect HX4.out hsn) hsec).mono ?_; rintro e w8 ⟨rfl, h5, h6⟩))
                      go_ret2
                      exact ⟨⟨_, rfl⟩, h5, (HC6.out.trans h4).trans h6⟩
                    | ok y =>
                      obtain ⟨D', sc', k', q'⟩ := y
                      rw [hsec] at HQ
                      dsimp only at HQ
                      go_wp2_with (first
                        | ((with_reducible refine gate_builtin (b := .append) (xs := #[.tmp 62, .tmp 64]) rfl ?_); at_builtin; refine names_append (gl + 1) rfl (.tmp 62) (.tmp 64) 79 rfl Tryz.underlying79 info_str _ xs x rfl (by first | rfl | (go_simp; done) | (go_simp; rfl)) HN5.out (by omega) hc9 ?_; intro v1 w6 l6 hN6 hC6 hl6; have R6 := Aside0.mk (R5.out.high hC6 hl6 (by omega) (fun b n c e => by have := hlow.out b n c e; omega)); have HC6 := Aside0.mk (HC5.out.high hC6 (fun q hq => by have := hl6 q hq; omega)); have HL6 := Aside0.mk (hC6.blk HL5.out (fun e => by have := hl6 gl e; omega)); have HN6 := Aside0.mk hN6; have hw6 := blk_lt HL6.out; clear hN6 hC6 hl6)
                        | (go_at_call 28; refine (rmark_any R6.out openB hw).mono ?_; rintro e w7 ⟨rfl, h3, h4⟩)
                        | (go_at_call 44; refine (rsection_any hs h3 x sc k HV.out.nx.nx (HP.out.nx.nx.sect HX4.out hsn) hsec).mono ?_; rintro e w8 ⟨rfl, ⟨v', h5, h7, h8, h9⟩, h6⟩))
                      go_roundg f
                      case measure => omega
                      case rel =>
                        have hle2 := sectP_le s x _ q1 [] sc k _ hle1.2 hsec
                        dsimp only at hle2
                        refine ⟨q', x :: L, _, sc', k', v', by omega, by simp; omega, ⟨h5⟩, ⟨h7⟩, ⟨HP.out.nx.nx.sected HX4.out h8 h9⟩, ⟨h9.nm.trans HM.out⟩, ⟨?_⟩, ⟨(HC6.out.trans h4).trans h6⟩, ⟨h6.blk (h4.blk HL6.out (by simp; omega)) (by simp; omega)⟩, HQ⟩
                        rw [List.reverse_cons, hxs]
                        exact (HN6.out.ch h4 (by simp; omega)).ch h6 (by simp; omega)
            · have e1 : (x.toList == [112, 114, 111, 116, 111, 99, 111, 108]) = false := by rw [hx]; rfl
              have e2 : (x.toList == [100, 101, 118, 105, 99, 101]) = false := by rw [hx]; rfl
              have e3 : (x.toList == [110, 101, 116]) = false := by rw [hx]; rfl
              have e4 : (x.toList == [115, 121, 110, 99, 101, 114]) = true := by rw [hx]; rfl
              have HX := Aside0.mk hx
              clear hx
              go_wp2_with (first
                | (go_at_call 42; refine PX.out.mono ?_; rintro e w2 ⟨rfl, h1, h2⟩; have hw2 : gl < w2.heap.size := Nat.lt_of_lt_of_le hglt h2.size; dsimp only [tkV]))
              have T0 := blk_new w2 (.cells #[.int .i64 ((kd : Int) + 2), .int .i64 (a : Int), .string x] 63)
              have R5 := Aside0.mk (h1.alloc (.cells #[.int .i64 ((kd : Int) + 2), .int .i64 (a : Int), .string x] 63))
              have HC5 := Aside0.mk ((HC.out.trans h2).alloc (.cells #[.int .i64 ((kd : Int) + 2), .int .i64 (a : Int), .string x] 63))
              have HN5 := Aside0.mk (HN.out.ch (h2.alloc (.cells #[.int .i64 ((kd : Int) + 2), .int .i64 (a : Int), .string x] 63)) (by simp; omega))
              have HL5 := Aside0.mk ((h2.alloc (.cells #[.int .i64 ((kd : Int) + 2), .int .i64 (a : Int), .string x] 63)).blk HL.out (by simp; omega))
              clear HN HC HL h1 h2 PX
              generalize w2.alloc (.cells #[.int .i64 ((kd : Int) + 2), .int .i64 (a : Int), .string x] 63) = w5 at *
              obtain ⟨tb, htb⟩ : ∃ tb, w2.heap.size = tb := ⟨_, rfl⟩
              rw [htb] at T0 hw2 ⊢
              clear htb
              obtain ⟨t0, t1, t2, _, _, _⟩ := row3 T0
              have hw5 := blk_lt HL5.out
              obtain ⟨A, c, hAc, hRd⟩ := HN5.out.reads
              have hLl : L.reverse.length = L.length := List.length_reverse
              obtain ⟨xs, hxs⟩ : ∃ xs, L.reverse = xs := ⟨_, rfl⟩
              have hany := Aside0.mk (any_rev L x)
              rw [hxs] at hAc HN5 hLl hany
              subst hAc
              have hc9 : xs.length ≤ 1000000 := by omega
              clear hRd hLl
              go_loopg [10] xs.length (fun kq v10 wr' => ∃ j : Nat, j ≤ xs.length ∧ kq = xs.length - j ∧ v10 = .int .i64 j ∧ Aside0 (((xs.drop j).any fun y => y.toList == x.toList) = seen L x) ∧ wr' = w5)
              case atStart => exact ⟨0, by omega, rfl, rfl, hany, rfl⟩
              case round =>
                clear hany
                obtain ⟨j, hj, rfl, rfl, HA, hwr⟩ := hrel
                subst hwr
                by_cases hlt : j < xs.length
                · have hd : decide ((j : Int) < (xs.length : Int)) = true := decide_eq_true (by omega)
                  have hjl : (j : Int) < (xs.length : Int) := by omega
                  obtain ⟨g', cap', hv', _⟩ := World.ownsRow.form HN5.out (by omega)
                  injection hv' with hv1 hv2 hv3
                  subst hv1 hv3
                  have cj := (own_at_of (d := ByteArray.empty) HN5.out (j : Int) (by omega) hjl).1
                  obtain ⟨y, hy⟩ : ∃ y, xs[j]? = some y := ⟨_, List.getElem?_eq_getElem hlt⟩
                  have hyr : rdOf ByteArray.empty xs (j : Int) = y := by simp [rdOf, hy]
                  rw [hyr, Int.toNat_natCast] at cj
                  have e2d : xs.drop j = y :: xs.drop (j + 1) := by rw [List.drop_eq_getElem?_toList_append, hy]; rfl
                  have HA2 : Aside0 (((y.toList == x.toList) || (xs.drop (j + 1)).any fun y => y.toList == x.toList) = seen L x) := ⟨by rw [← HA.out, e2d, List.any_cons]⟩
                  clear HA hyr e2d hy
                  cases hyx : (y.toList == x.toList) with
                  | true =>
                    rw [hyx, Bool.true_or] at HA2
                    rw [if_pos HA2.out.symm] at HQ
                    obtain rfl : out = .error (a, 123) := HQ.out.symm
                    clear HQ HA2
                    go_wp2_with (first
                      | (go_at_call 26; refine (rfail_any R5.out _ _).mono ?_; rintro e w6 ⟨rfl, h3, h4⟩))
                    go_ret2
                    exact ⟨⟨_, rfl⟩, h3, HC5.out.trans h4⟩
                  | false =>
                    rw [hyx, Bool.false_or] at HA2
                    go_wp2_with fail
                    go_roundg (xs.length - (j + 1))
                    case measure => omega
                    case rel => exact ⟨j + 1, by omega, rfl, by go_num, HA2, rfl⟩
                · have hd : decide ((j : Int) < (xs.length : Int)) = false := decide_eq_false (by omega)
                  obtain rfl : j = xs.length := by omega
                  have hsn : seen L x = false := by rw [← HA.out, List.drop_length]; rfl
                  rw [if_neg (by rw [hsn]; simp)] at HQ
                  clear HA
                  rw [find_part HX4.out] at HQ
                  dsimp only at HQ
                  cases hw : wantP s q 1 openB with
                  | error ae =>
                    obtain ⟨a', er⟩ := ae
                    rw [hw] at HQ
                    obtain rfl : out = .error (a', er) := HQ.out.symm
                    clear HQ
                    go_wp2_with (first
                      | ((with_reducible refine gate_builtin (b := .append) (xs := #[.tmp 62, .tmp 64]) rfl ?_); at_builtin; refine names_append (gl + 1) rfl (.tmp 62) (.tmp 64) 79 rfl Tryz.underlying79 info_str _ xs x rfl (by first | rfl | (go_simp; done) | (go_simp; rfl)) HN5.out (by omega) hc9 ?_; intro v1 w6 l6 hN6 hC6 hl6; have R6 := Aside0.mk (R5.out.high hC6 hl6 (by omega) (fun b n c e => by have := hlow.out b n c e; omega)); have HC6 := Aside0.mk (HC5.out.high hC6 (fun q hq => by have := hl6 q hq; omega)); have HL6 := Aside0.mk (hC6.blk HL5.out (fun e => by have := hl6 gl e; omega)); have HN6 := Aside0.mk hN6; have hw6 := blk_lt HL6.out; clear hN6 hC6 hl6)
                      | (go_at_call 28; refine (rmark_any R6.out openB hw).mono ?_; rintro e w7 ⟨rfl, h3, h4⟩))
                    go_ret2
                    exact ⟨⟨_, rfl⟩, h3, HC6.out.trans h4⟩
                  | ok aq =>
                    obtain ⟨a', q1⟩ := aq
                    have hle1 := wantP_le s q 1 openB a' q1 hq.2 hw
                    rw [hw] at HQ
                    dsimp only at HQ
                    cases hsec : sectP s x (s.size + 1) q1 [] sc k with
                    | error ae =>
                      obtain ⟨a'', er⟩ := ae
                      rw [hsec] at HQ
                      obtain rfl : out = .error (a'', er) := HQ.out.symm
                      clear HQ
                      go_wp2_with (first
                        | ((with_reducible refine gate_builtin (b := .append) (xs := #[.tmp 62, .tmp 64]) rfl ?_); at_builtin; refine names_append (gl + 1) rfl (.tmp 62) (.tmp 64) 79 rfl Tryz.underlying79 info_str _ xs x rfl (by first | rfl | (go_simp; done) | (go_simp; rfl)) HN5.out (by omega) hc9 ?_; intro v1 w6 l6 hN6 hC6 hl6; have R6 := Aside0.mk (R5.out.high hC6 hl6 (by omega) (fun b n c e => by have := hlow.out b n c e; omega)); have HC6 := Aside0.mk (HC5.out.high hC6 (fun q hq => by have := hl6 q hq; omega)); have HL6 := Aside0.mk (hC6.blk HL5.out (fun e => by have := hl6 gl e; omega)); have HN6 := Aside0.mk hN6; have hw6 := blk_lt HL6.out; clear hN6 hC6 hl6)
                        | (go_at_call 28; refine (rmark_any R6.out openB hw).mono ?_; rintro e w7 ⟨rfl, h3, h4⟩)
                        | (go_at_call 44; refine (rsection_any hs h3 x sc k HV.out.nx.nx (HP.out.nx.nx.sect HX4.out hsn) hsec).mono ?_; rintro e w8 ⟨rfl, h5, h6⟩))
                      go_ret2
                      exact ⟨⟨_, rfl⟩, h5, (HC6.out.trans h4).trans h6⟩
                    | ok y =>
                      obtain ⟨D', sc', k', q'⟩ := y
                      rw [hsec] at HQ
                      dsimp only at HQ
                      go_wp2_with (first
                        | ((with_reducible refine gate_builtin (b := .append) (xs := #[.tmp 62, .tmp 64]) rfl ?_); at_builtin; refine names_append (gl + 1) rfl (.tmp 62) (.tmp 64) 79 rfl Tryz.underlying79 info_str _ xs x rfl (by first | rfl | (go_simp; done) | (go_simp; rfl)) HN5.out (by omega) hc9 ?_; intro v1 w6 l6 hN6 hC6 hl6; have R6 := Aside0.mk (R5.out.high hC6 hl6 (by omega) (fun b n c e => by have := hlow.out b n c e; omega)); have HC6 := Aside0.mk (HC5.out.high hC6 (fun q hq => by have := hl6 q hq; omega)); have HL6 := Aside0.mk (hC6.blk HL5.out (fun e => by have := hl6 gl e; omega)); have HN6 := Aside0.mk hN6; have hw6 := blk_lt HL6.out; clear hN6 hC6 hl6)
                        | (go_at_call 28; refine (rmark_any R6.out openB hw).mono ?_; rintro e w7 ⟨rfl, h3, h4⟩)
                        | (go_at_call 44; refine (rsection_any hs h3 x sc k HV.out.nx.nx (HP.out.nx.nx.sect HX4.out hsn) hsec).mono ?_; rintro e w8 ⟨rfl, ⟨v', h5, h7, h8, h9⟩, h6⟩))
                      go_roundg f
                      case measure => omega
                      case rel =>
                        have hle2 := sectP_le s x _ q1 [] sc k _ hle1.2 hsec
                        dsimp only at hle2
                        refine ⟨q', x :: L, _, sc', k', v', by omega, by simp; omega, ⟨h5⟩, ⟨h7⟩, ⟨HP.out.nx.nx.sected HX4.out h8 h9⟩, ⟨h9.nm.trans HM.out⟩, ⟨?_⟩, ⟨(HC6.out.trans h4).trans h6⟩, ⟨h6.blk (h4.blk HL6.out (by simp; omega)) (by simp; omega)⟩, HQ⟩
                        rw [List.reverse_cons, hxs]
                        exact (HN6.out.ch h4 (by simp; omega)).ch h6 (by simp; omega)
end Go.Proofs.YtfecfgimfjcbdaaGreatDoor.Cf
