/- The reference's section: walked. -/
import Derived.Test.YtfecfgimfjcbdaaGreatDoorKConfYj
namespace Go.Proofs.YtfecfgimfjcbdaaGreatDoor.Cf
open Go.RowKit Go.Proofs.YtfecfgimfjcbdaaGreatDoorW.PrintWords Go.Proofs.YtfecfgimfjcbdaaGreatDoorW.PrintLast Go.Proofs.YtfecfgimfjcbdaaGreatDoorW.PrintMore Go.Proofs.YtfecfgimfjcbdaaGreatDoor.QRParse

theorem sectP_part (s sec : ByteArray) (f p : Nat) (L : List ByteArray) (sc : ByteArray) (k : Nat → Int) : sectP s sec (f + 1) p L sc k = (match partP s p with
    | .error e => .error e
    | .ok (true, _, _, _, q) => .ok (L, sc, k, q)
    | .ok (false, _, a, x, q) => match findP sec x with
      | none => .error (a, 122)
      | some key => if seen L x = true then .error (a, 123) else match valueP s q key sc k with
        | .error e => .error e
        | .ok y => sectP s sec f y.2.2 (x :: L) y.1 y.2.1) := by
  simp only [sectP, partP]
  cases nextP s p with
  | error a => rfl
  | ok y =>
    obtain ⟨kd, a, x, q⟩ := y
    dsimp only
    by_cases h1 : kd = 1 ∧ x.toList = [125]
    · rw [if_pos h1, if_pos h1]
    · rw [if_neg h1, if_neg h1]
      by_cases h2 : kd ≠ 0
      · rw [if_pos h2, if_pos h2]
      · rw [if_neg h2, if_neg h2]
        rfl
theorem partP_le {s : ByteArray} {p : Nat} {b : Bool} {kd a : Nat} {x : ByteArray} {q : Nat} (hp : p ≤ s.size) (h : partP s p = .ok (b, kd, a, x, q)) : p < q ∧ q ≤ s.size := by
  unfold partP at h
  cases hn : nextP s p with
  | error a => rw [hn] at h; cases h
  | ok y =>
    obtain ⟨kd', a', x', q'⟩ := y
    have := nextP_le s p _ _ _ _ hp hn
    rw [hn] at h
    dsimp only at h
    split at h
    · cases h; omega
    · split at h
      · cases h
      · cases h; omega
def RsPost (g : Nat) (lv : Value) (L : List TkT) (s sec : ByteArray) (v : FV) (w : World) (o : Except (Nat × Int) (List ByteArray × ByteArray × (Nat → Int) × Nat)) (e : Ending) (w' : World) : Prop :=
  match o with
  | .ok (D, sc, k, q) => e = .returned (.bool true) ∧ (∃ v', RF w' g lv L s v' q ∧ Vals v' sc k ∧ Sec v' sec D ∧ Oth v v' sec) ∧ Ch [g] w w'
  | .error (a, er) => e = .returned (.bool false) ∧ FaultAt w' g er a ∧ Ch [g] w w'
set_option maxRecDepth 100000 in
set_option maxHeartbeats 1000000 in
theorem rsection_any {w : World} {g : Nat} {lv : Value} {T : List TkT} {s : ByteArray} (hs : s.size ≤ 1000000) {v0 : FV} {p0 : Nat} (h : RF w g lv T s v0 p0) (sec sc0 : ByteArray) (k0 : Nat → Int) (hV : Vals v0 sc0 k0) (hS : Sec v0 sec [])
    {out : Except (Nat × Int) (List ByteArray × ByteArray × (Nat → Int) × Nat)} (hout : sectP s sec (s.size + 1) p0 [] sc0 k0 = out) :
    Calls Tryz.prog 44 #[.pointer (some ⟨g, 0, none⟩), .string sec] w (RsPost g lv T s sec v0 w out) := by
  have HOUT := Aside0.mk hout
  have H0 := Aside0.mk h
  have hg := h.lt
  have hp0 := h.ps.1
  have HV0 := Aside0.mk hV
  have HS0 := Aside0.mk hS
  clear hout h hV hS
  go_enter Tryz.func44, Tryz.ntmps44
  go_wp2_with fail
  refine (table_any w).mono ?_
  rintro e w1 ⟨rfl, hB⟩
  have hn := blk_new w1 (.cells Tryz.zeroCells74 74)
  have HC := Aside0.mk ((Ch.of_below hB []).alloc (.cells Tryz.zeroCells74 74))
  have H1 := Aside0.mk (H0.out.keep ((Ch.of_below hB []).alloc (.cells Tryz.zeroCells74 74)))
  have hle := hB.size
  clear hB
  go_upto_region 2 with (refine store_whole rfl rfl rfl (g := w1.heap.size) rfl rTabC rfl hn (by kernel_rfl) (by kernel_rfl) (by decide +kernel) ?_; intro w3 h3 hg3)
  have HC4 := Aside0.mk ((HC.out.grown hg3 (.inr (by omega))).more (L' := [g]) (by simp))
  have H4 := Aside0.mk (H0.out.keep (HC.out.grown hg3 (.inr (by omega))))
  have HL := Aside0.mk h3
  have hgl : w.heap.size ≤ w1.heap.size := by omega
  have hgw := H0.out.far
  clear HC H1 hg3 h3 hn H0
  generalize w1.heap.size = gl at *
  go_wp2_with fail
  go_loopg [] (s.size + 1) (fun kq wr => ∃ (p : Nat) (L : List ByteArray) (sc : ByteArray) (k : Nat → Int) (v : FV), s.size - p < kq ∧ Aside0 (RF wr g lv T s v p) ∧ Aside0 (Vals v sc k) ∧ Aside0 (Sec v sec L) ∧ Aside0 (Oth v0 v sec) ∧ Aside0 (Ch [g] w wr) ∧ Aside0 (wr.heap[gl]? = some (.cells rTabC 74 (0, 0))) ∧ Aside0 (sectP s sec kq p L sc k = out))
  case atStart => exact ⟨p0, [], sc0, k0, v0, by omega, H4, HV0, HS0, ⟨Oth.refl _ _⟩, HC4, HL, HOUT⟩
  case round =>
    clear H4 HV0 HS0 HC4 HL HOUT
    obtain ⟨p, L, sc, k, v, hk, HR, HV, HS, HO, HC, HL, HQ⟩ := hrel
    obtain ⟨f, rfl⟩ : ∃ f, gk = f + 1 := ⟨gk - 1, by omega⟩
    rw [sectP_part] at HQ
    have hp := HR.out.ps.1
    have hglt := blk_lt HL.out
    have hgne : gl ≠ g := by omega
    cases hpt : partP s p with
    | error ae =>
      obtain ⟨a, er⟩ := ae
      rw [hpt] at HQ
      obtain rfl : out = .error (a, er) := HQ.out.symm
      have PX := Aside0.mk (rpart_any HR.out hpt)
      clear HQ HR HV HS HO HL hpt
      go_wp2_with (go_at_call 42; refine PX.out.mono ?_; rintro e w2 ⟨⟨t, rfl⟩, h1, h2⟩; dsimp only [tkC])
      go_ret
      exact ⟨rfl, h1.alloc _, (HC.out.trans h2).alloc _⟩
    | ok pk =>
      obtain ⟨b, kd, a, x, q⟩ := pk
      have hq := partP_le hp hpt
      have PX := Aside0.mk (rpart_any HR.out hpt)
      rw [hpt] at HQ
      clear hpt HR
      cases b with
      | true =>
        obtain rfl : out = .ok (L, sc, k, q) := HQ.out.symm
        clear HQ
        go_wp2_with (first
          | (go_at_call 42; refine PX.out.mono ?_; rintro e w2 ⟨rfl, h1, h2⟩; have hw2 : gl < w2.heap.size := Nat.lt_of_lt_of_le hglt h2.size; dsimp only [tkV]))
        go_ret
        exact ⟨rfl, ⟨v.nx, h1.alloc _, HV.out.nx, HS.out.nx, HO.out.nx⟩, (HC.out.trans h2).alloc _⟩
      | false =>
        dsimp only at HQ
        cases hf : findP sec x with
        | none =>
          rw [hf] at HQ
          obtain rfl : out = .error (a, 122) := HQ.out.symm
          have FX := Aside0.mk (fun W => rfind_any sec x W none hf)
          clear HQ hf HV HS HO
          go_wp2_with (first
            | (go_at_call 42; refine PX.out.mono ?_; rintro e w2 ⟨rfl, h1, h2⟩; have hw2 : gl < w2.heap.size := Nat.lt_of_lt_of_le hglt h2.size; dsimp only [tkV])
            | (go_at_call 70; refine (FX.out _).mono ?_; rintro e w4 ⟨rfl, hB⟩; have H2 := Aside0.mk ((h1.alloc _).keep (Ch.of_below hB [])); have HC2 := Aside0.mk (((HC.out.trans h2).alloc _).then hB); have HL2 := Aside0.mk (blk_below (blk_alloc (h2.blk HL.out (by simp; omega)) _) hB); have T2 := blk_below (blk_new w2 _) hB; obtain ⟨t0, t1, t2, _, _, _⟩ := row3 T2; clear T2; have hw4 := blk_lt HL2.out; dsimp only [fnI])
            | (go_at_call 26; refine (rfail_any H2.out _ _).mono ?_; rintro e w5 ⟨rfl, h3, h4⟩))
          go_ret
          exact ⟨rfl, h3, HC2.out.trans h4⟩
        | some key =>
          rw [hf] at HQ
          dsimp only at HQ
          have FX := Aside0.mk (fun W => rfind_any sec x W (some key) hf)
          have hth0 := HS.out.there hf
          have HF := Aside0.mk hf
          cases key with
          | none =>
            have HKI : Aside0 (∀ i : Nat, (none : Option Nat) = some i → i < 16) := ⟨fun i e => by cases e⟩
            cases hsn : seen L x with
            | true =>
              rw [hsn, if_pos rfl] at HQ
              obtain rfl : out = .error (a, 123) := HQ.out.symm
              have hth : v.st = true := hth0.symm.trans hsn
              clear HQ hf HV HS HO hsn hth0
              go_wp2_with (first
                | (go_at_call 42; refine PX.out.mono ?_; rintro e w2 ⟨rfl, h1, h2⟩; have hw2 : gl < w2.heap.size := Nat.lt_of_lt_of_le hglt h2.size; dsimp only [tkV])
                | (go_at_call 70; refine (FX.out _).mono ?_; rintro e w4 ⟨rfl, hB⟩; have H2 := Aside0.mk ((h1.alloc _).keep (Ch.of_below hB [])); have HC2 := Aside0.mk (((HC.out.trans h2).alloc _).then hB); have HL2 := Aside0.mk (blk_below (blk_alloc (h2.blk HL.out (by simp; omega)) _) hB); have T2 := blk_below (blk_new w2 _) hB; obtain ⟨t0, t1, t2, _, _, _⟩ := row3 T2; clear T2; have hw4 := blk_lt HL2.out; obtain ⟨bd, ps, hf4⟩ := H2.out.fl; have c6 : w4.cell? ⟨g, 36, none⟩ = some (.bool v.st) := blk_cell hf4 36; rw [hth] at c6; clear hf4; dsimp only [fnI])
                | (go_at_call 26; refine (rfail_any H2.out _ _).mono ?_; rintro e w5 ⟨rfl, h3, h4⟩))
              go_ret
              exact ⟨rfl, h3, HC2.out.trans h4⟩
            | false =>
              rw [hsn, if_neg (by simp)] at HQ
              have hth : v.st = false := hth0.symm.trans hsn
              clear hf hsn hth0
              cases hval : valueP s q none sc k with
              | error ae =>
                obtain ⟨a', er⟩ := ae
                rw [hval] at HQ
                obtain rfl : out = .error (a', er) := HQ.out.symm
                clear HQ
                go_wp2_with (first
                  | (go_at_call 42; refine PX.out.mono ?_; rintro e w2 ⟨rfl, h1, h2⟩; have hw2 : gl < w2.heap.size := Nat.lt_of_lt_of_le hglt h2.size; dsimp only [tkV])
                  | (go_at_call 70; refine (FX.out _).mono ?_; rintro e w4 ⟨rfl, hB⟩; have H2 := Aside0.mk ((h1.alloc _).keep (Ch.of_below hB [])); have HC2 := Aside0.mk (((HC.out.trans h2).alloc _).then hB); have HL2 := Aside0.mk (blk_below (blk_alloc (h2.blk HL.out (by simp; omega)) _) hB); have T2 := blk_below (blk_new w2 _) hB; obtain ⟨t0, t1, t2, _, _, _⟩ := row3 T2; clear T2; have hw4 := blk_lt HL2.out; obtain ⟨bd, ps, hf4⟩ := H2.out.fl; have c6 : w4.cell? ⟨g, 36, none⟩ = some (.bool v.st) := blk_cell hf4 36; rw [hth] at c6; clear hf4; dsimp only [fnI])
                  | (go_at_call 43; refine (rgiven_secret (H2.out.alloc _) sc k hval).mono ?_; rintro e w5 ⟨rfl, h3, h4⟩))
                go_ret
                exact ⟨rfl, h3, (HC2.out.alloc _).trans h4⟩
              | ok y =>
                obtain ⟨sc', k', q'⟩ := y
                rw [hval] at HQ
                dsimp only at HQ
                go_wp2_with (first
                  | (go_at_call 42; refine PX.out.mono ?_; rintro e w2 ⟨rfl, h1, h2⟩; have hw2 : gl < w2.heap.size := Nat.lt_of_lt_of_le hglt h2.size; dsimp only [tkV])
                  | (go_at_call 70; refine (FX.out _).mono ?_; rintro e w4 ⟨rfl, hB⟩; have H2 := Aside0.mk ((h1.alloc _).keep (Ch.of_below hB [])); have HC2 := Aside0.mk (((HC.out.trans h2).alloc _).then hB); have HL2 := Aside0.mk (blk_below (blk_alloc (h2.blk HL.out (by simp; omega)) _) hB); have T2 := blk_below (blk_new w2 _) hB; obtain ⟨t0, t1, t2, _, _, _⟩ := row3 T2; clear T2; have hw4 := blk_lt HL2.out; obtain ⟨bd, ps, hf4⟩ := H2.out.fl; have c6 : w4.cell? ⟨g, 36, none⟩ = some (.bool v.st) := blk_cell hf4 36; rw [hth] at c6; clear hf4; dsimp only [fnI])
                  | (go_at_call 43; refine (rgiven_secret (H2.out.alloc _) sc k hval).mono ?_; rintro e w5 ⟨rfl, h3, h4⟩))
                go_roundg f
                case measure => omega
                case rel =>
                  have hle2 := valueP_le s q _ sc k _ hq.2 hval
                  exact ⟨q', x :: L, sc', k', ((v.nx).put none sc' k').nx, by dsimp only at hle2; omega, ⟨h3⟩, ⟨(HV.out.nx.put hval HKI.out).nx⟩, ⟨(HS.out.nx.put HF.out sc' k').nx⟩, ⟨(HO.out.nx.put HF.out sc' k').nx⟩, ⟨(HC2.out.alloc _).trans h4⟩, ⟨h4.blk (blk_alloc HL2.out _) (by simp; omega)⟩, HQ⟩
          | some i =>
            obtain ⟨t, ht, _, _⟩ := find_key hf
            have hi : i < 16 := (List.getElem?_eq_some_iff.1 ht).1
            obtain ⟨els, r0, r1, r2, r3, r4⟩ := rTab_key i t ht
            have R0 := Aside0.mk r0
            have HKI : Aside0 (∀ j : Nat, some i = some j → j < 16) := ⟨fun j e => by cases e; exact hi⟩
            have hge : decide ((0 : Int) ≤ (i : Int)) = true := decide_eq_true (by omega)
            have hlt : decide ((i : Int) < 0) = false := decide_eq_false (by omega)
            have hm2 : ((i : Int) == -2) = false := beq_eq_false_iff_ne.2 (by omega)
            have hi2 : (i : Int) < 16 := by omega
            cases hsn : seen L x with
            | true =>
              rw [hsn, if_pos rfl] at HQ
              obtain rfl : out = .error (a, 123) := HQ.out.symm
              have hth : v.th i = true := hth0.symm.trans hsn
              clear HQ hf HV HS HO hsn hth0
              go_wp2_with (first
                | (go_at_call 42; refine PX.out.mono ?_; rintro e w2 ⟨rfl, h1, h2⟩; have hw2 : gl < w2.heap.size := Nat.lt_of_lt_of_le hglt h2.size; dsimp only [tkV])
                | (go_at_call 70; refine (FX.out _).mono ?_; rintro e w4 ⟨rfl, hB⟩; have H2 := Aside0.mk ((h1.alloc _).keep (Ch.of_below hB [])); have HC2 := Aside0.mk (((HC.out.trans h2).alloc _).then hB); have HL2 := Aside0.mk (blk_below (blk_alloc (h2.blk HL.out (by simp; omega)) _) hB); have T2 := blk_below (blk_new w2 _) hB; obtain ⟨t0, t1, t2, _, _, _⟩ := row3 T2; clear T2; have hw4 := blk_lt HL2.out; obtain ⟨bd, ps, hf4⟩ := H2.out.fl; obtain ⟨_, cT, _, _⟩ := file_at hf4 hi; rw [show v.nx.th i = true from hth] at cT; clear hf4; dsimp only [fnI])
                | (go_at_call 26; refine (rfail_any H2.out _ _).mono ?_; rintro e w5 ⟨rfl, h3, h4⟩))
              go_ret
              exact ⟨rfl, h3, HC2.out.trans h4⟩
            | false =>
              rw [hsn, if_neg (by simp)] at HQ
              have hth : v.th i = false := hth0.symm.trans hsn
              clear hf hsn hth0
              cases hval : valueP s q (some i) sc k with
              | error ae =>
                obtain ⟨a', er⟩ := ae
                rw [hval] at HQ
                obtain rfl : out = .error (a', er) := HQ.out.symm
                clear HQ
                go_wp2_with (first
                  | (go_at_call 42; refine PX.out.mono ?_; rintro e w2 ⟨rfl, h1, h2⟩; have hw2 : gl < w2.heap.size := Nat.lt_of_lt_of_le hglt h2.size; dsimp only [tkV])
                  | (go_at_call 70; refine (FX.out _).mono ?_; rintro e w4 ⟨rfl, hB⟩; have H2 := Aside0.mk ((h1.alloc _).keep (Ch.of_below hB [])); have HC2 := Aside0.mk (((HC.out.trans h2).alloc _).then hB); have HL2 := Aside0.mk (blk_below (blk_alloc (h2.blk HL.out (by simp; omega)) _) hB); have T2 := blk_below (blk_new w2 _) hB; obtain ⟨t0, t1, t2, _, _, _⟩ := row3 T2; clear T2; have hw4 := blk_lt HL2.out; obtain ⟨bd, ps, hf4⟩ := H2.out.fl; obtain ⟨_, cT, _, _⟩ := file_at hf4 hi; rw [show v.nx.th i = false from hth] at cT; clear hf4; have l0 : w4.cell? ⟨gl, i * 5, none⟩ = some (.string t.2.1) := (blk_cell HL2.out _).trans r0; have l1 : w4.cell? ⟨gl, i * 5 + 1, none⟩ = some (.string t.1) := (blk_cell HL2.out _).trans r1; have l2 : w4.cell? ⟨gl, i * 5 + 2, none⟩ = some (.int .i64 t.2.2.1) := (blk_cell HL2.out _).trans r2; have l3 : w4.cell? ⟨gl, i * 5 + 3, none⟩ = some (.int .i64 t.2.2.2.1) := (blk_cell HL2.out _).trans r3; have l4 : w4.cell? ⟨gl, i * 5 + 4, none⟩ = some (.int .i64 els) := (blk_cell HL2.out _).trans r4; dsimp only [fnI])
                  | (go_at_call 43; refine (rgiven_key hs (H2.out.alloc _) i t ht els sc k hval).mono ?_; rintro e w5 ⟨rfl, h3, h4⟩))
                go_ret
                exact ⟨rfl, h3, (HC2.out.alloc _).trans h4⟩
              | ok y =>
                obtain ⟨sc', k', q'⟩ := y
                rw [hval] at HQ
                dsimp only at HQ
                go_wp2_with (first
                  | (go_at_call 42; refine PX.out.mono ?_; rintro e w2 ⟨rfl, h1, h2⟩; have hw2 : gl < w2.heap.size := Nat.lt_of_lt_of_le hglt h2.size; dsimp only [tkV])
                  | (go_at_call 70; refine (FX.out _).mono ?_; rintro e w4 ⟨rfl, hB⟩; have H2 := Aside0.mk ((h1.alloc _).keep (Ch.of_below hB [])); have HC2 := Aside0.mk (((HC.out.trans h2).alloc _).then hB); have HL2 := Aside0.mk (blk_below (blk_alloc (h2.blk HL.out (by simp; omega)) _) hB); have T2 := blk_below (blk_new w2 _) hB; obtain ⟨t0, t1, t2, _, _, _⟩ := row3 T2; clear T2; have hw4 := blk_lt HL2.out; obtain ⟨bd, ps, hf4⟩ := H2.out.fl; obtain ⟨_, cT, _, _⟩ := file_at hf4 hi; rw [show v.nx.th i = false from hth] at cT; clear hf4; have l0 : w4.cell? ⟨gl, i * 5, none⟩ = some (.string t.2.1) := (blk_cell HL2.out _).trans r0; have l1 : w4.cell? ⟨gl, i * 5 + 1, none⟩ = some (.string t.1) := (blk_cell HL2.out _).trans r1; have l2 : w4.cell? ⟨gl, i * 5 + 2, none⟩ = some (.int .i64 t.2.2.1) := (blk_cell HL2.out _).trans r2; have l3 : w4.cell? ⟨gl, i * 5 + 3, none⟩ = some (.int .i64 t.2.2.2.1) := (blk_cell HL2.out _).trans r3; have l4 : w4.cell? ⟨gl, i * 5 + 4, none⟩ = some (.int .i64 els) := (blk_cell HL2.out _).trans r4; dsimp only [fnI])
                  | (go_at_call 43; refine (rgiven_key hs (H2.out.alloc _) i t ht els sc k hval).mono ?_; rintro e w5 ⟨rfl, h3, h4⟩))
                go_roundg f
                case measure => omega
                case rel =>
                  have hle2 := valueP_le s q _ sc k _ hq.2 hval
                  exact ⟨q', x :: L, sc', k', ((v.nx).put (some i) sc' k').nx, by dsimp only at hle2; omega, ⟨h3⟩, ⟨(HV.out.nx.put hval HKI.out).nx⟩, ⟨(HS.out.nx.put HF.out sc' k').nx⟩, ⟨(HO.out.nx.put HF.out sc' k').nx⟩, ⟨(HC2.out.alloc _).trans h4⟩, ⟨h4.blk (blk_alloc HL2.out _) (by simp; omega)⟩, HQ⟩
end Go.Proofs.YtfecfgimfjcbdaaGreatDoor.Cf
