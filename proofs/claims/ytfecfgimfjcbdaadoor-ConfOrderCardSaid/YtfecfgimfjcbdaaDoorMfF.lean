/- conf.Print, walked. -/
import Derived.Test.YtfecfgimfjcbdaaDoorMfE
import Derived.Deep.CutRange
namespace Go.Proofs.YtfecfgimfjcbdaaDoor.Cf
open Go.RowKit Go.Proofs.YtfecfgimfjcbdaaDoorW.PrintWords Go.Proofs.YtfecfgimfjcbdaaDoorW.PrintLast Go.Proofs.YtfecfgimfjcbdaaDoorW.PrintMore

theorem KeyAt.keepB {w w1 : World} {B g i bb : Nat} {t : KeyT} {cs : Array Value} (h : KeyAt w B g i t) (hk : BKeep w w1 bb) (hg : w.heap[g]? = some (.cells cs 55 (0, 0))) (hgB : B ≤ g) (hbB : bb < B) : KeyAt w1 B g i t := by
  have hg1 : w1.heap[g]? = some (.cells cs 55 (0, 0)) := hk.cell hg (by omega) (by decide)
  obtain ⟨h0, h1, h2, h3, h4, ⟨v, u, h5, h6, hv⟩, h7⟩ := h
  have hc : ∀ j, w1.cell? ⟨g, j, none⟩ = w.cell? ⟨g, j, none⟩ := fun j => by rw [blk_cell hg1, blk_cell hg]
  refine ⟨(hc _).trans h0, (hc _).trans h1, (hc _).trans h2, (hc _).trans h3, (hc _).trans h4, ⟨v, u, (hc _).trans h5, (hc _).trans h6, ?_⟩, (hc _).trans h7⟩
  cases e : t.2.2.2.2.2 with
  | none => rw [e] at hv; exact hv
  | some p =>
    rw [e] at hv
    obtain ⟨⟨gw, c, rest, hv1, hc1, hc2, hBw, hb⟩, ⟨gi, hv2, hl, hBi, hbi⟩⟩ := hv
    exact ⟨⟨gw, c, rest, hv1, hc1, hc2, hBw, hk.cell hb (by omega) (by decide)⟩, ⟨gi, hv2, hl, hBi, hk.cell hbi (by omega) (by decide)⟩⟩

theorem ws_any (B b : Nat) (l : List UInt8) (s : ByteArray) (w : World) (h : IsB B b (Lib.byteCells l) w) (hlen : l.length + s.size ≤ 1000000) (hBw : B ≤ w.heap.size) :
    Calls Tryd.prog 42 #[.pointer (some ⟨b, 0, none⟩), .string s] w fun e w' => e = .returned (.tuple #[.int .i64 s.size, .nilIface]) ∧ IsB B b (Lib.byteCells (l ++ bl s)) w' ∧ Below B w w' ∧ BKeep w w' b := by
  refine (writeString_cells B b _ s w h (by rw [Lib.byteCells_length]; omega) hBw).mono ?_
  rintro e w' ⟨rfl, h1, h2, h3⟩
  rw [cells_snoc] at h1
  exact ⟨rfl, .inr h1, h2, h3⟩
theorem below_less {A B : Nat} {w w1 : World} (h : Below A w w1) (hB : B ≤ A) : Below B w w1 := ⟨h.os, h.tape, h.output, h.size, fun k hk => h.block k (by omega)⟩
theorem kTab_small (i : Nat) (t : KeyT) (ht : kTab[i]? = some t) : t.1.size ≤ 20 ∧ t.2.1.size ≤ 20 ∧ ∀ p, t.2.2.2.2.2 = some p → p.1.length = p.2.length ∧ ∀ x ∈ p.1, x.size ≤ 100 := by
  have hl : i < 16 := (List.getElem?_eq_some_iff.1 ht).1
  rcases i with _ | _ | _ | _ | _ | _ | _ | _ | _ | _ | _ | _ | _ | _ | _ | _ | i
  case succ.succ.succ.succ.succ.succ.succ.succ.succ.succ.succ.succ.succ.succ.succ.succ => omega
  all_goals
    obtain rfl := Option.some.inj ht
    refine ⟨by decide, by decide, fun p hp => ?_⟩
    first
      | cases hp; done
      | (obtain rfl := Option.some.inj hp; exact ⟨by decide, by decide⟩)
/-- A key's lines: the section's head; the secret's line; the key's own. -/
def pA (t : KeyT) (op : ByteArray) : List UInt8 := if (t.1.toList == op.toList) = true then [] else (if op.toList.isEmpty = true then [] else bl (⟨#[32, 32, 125, 10]⟩ : ByteArray)) ++ bl ((⟨#[32, 32]⟩ : ByteArray) ++ t.1 ++ (⟨#[32, 123, 10]⟩ : ByteArray))
def pB (sc : ByteArray) (t : KeyT) : List UInt8 := if (t.2.1.toList == [97, 102, 116, 101, 114, 45, 115, 98, 45, 48, 112, 114, 105]) = true then bl ((⟨#[32, 32, 32, 32, 115, 104, 97, 114, 101, 100, 45, 115, 101, 99, 114, 101, 116, 32]⟩ : ByteArray) ++ ⟨(quoteL sc).toArray⟩ ++ (⟨#[59, 10]⟩ : ByteArray)) else []
def pC (t : KeyT) : List UInt8 := if t.1.toList.isEmpty = true then [] else bl (⟨#[32, 32]⟩ : ByteArray)
def pD (k : Nat → Int) (j : Nat) (t : KeyT) : List UInt8 := bl ((⟨#[32, 32]⟩ : ByteArray) ++ t.2.1 ++ (⟨#[32]⟩ : ByteArray) ++ shS t (k j) ++ (⟨#[59, 10]⟩ : ByteArray))
theorem pA_le (t : KeyT) (op : ByteArray) (h : t.1.size ≤ 20) : (pA t op).length ≤ 100 := by
  unfold pA
  have e : (bl ((⟨#[32, 32]⟩ : ByteArray) ++ t.1 ++ (⟨#[32, 123, 10]⟩ : ByteArray))).length = 2 + t.1.size + 3 := by rw [bl_length, ByteArray.size_append, ByteArray.size_append]; rfl
  repeat' split
  all_goals
    first
      | (simp; done)
      | (rw [List.length_append, e]; first | (show 0 + _ ≤ _; omega) | (show 4 + _ ≤ _; omega))
theorem qFrom_le (s : ByteArray) : ∀ f pos, (qFrom s f pos).length ≤ 6 * f
  | 0, _ => Nat.le_refl _
  | f + 1, pos => by
    have h1 := escR_le (Utf8.decode s pos).1
    have h2 := qFrom_le s f (pos + (Utf8.decode s pos).2)
    simp only [qFrom]
    split
    · rw [List.length_append]; omega
    · simp
theorem quote_le (s : ByteArray) : (quoteL s).length ≤ 6 * s.size + 2 := by
  have h := qFrom_le s s.size 0
  unfold quoteL
  simp only [List.length_append, List.length_cons, List.length_nil]
  omega
theorem pB_le (sc : ByteArray) (t : KeyT) (h : sc.size ≤ 64) : (pB sc t).length ≤ 1000 := by
  have hq := quote_le sc
  unfold pB
  split
  · rw [bl_length, ByteArray.size_append, ByteArray.size_append]
    show 18 + (quoteL sc).length + 2 ≤ _
    omega
  · simp
theorem shS_le (i : Nat) (t : KeyT) (ht : kTab[i]? = some t) (n : Int) (hn : -9223372036854775808 ≤ n ∧ n ≤ 9223372036854775807) : (shS t n).size ≤ 100 := by
  have hit : (⟨(Lib.itoa n).toArray⟩ : ByteArray).size ≤ 100 := by
    show (Lib.itoa n).length ≤ 100
    unfold Lib.itoa
    have d : ∀ u : Nat, u ≤ 9223372036854775808 → (Lib.decDigits u).length ≤ 20 := fun u hu => by rw [Lib.decDigits_length]; exact nDigits_le 20 u (by decide) (by omega)
    have d1 := d n.natAbs (by omega)
    have d2 := d n.toNat (by omega)
    have d3 := d (-n).toNat (by omega)
    split
    all_goals
      try simp only [List.length_cons]
      omega
  have key : ∀ (vs : List Int) (ws : List ByteArray) (y : ByteArray), (∀ x ∈ ws, x.size ≤ 100) → wordOf n vs ws = some y → y.size ≤ 100 := by
    intro vs
    induction vs with
    | nil => intro ws y _ h; simp [wordOf] at h
    | cons v vs ih =>
      intro ws y hw h
      cases ws with
      | nil => simp [wordOf] at h
      | cons x ws =>
        simp only [wordOf] at h
        split at h
        · obtain rfl := Option.some.inj h
          exact hw _ (List.mem_cons_self ..)
        · exact ih ws y (fun z hz => hw z (List.mem_cons_of_mem _ hz)) h
  obtain ⟨_, _, z3⟩ := kTab_small i t ht
  unfold shS
  split
  · rename_i p hp
    cases hw : wordOf n p.2 p.1 with
    | none => exact hit
    | some y => exact key _ _ y (z3 p hp).2 hw
  · exact hit
def prOne (k : Nat → Int) (sc : ByteArray) (j : Nat) (t : KeyT) (op : ByteArray) : List UInt8 := pA t op ++ (pB sc t ++ (pC t ++ pD k j t))
def prFrom (k : Nat → Int) (sc : ByteArray) : Nat → Nat → ByteArray → List UInt8
  | 0, _, _ => []
  | n + 1, j, op => match kTab[j]? with
    | some t => prOne k sc j t op ++ prFrom k sc n (j + 1) t.1
    | none => []
def printL (nm sc : ByteArray) (k : Nat → Int) : List UInt8 := bl ((⟨#[114, 101, 115, 111, 117, 114, 99, 101, 32]⟩ : ByteArray) ++ nm ++ (⟨#[32, 123, 10]⟩ : ByteArray)) ++ prFrom k sc 16 0 (⟨#[]⟩ : ByteArray) ++ bl (⟨#[32, 32, 125, 10, 125, 10]⟩ : ByteArray)

set_option maxRecDepth 100000 in
set_option maxHeartbeats 2000000 in
theorem print_any (nm sc : ByteArray) (k : Nat → Int) (hk : ∀ i, -9223372036854775808 ≤ k i ∧ k i ≤ 9223372036854775807) (w : World) (hu : Utf w) (hd : DB w) (htab : Tab10 w) :
    Calls Tryd.prog 22 #[.agg (cfgC nm sc k)] w fun e w' => e = .returned (.tuple #[.string (if chkI nm sc k = 0 then ⟨(printL nm sc k).toArray⟩ else (⟨#[]⟩ : ByteArray)), .int .i64 (chkI nm sc k)]) ∧ Below w.heap.size w w' := by
  have HU := Aside0.mk hu
  have HD := Aside0.mk hd
  have HT := Aside0.mk htab
  clear hu hd htab
  have K1 := Aside0.mk (blk_new w (.cells (cfgC nm sc k) 23))
  have HB1 := Aside0.mk ((Below.refl w.heap.size w).alloc (Nat.le_refl _) (.cells (cfgC nm sc k) 23))
  go_enter Tryd.func22, Tryd.ntmps22
  go_wp2_with ((with_reducible refine gate_dst (N := 10) rfl ?_); refine wpList_load_row rfl 23 _ rfl w.heap.size rfl 23 (cfgC nm sc k) (0, 0) _ K1.out Tryd.underlying23 rfl (by kernel_rfl) ?_)
  generalize w.alloc (.cells (cfgC nm sc k) 23) = w1 at *
  refine (check_any nm sc k hk w1 (fun w' hb => HU.out w' (below_then HB1.out HB1.out.size hb))).mono ?_
  rintro e w2 ⟨rfl, hB2⟩
  have K2 := Aside0.mk (blk_below K1.out hB2)
  have HB2 := Aside0.mk (below_then HB1.out HB1.out.size hB2)
  have hlt2 : w.heap.size < w2.heap.size := blk_lt K2.out
  clear hB2 K1 HB1
  by_cases hck : chkI nm sc k = 0
  case neg =>
    have hck1 : chkI nm sc k = 124 := by
      unfold chkI at hck ⊢
      split
      · rename_i h; rw [if_pos h] at hck; exact absurd rfl hck
      · rfl
    rw [hck1]
    go_wp2
    go_ret2
    exact ⟨rfl, HB2.out⟩
  case pos =>
    rw [hck]
    have hnm : nm.size ≤ 31 ∧ sc.size ≤ 64 := by
      unfold chkI at hck
      split at hck
      · rename_i h
        simp only [restI, nameI, Bool.and_eq_true, decide_eq_true_eq] at h
        exact ⟨h.2.1.1.1.1.1.2, h.2.1.1.2⟩
      · cases hck
    have c0 : w2.cell? ⟨w.heap.size, 0, none⟩ = some (.string nm) := (blk_cell K2.out 0).trans rfl
    have HI := Aside0.mk (Lib.fresh_isBuilder 70 5 w2)
    have HB3 := Aside0.mk (HB2.out.alloc HB2.out.size (.cells #[.pointer none, .slice none 0 0] 70))
    have K3 := Aside0.mk (blk_alloc K2.out (.cells #[.pointer none, .slice none 0 0] 70))
    go_wp2_with fail
    refine (writeString_any w2 _ w2.heap.size [] _ HI.out (by rw [ByteArray.size_append, ByteArray.size_append]; show 0 + (9 + nm.size + 3) ≤ _; omega) (by simp)).mono ?_
    rintro e w3 ⟨rfl, i3, b3, k3⟩
    rw [List.nil_append] at i3
    have I3 := Aside0.mk i3
    have K4 := Aside0.mk (k3.cell K3.out (by omega) (by decide))
    have HB4 := Aside0.mk (HB3.out.trans (below_less b3 (by omega)))
    have hlt3 : w2.heap.size < w3.heap.size := Nat.lt_of_lt_of_le (by simp) k3.1
    clear i3 b3 k3 K3 HB3 HI K2 HB2
    go_wp2_with fail
    refine (keys_any w3).mono ?_
    rintro e w4 ⟨g, rfl, hg, hB4, hg4, ⟨cs, hcs⟩, hP⟩
    have K5 := Aside0.mk (blk_below K4.out hB4)
    have HB5 := Aside0.mk (HB4.out.trans (below_lower hB4 (by omega)))
    have I5 := Aside0.mk (isB_below I3.out hB4)
    have HP := Aside0.mk hP
    have HCS := Aside0.mk hcs
    have HK5 := Aside0.mk (BKeep.refl w4 w2.heap.size)
    have hlt4 : w3.heap.size ≤ w4.heap.size := hB4.size
    have hlen0 : (bl ((⟨#[114, 101, 115, 111, 117, 114, 99, 101, 32]⟩ : ByteArray) ++ nm ++ (⟨#[32, 123, 10]⟩ : ByteArray))).length ≤ 1000 := by
      rw [bl_length, ByteArray.size_append, ByteArray.size_append]
      show 9 + nm.size + 3 ≤ _
      omega
    clear hB4 hP hcs I3 K4 HB4 c0
    generalize w2.heap.size = bb at *
    generalize w3.heap.size = B at *
    obtain ⟨A0, hA0⟩ : ∃ A0, bl ((⟨#[114, 101, 115, 111, 117, 114, 99, 101, 32]⟩ : ByteArray) ++ nm ++ (⟨#[32, 123, 10]⟩ : ByteArray)) = A0 := ⟨_, rfl⟩
    rw [hA0] at hlen0 I5
    have HA0 := Aside0.mk hA0
    clear hA0
    go_wp2
    go_loopg [6, 23] 16 (fun kq v6 v23 wr => ∃ (j : Nat) (op : ByteArray) (acc : List UInt8), j ≤ 16 ∧ kq = 16 - j ∧ v6 = .string op ∧ v23 = .int .i64 j ∧ Aside0 (IsB bb bb (Lib.byteCells acc) wr) ∧ Aside0 (Below w.heap.size w wr) ∧ Aside0 (BKeep w4 wr bb) ∧ Aside0 (acc ++ prFrom k sc (16 - j) j op = A0 ++ prFrom k sc 16 0 (⟨#[]⟩ : ByteArray)) ∧ acc.length ≤ 1000 + 3000 * j)
    case atStart => exact ⟨0, (⟨#[]⟩ : ByteArray), A0, by omega, rfl, rfl, rfl, I5, HB5, HK5, ⟨rfl⟩, by omega⟩
    case round =>
      clear I5 HB5 HK5
      obtain ⟨j, op, acc, hj, rfl, rfl, rfl, I, HBw, HKw, HA, hal⟩ := hrel
      by_cases hlt : j < 16
      · have hdj : decide ((j : Int) < 16) = true := decide_eq_true (by omega)
        have hjl : (j : Int) < 16 := by omega
        obtain ⟨t, ht⟩ : ∃ t, kTab[j]? = some t := ⟨_, List.getElem?_eq_getElem hlt⟩
        have HPJ := Aside0.mk ((HP.out j t ht).keepB HKw.out HCS.out hg (by omega))
        have s0 : wr.cell? ⟨g, j * 8, none⟩ = some (.string t.1) := HPJ.out.1
        have s1 : wr.cell? ⟨g, j * 8 + 1, none⟩ = some (.string t.2.1) := HPJ.out.2.1
        obtain ⟨z1, z2, z3⟩ := kTab_small j t ht
        have hsz : bb ≤ wr.heap.size := by have := HKw.out.1; omega
        obtain ⟨xa, hxa⟩ : ∃ xa, pA t op = xa := ⟨_, rfl⟩
        have hlA : xa.length ≤ 100 := by rw [← hxa]; exact pA_le t op z1
        have HA2 : Aside0 (acc ++ (xa ++ (pB sc t ++ (pC t ++ pD k j t))) ++ prFrom k sc (16 - (j + 1)) (j + 1) t.1 = A0 ++ prFrom k sc 16 0 (⟨#[]⟩ : ByteArray)) := ⟨by
          rw [← HA.out, ← hxa, List.append_assoc]
          obtain ⟨q, hq⟩ : ∃ q, 16 - j = q + 1 := ⟨15 - j, by omega⟩
          rw [hq, show 16 - (j + 1) = q by omega]
          simp only [prFrom, ht, prOne]⟩
        clear HA
        go_upto_if 34 with fail
        go_cut [6] from 24 to 74 (fun v6 wx => v6 = .string t.1 ∧ Aside0 (IsB bb bb (Lib.byteCells (acc ++ xa)) wx) ∧ Aside0 (Below w.heap.size w wx) ∧ Aside0 (BKeep w4 wx bb))
        case first =>
          cases hso : (t.1.toList == op.toList)
          case true =>
            have hop : op = t.1 := by
              have h := eq_of_beq hso
              rw [toList_bl, toList_bl] at h
              exact (ByteArray.ext (Array.ext' h)).symm
            have IA : Aside0 (IsB bb bb (Lib.byteCells (acc ++ xa)) wr) := ⟨by rw [← hxa]; unfold pA; rw [if_pos hso, List.append_nil]; exact I.out⟩
            clear I HPJ
            go_wp2_with fail
            go_meet
            exact ⟨by rw [hop], IA, HBw, HKw⟩
          case false =>
            cases hop : op.toList.isEmpty
            case true =>
              go_wp2_with fail
              refine (ws_any bb bb acc _ wr I.out (by rw [ByteArray.size_append, ByteArray.size_append]; show acc.length + (2 + t.1.size + 3) ≤ _; omega) hsz).mono ?_
              rintro e wA ⟨rfl, i1, b1, k1⟩
              have IA : Aside0 (IsB bb bb (Lib.byteCells (acc ++ xa)) wA) := ⟨by rw [← hxa]; unfold pA; rw [if_neg (by rw [hso]; decide), if_pos hop]; exact i1⟩
              have BA := Aside0.mk (HBw.out.trans (below_less b1 (by omega)))
              have KA := Aside0.mk (HKw.out.trans k1)
              have HPA := Aside0.mk ((HP.out j t ht).keepB KA.out HCS.out hg (by omega))
              have s0' : wA.cell? ⟨g, j * 8, none⟩ = some (.string t.1) := HPA.out.1
              clear i1 b1 k1 I HBw HKw HPJ s0 s1 hsz
              go_wp2_with fail
              go_meet
              exact ⟨rfl, IA, BA, KA⟩
            case false =>
              go_wp2_with fail
              refine (ws_any bb bb acc _ wr I.out (by show acc.length + 4 ≤ _; omega) hsz).mono ?_
              rintro e wZ ⟨rfl, i1, b1, k1⟩
              have IZ := Aside0.mk i1
              have BZ := Aside0.mk (HBw.out.trans (below_less b1 (by omega)))
              have KZ := Aside0.mk (HKw.out.trans k1)
              have HPZ := Aside0.mk ((HP.out j t ht).keepB KZ.out HCS.out hg (by omega))
              have s0z : wZ.cell? ⟨g, j * 8, none⟩ = some (.string t.1) := HPZ.out.1
              have hszz : bb ≤ wZ.heap.size := Nat.le_trans hsz k1.1
              clear i1 b1 k1 I HBw HKw HPJ s0 s1 hsz
              go_wp2_with fail
              refine (ws_any bb bb _ _ wZ IZ.out (by rw [List.length_append, ByteArray.size_append, ByteArray.size_append]; show acc.length + 4 + (2 + t.1.size + 3) ≤ _; omega) hszz).mono ?_
              rintro e wA ⟨rfl, i1, b1, k1⟩
              have IA : Aside0 (IsB bb bb (Lib.byteCells (acc ++ xa)) wA) := ⟨by rw [← hxa]; unfold pA; rw [if_neg (by rw [hso]; decide), if_neg (by rw [hop]; decide), ← List.append_assoc]; exact i1⟩
              have BA := Aside0.mk (BZ.out.trans (below_less b1 (by omega)))
              have KA := Aside0.mk (KZ.out.trans k1)
              have HPA := Aside0.mk ((HP.out j t ht).keepB KA.out HCS.out hg (by omega))
              have s0' : wA.cell? ⟨g, j * 8, none⟩ = some (.string t.1) := HPA.out.1
              clear i1 b1 k1 IZ BZ KZ HPZ s0z hszz
              go_wp2_with fail
              go_meet
              exact ⟨rfl, IA, BA, KA⟩
        case rest =>
        obtain ⟨rfl, IA, BA, KA⟩ := hcut
        obtain ⟨wA, rfl⟩ : ∃ wA : World, wA = wc := ⟨_, rfl⟩
        clear I HBw HKw HPJ s0 s1 hsz
        have HPA := Aside0.mk ((HP.out j t ht).keepB KA.out HCS.out hg (by omega))
        have s0 : wA.cell? ⟨g, j * 8, none⟩ = some (.string t.1) := HPA.out.1
        have s1 : wA.cell? ⟨g, j * 8 + 1, none⟩ = some (.string t.2.1) := HPA.out.2.1
        have c11 : wA.cell? ⟨w.heap.size, 11, none⟩ = some (.string sc) := (blk_cell (KA.out.cell K5.out (by omega) (by decide)) 11).trans rfl
        have hszA : bb ≤ wA.heap.size := by have := KA.out.1; omega
        clear hxa
        obtain ⟨xb, hxb⟩ : ∃ xb, pB sc t = xb := ⟨_, rfl⟩
        have hlB : xb.length ≤ 1000 := by rw [← hxb]; exact pB_le sc t hnm.2
        rw [hxb] at HA2
        go_upto_if 53 with fail
        go_cut [] from 24 to 74 (fun wx => Aside0 (IsB bb bb (Lib.byteCells (acc ++ xa ++ xb)) wx) ∧ Aside0 (Below w.heap.size w wx) ∧ Aside0 (BKeep w4 wx bb))
        case first =>
          cases hnb : (t.2.1.toList == [97, 102, 116, 101, 114, 45, 115, 98, 45, 48, 112, 114, 105])
          case true =>
            have hq := quote_le sc
            go_wp2_with fail
            refine (quote_any sc (by omega) wA (fun w' hb => HD.out w' (below_then BA.out BA.out.size hb))).mono ?_
            rintro e wY ⟨rfl, bY⟩
            have IY := Aside0.mk (isB_below IA.out bY)
            have BY := Aside0.mk (below_then BA.out BA.out.size bY)
            have KY := Aside0.mk (KA.out.trans (BKeep.of_below bY bb))
            have hszY : bb ≤ wY.heap.size := Nat.le_trans hszA bY.size
            have hqs : (⟨(quoteL sc).toArray⟩ : ByteArray).size = (quoteL sc).length := rfl
            clear bY HPA s0 s1 c11
            go_wp2_with fail
            refine (ws_any bb bb _ _ wY IY.out (by rw [List.length_append, ByteArray.size_append, ByteArray.size_append]; show acc.length + xa.length + (18 + (quoteL sc).length + 2) ≤ _; omega) hszY).mono ?_
            rintro e wB ⟨rfl, i1, b1, k1⟩
            have IB : Aside0 (IsB bb bb (Lib.byteCells (acc ++ xa ++ xb)) wB) := ⟨by rw [← hxb]; unfold pB; rw [if_pos hnb]; exact i1⟩
            have BB := Aside0.mk (BY.out.trans (below_less b1 (by omega)))
            have KB := Aside0.mk (KY.out.trans k1)
            clear i1 b1 k1 IY BY KY hszY hszA IA BA KA hxb hnb hqs hq
            go_wp2_with fail
            go_meet
            exact ⟨IB, BB, KB⟩
          case false =>
            have IB : Aside0 (IsB bb bb (Lib.byteCells (acc ++ xa ++ xb)) wA) := ⟨by rw [← hxb]; unfold pB; rw [if_neg (by rw [hnb]; decide), List.append_nil]; exact IA.out⟩
            clear IA HPA
            go_wp2_with fail
            go_meet
            exact ⟨IB, BA, KA⟩
        case rest =>
        obtain ⟨IB, BB, KB⟩ := hcut
        obtain ⟨wB, rfl⟩ : ∃ wB : World, wB = wc := ⟨_, rfl⟩
        clear IA BA KA HPA s0 s1 c11 hszA hxb
        have hszB : bb ≤ wB.heap.size := by have := KB.out.1; omega
        obtain ⟨xc, hxc⟩ : ∃ xc, pC t = xc := ⟨_, rfl⟩
        have hlC : xc.length ≤ 2 := by
          rw [← hxc]
          unfold pC
          split
          · simp
          · exact Nat.le_refl 2
        rw [hxc] at HA2
        go_upto_if 61 with fail
        go_cut [] from 24 to 74 (fun wx => Aside0 (IsB bb bb (Lib.byteCells (acc ++ xa ++ xb ++ xc)) wx) ∧ Aside0 (Below w.heap.size w wx) ∧ Aside0 (BKeep w4 wx bb))
        case first =>
          cases hce : t.1.toList.isEmpty
          case true =>
            have IC : Aside0 (IsB bb bb (Lib.byteCells (acc ++ xa ++ xb ++ xc)) wB) := ⟨by rw [← hxc]; unfold pC; rw [if_pos hce, List.append_nil]; exact IB.out⟩
            clear IB
            go_wp2_with fail
            go_meet
            exact ⟨IC, BB, KB⟩
          case false =>
            go_wp2_with fail
            refine (ws_any bb bb _ _ wB IB.out (by rw [List.length_append, List.length_append]; show acc.length + xa.length + xb.length + 2 ≤ _; omega) hszB).mono ?_
            rintro e wC ⟨rfl, i1, b1, k1⟩
            have IC : Aside0 (IsB bb bb (Lib.byteCells (acc ++ xa ++ xb ++ xc)) wC) := ⟨by rw [← hxc]; unfold pC; rw [if_neg (by rw [hce]; decide)]; exact i1⟩
            have BC := Aside0.mk (BB.out.trans (below_less b1 (by omega)))
            have KC := Aside0.mk (KB.out.trans k1)
            clear i1 b1 k1 IB BB KB hszB hxc hce
            go_wp2_with fail
            go_meet
            exact ⟨IC, BC, KC⟩
        case rest =>
        obtain ⟨IC, BC, KC⟩ := hcut
        obtain ⟨wC, rfl⟩ : ∃ wC : World, wC = wc := ⟨_, rfl⟩
        clear IB BB KB hszB hxc
        go_upto_region 21 with fail
        have HPC := Aside0.mk ((HP.out j t ht).keepB KC.out HCS.out hg (by omega))
        have s1 : wC.cell? ⟨g, j * 8 + 1, none⟩ = some (.string t.2.1) := HPC.out.2.1
        have hsh := shS_le j t ht (k j) (hk j)
        have hy1 : ¬ 9223372036854775807 < 2 + t.2.1.size := by omega
        have hy2 : ¬ 9223372036854775807 < 2 + t.2.1.size + 1 := by omega
        have hy3 : ¬ 9223372036854775807 < 2 + t.2.1.size + 1 + (shS t (k j)).size := by omega
        have hy4 : ¬ 9223372036854775807 < 2 + t.2.1.size + 1 + (shS t (k j)).size + 2 := by omega
        have HKC := Aside0.mk (KC.out.cell K5.out (by omega) (by decide))
        have hSD : wC.drew.cell? ⟨g, j * 8 + 1, none⟩ = some (.string t.2.1) := s1
        have SH := Aside0.mk (shown_any wC.drew B g j w.heap.size t (k j) hlt (HPC.out.keep hg (fun _ _ _ => rfl)) ((blk_cell (blk_drew HKC.out) _).trans (cfg_key nm sc k j hlt)) (hk j) (fun p hp => (z3 p hp).1) (fun w' hb => HT.out w' (below_then (below_drew BC.out) (below_drew BC.out).size hb)))
        have ID : Aside0 (IsB bb bb (Lib.byteCells (acc ++ xa ++ xb ++ xc)) wC.drew) := ⟨isB_below IC.out (below_drew (Below.refl _ _))⟩
        have BD := Aside0.mk (below_drew BC.out)
        have KD : Aside0 (BKeep w4 wC.drew bb) := ⟨KC.out.trans (BKeep.of_below (below_drew (Below.refl _ _)) bb)⟩
        refine wp_region_held_drew (S := fun W => W.cell? ⟨g, j * 8 + 1, none⟩ = some (.string t.2.1)) (by kernel_rfl) hSD ?_
        intro hS
        clear HPC s1 HKC IC BC KC hSD
        generalize wC.drew = wD at *
        refine wpAnyH_take (i := 0) rfl (by kernel_rfl) (by kernel_rfl) (by kernel_rfl) (fun _ _ _ h => h) (Or.inl ⟨rfl, fun W hW => by first | rfl | (go_simp; done)⟩) hS ?_
        refine wpAnyH_take (i := 1) rfl (by kernel_rfl) (by kernel_rfl) (by kernel_rfl) (fun _ _ _ h => h) (v := .pointer (some ⟨g, j * 8, none⟩)) (Or.inl ⟨rfl, fun W hW => by go_simp⟩) hS ?_
        refine wpAnyH_take (i := 2) rfl (by kernel_rfl) (by kernel_rfl) (by kernel_rfl) (fun _ _ _ h => h) (v := .pointer (some ⟨g, j * 8 + 1, none⟩)) (Or.inl ⟨rfl, fun W hW => by go_simp⟩) hS ?_
        refine wpAnyH_take (i := 3) rfl (by kernel_rfl) (by kernel_rfl) (by kernel_rfl) (fun _ _ _ h => h) (v := .string t.2.1) (Or.inl ⟨rfl, fun W hW => by (try dsimp only at hW); go_simp⟩) hS ?_
        refine wpAnyH_take (i := 4) rfl (by kernel_rfl) (by kernel_rfl) (by kernel_rfl) (fun _ _ _ h => h) (v := .string ((⟨#[32, 32]⟩ : ByteArray) ++ t.2.1)) (Or.inl ⟨rfl, fun W hW => by go_simp⟩) hS ?_
        refine wpAnyH_take (i := 5) rfl (by kernel_rfl) (by kernel_rfl) (by kernel_rfl) (fun _ _ _ h => h) (v := .string ((⟨#[32, 32]⟩ : ByteArray) ++ t.2.1 ++ (⟨#[32]⟩ : ByteArray))) (Or.inl ⟨rfl, fun W hW => by go_simp⟩) hS ?_
        refine wpAnyH_take (i := 6) rfl (by kernel_rfl) (by kernel_rfl) (by kernel_rfl) (fun _ _ _ h => h) (v := .pointer (some ⟨g, j * 8, none⟩)) (Or.inl ⟨rfl, fun W hW => by first | rfl | (go_simp; done)⟩) hS ?_
        refine wpAnyH_ready (rs := [7]) (by kernel_rfl) (by simp) ?_
        refine AllReadyH.cons rfl (fun K hK => ?_) AllReadyH.nil
        go_simp
        refine SH.out.mono ?_
        rintro e wE ⟨rfl, bE⟩
        have IE := Aside0.mk (isB_below ID.out bE)
        have BE := Aside0.mk (below_then BD.out BD.out.size bE)
        have KE := Aside0.mk (KD.out.trans (BKeep.of_below bE bb))
        have hszE : bb ≤ wE.heap.size := by have := KE.out.1; omega
        have sE : wE.cell? ⟨g, j * 8 + 1, none⟩ = some (.string t.2.1) := ((HP.out j t ht).keepB KE.out HCS.out hg (by omega)).2.1
        refine hK.out _ _ sE (fun hSE => ?_)
        clear hK bE ID BD KD SH hS
        refine wpAnyH_ready (rs := [8]) (by kernel_rfl) (by simp) ?_
        refine AllReadyH.cons rfl (fun K hK => ?_) AllReadyH.nil
        go_simp
        refine hK.out _ _ sE (fun _ => ?_)
        clear hK
        refine wpAnyH_ready (rs := [9]) (by kernel_rfl) (by simp) ?_
        refine AllReadyH.cons rfl (fun K hK => ?_) AllReadyH.nil
        go_simp
        refine hK.out _ _ sE (fun _ => ?_)
        clear hK
        refine wpAnyH_ready (rs := [10]) (by kernel_rfl) (by simp) ?_
        refine AllReadyH.cons rfl (fun K hK => ?_) AllReadyH.nil
        go_simp
        refine (ws_any bb bb _ _ wE IE.out (by simp only [List.length_append, ByteArray.size_append]; show acc.length + xa.length + xb.length + xc.length + (2 + t.2.1.size + 1 + (shS t (k j)).size + 2) ≤ _; omega) hszE).mono ?_
        rintro e wF ⟨rfl, i1, b1, k1⟩
        have IF := Aside0.mk i1
        have BF := Aside0.mk (BE.out.trans (below_less b1 (by omega)))
        have KF := Aside0.mk (KE.out.trans k1)
        have sF : wF.cell? ⟨g, j * 8 + 1, none⟩ = some (.string t.2.1) := ((HP.out j t ht).keepB KF.out HCS.out hg (by omega)).2.1
        have hlD : (pD k j t).length ≤ 200 := by
          unfold pD
          rw [bl_length]
          simp only [ByteArray.size_append]
          show 2 + t.2.1.size + 1 + (shS t (k j)).size + 2 ≤ _
          omega
        clear i1 b1 k1 IE BE KE hszE
        refine hK.out _ _ sF (fun _ => ?_)
        clear hK
        refine wpAnyH_done (by kernel_rfl) ?_ _
        go_wp2
        go_roundg (16 - (j + 1))
        case measure => omega
        case rel =>
          refine ⟨j + 1, t.1, acc ++ xa ++ xb ++ xc ++ pD k j t, by omega, rfl, rfl, by go_num, IF, BF, KF, ⟨?_⟩, ?_⟩
          · rw [← HA2.out]
            simp only [List.append_assoc]
          · simp only [List.length_append]
            omega
      · have hdj : decide ((j : Int) < 16) = false := decide_eq_false (by omega)
        obtain rfl : j = 16 := by omega
        have hszI : bb ≤ wr.heap.size := by have := HKw.out.1; omega
        go_wp2_with fail
        refine (ws_any bb bb acc _ wr I.out (by show acc.length + 6 ≤ _; omega) hszI).mono ?_
        rintro e wG ⟨rfl, i1, b1, k1⟩
        have IG := Aside0.mk i1
        have BG := Aside0.mk (HBw.out.trans (below_less b1 (by omega)))
        have hszG : bb ≤ wG.heap.size := Nat.le_trans hszI k1.1
        clear i1 b1 k1 I HBw HKw hszI
        go_wp2_with fail
        refine (Tryd.Builder_String_any bb bb _ _ IG.out hszG).mono ?_
        rintro e wH ⟨rfl, bH⟩
        have BH := Aside0.mk (BG.out.trans (below_less bH (by omega)))
        clear bH IG BG
        go_wp2
        go_ret2
        refine ⟨?_, BH.out⟩
        have hfin : printL nm sc k = acc ++ bl (⟨#[32, 32, 125, 10, 125, 10]⟩ : ByteArray) := by
          have := HA.out
          rw [show prFrom k sc (16 - 16) 16 op = [] from rfl, List.append_nil] at this
          unfold printL
          rw [HA0.out, this]
        rw [hfin]
        rfl
end Go.Proofs.YtfecfgimfjcbdaaDoor.Cf
