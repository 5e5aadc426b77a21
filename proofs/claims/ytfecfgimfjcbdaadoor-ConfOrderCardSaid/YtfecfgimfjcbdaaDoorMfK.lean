/- A resource: walked. (Several texts in one: A section: walked. · A resource: walked.) -/
import Derived.Test.YtfecfgimfjcbdaaDoorMfJ
import Derived.Maps.OwnOps
import Derived.Maps.Views
import Derived.StringKeys
import Derived.Deep.CutRange
namespace Go.Proofs.YtfecfgimfjcbdaaDoor.Cf
open Go.RowKit Go.Proofs.YtfecfgimfjcbdaaDoorW.PrintWords Go.Proofs.YtfecfgimfjcbdaaDoorW.PrintLast Go.Proofs.YtfecfgimfjcbdaaDoorW.PrintMore Go.Proofs.YtfecfgimfjcbdaaDoor.QCParse
open Go.Maps (Keyed string_keyed)
open Go.WideMaps (keyOf_string_mk)

theorem keyLaw : Keyed Tryd.prog 9 := string_keyed Tryd.underlying9
theorem zeroE (w : World) : (zeroValue 3).run Tryd.prog w = .ok (.int .i64 0) w := by kernel_rfl
def seen (L : List ByteArray) (x : ByteArray) : Bool := L.any fun y => y.toList == x.toList
/-- Block b is the map that holds 1 for each of the names L. -/
def Stood (w : World) (b : Nat) (L : List ByteArray) : Prop :=
  ∃ (n : Nat) (D : DataW Unit), w.ownsMap Tryd.prog 9 (plainElem Tryd.prog 3) b n D ∧ n ≤ L.length ∧ ∀ x : ByteArray, D.atKey (.string x.data.toList) (.lit (.int .i64 0)) = .lit (.int .i64 (if seen L x = true then 1 else 0))
theorem Stood.keep {w w1 : World} {b : Nat} {L : List ByteArray} (h : Stood w b L) (e : w1.heap[b]? = w.heap[b]?) : Stood w1 b L := by
  obtain ⟨n, D, ⟨es, cl, hb, F⟩, hr⟩ := h
  exact ⟨n, D, ⟨es, cl, e.trans hb, F⟩, hr⟩
theorem Stood.lt {w : World} {b : Nat} {L : List ByteArray} (h : Stood w b L) : b < w.heap.size := by
  obtain ⟨n, D, h, _⟩ := h
  exact h.lt
theorem Stood.ch {w w1 : World} {b : Nat} {L : List ByteArray} {l : List Nat} (h : Stood w b L) (hc : Ch l w w1) (hb : b ∉ l) : Stood w1 b L := h.keep (hc.block b h.lt hb)
theorem Stood.new (w : World) : Stood (w.alloc (.map #[] 0)) w.heap.size [] :=
  ⟨0, .map [], World.ownsMap_made _ _ _ _, Nat.le_refl _, fun x => WideAt.atKey_none _ (fun p hp => by cases hp)⟩
theorem Stood.put {w w1 : World} {b n : Nat} {L : List ByteArray} {D : DataW Unit} {v : ByteArray} (hown : w.ownsMap Tryd.prog 9 (plainElem Tryd.prog 3) b n D) (hn : n ≤ L.length)
    (hD : ∀ x : ByteArray, D.atKey (.string x.data.toList) (.lit (.int .i64 0)) = .lit (.int .i64 (if seen L x = true then 1 else 0)))
    (h1 : w1.ownsMap Tryd.prog 9 (plainElem Tryd.prog 3) b (n + 1) (D.put (.string v.data.toList) (.lit (.int .i64 1)))) : Stood w1 b (v :: L) := by
  refine ⟨n + 1, _, h1, by simp; omega, fun x => ?_⟩
  by_cases hx : x.data.toList = v.data.toList
  · rw [hx, Maps.atKey_put_same (World.ownsMap.isMap hown) (by trivial)]
    have : seen (v :: L) x = true := by
      unfold seen
      rw [List.any_cons, Bool.or_eq_true]
      exact .inl (beq_iff_eq.2 (by rw [toList_blN, toList_blN]; exact hx.symm))
    rw [if_pos this]
  · rw [Maps.atKey_put_other (fun e => hx (by injection e)), hD]
    have : seen (v :: L) x = seen L x := by
      unfold seen
      rw [List.any_cons]
      have : (v.toList == x.toList) = false := beq_eq_false_iff_ne.2 (fun e => hx (by rw [toList_blN, toList_blN] at e; exact e.symm))
      rw [this, Bool.false_or]
    rw [this]

/-- The keys of a section, from behind its opening brace: the names that stood there. -/
def sectP (s sec : ByteArray) : Nat → Nat → List ByteArray → ByteArray → (Nat → Int) → Except (Nat × Int) (List ByteArray × ByteArray × (Nat → Int) × Nat)
  | 0, _, _, _, _ => .error (0, 0)
  | f + 1, p, L, sc, k => match nextP s p with
    | .error a => .error (a, 121)
    | .ok (kd, a, v, q) =>
      if kd = 1 ∧ v.toList = [125] then .ok (L, sc, k, q)
      else if kd ≠ 0 then .error (a, 121)
      else match findP sec v with
        | none => .error (a, 122)
        | some key => if seen L v = true then .error (a, 123) else match valueP s q key sc k with
          | .error e => .error e
          | .ok y => sectP s sec f y.2.2 (v :: L) y.1 y.2.1
theorem wantP_le (s : ByteArray) (p kd : Nat) (v : ByteArray) (a q : Nat) (hp : p ≤ s.size) (h : wantP s p kd v = .ok (a, q)) : p < q ∧ q ≤ s.size := by
  unfold wantP at h
  cases hn : nextP s p with
  | error e => rw [hn] at h; cases h
  | ok tk =>
    obtain ⟨kd', a', v', q'⟩ := tk
    rw [hn] at h
    simp only at h
    split at h
    · simp only [Except.ok.injEq, Prod.mk.injEq] at h
      obtain ⟨_, rfl⟩ := h
      have := nextP_le s p _ _ _ _ hp hn
      omega
    · cases h
theorem valueP_le (s : ByteArray) (p : Nat) (key : Option Nat) (sc : ByteArray) (k : Nat → Int) (y : ByteArray × (Nat → Int) × Nat) (hp : p ≤ s.size) (h : valueP s p key sc k = .ok y) : p < y.2.2 ∧ y.2.2 ≤ s.size := by
  unfold valueP at h
  cases hn : nextP s p with
  | error e => rw [hn] at h; cases h
  | ok tk =>
    obtain ⟨kd', a', v', q'⟩ := tk
    have h1 := nextP_le s p _ _ _ _ hp hn
    rw [hn] at h
    simp only at h
    split at h
    · cases h
    · split at h
      · split at h
        · cases h
        · split at h
          · cases h
          · rename_i aq ha
            obtain rfl := Except.ok.inj h
            have := wantP_le s q' 1 semiB aq.1 aq.2 h1.2.2 ha
            simp only
            omega
      · split at h
        · split at h
          · split at h
            · cases h
            · rename_i aq ha
              obtain rfl := Except.ok.inj h
              have := wantP_le s q' 1 semiB aq.1 aq.2 h1.2.2 ha
              simp only
              omega
          · cases h
        · cases h
def SPost (r c : Nat) (s nm : ByteArray) (w : World) (o : Except (Nat × Int) (List ByteArray × ByteArray × (Nat → Int) × Nat)) (e : Ending) (w' : World) : Prop :=
  match o with
  | .ok (L, sc, k, q) => (∃ b, e = .returned (.map (some b)) ∧ w.heap.size ≤ b ∧ Stood w' b L) ∧ Rd w' r s q ∧ CfgAt w' c nm sc k ∧ Ch [r, c] w w'
  | .error (a, er) => Faults e a er ∧ Ch [r, c] w w'
theorem KeyPtr.of_find {w w1 w2 : World} {o : Option Nat} {e : Ending} {L : List Nat} (h : FPost w (some o) e w1) (hc : Ch L w1 w2) (hL : ∀ k ∈ L, k < w.heap.size) : ∃ kp, e = .returned (.tuple #[kp, .bool true]) ∧ KeyPtr w2 w.heap.size kp o := by
  obtain ⟨hB, h⟩ := h
  cases o with
  | none => exact ⟨_, h, rfl⟩
  | some i =>
    obtain ⟨hi, g, he, hg, hK⟩ := h
    exact ⟨_, he, hi, w.heap.size, g, rfl, Nat.le_refl _, hg, fun t ht => (hK t ht).ch hc (Nat.le_refl _) hg hL⟩

theorem KeyPtr.ch {w w1 : World} {B0 : Nat} {kp : Value} {o : Option Nat} {L : List Nat} (h : KeyPtr w B0 kp o) (hc : Ch L w w1) (hL : ∀ k ∈ L, k < B0) : KeyPtr w1 B0 kp o := by
  cases o with
  | none => exact h
  | some i =>
    obtain ⟨hi, B, g, he, hB, hg, hK⟩ := h
    exact ⟨hi, B, g, he, hB, hg, fun t ht => (hK t ht).ch hc hB hg hL⟩

set_option maxRecDepth 100000 in
set_option maxHeartbeats 1000000 in
theorem section_any (s : ByteArray) (hs : s.size ≤ 1000000) (r c p0 : Nat) (hrc : r ≠ c) (hp0 : p0 ≤ s.size) (nm sc0 sec : ByteArray) (k0 : Nat → Int) (w : World) (hr : Rd w r s p0) (hc : CfgAt w c nm sc0 k0)
    (out : Except (Nat × Int) (List ByteArray × ByteArray × (Nat → Int) × Nat)) (hout : sectP s sec (s.size + 1) p0 [] sc0 k0 = out) :
    Calls Tryd.prog 105 #[.pointer (some ⟨r, 0, none⟩), .string sec, .pointer (some ⟨c, 0, none⟩)] w (SPost r c s nm w out) := by
  have HOUT := Aside0.mk hout
  have hrw : r < w.heap.size := blk_lt hr
  have hcw : c < w.heap.size := blk_lt hc
  have HR1 : Aside0 (Rd (w.alloc (.map #[] 0)) r s p0) := ⟨blk_alloc hr _⟩
  have HF1 : Aside0 (CfgAt (w.alloc (.map #[] 0)) c nm sc0 k0) := ⟨blk_alloc hc _⟩
  have HC1 := Aside0.mk ((Ch.refl [r, c] w).alloc (.map #[] 0))
  have HS1 := Aside0.mk (Stood.new w)
  have hmm := @run_makeMap Tryd.prog
  clear hout hr hc
  go_enter Tryd.func105, Tryd.ntmps105
  go_wp2
  go_step3
  go_wp2
  go_step3
  go_upto_region 2 with fail
  clear hmm
  generalize w.alloc (.map #[] 0) = w1 at *
  go_loopg [] (s.size + 1) (fun kq wr => ∃ (p : Nat) (L : List ByteArray) (sc : ByteArray) (k : Nat → Int), p ≤ s.size ∧ s.size - p < kq ∧ L.length ≤ p ∧ Aside0 (Rd wr r s p) ∧ Aside0 (CfgAt wr c nm sc k) ∧ Aside0 (Ch [r, c] w wr) ∧ Aside0 (Stood wr w.heap.size L) ∧ Aside0 (sectP s sec kq p L sc k = out))
  case atStart => exact ⟨p0, [], sc0, k0, hp0, by omega, by simp, HR1, HF1, HC1, HS1, HOUT⟩
  case round =>
    clear HR1 HF1 HC1 HS1 HOUT
    obtain ⟨p, L, sc, k, hp, hk, hL, HR, HF, HC, HS, HQ⟩ := hrel
    obtain ⟨f, rfl⟩ : ∃ f, gk = f + 1 := ⟨gk - 1, by omega⟩
    simp only [sectP] at HQ
    have hgb : w.heap.size < wr.heap.size := HS.out.lt
    have HN := Aside0.mk (next_any s hs r p hp wr HR.out)
    go_wp2_with fail
    cases hn : nextP s p with
    | error a =>
      rw [hn] at HQ HN
      obtain rfl : out = .error (a, 121) := HQ.out.symm
      clear HQ hn
      refine HN.out.mono ?_
      rintro e w2 ⟨rfl, hc2⟩
      have HC2 := Aside0.mk (HC.out.trans (hc2.more (L' := [r, c]) (by simp)))
      clear hc2 HN
      go_wp2
      exact ⟨rfl, rfl, HC2.out⟩
    | ok tk =>
      obtain ⟨kd, a, v, q⟩ := tk
      rw [hn] at HQ HN
      simp only at HQ
      have hpq := nextP_le s p kd a v q hp hn
      have HVS : Aside0 (kd = 0 → v.size ≤ 1000000) := ⟨fun h0 => by subst h0; exact nextP_size s hs p a v q hn⟩
      clear hn
      refine HN.out.mono ?_
      rintro e w2 ⟨rfl, hr2, hc2⟩
      have hw2 : wr.heap.size ≤ w2.heap.size := hc2.size
      have HR3 : Aside0 (Rd (w2.alloc (.cells #[.int .i64 0, .int .i64 0, .string ⟨#[]⟩] 121)) r s q) := ⟨blk_alloc hr2 _⟩
      have HC3 := Aside0.mk ((HC.out.trans (hc2.more (L' := [r, c]) (by simp))).alloc (.cells #[.int .i64 0, .int .i64 0, .string ⟨#[]⟩] 121))
      have HF3 : Aside0 (CfgAt (w2.alloc (.cells #[.int .i64 0, .int .i64 0, .string ⟨#[]⟩] 121)) c nm sc k) := ⟨blk_alloc (hc2.blk HF.out (by simp; omega)) _⟩
      have HS3 : Aside0 (Stood (w2.alloc (.cells #[.int .i64 0, .int .i64 0, .string ⟨#[]⟩] 121)) w.heap.size L) := ⟨HS.out.ch (hc2.alloc _) (by simp; omega)⟩
      have hn := blk_new w2 (.cells #[.int .i64 0, .int .i64 0, .string ⟨#[]⟩] 121)
      clear hr2 hc2 HN HR HF HC HS
      go_upto_region 3 with (refine store_whole rfl rfl rfl (g := w2.heap.size) rfl (tokC kd a v) rfl hn (by kernel_rfl) (by rfl) (tokOne kd a v) ?_; intro w3 h3 hg3)
      have HB := Aside0.mk h3
      have HR4 : Aside0 (Rd w3 r s q) := ⟨grown_blk hg3 HR3.out (by omega)⟩
      have HC4 := Aside0.mk (HC3.out.grown hg3 (.inr (by omega)))
      have HF4 : Aside0 (CfgAt w3 c nm sc k) := ⟨grown_blk hg3 HF3.out (by omega)⟩
      have HS4 : Aside0 (Stood w3 w.heap.size L) := ⟨HS3.out.keep (hg3.block _ HS3.out.lt (by simp; omega))⟩
      have hw3 : w2.heap.size < w3.heap.size := blk_lt HB.out
      clear hg3 h3 hn HR3 HC3 HF3 HS3
      have t0 : w3.cell? ⟨w2.heap.size, 0, none⟩ = some (.int .i64 (kd : Int)) := (blk_cell HB.out 0).trans rfl
      have t1 : w3.cell? ⟨w2.heap.size, 1, none⟩ = some (.int .i64 (a : Int)) := (blk_cell HB.out 1).trans rfl
      have t2 : w3.cell? ⟨w2.heap.size, 2, none⟩ = some (.string v) := (blk_cell HB.out 2).trans rfl
      by_cases hend : kd = 1 ∧ v.toList = [125]
      · rw [if_pos hend] at HQ
        obtain rfl : out = .ok (L, sc, k, q) := HQ.out.symm
        obtain ⟨rfl, he⟩ := hend
        have heb : (v.toList == [125]) = true := beq_iff_eq.2 he
        clear HQ he HVS
        go_wp2
        rw [Exit.noGoto_ret]
        go_ret
        exact ⟨⟨w.heap.size, rfl, Nat.le_refl _, HS4.out⟩, HR4.out, HF4.out, HC4.out⟩
      · rw [if_neg hend] at HQ
        by_cases hk0 : kd = 0
        · subst hk0
          rw [if_neg (by simp)] at HQ
          have hvs := HVS.out rfl
          clear hend HVS
          obtain ⟨fo, hfo⟩ : ∃ fo, findP sec v = fo := ⟨_, rfl⟩
          rw [hfo] at HQ
          have HFI := Aside0.mk (find_any sec v w3 fo hfo)
          clear hfo
          go_wp2_with fail
          refine HFI.out.mono ?_
          rintro e w4 hf4
          have hB4 := hf4.1
          have HB4 := Aside0.mk (blk_below HB.out hB4)
          have HR5 : Aside0 (Rd w4 r s q) := ⟨blk_below HR4.out hB4⟩
          have HF5 : Aside0 (CfgAt w4 c nm sc k) := ⟨blk_below HF4.out hB4⟩
          have HC5 := Aside0.mk (HC4.out.then hB4)
          have HS5 : Aside0 (Stood w4 w.heap.size L) := ⟨HS4.out.keep (hB4.block _ HS4.out.lt)⟩
          have hw4 : w3.heap.size ≤ w4.heap.size := hB4.size
          clear HFI HB HR4 HF4 HC4 HS4 t0 t1 t2
          have t1 : w4.cell? ⟨w2.heap.size, 1, none⟩ = some (.int .i64 (a : Int)) := (blk_cell HB4.out 1).trans rfl
          have t2 : w4.cell? ⟨w2.heap.size, 2, none⟩ = some (.string v) := (blk_cell HB4.out 2).trans rfl
          cases fo with
          | none =>
            simp only at HQ
            obtain rfl : out = .error (a, 122) := HQ.out.symm
            obtain rfl := hf4.2
            clear HQ hf4 hB4
            go_wp2_with fail
            refine (give_any a 122 w4).mono ?_
            rintro e w' ⟨rfl, rfl⟩
            go_wp2
            exact ⟨rfl, rfl, HC5.out⟩
          | some key =>
            simp only at HQ
            obtain ⟨n, D, hown, hnL, hD⟩ := HS5.out
            have hkv : keyOf Tryd.prog 9 (.string v) = some (.string v.data.toList) := keyOf_string_mk Tryd.underlying9 (by unfold maxLen; omega)
            have HOW := Aside0.mk hown
            have HDD := Aside0.mk hD
            have HKV := Aside0.mk hkv
            clear hown hD hkv hB4
            obtain ⟨kp, rfl, hkp⟩ := KeyPtr.of_find hf4 (Ch.refl [] w4) (by simp)
            have HKP := Aside0.mk hkp
            clear hf4 hkp
            go_upto_if 46 with (at_lookup; refine wpList_lookup_own_int _ rfl _ _ 125 rfl 9 3 .i64 keyLaw Tryd.underlying125 Tryd.underlying3 (zeroE _) w.heap.size n D rfl HOW.out _ _ rfl HKV.out ?_; intro cc hat hwc)
            have hcc : cc = if seen L v = true then 1 else 0 := by
              have := HDD.out v
              rw [hat] at this
              injection this with this
              injection this
            clear hat hwc
            by_cases hseen : seen L v = true
            · rw [if_pos hseen] at HQ hcc
              obtain rfl : out = .error (a, 123) := HQ.out.symm
              subst hcc
              clear HQ hseen HDD HKV HOW
              go_wp2_with fail
              refine (give_any a 123 w4).mono ?_
              rintro e w' ⟨rfl, rfl⟩
              go_wp2
              exact ⟨rfl, rfl, HC5.out⟩
            · rw [if_neg hseen] at HQ hcc
              subst hcc
              have hn1 : n < maxLen := by unfold maxLen; omega
              have HZ : Aside0 (D.atKey (.string v.data.toList) (.lit (.int .i64 0)) = .lit (.int .i64 0)) := ⟨by rw [HDD.out v, if_neg hseen]⟩
              clear hseen
              go_upto_region 12 with (first | (at_lookup; refine wpList_lookup_own_int _ rfl _ _ 125 rfl 9 3 .i64 keyLaw Tryd.underlying125 Tryd.underlying3 (zeroE _) w.heap.size n D rfl HOW.out _ _ rfl HKV.out ?_; intro cc2 hat2 hwc2; obtain rfl : cc2 = 0 := (by have h := HZ.out; rw [hat2] at h; injection h with h; injection h)) | (at_mapUpdate; refine wpList_mapUpdate_own _ rfl _ _ _ 125 rfl 9 3 keyLaw Tryd.underlying125 _ w.heap.size n D rfl HOW.out hn1 _ _ _ rfl rfl HKV.out _ [] (plainElem_int Tryd.underlying3 (by decide)) ?_; intro w6 hown6 hg6))
              have HS6 := Aside0.mk (Stood.put HOW.out hnL HDD.out hown6)
              have HR6 : Aside0 (Rd w6 r s q) := ⟨grown_blk hg6 HR5.out (by omega)⟩
              have HF6 : Aside0 (CfgAt w6 c nm sc k) := ⟨grown_blk hg6 HF5.out (by omega)⟩
              have HC6 := Aside0.mk (HC5.out.grown hg6 (.inr (Nat.le_refl _)))
              have HK6 := Aside0.mk (HKP.out.ch ((Ch.refl [w.heap.size] w4).grown hg6 (.inl (by simp))) (by simp; omega))
              clear hat2 hwc2 hown6 hg6 HZ HDD HOW HKV HS5 HR5 HF5 HC5 HKP HB4 t1 t2
              obtain ⟨vo, hvo⟩ : ∃ vo, valueP s q key sc k = vo := ⟨_, rfl⟩
              have HVA := Aside0.mk (value_any s hs r c q w3.heap.size hrc (by omega) hpq.2.2 nm sc k key kp w6 HR6.out HF6.out HK6.out vo hvo)
              have HVL := Aside0.mk (fun y hy => valueP_le s q key sc k y hpq.2.2 hy)
              rw [hvo] at HQ HVL
              clear hvo
              go_wp2_with fail
              refine HVA.out.mono ?_
              rintro e w7 hp7
              clear HVA HK6
              cases vo with
              | error ae =>
                obtain ⟨ea, er⟩ := ae
                simp only at HQ
                obtain rfl : out = .error (ea, er) := HQ.out.symm
                obtain ⟨rfl, hc7⟩ := hp7
                have HC7 := Aside0.mk (HC6.out.trans hc7)
                clear hc7 HQ HVL
                go_wp2
                exact ⟨rfl, rfl, HC7.out⟩
              | ok y =>
                obtain ⟨sc', k', q'⟩ := y
                simp only at HQ
                have hq' := HVL.out _ rfl
                obtain ⟨rfl, hr7, hf7, hc7⟩ := hp7
                have HC7 := Aside0.mk (HC6.out.trans hc7)
                have HR7 := Aside0.mk hr7
                have HF7 := Aside0.mk hf7
                have HS7 := Aside0.mk (HS6.out.ch hc7 (by simp; omega))
                simp only at hq'
                clear hr7 hf7 hc7 HVL HS6 HR6 HF6 HC6
                go_wp2
                go_roundg f
                case measure => omega
                case rel => exact ⟨q', v :: L, sc', k', by omega, by omega, by simp; omega, HR7, HF7, HC7, HS7, HQ⟩
        · rw [if_pos hk0] at HQ
          obtain rfl : out = .error (a, 121) := HQ.out.symm
          have hk0n : ((kd : Int) != 0) = true := by simp; omega
          have hk0b : ((kd : Int) == 0) = false := by simp; omega
          clear HQ HVS hk0
          by_cases hk1 : kd = 1
          · subst hk1
            have heb : (v.toList == [125]) = false := beq_eq_false_iff_ne.2 (fun e => hend ⟨rfl, e⟩)
            clear hend
            go_wp2_with fail
            refine (give_any a 121 w3).mono ?_
            rintro e w' ⟨rfl, rfl⟩
            go_wp2
            exact ⟨rfl, rfl, HC4.out⟩
          · have hk1b : ((kd : Int) == 1) = false := by simp; omega
            clear hend hk1
            go_wp2_with fail
            refine (give_any a 121 w3).mono ?_
            rintro e w' ⟨rfl, rfl⟩
            go_wp2
            exact ⟨rfl, rfl, HC4.out⟩
end Go.Proofs.YtfecfgimfjcbdaaDoor.Cf

namespace Go.Proofs.YtfecfgimfjcbdaaDoor.Cf
open Go.RowKit Go.Proofs.YtfecfgimfjcbdaaDoorW.PrintWords Go.Proofs.YtfecfgimfjcbdaaDoorW.PrintLast Go.Proofs.YtfecfgimfjcbdaaDoorW.PrintMore Go.Proofs.YtfecfgimfjcbdaaDoor.QCParse

/-- The values where a file says nothing. -/
def kU : Nat → Int := fun i => ([3, 0, 0, 4, 8, 256, 3, 20, 16, 32, 0, 0, 0, 4, 8, 4] : List Int).getD i 0
theorem usual_any (w : World) : Calls Tryd.prog 99 #[] w fun e w' => e = .returned (.agg (cfgC ⟨#[]⟩ ⟨#[]⟩ kU)) ∧ Below w.heap.size w w' := by
  refine (conf_usual.calls _ _ _ _ _ _ _ _ _ _ _ _ _ _ _ _ _ _ w rfl).mono ?_
  rintro e w' ⟨rfl, h⟩
  exact ⟨rfl, h⟩
def protB : List UInt8 := [112, 114, 111, 116, 111, 99, 111, 108]
def devB : List UInt8 := [100, 101, 118, 105, 99, 101]
def synB : List UInt8 := [115, 121, 110, 99, 101, 114]
def isPart (v : ByteArray) : Bool := v.toList == protB || v.toList == devB || v.toList == netB || v.toList == synB
def openB : ByteArray := (⟨#[123]⟩ : ByteArray)
/-- The parts of a resource, from behind its opening brace: the place of its closing one, the keys of its section 'device', its values, the place behind. -/
def partsP (s : ByteArray) : Nat → Nat → List ByteArray → List ByteArray → ByteArray → (Nat → Int) → Except (Nat × Int) (Nat × List ByteArray × ByteArray × (Nat → Int) × Nat)
  | 0, _, _, _, _, _ => .error (0, 0)
  | f + 1, p, L, D, sc, k => match nextP s p with
    | .error a => .error (a, 121)
    | .ok (kd, a, v, q) =>
      if kd = 1 ∧ v.toList = [125] then .ok (a, D, sc, k, q)
      else if kd ≠ 0 then .error (a, 121)
      else if isPart v = false then .error (a, 122)
      else if seen L v = true then .error (a, 123)
      else match findP ⟨#[]⟩ v with
        | some key => match valueP s q key sc k with
          | .error e => .error e
          | .ok y => partsP s f y.2.2 (v :: L) D y.1 y.2.1
        | none => match wantP s q 1 openB with
          | .error e => .error e
          | .ok aq => match sectP s v (s.size + 1) aq.2 [] sc k with
            | .error e => .error e
            | .ok y => partsP s f y.2.2.2 (v :: L) (if (v.toList == devB) = true then y.1 else D) y.2.1 y.2.2.1
def resB : ByteArray := (⟨#[114, 101, 115, 111, 117, 114, 99, 101]⟩ : ByteArray)
def blkB : ByteArray := (⟨#[98, 108, 111, 99, 107, 115]⟩ : ByteArray)
def sizB : ByteArray := (⟨#[98, 108, 111, 99, 107, 45, 115, 105, 122, 101]⟩ : ByteArray)
/-- What follows when all parts are read. -/
def endP (s nm : ByteArray) (y : Nat × List ByteArray × ByteArray × (Nat → Int) × Nat) : Except (Nat × Int) (ByteArray × ByteArray × (Nat → Int)) :=
  if (seen y.2.1 blkB && seen y.2.1 sizB) = false then .error (y.1, 125)
  else if togI y.2.2.2.1 = false then .error (y.1, 124)
  else if skp s y.2.2.2.2 < s.size then match nextP s (skp s y.2.2.2.2) with
    | .error a => .error (a, 121)
    | .ok t => .error (t.2.1, 121)
  else .ok (nm, y.2.2.1, y.2.2.2.1)
/-- A resource file. -/
def resP (s : ByteArray) : Except (Nat × Int) (ByteArray × ByteArray × (Nat → Int)) :=
  match wantP s 0 0 resB with
  | .error e => .error e
  | .ok aq => match nextP s aq.2 with
    | .error a => .error (a, 121)
    | .ok (kd, a, v, q) =>
      if kd ≠ 0 then .error (a, 121)
      else if nameI v = false then .error (a, 124)
      else match wantP s q 1 openB with
        | .error e => .error e
        | .ok aq => match partsP s (s.size + 1) aq.2 [] [] ⟨#[]⟩ kU with
          | .error e => .error e
          | .ok y => endP s v y
def ResPost (r : Nat) (w : World) (o : Except (Nat × Int) (ByteArray × ByteArray × (Nat → Int))) (e : Ending) (w' : World) : Prop :=
  match o with
  | .ok (nm, sc, k) => e = .returned (.agg (cfgC nm sc k)) ∧ Ch [r] w w'
  | .error (a, er) => Faults e a er ∧ Ch [r] w w'
theorem Ch.step {r c : Nat} {w w1 w2 : World} (h : Ch [r] w w1) (k : Ch [r, c] w1 w2) (hc : w.heap.size ≤ c) : Ch [r] w w2 :=
  ⟨k.os.trans h.os, k.tape.trans h.tape, k.output.trans h.output, Nat.le_trans h.size k.size, fun i hi hn => (k.block i (Nat.lt_of_lt_of_le hi h.size) (by simp at hn ⊢; omega)).trans (h.block i hi hn)⟩
theorem Ch.stepG {r b : Nat} {w w1 w2 : World} (h : Ch [r] w w1) (k : w1.grownBy w2 (some b)) (hb : w.heap.size ≤ b) : Ch [r] w w2 := h.grown k (.inr hb)
theorem sectP_le (s sec : ByteArray) : ∀ (f p : Nat) (L : List ByteArray) (sc : ByteArray) (k : Nat → Int) (y : List ByteArray × ByteArray × (Nat → Int) × Nat), p ≤ s.size → sectP s sec f p L sc k = .ok y → p < y.2.2.2 ∧ y.2.2.2 ≤ s.size ∧ y.1.length ≤ L.length + (y.2.2.2 - p)
  | 0, _, _, _, _, _, _, h => by cases h
  | f + 1, p, L, sc, k, y, hp, h => by
    simp only [sectP] at h
    cases hn : nextP s p with
    | error e => rw [hn] at h; cases h
    | ok tk =>
      obtain ⟨kd, a, v, q⟩ := tk
      have h1 := nextP_le s p _ _ _ _ hp hn
      rw [hn] at h
      simp only at h
      split at h
      · obtain rfl := Except.ok.inj h
        simp only
        omega
      · split at h
        · cases h
        · split at h
          · cases h
          · split at h
            · cases h
            · split at h
              · cases h
              · rename_i y' hy
                have h2 := valueP_le s q _ sc k y' h1.2.2 hy
                have h3 := sectP_le s sec f _ _ _ _ y h2.2 h
                simp only [List.length_cons] at h3
                omega
theorem partsP_le (s : ByteArray) : ∀ (f p : Nat) (L D : List ByteArray) (sc : ByteArray) (k : Nat → Int) (y : Nat × List ByteArray × ByteArray × (Nat → Int) × Nat), p ≤ s.size → partsP s f p L D sc k = .ok y → p < y.2.2.2.2 ∧ y.2.2.2.2 ≤ s.size ∧ y.1 ≤ s.size
  | 0, _, _, _, _, _, _, _, h => by cases h
  | f + 1, p, L, D, sc, k, y, hp, h => by
    simp only [partsP] at h
    cases hn : nextP s p with
    | error e => rw [hn] at h; cases h
    | ok tk =>
      obtain ⟨kd, a, v, q⟩ := tk
      have h1 := nextP_le s p _ _ _ _ hp hn
      rw [hn] at h
      simp only at h
      split at h
      · obtain rfl := Except.ok.inj h
        simp only
        omega
      · split at h
        · cases h
        · split at h
          · cases h
          · split at h
            · cases h
            · split at h
              · split at h
                · cases h
                · rename_i y' hy
                  have h2 := valueP_le s q _ sc k y' h1.2.2 hy
                  have h3 := partsP_le s f _ _ _ _ _ y h2.2 h
                  omega
              · split at h
                · cases h
                · rename_i aq ha
                  have h2 := wantP_le s q 1 openB aq.1 aq.2 h1.2.2 ha
                  split at h
                  · cases h
                  · rename_i y' hy
                    have h3 := sectP_le s v _ _ _ _ _ y' h2.2 hy
                    have h4 := partsP_le s f _ _ _ _ _ y h3.2.1 h
                    omega
end Go.Proofs.YtfecfgimfjcbdaaDoor.Cf
