/- conf.Parse, walked: of the texts ConfA .. ConfNn what it leans on. -/
import Derived.Test.YtfecfgimfjcbdaaGreatDoorKConfZc
import Derived.Maps.OwnOps
import Derived.Maps.Views
import Derived.StringKeys
import Derived.Deep.CutRange
namespace Go.Proofs.YtfecfgimfjcbdaaGreatDoor.Cf
open Go.RowKit Go.Proofs.YtfecfgimfjcbdaaGreatDoorW.PrintWords Go.Proofs.YtfecfgimfjcbdaaGreatDoorW.PrintLast Go.Proofs.YtfecfgimfjcbdaaGreatDoorW.PrintMore Go.Proofs.YtfecfgimfjcbdaaGreatDoor.QCParse
open Go.Maps (Keyed string_keyed)
open Go.WideMaps (keyOf_string_mk)

theorem keyLaw : Keyed Tryz.prog 9 := string_keyed Tryz.underlying9
theorem zeroE (w : World) : (zeroValue 3).run Tryz.prog w = .ok (.int .i64 0) w := by kernel_rfl
def seen (L : List ByteArray) (x : ByteArray) : Bool := L.any fun y => y.toList == x.toList
/-- Block b is the map that holds 1 for each of the names L. -/
def Stood (w : World) (b : Nat) (L : List ByteArray) : Prop :=
  ∃ (n : Nat) (D : DataW Unit), w.ownsMap Tryz.prog 9 (plainElem Tryz.prog 3) b n D ∧ n ≤ L.length ∧ ∀ x : ByteArray, D.atKey (.string x.data.toList) (.lit (.int .i64 0)) = .lit (.int .i64 (if seen L x = true then 1 else 0))
theorem Stood.keep {w w1 : World} {b : Nat} {L : List ByteArray} (h : Stood w b L) (e : w1.heap[b]? = w.heap[b]?) : Stood w1 b L := by
  obtain ⟨n, D, ⟨es, cl, hb, F⟩, hr⟩ := h
  exact ⟨n, D, ⟨es, cl, e.trans hb, F⟩, hr⟩
theorem Stood.lt {w : World} {b : Nat} {L : List ByteArray} (h : Stood w b L) : b < w.heap.size := by
  obtain ⟨n, D, h, _⟩ := h
  exact h.lt
theorem Stood.ch {w w1 : World} {b : Nat} {L : List ByteArray} {l : List Nat} (h : Stood w b L) (hc : Ch l w w1) (hb : b ∉ l) : Stood w1 b L := h.keep (hc.block b h.lt hb)
theorem Stood.new (w : World) : Stood (w.alloc (.map #[] 0)) w.heap.size [] :=
  ⟨0, .map [], World.ownsMap_made _ _ _ _, Nat.le_refl _, fun x => WideAt.atKey_none _ (fun p hp => by cases hp)⟩
theorem Stood.put {w w1 : World} {b n : Nat} {L : List ByteArray} {D : DataW Unit} {v : ByteArray} (hown : w.ownsMap Tryz.prog 9 (plainElem Tryz.prog 3) b n D) (hn : n ≤ L.length)
    (hD : ∀ x : ByteArray, D.atKey (.string x.data.toList) (.lit (.int .i64 0)) = .lit (.int .i64 (if seen L x = true then 1 else 0)))
    (h1 : w1.ownsMap Tryz.prog 9 (plainElem Tryz.prog 3) b (n + 1) (D.put (.string v.data.toList) (.lit (.int .i64 1)))) : Stood w1 b (v :: L) := by
  refine ⟨n + 1, _, h1, by simp; omega, fun x => ?_⟩
  by_cases hx : x.data.toList = v.data.toList
  · rw [hx, Maps.atKey_put_same (World.ownsMap.isMap hown) (by trivial)]
    have : seen (v :: L) x = true := by
      unfold seen
      rw [List.any_cons, Bool.or_eq_true]
      exact .inl (beq_iff_eq.2 (by rw [toList_blN, toList_blN]; exact hx.symm))
    rw [if_pos this]
  · rw [Maps.atKey_put_other (fun e => hx (by injection e)), hD]
    have : seen (v :: L) x = seen L x := by
      unfold seen
      rw [List.any_cons]
      have : (v.toList == x.toList) = false := beq_eq_false_iff_ne.2 (fun e => hx (by rw [toList_blN, toList_blN] at e; exact e.symm))
      rw [this, Bool.false_or]
    rw [this]

/-- The keys of a section, from behind its opening brace: the names that stood there. -/
def sectP (s sec : ByteArray) : Nat → Nat → List ByteArray → ByteArray → (Nat → Int) → Except (Nat × Int) (List ByteArray × ByteArray × (Nat → Int) × Nat)
  | 0, _, _, _, _ => .error (0, 0)
  | f + 1, p, L, sc, k => match nextP s p with
    | .error a => .error (a, 121)
    | .ok (kd, a, v, q) =>
      if kd = 1 ∧ v.toList = [125] then .ok (L, sc, k, q)
      else if kd ≠ 0 then .error (a, 121)
      else match findP sec v with
        | none => .error (a, 122)
        | some key => if seen L v = true then .error (a, 123) else match valueP s q key sc k with
          | .error e => .error e
          | .ok y => sectP s sec f y.2.2 (v :: L) y.1 y.2.1
theorem wantP_le (s : ByteArray) (p kd : Nat) (v : ByteArray) (a q : Nat) (hp : p ≤ s.size) (h : wantP s p kd v = .ok (a, q)) : p < q ∧ q ≤ s.size := by
  unfold wantP at h
  cases hn : nextP s p with
  | error e => rw [hn] at h; cases h
  | ok tk =>
    obtain ⟨kd', a', v', q'⟩ := tk
    rw [hn] at h
    simp only at h
    split at h
    · simp only [Except.ok.injEq, Prod.mk.injEq] at h
      obtain ⟨_, rfl⟩ := h
      have := nextP_le s p _ _ _ _ hp hn
      omega
    · cases h
theorem valueP_le (s : ByteArray) (p : Nat) (key : Option Nat) (sc : ByteArray) (k : Nat → Int) (y : ByteArray × (Nat → Int) × Nat) (hp : p ≤ s.size) (h : valueP s p key sc k = .ok y) : p < y.2.2 ∧ y.2.2 ≤ s.size := by
  unfold valueP at h
  cases hn : nextP s p with
  | error e => rw [hn] at h; cases h
  | ok tk =>
    obtain ⟨kd', a', v', q'⟩ := tk
    have h1 := nextP_le s p _ _ _ _ hp hn
    rw [hn] at h
    simp only at h
    split at h
    · cases h
    · split at h
      · split at h
        · cases h
        · split at h
          · cases h
          · rename_i aq ha
            obtain rfl := Except.ok.inj h
            have := wantP_le s q' 1 semiB aq.1 aq.2 h1.2.2 ha
            simp only
            omega
      · split at h
        · split at h
          · split at h
            · cases h
            · rename_i aq ha
              obtain rfl := Except.ok.inj h
              have := wantP_le s q' 1 semiB aq.1 aq.2 h1.2.2 ha
              simp only
              omega
          · cases h
        · cases h
def SPost (r c : Nat) (s nm : ByteArray) (w : World) (o : Except (Nat × Int) (List ByteArray × ByteArray × (Nat → Int) × Nat)) (e : Ending) (w' : World) : Prop :=
  match o with
  | .ok (L, sc, k, q) => (∃ b, e = .returned (.map (some b)) ∧ w.heap.size ≤ b ∧ Stood w' b L) ∧ Rd w' r s q ∧ CfgAt w' c nm sc k ∧ Ch [r, c] w w'
  | .error (a, er) => Faults e a er ∧ Ch [r, c] w w'
theorem KeyPtr.of_find {w w1 w2 : World} {o : Option Nat} {e : Ending} {L : List Nat} (h : FPost w (some o) e w1) (hc : Ch L w1 w2) (hL : ∀ k ∈ L, k < w.heap.size) : ∃ kp, e = .returned (.tuple #[kp, .bool true]) ∧ KeyPtr w2 w.heap.size kp o := by
  obtain ⟨hB, h⟩ := h
  cases o with
  | none => exact ⟨_, h, rfl⟩
  | some i =>
    obtain ⟨hi, g, he, hg, hK⟩ := h
    exact ⟨_, he, hi, w.heap.size, g, rfl, Nat.le_refl _, hg, fun t ht => (hK t ht).ch hc (Nat.le_refl _) hg hL⟩

theorem KeyPtr.ch {w w1 : World} {B0 : Nat} {kp : Value} {o : Option Nat} {L : List Nat} (h : KeyPtr w B0 kp o) (hc : Ch L w w1) (hL : ∀ k ∈ L, k < B0) : KeyPtr w1 B0 kp o := by
  cases o with
  | none => exact h
  | some i =>
    obtain ⟨hi, B, g, he, hB, hg, hK⟩ := h
    exact ⟨hi, B, g, he, hB, hg, fun t ht => (hK t ht).ch hc hB hg hL⟩

set_option maxRecDepth 100000 in
set_option maxHeartbeats 1000000 in
theorem section_any (s : ByteArray) (hs : s.size ≤ 1000000) (r c p0 : Nat) (hrc : r ≠ c) (hp0 : p0 ≤ s.size) (nm sc0 sec : ByteArray) (k0 : Nat → Int) (w : World) (hr : Rd w r s p0) (hc : CfgAt w c nm sc0 k0)
    (out : Except (Nat × Int) (List ByteArray × ByteArray × (Nat → Int) × Nat)) (hout : sectP s sec (s.size + 1) p0 [] sc0 k0 = out) :
    Calls Tryz.prog 19 #[.pointer (some ⟨r, 0, none⟩), .string sec, .pointer (some ⟨c, 0, none⟩)] w (SPost r c s nm w out) := by
  have HOUT := Aside0.mk hout
  have hrw : r < w.heap.size := blk_lt hr
  have hcw : c < w.heap.size := blk_lt hc
  have HR1 : Aside0 (Rd (w.alloc (.map #[] 0)) r s p0) := ⟨blk_alloc hr _⟩
  have HF1 : Aside0 (CfgAt (w.alloc (.map #[] 0)) c nm sc0 k0) := ⟨blk_alloc hc _⟩
  have HC1 := Aside0.mk ((Ch.refl [r, c] w).alloc (.map #[] 0))
  have HS1 := Aside0.mk (Stood.new w)
  have hmm := @run_makeMap Tryz.prog
  clear hout hr hc
  go_enter Tryz.func19, Tryz.ntmps19
  go_wp2
  go_step3
  go_wp2
  go_step3
  go_upto_region 2 with fail
  clear hmm
  generalize w.alloc (.map #[] 0) = w1 at *
  go_loopg [] (s.size + 1) (fun kq wr => ∃ (p : Nat) (L : List ByteArray) (sc : ByteArray) (k : Nat → Int), p ≤ s.size ∧ s.size - p < kq ∧ L.length ≤ p ∧ Aside0 (Rd wr r s p) ∧ Aside0 (CfgAt wr c nm sc k) ∧ Aside0 (Ch [r, c] w wr) ∧ Aside0 (Stood wr w.heap.size L) ∧ Aside0 (sectP s sec kq p L sc k = out))
  case atStart => exact ⟨p0, [], sc0, k0, hp0, by omega, by simp, HR1, HF1, HC1, HS1, HOUT⟩
  case round =>
    clear HR1 HF1 HC1 HS1 HOUT
    obtain ⟨p, L, sc, k, hp, hk, hL, HR, HF, HC, HS, HQ⟩ := hrel
    obtain ⟨f, rfl⟩ : ∃ f, gk = f + 1 := ⟨gk - 1, by omega⟩
    simp only [sectP] at HQ
    have hgb : w.heap.size < wr.heap.size := HS.out.lt
    have HN := Aside0.mk (next_any s hs r p hp wr HR.out)
    go_wp2_with fail
    cases hn : nextP s p with
    | error a =>
      rw [hn] at HQ HN
      obtain rfl : out = .error (a, 121) := HQ.out.symm
      clear HQ hn
      refine HN.out.mono ?_
      rintro e w2 ⟨rfl, hc2⟩
      have HC2 := Aside0.mk (HC.out.trans (hc2.more (L' := [r, c]) (by simp)))
      clear hc2 HN
      go_wp2
      exact ⟨rfl, rfl, HC2.out⟩
    | ok tk =>
      obtain ⟨kd, a, v, q⟩ := tk
      rw [hn] at HQ HN
      simp only at HQ
      have hpq := nextP_le s p kd a v q hp hn
      have HVS : Aside0 (kd = 0 → v.size ≤ 1000000) := ⟨fun h0 => by subst h0; exact nextP_size s hs p a v q hn⟩
      clear hn
      refine HN.out.mono ?_
      rintro e w2 ⟨rfl, hr2, hc2⟩
      have hw2 : wr.heap.size ≤ w2.heap.size := hc2.size
      have HR3 : Aside0 (Rd (w2.alloc (.cells #[.int .i64 0, .int .i64 0, .string ⟨#[]⟩] 49)) r s q) := ⟨blk_alloc hr2 _⟩
      have HC3 := Aside0.mk ((HC.out.trans (hc2.more (L' := [r, c]) (by simp))).alloc (.cells #[.int .i64 0, .int .i64 0, .string ⟨#[]⟩] 49))
      have HF3 : Aside0 (CfgAt (w2.alloc (.cells #[.int .i64 0, .int .i64 0, .string ⟨#[]⟩] 49)) c nm sc k) := ⟨blk_alloc (hc2.blk HF.out (by simp; omega)) _⟩
      have HS3 : Aside0 (Stood (w2.alloc (.cells #[.int .i64 0, .int .i64 0, .string ⟨#[]⟩] 49)) w.heap.size L) := ⟨HS.out.ch (hc2.alloc _) (by simp; omega)⟩
      have hn := blk_new w2 (.cells #[.int .i64 0, .int .i64 0, .string ⟨#[]⟩] 49)
      clear hr2 hc2 HN HR HF HC HS
      go_upto_region 3 with (refine store_whole rfl rfl rfl (g := w2.heap.size) rfl (tokC kd a v) rfl hn (by kernel_rfl) (by rfl) (tokOne kd a v) ?_; intro w3 h3 hg3)
      have HB := Aside0.mk h3
      have HR4 : Aside0 (Rd w3 r s q) := ⟨grown_blk hg3 HR3.out (by omega)⟩
      have HC4 := Aside0.mk (HC3.out.grown hg3 (.inr (by omega)))
      have HF4 : Aside0 (CfgAt w3 c nm sc k) := ⟨grown_blk hg3 HF3.out (by omega)⟩
      have HS4 : Aside0 (Stood w3 w.heap.size L) := ⟨HS3.out.keep (hg3.block _ HS3.out.lt (by simp; omega))⟩
      have hw3 : w2.heap.size < w3.heap.size := blk_lt HB.out
      clear hg3 h3 hn HR3 HC3 HF3 HS3
      have t0 : w3.cell? ⟨w2.heap.size, 0, none⟩ = some (.int .i64 (kd : Int)) := (blk_cell HB.out 0).trans rfl
      have t1 : w3.cell? ⟨w2.heap.size, 1, none⟩ = some (.int .i64 (a : Int)) := (blk_cell HB.out 1).trans rfl
      have t2 : w3.cell? ⟨w2.heap.size, 2, none⟩ = some (.string v) := (blk_cell HB.out 2).trans rfl
      by_cases hend : kd = 1 ∧ v.toList = [125]
      · rw [if_pos hend] at HQ
        obtain rfl : out = .ok (L, sc, k, q) := HQ.out.symm
        obtain ⟨rfl, he⟩ := hend
        have heb : (v.toList == [125]) = true := beq_iff_eq.2 he
        clear HQ he HVS
        go_wp2
        rw [Exit.noGoto_ret]
        go_ret
        exact ⟨⟨w.heap.size, rfl, Nat.le_refl _, HS4.out⟩, HR4.out, HF4.out, HC4.out⟩
      · rw [if_neg hend] at HQ
        by_cases hk0 : kd = 0
        · subst hk0
          rw [if_neg (by simp)] at HQ
          have hvs := HVS.out rfl
          clear hend HVS
          obtain ⟨fo, hfo⟩ : ∃ fo, findP sec v = fo := ⟨_, rfl⟩
          rw [hfo] at HQ
          have HFI := Aside0.mk (find_any sec v w3 fo hfo)
          clear hfo
          go_wp2_with fail
          refine HFI.out.mono ?_
          rintro e w4 hf4
          have hB4 := hf4.1
          have HB4 := Aside0.mk (blk_below HB.out hB4)
          have HR5 : Aside0 (Rd w4 r s q) := ⟨blk_below HR4.out hB4⟩
          have HF5 : Aside0 (CfgAt w4 c nm sc k) := ⟨blk_below HF4.out hB4⟩
          have HC5 := Aside0.mk (HC4.out.then hB4)
          have HS5 : Aside0 (Stood w4 w.heap.size L) := ⟨HS4.out.keep (hB4.block _ HS4.out.lt)⟩
          have hw4 : w3.heap.size ≤ w4.heap.size := hB4.size
          clear HFI HB HR4 HF4 HC4 HS4 t0 t1 t2
          have t1 : w4.cell? ⟨w2.heap.size, 1, none⟩ = some (.int .i64 (a : Int)) := (blk_cell HB4.out 1).trans rfl
          have t2 : w4.cell? ⟨w2.heap.size, 2, none⟩ = some (.string v) := (blk_cell HB4.out 2).trans rfl
          cases fo with
          | none =>
            simp only at HQ
            obtain rfl : out = .error (a, 122) := HQ.out.symm
            obtain rfl := hf4.2
            clear HQ hf4 hB4
            go_wp2_with fail
            refine (give_any a 122 w4).mono ?_
            rintro e w' ⟨rfl, rfl⟩
            go_wp2
            exact ⟨rfl, rfl, HC5.out⟩
          | some key =>
            simp only at HQ
            obtain ⟨n, D, hown, hnL, hD⟩ := HS5.out
            have hkv : keyOf Tryz.prog 9 (.string v) = some (.string v.data.toList) := keyOf_string_mk Tryz.underlying9 (by unfold maxLen; omega)
            have HOW := Aside0.mk hown
            have HDD := Aside0.mk hD
            have HKV := Aside0.mk hkv
            clear hown hD hkv hB4
            obtain ⟨kp, rfl, hkp⟩ := KeyPtr.of_find hf4 (Ch.refl [] w4) (by simp)
            have HKP := Aside0.mk hkp
            clear hf4 hkp
            go_upto_if 46 with (at_lookup; refine wpList_lookup_own_int _ rfl _ _ 53 rfl 9 3 .i64 keyLaw Tryz.underlying53 Tryz.underlying3 (zeroE _) w.heap.size n D rfl HOW.out _ _ rfl HKV.out ?_; intro cc hat hwc)
            have hcc : cc = if seen L v = true then 1 else 0 := by
              have := HDD.out v
              rw [hat] at this
              injection this with this
              injection this
            clear hat hwc
            by_cases hseen : seen L v = true
            · rw [if_pos hseen] at HQ hcc
              obtain rfl : out = .error (a, 123) := HQ.out.symm
              subst hcc
              clear HQ hseen HDD HKV HOW
              go_wp2_with fail
              refine (give_any a 123 w4).mono ?_
              rintro e w' ⟨rfl, rfl⟩
              go_wp2
              exact ⟨rfl, rfl, HC5.out⟩
            · rw [if_neg hseen] at HQ hcc
              subst hcc
              have hn1 : n < maxLen := by unfold maxLen; omega
              have HZ : Aside0 (D.atKey (.string v.data.toList) (.lit (.int .i64 0)) = .lit (.int .i64 0)) := ⟨by rw [HDD.out v, if_neg hseen]⟩
              clear hseen
              go_upto_region 12 with (first | (at_lookup; refine wpList_lookup_own_int _ rfl _ _ 53 rfl 9 3 .i64 keyLaw Tryz.underlying53 Tryz.underlying3 (zeroE _) w.heap.size n D rfl HOW.out _ _ rfl HKV.out ?_; intro cc2 hat2 hwc2; obtain rfl : cc2 = 0 := (by have h := HZ.out; rw [hat2] at h; injection h with h; injection h)) | (at_mapUpdate; refine wpList_mapUpdate_own _ rfl _ _ _ 53 rfl 9 3 keyLaw Tryz.underlying53 _ w.heap.size n D rfl HOW.out hn1 _ _ _ rfl rfl HKV.out _ [] (plainElem_int Tryz.underlying3 (by decide)) ?_; intro w6 hown6 hg6))
              have HS6 := Aside0.mk (Stood.put HOW.out hnL HDD.out hown6)
              have HR6 : Aside0 (Rd w6 r s q) := ⟨grown_blk hg6 HR5.out (by omega)⟩
              have HF6 : Aside0 (CfgAt w6 c nm sc k) := ⟨grown_blk hg6 HF5.out (by omega)⟩
              have HC6 := Aside0.mk (HC5.out.grown hg6 (.inr (Nat.le_refl _)))
              have HK6 := Aside0.mk (HKP.out.ch ((Ch.refl [w.heap.size] w4).grown hg6 (.inl (by simp))) (by simp; omega))
              clear hat2 hwc2 hown6 hg6 HZ HDD HOW HKV HS5 HR5 HF5 HC5 HKP HB4 t1 t2
              obtain ⟨vo, hvo⟩ : ∃ vo, valueP s q key sc k = vo := ⟨_, rfl⟩
              have HVA := Aside0.mk (value_any s hs r c q w3.heap.size hrc (by omega) hpq.2.2 nm sc k key kp w6 HR6.out HF6.out HK6.out vo hvo)
              have HVL := Aside0.mk (fun y hy => valueP_le s q key sc k y hpq.2.2 hy)
              rw [hvo] at HQ HVL
              clear hvo
              go_wp2_with fail
              refine HVA.out.mono ?_
              rintro e w7 hp7
              clear HVA HK6
              cases vo with
              | error ae =>
                obtain ⟨ea, er⟩ := ae
                simp only at HQ
                obtain rfl : out = .error (ea, er) := HQ.out.symm
                obtain ⟨rfl, hc7⟩ := hp7
                have HC7 := Aside0.mk (HC6.out.trans hc7)
                clear hc7 HQ HVL
                go_wp2
                exact ⟨rfl, rfl, HC7.out⟩
              | ok y =>
                obtain ⟨sc', k', q'⟩ := y
                simp only at HQ
                have hq' := HVL.out _ rfl
                obtain ⟨rfl, hr7, hf7, hc7⟩ := hp7
                have HC7 := Aside0.mk (HC6.out.trans hc7)
                have HR7 := Aside0.mk hr7
                have HF7 := Aside0.mk hf7
                have HS7 := Aside0.mk (HS6.out.ch hc7 (by simp; omega))
                simp only at hq'
                clear hr7 hf7 hc7 HVL HS6 HR6 HF6 HC6
                go_wp2
                go_roundg f
                case measure => omega
                case rel => exact ⟨q', v :: L, sc', k', by omega, by omega, by simp; omega, HR7, HF7, HC7, HS7, HQ⟩
        · rw [if_pos hk0] at HQ
          obtain rfl : out = .error (a, 121) := HQ.out.symm
          have hk0n : ((kd : Int) != 0) = true := by simp; omega
          have hk0b : ((kd : Int) == 0) = false := by simp; omega
          clear HQ HVS hk0
          by_cases hk1 : kd = 1
          · subst hk1
            have heb : (v.toList == [125]) = false := beq_eq_false_iff_ne.2 (fun e => hend ⟨rfl, e⟩)
            clear hend
            go_wp2_with fail
            refine (give_any a 121 w3).mono ?_
            rintro e w' ⟨rfl, rfl⟩
            go_wp2
            exact ⟨rfl, rfl, HC4.out⟩
          · have hk1b : ((kd : Int) == 1) = false := by simp; omega
            clear hend hk1
            go_wp2_with fail
            refine (give_any a 121 w3).mono ?_
            rintro e w' ⟨rfl, rfl⟩
            go_wp2
            exact ⟨rfl, rfl, HC4.out⟩
end Go.Proofs.YtfecfgimfjcbdaaGreatDoor.Cf

namespace Go.Proofs.YtfecfgimfjcbdaaGreatDoor.Cf
open Go.RowKit Go.Proofs.YtfecfgimfjcbdaaGreatDoorW.PrintWords Go.Proofs.YtfecfgimfjcbdaaGreatDoorW.PrintLast Go.Proofs.YtfecfgimfjcbdaaGreatDoorW.PrintMore Go.Proofs.YtfecfgimfjcbdaaGreatDoor.QCParse

/-- The values where a file says nothing. -/
def kU : Nat → Int := fun i => ([3, 0, 0, 4, 8, 256, 3, 20, 16, 32, 0, 0, 0, 4, 8, 4] : List Int).getD i 0
theorem usual_any (w : World) : Calls Tryz.prog 12 #[] w fun e w' => e = .returned (.agg (cfgC ⟨#[]⟩ ⟨#[]⟩ kU)) ∧ Below w.heap.size w w' := by
  refine (conf_usual.calls _ _ _ _ _ _ _ _ _ _ _ _ _ _ _ _ _ _ w rfl).mono ?_
  rintro e w' ⟨rfl, h⟩
  exact ⟨rfl, h⟩
def protB : List UInt8 := [112, 114, 111, 116, 111, 99, 111, 108]
def devB : List UInt8 := [100, 101, 118, 105, 99, 101]
def synB : List UInt8 := [115, 121, 110, 99, 101, 114]
def isPart (v : ByteArray) : Bool := v.toList == protB || v.toList == devB || v.toList == netB || v.toList == synB
def openB : ByteArray := (⟨#[123]⟩ : ByteArray)
/-- The parts of a resource, from behind its opening brace: the place of its closing one, the keys of its section 'device', its values, the place behind. -/
def partsP (s : ByteArray) : Nat → Nat → List ByteArray → List ByteArray → ByteArray → (Nat → Int) → Except (Nat × Int) (Nat × List ByteArray × ByteArray × (Nat → Int) × Nat)
  | 0, _, _, _, _, _ => .error (0, 0)
  | f + 1, p, L, D, sc, k => match nextP s p with
    | .error a => .error (a, 121)
    | .ok (kd, a, v, q) =>
      if kd = 1 ∧ v.toList = [125] then .ok (a, D, sc, k, q)
      else if kd ≠ 0 then .error (a, 121)
      else if isPart v = false then .error (a, 122)
      else if seen L v = true then .error (a, 123)
      else match findP ⟨#[]⟩ v with
        | some key => match valueP s q key sc k with
          | .error e => .error e
          | .ok y => partsP s f y.2.2 (v :: L) D y.1 y.2.1
        | none => match wantP s q 1 openB with
          | .error e => .error e
          | .ok aq => match sectP s v (s.size + 1) aq.2 [] sc k with
            | .error e => .error e
            | .ok y => partsP s f y.2.2.2 (v :: L) (if (v.toList == devB) = true then y.1 else D) y.2.1 y.2.2.1
def resB : ByteArray := (⟨#[114, 101, 115, 111, 117, 114, 99, 101]⟩ : ByteArray)
def blkB : ByteArray := (⟨#[98, 108, 111, 99, 107, 115]⟩ : ByteArray)
def sizB : ByteArray := (⟨#[98, 108, 111, 99, 107, 45, 115, 105, 122, 101]⟩ : ByteArray)
/-- What follows when all parts are read. -/
def endP (s nm : ByteArray) (y : Nat × List ByteArray × ByteArray × (Nat → Int) × Nat) : Except (Nat × Int) (ByteArray × ByteArray × (Nat → Int)) :=
  if (seen y.2.1 blkB && seen y.2.1 sizB) = false then .error (y.1, 125)
  else if togI y.2.2.2.1 = false then .error (y.1, 124)
  else if skp s y.2.2.2.2 < s.size then match nextP s (skp s y.2.2.2.2) with
    | .error a => .error (a, 121)
    | .ok t => .error (t.2.1, 121)
  else .ok (nm, y.2.2.1, y.2.2.2.1)
/-- A resource file. -/
def resP (s : ByteArray) : Except (Nat × Int) (ByteArray × ByteArray × (Nat → Int)) :=
  match wantP s 0 0 resB with
  | .error e => .error e
  | .ok aq => match nextP s aq.2 with
    | .error a => .error (a, 121)
    | .ok (kd, a, v, q) =>
      if kd ≠ 0 then .error (a, 121)
      else if nameI v = false then .error (a, 124)
      else match wantP s q 1 openB with
        | .error e => .error e
        | .ok aq => match partsP s (s.size + 1) aq.2 [] [] ⟨#[]⟩ kU with
          | .error e => .error e
          | .ok y => endP s v y
def ResPost (r : Nat) (w : World) (o : Except (Nat × Int) (ByteArray × ByteArray × (Nat → Int))) (e : Ending) (w' : World) : Prop :=
  match o with
  | .ok (nm, sc, k) => e = .returned (.agg (cfgC nm sc k)) ∧ Ch [r] w w'
  | .error (a, er) => Faults e a er ∧ Ch [r] w w'
theorem Ch.step {r c : Nat} {w w1 w2 : World} (h : Ch [r] w w1) (k : Ch [r, c] w1 w2) (hc : w.heap.size ≤ c) : Ch [r] w w2 :=
  ⟨k.os.trans h.os, k.tape.trans h.tape, k.output.trans h.output, Nat.le_trans h.size k.size, fun i hi hn => (k.block i (Nat.lt_of_lt_of_le hi h.size) (by simp at hn ⊢; omega)).trans (h.block i hi hn)⟩
theorem Ch.stepG {r b : Nat} {w w1 w2 : World} (h : Ch [r] w w1) (k : w1.grownBy w2 (some b)) (hb : w.heap.size ≤ b) : Ch [r] w w2 := h.grown k (.inr hb)
theorem sectP_le (s sec : ByteArray) : ∀ (f p : Nat) (L : List ByteArray) (sc : ByteArray) (k : Nat → Int) (y : List ByteArray × ByteArray × (Nat → Int) × Nat), p ≤ s.size → sectP s sec f p L sc k = .ok y → p < y.2.2.2 ∧ y.2.2.2 ≤ s.size ∧ y.1.length ≤ L.length + (y.2.2.2 - p)
  | 0, _, _, _, _, _, _, h => by cases h
  | f + 1, p, L, sc, k, y, hp, h => by
    simp only [sectP] at h
    cases hn : nextP s p with
    | error e => rw [hn] at h; cases h
    | ok tk =>
      obtain ⟨kd, a, v, q⟩ := tk
      have h1 := nextP_le s p _ _ _ _ hp hn
      rw [hn] at h
      simp only at h
      split at h
      · obtain rfl := Except.ok.inj h
        simp only
        omega
      · split at h
        · cases h
        · split at h
          · cases h
          · split at h
            · cases h
            · split at h
              · cases h
              · rename_i y' hy
                have h2 := valueP_le s q _ sc k y' h1.2.2 hy
                have h3 := sectP_le s sec f _ _ _ _ y h2.2 h
                simp only [List.length_cons] at h3
                omega
end Go.Proofs.YtfecfgimfjcbdaaGreatDoor.Cf

namespace Go.Proofs.YtfecfgimfjcbdaaGreatDoor.Cf
open Go.RowKit Go.Proofs.YtfecfgimfjcbdaaGreatDoorW.PrintWords Go.Proofs.YtfecfgimfjcbdaaGreatDoorW.PrintLast Go.Proofs.YtfecfgimfjcbdaaGreatDoorW.PrintMore Go.Proofs.YtfecfgimfjcbdaaGreatDoor.QCParse
open Go.WideMaps (keyOf_string_mk)

set_option maxRecDepth 100000 in
theorem field_tok (x y z : Value) (w : World) : (Instr.field 49 (.agg #[x, y, z]) 1).run Tryz.prog w = .ok y w := by kernel_rfl
theorem cfgOne (nm sc : ByteArray) (k : Nat → Int) : ∀ q ∈ (cfgC nm sc k).toList, q.oneCell' = true := by
  intro q hq
  simp only [cfgC, List.mem_cons, List.not_mem_nil, or_false] at hq
  rcases hq with rfl | rfl | rfl | rfl | rfl | rfl | rfl | rfl | rfl | rfl | rfl | rfl | rfl | rfl | rfl | rfl | rfl | rfl <;> rfl
theorem CfgAt.setN {w : World} {c : Nat} {nm sc : ByteArray} {k : Nat → Int} (h : CfgAt w c nm sc k) (v : ByteArray) : CfgAt (w.setCell ⟨c, 0, none⟩ (.string v)) c v sc k := blk_put h 0 _ rfl

set_option maxRecDepth 100000 in
theorem look_run {w : World} {b : Nat} {L : List ByteArray} (h : Stood w b L) (x : ByteArray) (hx : x.size ≤ maxLen) : (Instr.lookup 53 (.map (some b)) (.string x) false).run Tryz.prog w = .ok (.int .i64 (if seen L x = true then 1 else 0)) w := by
  obtain ⟨n, D, hown, _, hD⟩ := h
  obtain ⟨c, hrun, hat, _⟩ := World.ownsMap.lookup_int hown keyLaw Tryz.underlying53 Tryz.underlying3 (zeroE w) (keyOf_string_mk Tryz.underlying9 hx)
  rw [hD x] at hat
  simp only [DataW.lit.injEq, Lit.int.injEq, true_and] at hat
  rw [hrun, hat]

set_option maxRecDepth 100000 in
set_option maxHeartbeats 2000000 in
theorem resource_any (s : ByteArray) (hs : s.size ≤ 1000000) (r : Nat) (w : World) (hr : Rd w r s 0) (out : Except (Nat × Int) (ByteArray × ByteArray × (Nat → Int))) (hout : resP s = out) :
    Calls Tryz.prog 8 #[.pointer (some ⟨r, 0, none⟩)] w (ResPost r w out) := by
  have HOUT := Aside0.mk hout
  have hrw : r < w.heap.size := blk_lt hr
  have KG := Aside0.mk (blk_new w (.cells #[.string ⟨#[]⟩, .int .i64 0, .int .i64 0, .int .i64 0, .int .i64 0, .int .i64 0, .int .i64 0, .int .i64 0, .int .i64 0, .int .i64 0, .int .i64 0, .string ⟨#[]⟩, .int .i64 0, .int .i64 0, .int .i64 0, .int .i64 0, .int .i64 0, .int .i64 0] 23))
  have HR0 : Aside0 (Rd (w.alloc (.cells #[.string ⟨#[]⟩, .int .i64 0, .int .i64 0, .int .i64 0, .int .i64 0, .int .i64 0, .int .i64 0, .int .i64 0, .int .i64 0, .int .i64 0, .int .i64 0, .string ⟨#[]⟩, .int .i64 0, .int .i64 0, .int .i64 0, .int .i64 0, .int .i64 0, .int .i64 0] 23)) r s 0) := ⟨blk_alloc hr _⟩
  have HC0 := Aside0.mk ((Ch.refl [r] w).alloc (.cells #[.string ⟨#[]⟩, .int .i64 0, .int .i64 0, .int .i64 0, .int .i64 0, .int .i64 0, .int .i64 0, .int .i64 0, .int .i64 0, .int .i64 0, .int .i64 0, .string ⟨#[]⟩, .int .i64 0, .int .i64 0, .int .i64 0, .int .i64 0, .int .i64 0, .int .i64 0] 23))
  clear hout hr
  unfold resP at HOUT
  go_enter Tryz.func8, Tryz.ntmps8
  go_wp2_with fail
  go_step3
  go_wp2_with fail
  generalize w.alloc (.cells #[.string ⟨#[]⟩, .int .i64 0, .int .i64 0, .int .i64 0, .int .i64 0, .int .i64 0, .int .i64 0, .int .i64 0, .int .i64 0, .int .i64 0, .int .i64 0, .string ⟨#[]⟩, .int .i64 0, .int .i64 0, .int .i64 0, .int .i64 0, .int .i64 0, .int .i64 0] 23) = w0 at *
  have hg0 : w.heap.size < w0.heap.size := blk_lt KG.out
  refine (usual_any w0).mono ?_
  rintro e w1 ⟨rfl, hB1⟩
  have hw1 : w0.heap.size ≤ w1.heap.size := hB1.size
  have hn := blk_new w1 (.cells #[.string ⟨#[]⟩, .int .i64 0, .int .i64 0, .int .i64 0, .int .i64 0, .int .i64 0, .int .i64 0, .int .i64 0, .int .i64 0, .int .i64 0, .int .i64 0, .string ⟨#[]⟩, .int .i64 0, .int .i64 0, .int .i64 0, .int .i64 0, .int .i64 0, .int .i64 0] 23)
  have KG2 := Aside0.mk (blk_alloc (blk_below KG.out hB1) (.cells #[.string ⟨#[]⟩, .int .i64 0, .int .i64 0, .int .i64 0, .int .i64 0, .int .i64 0, .int .i64 0, .int .i64 0, .int .i64 0, .int .i64 0, .int .i64 0, .string ⟨#[]⟩, .int .i64 0, .int .i64 0, .int .i64 0, .int .i64 0, .int .i64 0, .int .i64 0] 23))
  have HR2 : Aside0 (Rd (w1.alloc (.cells #[.string ⟨#[]⟩, .int .i64 0, .int .i64 0, .int .i64 0, .int .i64 0, .int .i64 0, .int .i64 0, .int .i64 0, .int .i64 0, .int .i64 0, .int .i64 0, .string ⟨#[]⟩, .int .i64 0, .int .i64 0, .int .i64 0, .int .i64 0, .int .i64 0, .int .i64 0] 23)) r s 0) := ⟨blk_alloc (blk_below HR0.out hB1) _⟩
  have HC2 := Aside0.mk ((HC0.out.then hB1).alloc (.cells #[.string ⟨#[]⟩, .int .i64 0, .int .i64 0, .int .i64 0, .int .i64 0, .int .i64 0, .int .i64 0, .int .i64 0, .int .i64 0, .int .i64 0, .int .i64 0, .string ⟨#[]⟩, .int .i64 0, .int .i64 0, .int .i64 0, .int .i64 0, .int .i64 0, .int .i64 0] 23))
  clear hB1 KG HR0 HC0
  go_upto_region 2 with (refine store_whole rfl rfl rfl (g := w1.heap.size) rfl (cfgC ⟨#[]⟩ ⟨#[]⟩ kU) rfl hn (by kernel_rfl) (by rfl) (cfgOne _ _ _) ?_; intro w3 h3 hg3)
  have HF3 : Aside0 (CfgAt w3 w1.heap.size ⟨#[]⟩ ⟨#[]⟩ kU) := ⟨h3⟩
  have KG3 := Aside0.mk (grown_blk hg3 KG2.out (by omega))
  have HR3 : Aside0 (Rd w3 r s 0) := ⟨grown_blk hg3 HR2.out (by omega)⟩
  have HC3 := Aside0.mk (HC2.out.stepG hg3 (by omega))
  have hcw : w1.heap.size < w3.heap.size := blk_lt h3
  clear hg3 h3 hn KG2 HR2 HC2
  generalize hcc : w1.heap.size = c at *
  have hcg : w.heap.size < c := by omega
  clear hcc hw1
  have HW1 := Aside0.mk (want_any s hs r 0 (Nat.zero_le _) 0 resB w3 HR3.out)
  have HWL := Aside0.mk (fun a q h => wantP_le s 0 0 resB a q (Nat.zero_le _) h)
  go_wp2_with fail
  cases hwn : wantP s 0 0 resB with
  | error ae =>
    obtain ⟨ea, er⟩ := ae
    rw [hwn] at HOUT HW1
    obtain rfl : out = .error (ea, er) := HOUT.out.symm
    clear HOUT hwn
    refine HW1.out.mono ?_
    rintro e w4 ⟨rfl, hc4⟩
    have HC4 := Aside0.mk (HC3.out.trans hc4)
    clear hc4 HW1
    go_wp2
    exact ⟨rfl, rfl, HC4.out⟩
  | ok aq =>
    obtain ⟨wa, q0⟩ := aq
    rw [hwn] at HOUT HW1 HWL
    have hq0 := (HWL.out _ _ rfl).2
    simp only at HOUT
    clear hwn HWL
    refine HW1.out.mono ?_
    rintro e w4 ⟨rfl, hr4, hc4⟩
    have HR4 := Aside0.mk hr4
    have HC4 := Aside0.mk (HC3.out.trans hc4)
    have HF4 : Aside0 (CfgAt w4 c ⟨#[]⟩ ⟨#[]⟩ kU) := ⟨hc4.blk HF3.out (by simp; omega)⟩
    have KG4 := Aside0.mk (hc4.blk KG3.out (by simp; omega))
    have hcw4 : c < w4.heap.size := blk_lt HF4.out
    clear hr4 hc4 HW1 HR3 HC3 HF3 KG3
    have HN := Aside0.mk (next_any s hs r q0 hq0 w4 HR4.out)
    go_wp2_with fail
    cases hn : nextP s q0 with
    | error a =>
      rw [hn] at HOUT HN
      obtain rfl : out = .error (a, 121) := HOUT.out.symm
      clear HOUT hn
      refine HN.out.mono ?_
      rintro e w5 ⟨rfl, hc5⟩
      have HC5 := Aside0.mk (HC4.out.trans hc5)
      clear hc5 HN
      go_wp2
      exact ⟨rfl, rfl, HC5.out⟩
    | ok tk =>
      obtain ⟨kd, a, v, q⟩ := tk
      rw [hn] at HOUT HN
      simp only at HOUT
      have hpq := nextP_le s q0 kd a v q hq0 hn
      clear hn
      refine HN.out.mono ?_
      rintro e w5 ⟨rfl, hr5, hc5⟩
      have hw5 : w4.heap.size ≤ w5.heap.size := hc5.size
      have hn := blk_new w5 (.cells #[.int .i64 0, .int .i64 0, .string ⟨#[]⟩] 49)
      have HR6 : Aside0 (Rd (w5.alloc (.cells #[.int .i64 0, .int .i64 0, .string ⟨#[]⟩] 49)) r s q) := ⟨blk_alloc hr5 _⟩
      have HC6 := Aside0.mk ((HC4.out.trans hc5).alloc (.cells #[.int .i64 0, .int .i64 0, .string ⟨#[]⟩] 49))
      have HF6 : Aside0 (CfgAt (w5.alloc (.cells #[.int .i64 0, .int .i64 0, .string ⟨#[]⟩] 49)) c ⟨#[]⟩ ⟨#[]⟩ kU) := ⟨blk_alloc (hc5.blk HF4.out (by simp; omega)) _⟩
      have KG6 := Aside0.mk (blk_alloc (hc5.blk KG4.out (by simp; omega)) (.cells #[.int .i64 0, .int .i64 0, .string ⟨#[]⟩] 49))
      clear hr5 hc5 HN HR4 HC4 HF4 KG4
      go_upto_region 4 with (refine store_whole rfl rfl rfl (g := w5.heap.size) rfl (tokC kd a v) rfl hn (by kernel_rfl) (by rfl) (tokOne kd a v) ?_; intro w7 h7 hg7)
      have KT := Aside0.mk h7
      have HR7 : Aside0 (Rd w7 r s q) := ⟨grown_blk hg7 HR6.out (by omega)⟩
      have HC7 := Aside0.mk (HC6.out.stepG hg7 (by omega))
      have HF7 : Aside0 (CfgAt w7 c ⟨#[]⟩ ⟨#[]⟩ kU) := ⟨grown_blk hg7 HF6.out (by omega)⟩
      have KG7 := Aside0.mk (grown_blk hg7 KG6.out (by omega))
      have htw : w5.heap.size < w7.heap.size := blk_lt h7
      clear hg7 h7 hn HR6 HC6 HF6 KG6
      have hct : c < w5.heap.size := by omega
      generalize hTT : w5.heap.size = T at *
      clear hTT hw5
      have t0 : w7.cell? ⟨T, 0, none⟩ = some (.int .i64 (kd : Int)) := (blk_cell KT.out 0).trans rfl
      have t1 : w7.cell? ⟨T, 1, none⟩ = some (.int .i64 (a : Int)) := (blk_cell KT.out 1).trans rfl
      have t2 : w7.cell? ⟨T, 2, none⟩ = some (.string v) := (blk_cell KT.out 2).trans rfl
      by_cases hk0 : kd = 0
      case neg =>
        rw [if_pos hk0] at HOUT
        obtain rfl : out = .error (a, 121) := HOUT.out.symm
        have hk0n : ((kd : Int) != 0) = true := by simp; omega
        have hk0b : ((kd : Int) == 0) = false := by simp; omega
        clear HOUT hk0
        go_wp2_with fail
        refine (give_any a 121 w7).mono ?_
        rintro e w' ⟨rfl, rfl⟩
        go_wp2
        exact ⟨rfl, rfl, HC7.out⟩
      case pos =>
        subst hk0
        rw [if_neg (by simp)] at HOUT
        go_wp2_with fail
        refine (Go.Proofs.YtfecfgimfjcbdaaGreatDoor.QCParse.conf_isName.calls (v.size + 4) v _ w7 (isName_f v)).mono ?_
        rintro e w8 ⟨rfl, hD⟩
        have KT8 := Aside0.mk (blk_below KT.out hD.below)
        have HR8 : Aside0 (Rd w8 r s q) := ⟨blk_below HR7.out hD.below⟩
        have HC8 := Aside0.mk (HC7.out.then hD.below)
        have HF8 : Aside0 (CfgAt w8 c ⟨#[]⟩ ⟨#[]⟩ kU) := ⟨blk_below HF7.out hD.below⟩
        have KG8 := Aside0.mk (blk_below KG7.out hD.below)
        clear hD KT HR7 HC7 HF7 KG7 t0 t1 t2
        have t1 : w8.cell? ⟨T, 1, none⟩ = some (.int .i64 (a : Int)) := (blk_cell KT8.out 1).trans rfl
        have t2 : w8.cell? ⟨T, 2, none⟩ = some (.string v) := (blk_cell KT8.out 2).trans rfl
        cases hnm : nameI v with
        | false =>
          rw [hnm, if_pos rfl] at HOUT
          obtain rfl : out = .error (a, 124) := HOUT.out.symm
          clear HOUT
          go_wp2_with fail
          refine (give_any a 124 w8).mono ?_
          rintro e w' ⟨rfl, rfl⟩
          go_wp2
          exact ⟨rfl, rfl, HC8.out⟩
        | true =>
          rw [hnm, if_neg (by simp)] at HOUT
          clear hnm
          have o0 : w8.cell? ⟨c, 0, none⟩ = some (.string ⟨#[]⟩) := (blk_cell HF8.out 0).trans rfl
          have f0 : w8.frozen? ⟨c, 0, none⟩ = false := blk_frozen HF8.out 0
          have HF9 : Aside0 (CfgAt (w8.setCell ⟨c, 0, none⟩ (.string v)) c v ⟨#[]⟩ kU) := ⟨HF8.out.setN v⟩
          have HR9 : Aside0 (Rd (w8.setCell ⟨c, 0, none⟩ (.string v)) r s q) := ⟨blk_far HR8.out (by show r ≠ c; omega) _⟩
          have HC9 : Aside0 (Ch [r] w (w8.setCell ⟨c, 0, none⟩ (.string v))) := ⟨HC8.out.step ((Ch.refl [r, c] w8).set (by simp) 0 _) (by omega)⟩
          have KT9 : Aside0 ((w8.setCell ⟨c, 0, none⟩ (.string v)).heap[T]? = some (.cells (tokC 0 a v) 49 (0, 0))) := ⟨blk_far KT8.out (by show T ≠ c; omega) _⟩
          have KG9 : Aside0 ((w8.setCell ⟨c, 0, none⟩ (.string v)).heap[w.heap.size]? = some (.cells #[.string ⟨#[]⟩, .int .i64 0, .int .i64 0, .int .i64 0, .int .i64 0, .int .i64 0, .int .i64 0, .int .i64 0, .int .i64 0, .int .i64 0, .int .i64 0, .string ⟨#[]⟩, .int .i64 0, .int .i64 0, .int .i64 0, .int .i64 0, .int .i64 0, .int .i64 0] 23 (0, 0))) := ⟨blk_far KG8.out (by show w.heap.size ≠ c; omega) _⟩
          clear HF8 HR8 HC8 KT8 KG8 t1
          go_wp2_with fail
          clear o0 f0 t2
          generalize w8.setCell ⟨c, 0, none⟩ (.string v) = w9 at *
          have HW2 := Aside0.mk (want_any s hs r q hpq.2.2 1 openB w9 HR9.out)
          have HWL := Aside0.mk (fun a' q' h => wantP_le s q 1 openB a' q' hpq.2.2 h)
          cases hwn : wantP s q 1 openB with
          | error ae =>
            obtain ⟨ea, er⟩ := ae
            rw [hwn] at HOUT HW2
            obtain rfl : out = .error (ea, er) := HOUT.out.symm
            clear HOUT hwn
            refine HW2.out.mono ?_
            rintro e wA ⟨rfl, hcA⟩
            have HCA := Aside0.mk (HC9.out.trans hcA)
            clear hcA HW2
            go_wp2
            exact ⟨rfl, rfl, HCA.out⟩
          | ok aq =>
            obtain ⟨wa1, q1⟩ := aq
            rw [hwn] at HOUT HW2 HWL
            have hq1 := (HWL.out _ _ rfl).2
            simp only at HOUT
            clear hwn HWL
            refine HW2.out.mono ?_
            rintro e wA ⟨rfl, hrA, hcA⟩
            have HRA := Aside0.mk hrA
            have HCA := Aside0.mk (HC9.out.trans hcA)
            have HFA : Aside0 (CfgAt wA c v ⟨#[]⟩ kU) := ⟨hcA.blk HF9.out (by simp; omega)⟩
            have KTA := Aside0.mk (hcA.blk KT9.out (by simp; omega))
            have KGA := Aside0.mk (hcA.blk KG9.out (by simp; omega))
            clear hrA hcA HW2 HR9 HC9 HF9 KT9 KG9
            have hmm := @run_makeMap Tryz.prog
            have HS5 : Aside0 (Stood ((wA.alloc (.map #[] 0)).alloc (.map #[] 0)) wA.heap.size []) := ⟨(Stood.new wA).ch ((Ch.refl [] _).alloc _) (by simp)⟩
            have HS6 : Aside0 (Stood ((wA.alloc (.map #[] 0)).alloc (.map #[] 0)) (wA.heap.size + 1) []) := ⟨by have := Stood.new (wA.alloc (.map #[] 0)); rwa [World.size_alloc] at this⟩
            have HRB : Aside0 (Rd ((wA.alloc (.map #[] 0)).alloc (.map #[] 0)) r s q1) := ⟨blk_alloc (blk_alloc HRA.out _) _⟩
            have HFB : Aside0 (CfgAt ((wA.alloc (.map #[] 0)).alloc (.map #[] 0)) c v ⟨#[]⟩ kU) := ⟨blk_alloc (blk_alloc HFA.out _) _⟩
            have HCB := Aside0.mk ((HCA.out.alloc (.map #[] 0)).alloc (.map #[] 0))
            have KTB := Aside0.mk (blk_alloc (blk_alloc KTA.out (.map #[] 0)) (.map #[] 0))
            have KGB := Aside0.mk (blk_alloc (blk_alloc KGA.out (.map #[] 0)) (.map #[] 0))
            have hTA : T < wA.heap.size := blk_lt KTA.out
            clear HRA HCA HFA KTA KGA
            go_wp2
            go_step3
            go_upto_region 12 with fail
            clear hmm
            generalize (wA.alloc (.map #[] 0)).alloc (.map #[] 0) = wB at *
            generalize wA.heap.size = b5 at *
            have hrT : r < T := by omega
            have hgT : w.heap.size < T := by omega
            clear htw hcw hcw4 hpq hq0 hg0
            go_loopg [6] (s.size + 1) (fun kq v6 wr => ∃ (p bd : Nat) (L D : List ByteArray) (sc : ByteArray) (k : Nat → Int) (tk ta : Nat) (tv : ByteArray), p ≤ s.size ∧ s.size - p < kq ∧ L.length ≤ p ∧ v6 = .map (some bd) ∧ b5 < bd ∧ Aside0 (Rd wr r s p) ∧ Aside0 (CfgAt wr c v sc k) ∧ Aside0 (Ch [r] w wr) ∧ Aside0 (Stood wr b5 L) ∧ Aside0 (Stood wr bd D) ∧ Aside0 (wr.heap[T]? = some (.cells (tokC tk ta tv) 49 (0, 0))) ∧ Aside0 (wr.heap[w.heap.size]? = some (.cells #[.string ⟨#[]⟩, .int .i64 0, .int .i64 0, .int .i64 0, .int .i64 0, .int .i64 0, .int .i64 0, .int .i64 0, .int .i64 0, .int .i64 0, .int .i64 0, .string ⟨#[]⟩, .int .i64 0, .int .i64 0, .int .i64 0, .int .i64 0, .int .i64 0, .int .i64 0] 23 (0, 0))) ∧ Aside0 ((match partsP s kq p L D sc k with | .error e => .error e | .ok y => endP s v y) = out))
            case atStart => exact ⟨q1, b5 + 1, [], [], ⟨#[]⟩, kU, 0, a, v, hq1, by omega, by simp, rfl, by omega, HRB, HFB, HCB, HS5, HS6, KTB, KGB, HOUT⟩
            case round =>
              clear HRB HFB HCB HS5 HS6 KTB KGB HOUT
              obtain ⟨p, bd, L, D, sc, k, tk, ta, tv, hp, hk, hL, rfl, hbd, HR, HF, HC, HS5, HS6, KT, KG, HQ⟩ := hrel
              obtain ⟨f, rfl⟩ : ∃ f, gk = f + 1 := ⟨gk - 1, by omega⟩
              simp only [partsP] at HQ
              have hb5 : b5 < wr.heap.size := HS5.out.lt
              have hbw : bd < wr.heap.size := HS6.out.lt
              have HN := Aside0.mk (next_any s hs r p hp wr HR.out)
              go_wp2_with fail
              cases hn : nextP s p with
              | error a =>
                rw [hn] at HQ HN
                obtain rfl : out = .error (a, 121) := HQ.out.symm
                clear HQ hn
                refine HN.out.mono ?_
                rintro e w2 ⟨rfl, hc2⟩
                have HC2 := Aside0.mk (HC.out.trans hc2)
                clear hc2 HN
                go_wp2
                exact ⟨rfl, rfl, HC2.out⟩
              | ok tok =>
                obtain ⟨kd, a, tv', q⟩ := tok
                rw [hn] at HQ HN
                simp only at HQ
                have hpq := nextP_le s p kd a tv' q hp hn
                have HVS : Aside0 (kd = 0 → tv'.size ≤ 1000000) := ⟨fun h0 => by subst h0; exact nextP_size s hs p a tv' q hn⟩
                clear hn
                refine HN.out.mono ?_
                rintro e w2 ⟨rfl, hr2, hc2⟩
                have hw2 : wr.heap.size ≤ w2.heap.size := hc2.size
                have HR3 : Aside0 (Rd w2 r s q) := ⟨hr2⟩
                have HC3 := Aside0.mk (HC.out.trans hc2)
                have HF3 : Aside0 (CfgAt w2 c v sc k) := ⟨hc2.blk HF.out (by simp; omega)⟩
                have HS53 := Aside0.mk (HS5.out.ch hc2 (by simp; omega))
                have HS63 := Aside0.mk (HS6.out.ch hc2 (by simp; omega))
                have KT3 := hc2.blk KT.out (by simp; omega)
                have KG3 := Aside0.mk (hc2.blk KG.out (by simp; omega))
                clear hr2 hc2 HN HR HF HC HS5 HS6 KT KG
                go_upto_region 13 with (refine store_whole rfl rfl rfl (g := T) rfl (tokC kd a tv') rfl KT3 (by kernel_rfl) (by rfl) (tokOne kd a tv') ?_; intro w3 h3 hg3)
                have HB := Aside0.mk h3
                have HR4 : Aside0 (Rd w3 r s q) := ⟨grown_blk hg3 HR3.out (by omega)⟩
                have HC4 := Aside0.mk (HC3.out.stepG hg3 (by omega))
                have HF4 : Aside0 (CfgAt w3 c v sc k) := ⟨grown_blk hg3 HF3.out (by omega)⟩
                have HS54 : Aside0 (Stood w3 b5 L) := ⟨HS53.out.keep (hg3.block _ HS53.out.lt (by simp; omega))⟩
                have HS64 : Aside0 (Stood w3 bd D) := ⟨HS63.out.keep (hg3.block _ HS63.out.lt (by simp; omega))⟩
                have KG4 := Aside0.mk (grown_blk hg3 KG3.out (by omega))
                clear hg3 h3 KT3 HR3 HC3 HF3 HS53 HS63 KG3
                have t0 : w3.cell? ⟨T, 0, none⟩ = some (.int .i64 (kd : Int)) := (blk_cell HB.out 0).trans rfl
                have t1 : w3.cell? ⟨T, 1, none⟩ = some (.int .i64 (a : Int)) := (blk_cell HB.out 1).trans rfl
                have t2 : w3.cell? ⟨T, 2, none⟩ = some (.string tv') := (blk_cell HB.out 2).trans rfl
                by_cases hend : kd = 1 ∧ tv'.toList = [125]
                · rw [if_pos hend] at HQ
                  obtain ⟨rfl, he⟩ := hend
                  have heb : (tv'.toList == [125]) = true := beq_iff_eq.2 he
                  simp only [endP] at HQ
                  clear he HVS HS54
                  have rb := look_run HS64.out (⟨#[98, 108, 111, 99, 107, 115]⟩ : ByteArray) (by decide)
                  have rs := look_run HS64.out (⟨#[98, 108, 111, 99, 107, 45, 115, 105, 122, 101]⟩ : ByteArray) (by decide)
                  cases hsb : seen D blkB with
                  | false =>
                    rw [hsb, Bool.false_and, if_pos rfl] at HQ
                    obtain rfl : out = .error (a, 125) := HQ.out.symm
                    rw [show seen D (⟨#[98, 108, 111, 99, 107, 115]⟩ : ByteArray) = false from hsb, if_neg (by decide)] at rb
                    clear HQ rs hsb
                    go_wp2_with fail
                    refine (give_any a 125 w3).mono ?_
                    rintro e w' ⟨rfl, rfl⟩
                    go_wp2
                    exact ⟨rfl, rfl, HC4.out⟩
                  | true =>
                    rw [show seen D (⟨#[98, 108, 111, 99, 107, 115]⟩ : ByteArray) = true from hsb, if_pos rfl] at rb
                    cases hss : seen D sizB with
                    | false =>
                      rw [hsb, hss, Bool.true_and, if_pos rfl] at HQ
                      obtain rfl : out = .error (a, 125) := HQ.out.symm
                      rw [show seen D (⟨#[98, 108, 111, 99, 107, 45, 115, 105, 122, 101]⟩ : ByteArray) = false from hss, if_neg (by decide)] at rs
                      clear HQ hsb hss
                      go_wp2_with fail
                      refine (give_any a 125 w3).mono ?_
                      rintro e w' ⟨rfl, rfl⟩
                      go_wp2
                      exact ⟨rfl, rfl, HC4.out⟩
                    | true =>
                      rw [hsb, hss, Bool.true_and, if_neg (by simp)] at HQ
                      rw [show seen D (⟨#[98, 108, 111, 99, 107, 45, 115, 105, 122, 101]⟩ : ByteArray) = true from hss, if_pos rfl] at rs
                      clear hsb hss
                      go_upto_region 30 with fail
                      clear rb rs HS64
                      have hqs := hpq.2.2
                      clear t0 t2
                      go_wp2_with ((with_reducible refine gate_dst (N := 122) rfl ?_); refine wpList_load_row rfl 23 _ rfl c rfl 23 (cfgC v sc k) (0, 0) _ HF4.out Tryz.underlying23 rfl (by kernel_rfl) ?_)
                      refine (Go.Proofs.YtfecfgimfjcbdaaGreatDoor.QCParse.conf_together.calls v (k 1) (k 2) (k 3) (k 0) (k 4) (k 5) (k 6) (k 7) (k 8) (k 9) sc (k 10) (k 11) (k 12) (k 13) (k 14) (k 15) _ w3 (tog_f v sc k)).mono ?_
                      rintro e w5 ⟨rfl, hB5⟩
                      have HB5 := Aside0.mk (blk_below HB.out hB5)
                      have HR5 : Aside0 (Rd w5 r s q) := ⟨blk_below HR4.out hB5⟩
                      have HF5 : Aside0 (CfgAt w5 c v sc k) := ⟨blk_below HF4.out hB5⟩
                      have HC5 := Aside0.mk (HC4.out.then hB5)
                      have KG5 := Aside0.mk (blk_below KG4.out hB5)
                      clear hB5 HB HR4 HF4 HC4 KG4 t1
                      have t1 : w5.cell? ⟨T, 1, none⟩ = some (.int .i64 (a : Int)) := (blk_cell HB5.out 1).trans rfl
                      cases htg : togI k with
                      | false =>
                        rw [htg, if_pos rfl] at HQ
                        obtain rfl : out = .error (a, 124) := HQ.out.symm
                        clear HQ htg
                        go_wp2_with fail
                        refine (give_any a 124 w5).mono ?_
                        rintro e w' ⟨rfl, rfl⟩
                        go_wp2
                        exact ⟨rfl, rfl, HC5.out⟩
                      | true =>
                        rw [htg, if_neg (by simp)] at HQ
                        clear htg
                        go_wp2_with fail
                        refine (more_any s hs r q hqs w5 HR5.out).mono ?_
                        rintro e w6 ⟨rfl, hr6, hc6⟩
                        have HR6 := Aside0.mk hr6
                        have HC6 := Aside0.mk (HC5.out.trans hc6)
                        have HF6 : Aside0 (CfgAt w6 c v sc k) := ⟨hc6.blk HF5.out (by simp; omega)⟩
                        have KG6 := Aside0.mk (hc6.blk KG5.out (by simp; omega))
                        clear hr6 hc6 HB5 HR5 HF5 HC5 KG5 t1
                        have hsl := skp_le s q hqs
                        obtain ⟨qe, hqe⟩ : ∃ qe, skp s q = qe := ⟨_, rfl⟩
                        rw [hqe] at HQ HR6 hsl
                        rw [hqe]
                        clear hqe
                        by_cases hmore : qe < s.size
                        · rw [if_pos hmore] at HQ
                          have dm : decide (qe < s.size) = true := decide_eq_true hmore
                          have HN6 := Aside0.mk (next_any s hs r qe hsl w6 HR6.out)
                          go_wp2_with fail
                          cases hn6 : nextP s qe with
                          | error ea =>
                            rw [hn6] at HQ HN6
                            obtain rfl : out = .error (ea, 121) := HQ.out.symm
                            clear HQ hn6
                            refine HN6.out.mono ?_
                            rintro e w7 ⟨rfl, hc7⟩
                            have HC7 := Aside0.mk (HC6.out.trans hc7)
                            clear hc7 HN6
                            go_wp2
                            exact ⟨rfl, rfl, HC7.out⟩
                          | ok te =>
                            obtain ⟨ekd, ea, ev, eq⟩ := te
                            rw [hn6] at HQ HN6
                            obtain rfl : out = .error (ea, 121) := HQ.out.symm
                            clear HQ hn6
                            refine HN6.out.mono ?_
                            rintro e w7 ⟨rfl, _, hc7⟩
                            have HC7 := Aside0.mk (HC6.out.trans hc7)
                            clear hc7 HN6
                            simp only [tokC]
                            have hfd := field_tok (.int .i64 (ekd : Int)) (.int .i64 (ea : Int)) (.string ev) w7
                            go_wp2_with fail
                            refine (give_any ea 121 w7).mono ?_
                            rintro e w' ⟨rfl, rfl⟩
                            go_wp2
                            exact ⟨rfl, rfl, HC7.out⟩
                        · rw [if_neg hmore] at HQ
                          have dm : decide (qe < s.size) = false := decide_eq_false hmore
                          obtain rfl : out = .ok (v, sc, k) := HQ.out.symm
                          clear HQ hmore
                          go_wp2_with (first | ((with_reducible refine gate_dst (N := 134) rfl ?_); refine wpList_load_row rfl 23 _ rfl c rfl 23 (cfgC v sc k) (0, 0) _ HF6.out Tryz.underlying23 rfl (by kernel_rfl) ?_) | (refine store_whole rfl rfl rfl (g := w.heap.size) rfl (cfgC v sc k) rfl KG6.out (by kernel_rfl) (by rfl) (cfgOne _ _ _) ?_; intro w7 h7 hg7))
                          rw [Exit.noGoto_ret]
                          refine bodyPost_ret (results_c1 rfl _ _ w.heap.size 23 (cfgC v sc k) (0, 0) _ rfl h7 Tryz.underlying23 rfl (by kernel_rfl)) rfl ?_
                          exact ⟨rfl, HC6.out.stepG hg7 (Nat.le_refl _)⟩
                · rw [if_neg hend] at HQ
                  by_cases hk0 : kd = 0
                  case neg =>
                    rw [if_pos hk0] at HQ
                    obtain rfl : out = .error (a, 121) := HQ.out.symm
                    have hk0n : ((kd : Int) != 0) = true := by simp; omega
                    have hk0b : ((kd : Int) == 0) = false := by simp; omega
                    clear HQ HVS hk0
                    by_cases hk1 : kd = 1
                    · subst hk1
                      have heb : (tv'.toList == [125]) = false := beq_eq_false_iff_ne.2 (fun e => hend ⟨rfl, e⟩)
                      clear hend
                      go_wp2_with fail
                      refine (give_any a 121 w3).mono ?_
                      rintro e w' ⟨rfl, rfl⟩
                      go_wp2
                      exact ⟨rfl, rfl, HC4.out⟩
                    · have hk1b : ((kd : Int) == 1) = false := by simp; omega
                      clear hend hk1
                      go_wp2_with fail
                      refine (give_any a 121 w3).mono ?_
                      rintro e w' ⟨rfl, rfl⟩
                      go_wp2
                      exact ⟨rfl, rfl, HC4.out⟩
                  case pos =>
                    subst hk0
                    rw [if_neg (by simp)] at HQ
                    have hvs := HVS.out rfl
                    clear hend HVS
                    go_upto_region 16 with fail
                    go_cut [53] from 35 to 108 (fun v53 wx => v53 = .bool (!isPart tv') ∧ w3 = wx)
                    case first =>
                      by_cases e1 : tv'.toList = protB
                      · have d1 : (tv'.toList == [112, 114, 111, 116, 111, 99, 111, 108]) = true := beq_iff_eq.2 e1
                        have hpv : isPart tv' = true := by unfold isPart; rw [beq_iff_eq.2 e1]; rfl
                        clear e1
                        go_wp2_with fail
                        go_meet
                        exact ⟨by rw [hpv]; rfl, rfl⟩
                      · have d1 : (tv'.toList == [112, 114, 111, 116, 111, 99, 111, 108]) = false := beq_eq_false_iff_ne.2 e1
                        by_cases e2 : tv'.toList = devB
                        · have d2 : (tv'.toList == [100, 101, 118, 105, 99, 101]) = true := beq_iff_eq.2 e2
                          have hpv : isPart tv' = true := by unfold isPart; rw [beq_iff_eq.2 e2]; simp
                          clear e1 e2
                          go_wp2_with fail
                          go_meet
                          exact ⟨by rw [hpv]; rfl, rfl⟩
                        · have d2 : (tv'.toList == [100, 101, 118, 105, 99, 101]) = false := beq_eq_false_iff_ne.2 e2
                          by_cases e3 : tv'.toList = netB
                          · have d3 : (tv'.toList == [110, 101, 116]) = true := beq_iff_eq.2 e3
                            have hpv : isPart tv' = true := by unfold isPart; rw [beq_iff_eq.2 e3]; simp
                            clear e1 e2 e3
                            go_wp2_with fail
                            go_meet
                            exact ⟨by rw [hpv]; rfl, rfl⟩
                          · have d3 : (tv'.toList == [110, 101, 116]) = false := beq_eq_false_iff_ne.2 e3
                            by_cases e4 : tv'.toList = synB
                            · have d4 : (tv'.toList == [115, 121, 110, 99, 101, 114]) = true := beq_iff_eq.2 e4
                              have hpv : isPart tv' = true := by unfold isPart; rw [beq_iff_eq.2 e4]; simp
                              clear e1 e2 e3 e4
                              go_wp2_with fail
                              go_meet
                              exact ⟨by rw [hpv]; rfl, rfl⟩
                            · have d4 : (tv'.toList == [115, 121, 110, 99, 101, 114]) = false := beq_eq_false_iff_ne.2 e4
                              have hpv : isPart tv' = false := by
                                unfold isPart
                                rw [beq_eq_false_iff_ne.2 e1, beq_eq_false_iff_ne.2 e2, beq_eq_false_iff_ne.2 e3, beq_eq_false_iff_ne.2 e4]
                                rfl
                              clear e1 e2 e3 e4
                              go_wp2_with fail
                              go_meet
                              exact ⟨by rw [hpv]; rfl, rfl⟩
                    case rest =>
                    obtain ⟨rfl, rfl⟩ := hcut
                    cases hpt : isPart tv' with
                    | false =>
                      rw [hpt, if_pos rfl] at HQ
                      obtain rfl : out = .error (a, 122) := HQ.out.symm
                      clear HQ hpt
                      go_wp2_with fail
                      refine (give_any a 122 w3).mono ?_
                      rintro e w' ⟨rfl, rfl⟩
                      go_wp2
                      exact ⟨rfl, rfl, HC4.out⟩
                    | true =>
                      rw [hpt, if_neg (by simp)] at HQ
                      clear hpt
                      have rl := look_run HS54.out tv' (by unfold maxLen; omega)
                      by_cases hseen : seen L tv' = true
                      · rw [if_pos hseen] at HQ rl
                        obtain rfl : out = .error (a, 123) := HQ.out.symm
                        clear HQ hseen
                        go_wp2_with fail
                        refine (give_any a 123 w3).mono ?_
                        rintro e w' ⟨rfl, rfl⟩
                        go_wp2
                        exact ⟨rfl, rfl, HC4.out⟩
                      · rw [if_neg hseen] at HQ rl
                        clear hseen
                        obtain ⟨n, DD, hown, hnL, hD⟩ := HS54.out
                        have HKV := Aside0.mk (keyOf_string_mk (s := tv') Tryz.underlying9 (by unfold maxLen; omega))
                        have hn1 : n < maxLen := by unfold maxLen; omega
                        have HOW := Aside0.mk hown
                        have HDD := Aside0.mk hD
                        clear hown hD
                        go_upto_region 21 with (at_mapUpdate; refine wpList_mapUpdate_own _ rfl _ _ _ 53 rfl 9 3 keyLaw Tryz.underlying53 _ b5 n DD rfl HOW.out hn1 _ _ _ rfl rfl HKV.out _ [] (plainElem_int Tryz.underlying3 (by decide)) ?_; intro w6 hown6 hg6)
                        have HS56 := Aside0.mk (Stood.put HOW.out hnL HDD.out hown6)
                        have HR6 : Aside0 (Rd w6 r s q) := ⟨grown_blk hg6 HR4.out (by omega)⟩
                        have HF6 : Aside0 (CfgAt w6 c v sc k) := ⟨grown_blk hg6 HF4.out (by omega)⟩
                        have HC6 := Aside0.mk (HC4.out.stepG hg6 (by omega))
                        have HS66 : Aside0 (Stood w6 bd D) := ⟨HS64.out.keep (hg6.block _ HS64.out.lt (by simp; omega))⟩
                        have KG6 := Aside0.mk (grown_blk hg6 KG4.out (by omega))
                        have HB6 := Aside0.mk (grown_blk hg6 HB.out (by omega))
                        clear hown6 hg6 HDD HOW HKV HS54 HR4 HF4 HC4 HS64 KG4 HB t0 t1 t2 rl
                        have t2 : w6.cell? ⟨T, 2, none⟩ = some (.string tv') := (blk_cell HB6.out 2).trans rfl
                        obtain ⟨fo, hfo⟩ : ∃ fo, findP ⟨#[]⟩ tv' = fo := ⟨_, rfl⟩
                        rw [hfo] at HQ
                        have HFI := Aside0.mk (find_any ⟨#[]⟩ tv' w6 fo hfo)
                        clear hfo
                        go_wp2_with fail
                        refine HFI.out.mono ?_
                        rintro e w7 hf7
                        have hB7 := hf7.1
                        have hw7 : w6.heap.size ≤ w7.heap.size := hB7.size
                        have HS57 : Aside0 (Stood w7 b5 (tv' :: L)) := ⟨HS56.out.keep (hB7.block _ HS56.out.lt)⟩
                        have HS67 : Aside0 (Stood w7 bd D) := ⟨HS66.out.keep (hB7.block _ HS66.out.lt)⟩
                        have HR7 : Aside0 (Rd w7 r s q) := ⟨blk_below HR6.out hB7⟩
                        have HF7 : Aside0 (CfgAt w7 c v sc k) := ⟨blk_below HF6.out hB7⟩
                        have HC7 := Aside0.mk (HC6.out.then hB7)
                        have HB7 := Aside0.mk (blk_below HB6.out hB7)
                        have KG7 := Aside0.mk (blk_below KG6.out hB7)
                        have h6b : b5 < w6.heap.size ∧ bd < w6.heap.size := ⟨HS56.out.lt, HS66.out.lt⟩
                        clear hB7 HFI HS56 HS66 HR6 HF6 HC6 HB6 KG6 t2
                        have t2 : w7.cell? ⟨T, 2, none⟩ = some (.string tv') := (blk_cell HB7.out 2).trans rfl
                        cases fo with
                        | some key =>
                          simp only at HQ
                          obtain ⟨kp, rfl, hkp⟩ := KeyPtr.of_find hf7 (Ch.refl [] w7) (by simp)
                          have HKP := Aside0.mk hkp
                          clear hf7 hkp
                          obtain ⟨vo, hvo⟩ : ∃ vo, valueP s q key sc k = vo := ⟨_, rfl⟩
                          have HVA := Aside0.mk (value_any s hs r c q w6.heap.size (by omega) (by omega) hpq.2.2 v sc k key kp w7 HR7.out HF7.out HKP.out vo hvo)
                          have HVL := Aside0.mk (fun y hy => valueP_le s q key sc k y hpq.2.2 hy)
                          rw [hvo] at HQ HVL
                          clear hvo HKP
                          go_wp2_with fail
                          refine HVA.out.mono ?_
                          rintro e w8 hp8
                          clear HVA
                          cases vo with
                          | error ae =>
                            obtain ⟨ea, er⟩ := ae
                            simp only at HQ
                            obtain rfl : out = .error (ea, er) := HQ.out.symm
                            obtain ⟨rfl, hc8⟩ := hp8
                            have HC8 := Aside0.mk (HC7.out.step hc8 (by omega))
                            clear hc8 HQ HVL
                            go_wp2
                            exact ⟨rfl, rfl, HC8.out⟩
                          | ok y =>
                            obtain ⟨sc', k', q'⟩ := y
                            simp only at HQ
                            have hq' := HVL.out _ rfl
                            obtain ⟨rfl, hr8, hf8, hc8⟩ := hp8
                            have HC8 := Aside0.mk (HC7.out.step hc8 (by omega))
                            have HR8 := Aside0.mk hr8
                            have HF8 := Aside0.mk hf8
                            have HS58 := Aside0.mk (HS57.out.ch hc8 (by simp; omega))
                            have HS68 := Aside0.mk (HS67.out.ch hc8 (by simp; omega))
                            have HB8 := Aside0.mk (hc8.blk HB7.out (by simp; omega))
                            have KG8 := Aside0.mk (hc8.blk KG7.out (by simp; omega))
                            simp only at hq'
                            clear hr8 hf8 hc8 HVL HS57 HS67 HR7 HF7 HC7 HB7 KG7 t2
                            go_wp2
                            go_roundg f
                            case measure => omega
                            case rel => exact ⟨q', bd, tv' :: L, D, sc', k', 0, a, tv', by omega, by omega, by simp; omega, rfl, hbd, HR8, HF8, HC8, HS58, HS68, HB8, KG8, HQ⟩
                        | none =>
                          simp only at HQ
                          obtain rfl := hf7.2
                          clear hf7
                          have HW7 := Aside0.mk (want_any s hs r q hpq.2.2 1 openB w7 HR7.out)
                          have HWL := Aside0.mk (fun a' q' h => wantP_le s q 1 openB a' q' hpq.2.2 h)
                          go_wp2_with fail
                          cases hwn : wantP s q 1 openB with
                          | error ae =>
                            obtain ⟨ea, er⟩ := ae
                            rw [hwn] at HQ HW7
                            obtain rfl : out = .error (ea, er) := HQ.out.symm
                            clear HQ hwn
                            refine HW7.out.mono ?_
                            rintro e w8 ⟨rfl, hc8⟩
                            have HC8 := Aside0.mk (HC7.out.trans hc8)
                            clear hc8 HW7
                            go_wp2
                            exact ⟨rfl, rfl, HC8.out⟩
                          | ok aq =>
                            obtain ⟨wa2, q2⟩ := aq
                            rw [hwn] at HQ HW7 HWL
                            have hq2 := HWL.out _ _ rfl
                            simp only at HQ
                            clear hwn HWL
                            refine HW7.out.mono ?_
                            rintro e w8 ⟨rfl, hr8, hc8⟩
                            have hw8 : w7.heap.size ≤ w8.heap.size := hc8.size
                            have HR8 := Aside0.mk hr8
                            have HC8 := Aside0.mk (HC7.out.trans hc8)
                            have HF8 : Aside0 (CfgAt w8 c v sc k) := ⟨hc8.blk HF7.out (by simp; omega)⟩
                            have HS58 := Aside0.mk (HS57.out.ch hc8 (by simp; omega))
                            have HS68 := Aside0.mk (HS67.out.ch hc8 (by simp; omega))
                            have HB8 := Aside0.mk (hc8.blk HB7.out (by simp; omega))
                            have KG8 := Aside0.mk (hc8.blk KG7.out (by simp; omega))
                            clear hr8 hc8 HW7 HS57 HS67 HR7 HF7 HC7 HB7 KG7 t2
                            have t2 : w8.cell? ⟨T, 2, none⟩ = some (.string tv') := (blk_cell HB8.out 2).trans rfl
                            obtain ⟨so, hso⟩ : ∃ so, sectP s tv' (s.size + 1) q2 [] sc k = so := ⟨_, rfl⟩
                            have HSE := Aside0.mk (section_any s hs r c q2 (by omega) hq2.2 v sc tv' k w8 HR8.out HF8.out so hso)
                            have HSL := Aside0.mk (fun y hy => sectP_le s tv' (s.size + 1) q2 [] sc k y hq2.2 hy)
                            rw [hso] at HQ HSL
                            clear hso
                            go_wp2_with fail
                            refine HSE.out.mono ?_
                            rintro e w9' hp9
                            clear HSE
                            cases so with
                            | error ae =>
                              obtain ⟨ea, er⟩ := ae
                              simp only at HQ
                              obtain rfl : out = .error (ea, er) := HQ.out.symm
                              obtain ⟨rfl, hc9⟩ := hp9
                              have HC9 := Aside0.mk (HC8.out.step hc9 (by omega))
                              clear hc9 HQ HSL
                              go_wp2
                              exact ⟨rfl, rfl, HC9.out⟩
                            | ok y =>
                              obtain ⟨L2, sc', k', q'⟩ := y
                              simp only at HQ
                              have hq' := HSL.out _ rfl
                              simp only at hq'
                              obtain ⟨⟨b2, rfl, hb2, hs2⟩, hr9, hf9, hc9⟩ := hp9
                              have HC9 := Aside0.mk (HC8.out.step hc9 (by omega))
                              have HR9 := Aside0.mk hr9
                              have HF9 := Aside0.mk hf9
                              have HS29 := Aside0.mk hs2
                              have HS59 := Aside0.mk (HS58.out.ch hc9 (by simp; omega))
                              have HS69 := Aside0.mk (HS68.out.ch hc9 (by simp; omega))
                              have HB9 := Aside0.mk (hc9.blk HB8.out (by simp; omega))
                              have KG9 := Aside0.mk (hc9.blk KG8.out (by simp; omega))
                              clear hr9 hf9 hs2 hc9 HSL HS58 HS68 HR8 HF8 HC8 HB8 KG8 t2
                              have t2 : w9'.cell? ⟨T, 2, none⟩ = some (.string tv') := (blk_cell HB9.out 2).trans rfl
                              cases hdv : (tv'.toList == devB) with
                              | true =>
                                rw [hdv, if_pos rfl] at HQ
                                have hdv2 : (tv'.toList == [100, 101, 118, 105, 99, 101]) = true := hdv
                                clear hdv
                                go_wp2
                                go_roundg f
                                case measure => omega
                                case rel => exact ⟨q', b2, tv' :: L, L2, sc', k', 0, a, tv', by omega, by omega, by simp; omega, rfl, by omega, HR9, HF9, HC9, HS59, HS29, HB9, KG9, HQ⟩
                              | false =>
                                rw [hdv, if_neg (by simp)] at HQ
                                have hdv2 : (tv'.toList == [100, 101, 118, 105, 99, 101]) = false := hdv
                                clear hdv
                                go_wp2
                                go_roundg f
                                case measure => omega
                                case rel => exact ⟨q', bd, tv' :: L, D, sc', k', 0, a, tv', by omega, by omega, by simp; omega, rfl, hbd, HR9, HF9, HC9, HS59, HS69, HB9, KG9, HQ⟩
end Go.Proofs.YtfecfgimfjcbdaaGreatDoor.Cf
