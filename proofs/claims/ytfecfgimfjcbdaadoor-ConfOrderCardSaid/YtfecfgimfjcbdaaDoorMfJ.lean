/- A key's value, and the mark behind it: walked. (Several texts in one: A key's value read; a key found by its name. · A key's value, and the mark behind it: walked.) -/
import Derived.Test.YtfecfgimfjcbdaaDoorMfI
import Derived.Test.YtfecfgimfjcbdaaDoorMfF
namespace Go.Proofs.YtfecfgimfjcbdaaDoor.Cf
open Go.RowKit Go.Proofs.YtfecfgimfjcbdaaDoorW.PrintWords Go.Proofs.YtfecfgimfjcbdaaDoorW.PrintLast Go.Proofs.YtfecfgimfjcbdaaDoorW.PrintMore Go.Proofs.YtfecfgimfjcbdaaDoor.QCParse

def wordV (v : ByteArray) : List ByteArray → List Int → Option Int
  | w :: ws, x :: xs => if w.toList = v.toList then some x else wordV v ws xs
  | _, _ => none
/-- What a token means for a key. -/
def readP (t : KeyT) (kd : Nat) (v : ByteArray) : Option Int :=
  if kd = 0 then match t.2.2.2.2.2 with
    | some p => wordV v p.1 p.2
    | none => match numP v with
      | some n => if tk t (n : Int) = true then some (n : Int) else none
      | none => none
  else none
def RPost (w : World) (o : Option Int) (e : Ending) (w' : World) : Prop :=
  (∃ n : Int, e = .returned (.tuple #[.int .i64 n, .bool o.isSome]) ∧ ∀ m, o = some m → n = m) ∧ Below w.heap.size w w'
theorem rpost {w w' : World} {o : Option Int} {n : Int} {b : Bool} {e : Ending} (he : e = .returned (.tuple #[.int .i64 n, .bool b])) (ho : (o = none ∧ b = false) ∨ (o = some n ∧ b = true)) (hb : Below w.heap.size w w') : RPost w o e w' := by
  refine ⟨⟨n, ?_, ?_⟩, hb⟩
  · rcases ho with ⟨rfl, rfl⟩ | ⟨rfl, rfl⟩ <;> exact he
  · intro m hm
    rcases ho with ⟨rfl, rfl⟩ | ⟨rfl, rfl⟩
    · cases hm
    · exact Option.some.inj hm

set_option maxRecDepth 100000 in
set_option maxHeartbeats 1000000 in
theorem read_any (w : World) (B g i : Nat) (t : KeyT) (hg : B ≤ g) (hK : KeyAt w B g i t) (hwl : ∀ p, t.2.2.2.2.2 = some p → p.1.length = p.2.length) (hwk : ∀ p, t.2.2.2.2.2 = some p → p.1.length ≤ 1000) (kd a : Nat) (v : ByteArray) (hv : kd = 0 → v.size ≤ 1000000) (out : Option Int) (hout : readP t kd v = out) :
    Calls Tryd.prog 112 #[.pointer (some ⟨g, i * 8, none⟩), .agg (tokC kd a v)] w (RPost w out) := by
  have HOUT := Aside0.mk hout
  have HVV := Aside0.mk hv
  clear hout hv
  unfold readP at HOUT
  have HB := Aside0.mk ((Below.refl w.heap.size w).alloc (Nat.le_refl _) (.cells (tokC kd a v) 121))
  have hb := blk_new w (.cells (tokC kd a v) 121)
  have hK1 : KeyAt (w.alloc (.cells (tokC kd a v) 121)) B g i t := hK.keep hg (fun k _ hk => Below.heap_alloc w _ k hk)
  have hgl : g * 0 = 0 := by omega
  clear hK hgl
  go_enter Tryd.func112, Tryd.ntmps112
  go_upto_region 1 with fail
  generalize w.alloc (.cells (tokC kd a v) 121) = w1 at *
  obtain ⟨h0, h1, h2, h3, h4, ⟨vv, u, h5, h6, hvv⟩, h7⟩ := id hK1
  have t0 : w1.cell? ⟨w.heap.size, 0, none⟩ = some (.int .i64 (kd : Int)) := (blk_cell hb 0).trans rfl
  have t2 : w1.cell? ⟨w.heap.size, 2, none⟩ = some (.string v) := (blk_cell hb 2).trans rfl
  have KK := Aside0.mk hK1
  clear hb hK1
  by_cases hk : kd = 0
  case neg =>
    rw [if_neg hk] at HOUT
    have hkb : ((kd : Int) == 0) = false := by simp; omega
    have hkn : ((kd : Int) != 0) = true := by simp; omega
    have ho := HOUT.out
    clear HOUT hk
    have HO := Aside0.mk ho
    clear ho
    go_wp2
    go_ret2
    exact rpost rfl (.inl ⟨HO.out.symm, rfl⟩) HB.out
  case pos =>
    subst hk
    rw [if_pos rfl] at HOUT
    obtain ⟨ts, tn, lo, hi', z, o⟩ := t
    simp only at h0 h1 h2 h3 h4 hvv HOUT hwl hwk
    cases o with
    | none =>
      simp only at hvv HOUT
      obtain ⟨rfl, rfl⟩ := hvv
      go_wp2_with fail
      refine (num_any v (HVV.out (by trivial)) w1).mono ?_
      rintro e w2 ⟨rfl, hB2⟩
      have HB2 := Aside0.mk (below_then HB.out HB.out.size hB2)
      have K2 : Aside0 (KeyAt w2 B g i (ts, tn, lo, hi', z, none)) := ⟨KK.out.keep hg (fun k _ hk => hB2.block k hk)⟩
      clear hB2 KK h0 h1 h2 h3 h4 h5 h6 h7 t0 t2
      cases hn : numP v with
      | none =>
        rw [hn] at HOUT
        simp only [Option.getD_none, Option.isSome_none]
        have HO : Aside0 (out = none) := ⟨HOUT.out.symm⟩
        clear HOUT hn
        go_wp2
        go_ret2
        exact rpost rfl (.inl ⟨HO.out, rfl⟩) HB2.out
      | some n =>
        rw [hn] at HOUT
        simp only at HOUT
        simp only [Option.getD_some, Option.isSome_some]
        have hnb : n ≤ 999999999 * 1024 := by
          unfold numP at hn
          cases hd : digN (cutN v) with
          | none => rw [hd] at hn; cases hn
          | some m =>
            rw [hd] at hn
            obtain rfl := Option.some.inj hn
            have := digN_bd _ _ hd
            exact Nat.mul_le_mul this (by split <;> omega)
        have cT := takes_any w2 B g i (ts, tn, lo, hi', z, none) (n : Int) K2.out ⟨by omega, by omega⟩
        have CT := Aside0.mk cT
        clear hn cT
        go_wp2_with fail
        refine CT.out.mono ?_
        rintro e w3 ⟨rfl, rfl⟩
        clear CT K2
        cases htk : tk (ts, tn, lo, hi', z, none) (n : Int) with
        | false =>
          rw [htk] at HOUT
          have HO : Aside0 (out = none) := ⟨HOUT.out.symm⟩
          clear HOUT htk
          go_wp2
          go_ret2
          exact rpost rfl (.inl ⟨HO.out, rfl⟩) HB2.out
        | true =>
          rw [htk] at HOUT
          have HO : Aside0 (out = some (n : Int)) := ⟨HOUT.out.symm⟩
          clear HOUT htk
          go_wp2
          go_ret2
          exact rpost rfl (.inr ⟨HO.out, rfl⟩) HB2.out
    | some p =>
      obtain ⟨ws, ns⟩ := p
      simp only at hvv HOUT
      have hwn : ws.length = ns.length := hwl _ rfl
      have hwk1 : ws.length ≤ 1000 := hwk _ rfl
      obtain ⟨⟨gw, c, rest, rfl, hc1, hc2, hBw, hb⟩, ⟨gi, rfl, hl, hBi, hbi⟩⟩ := hvv
      go_wp2_with fail
      go_loopg [23] ws.length (fun kq v23 wr => ∃ j : Nat, j ≤ ws.length ∧ kq = ws.length - j ∧ v23 = .int .i64 j ∧ Aside0 (wordV v (ws.drop j) (ns.drop j) = out) ∧ wr = w1)
      case atStart => exact ⟨0, by omega, rfl, rfl, HOUT, rfl⟩
      case round =>
        clear HOUT
        obtain ⟨j, hj, rfl, rfl, HA, hwr⟩ := hrel
        subst hwr
        by_cases hlt : j < ws.length
        · have hd : decide ((j : Int) < ws.length) = true := decide_eq_true (by omega)
          obtain ⟨x, hx⟩ : ∃ x, ns[j]? = some x := ⟨_, List.getElem?_eq_getElem (by omega)⟩
          obtain ⟨y, hy⟩ : ∃ y, ws[j]? = some y := ⟨_, List.getElem?_eq_getElem (by omega)⟩
          have hc : wr.cell? ⟨gi, j, none⟩ = some (.int .i64 x) := by
            rw [blk_cell hbi j, List.getElem?_toArray, List.getElem?_map, hx]
            rfl
          have hcw : wr.cell? ⟨gw, j, none⟩ = some (.string y) := by
            rw [blk_cell hb j, List.getElem?_toArray, List.getElem?_map, List.getElem?_append_left (by omega), hy]
            rfl
          have hdn : ns.drop j = x :: ns.drop (j + 1) := by rw [List.drop_eq_getElem?_toList_append, hx]; rfl
          have hdw : ws.drop j = y :: ws.drop (j + 1) := by rw [List.drop_eq_getElem?_toList_append, hy]; rfl
          rw [hdn, hdw] at HA
          clear hdn hdw hx hy
          have hjl : (j : Int) < ns.length := by omega
          by_cases hxn : y.toList = v.toList
          · have hxb : (y.toList == v.toList) = true := beq_iff_eq.2 hxn
            have HO : Aside0 (out = some x) := ⟨by rw [← HA.out]; simp only [wordV, if_pos hxn]⟩
            clear HA hxn
            go_wp2
            go_ret2
            exact rpost rfl (.inr ⟨HO.out, rfl⟩) HB.out
          · have hxb : (y.toList == v.toList) = false := beq_eq_false_iff_ne.2 hxn
            have HA2 : Aside0 (wordV v (ws.drop (j + 1)) (ns.drop (j + 1)) = out) := ⟨by rw [← HA.out]; simp only [wordV, if_neg hxn]⟩
            clear HA hxn
            go_wp2
            go_roundg (ws.length - (j + 1))
            case measure => omega
            case rel => exact ⟨j + 1, by omega, rfl, by go_num, HA2, rfl⟩
        · have hd : decide ((j : Int) < ws.length) = false := decide_eq_false (by omega)
          obtain rfl : j = ws.length := by omega
          have HO : Aside0 (out = none) := ⟨by rw [← HA.out, List.drop_length]; rfl⟩
          clear HA
          go_wp2
          go_ret2
          exact rpost rfl (.inl ⟨HO.out, rfl⟩) HB.out

/-- The key of that section and name, from place j on. -/
def fIdx (sec nm : ByteArray) : Nat → Nat → Option Nat
  | 0, _ => none
  | n + 1, j => match kTab[j]? with
    | some t => if t.1.toList = sec.toList ∧ t.2.1.toList = nm.toList then some j else fIdx sec nm n (j + 1)
    | none => none
def secB : List UInt8 := [115, 104, 97, 114, 101, 100, 45, 115, 101, 99, 114, 101, 116]
def netB : List UInt8 := [110, 101, 116]
def findP (sec nm : ByteArray) : Option (Option Nat) := if sec.toList = netB ∧ nm.toList = secB then some none else (fIdx sec nm 16 0).map some
def FPost (w : World) (o : Option (Option Nat)) (e : Ending) (w' : World) : Prop :=
  Below w.heap.size w w' ∧ match o with
  | none => e = .returned (.tuple #[.pointer none, .bool false])
  | some none => e = .returned (.tuple #[.pointer none, .bool true])
  | some (some i) => i < 16 ∧ ∃ g, e = .returned (.tuple #[.pointer (some ⟨g, i * 8, none⟩), .bool true]) ∧ w.heap.size ≤ g ∧ ∀ t, kTab[i]? = some t → KeyAt w' w.heap.size g i t
set_option maxRecDepth 100000 in
set_option maxHeartbeats 1000000 in
theorem find_any (sec nm : ByteArray) (w : World) (out : Option (Option Nat)) (hout : findP sec nm = out) :
    Calls Tryd.prog 103 #[.string sec, .string nm] w (FPost w out) := by
  have HOUT := Aside0.mk hout
  clear hout
  unfold findP at HOUT
  by_cases hs : sec.toList = netB ∧ nm.toList = secB
  · rw [if_pos hs] at HOUT
    obtain rfl : out = some none := HOUT.out.symm
    have e1 : (sec.toList == [110, 101, 116]) = true := beq_iff_eq.2 hs.1
    have e2 : (nm.toList == [115, 104, 97, 114, 101, 100, 45, 115, 101, 99, 114, 101, 116]) = true := beq_iff_eq.2 hs.2
    clear HOUT hs
    go_enter Tryd.func103, Tryd.ntmps103
    go_wp2
    go_ret2
    exact ⟨Below.refl _ _, rfl⟩
  · rw [if_neg hs] at HOUT
    go_enter Tryd.func103, Tryd.ntmps103
    go_upto_region 1 with fail
    go_cut [13] from 6 (fun v13 wx => v13 = .bool false ∧ w = wx)
    case first =>
      by_cases h1 : sec.toList = netB
      · have e1 : (sec.toList == [110, 101, 116]) = true := beq_iff_eq.2 h1
        have e2 : (nm.toList == [115, 104, 97, 114, 101, 100, 45, 115, 101, 99, 114, 101, 116]) = false := beq_eq_false_iff_ne.2 (fun e => hs ⟨h1, e⟩)
        clear hs h1
        go_wp2_with fail
        go_meet
        exact ⟨rfl, rfl⟩
      · have e1 : (sec.toList == [110, 101, 116]) = false := beq_eq_false_iff_ne.2 h1
        clear hs h1
        go_wp2_with fail
        go_meet
        exact ⟨rfl, rfl⟩
    case rest =>
    obtain ⟨rfl, rfl⟩ := hcut
    clear hs
    go_wp2_with fail
    refine (keys_any w).mono ?_
    rintro e w1 ⟨g, rfl, hg, hB, hg1, _, hP⟩
    have HB := Aside0.mk hB
    have HP := Aside0.mk hP
    clear hB hP
    go_wp2_with fail
    go_loopg [17] 16 (fun kq v17 wr => ∃ j : Nat, j ≤ 16 ∧ kq = 16 - j ∧ v17 = .int .i64 j ∧ Aside0 ((fIdx sec nm (16 - j) j).map some = out) ∧ wr = w1)
    case atStart => exact ⟨0, by omega, rfl, rfl, HOUT, rfl⟩
    case round =>
      clear HOUT
      obtain ⟨j, hj, rfl, rfl, HA, hwr⟩ := hrel
      subst hwr
      by_cases hlt : j < 16
      · have hd : decide ((j : Int) < 16) = true := decide_eq_true (by omega)
        have hjl : (j : Int) < 16 := by omega
        obtain ⟨t, ht⟩ : ∃ t, kTab[j]? = some t := ⟨_, List.getElem?_eq_getElem hlt⟩
        have s0 : wr.cell? ⟨g, j * 8, none⟩ = some (.string t.1) := (HP.out j t ht).1
        have s1 : wr.cell? ⟨g, j * 8 + 1, none⟩ = some (.string t.2.1) := (HP.out j t ht).2.1
        have HA2 : Aside0 ((if t.1.toList = sec.toList ∧ t.2.1.toList = nm.toList then some j else fIdx sec nm (16 - (j + 1)) (j + 1)).map some = out) := ⟨by
          rw [← HA.out]
          obtain ⟨q, hq⟩ : ∃ q, 16 - j = q + 1 := ⟨15 - j, by omega⟩
          rw [hq, show 16 - (j + 1) = q by omega]
          simp only [fIdx, ht]⟩
        have HT := Aside0.mk ht
        clear HA ht
        by_cases h1 : t.1.toList = sec.toList
        · have e1 : (t.1.toList == sec.toList) = true := beq_iff_eq.2 h1
          by_cases h2 : t.2.1.toList = nm.toList
          · have e2 : (t.2.1.toList == nm.toList) = true := beq_iff_eq.2 h2
            rw [if_pos ⟨h1, h2⟩] at HA2
            obtain rfl : out = some (some j) := HA2.out.symm
            clear HA2 h1 h2
            go_wp2
            go_ret2
            exact ⟨HB.out, hlt, g, rfl, hg, fun t' ht' => HP.out j t' ht'⟩
          · have e2 : (t.2.1.toList == nm.toList) = false := beq_eq_false_iff_ne.2 h2
            rw [if_neg (fun h => h2 h.2)] at HA2
            clear h1 h2
            go_wp2
            go_roundg (16 - (j + 1))
            case measure => omega
            case rel => exact ⟨j + 1, by omega, rfl, by go_num, HA2, rfl⟩
        · have e1 : (t.1.toList == sec.toList) = false := beq_eq_false_iff_ne.2 h1
          rw [if_neg (fun h => h1 h.1)] at HA2
          clear h1
          go_wp2
          go_roundg (16 - (j + 1))
          case measure => omega
          case rel => exact ⟨j + 1, by omega, rfl, by go_num, HA2, rfl⟩
      · have hd : decide ((j : Int) < 16) = false := decide_eq_false (by omega)
        obtain rfl : j = 16 := by omega
        obtain rfl : out = none := HA.out.symm
        clear HA
        go_wp2
        go_ret2
        exact ⟨HB.out, rfl⟩
end Go.Proofs.YtfecfgimfjcbdaaDoor.Cf

namespace Go.Proofs.YtfecfgimfjcbdaaDoor.Cf
open Go.RowKit Go.Proofs.YtfecfgimfjcbdaaDoorW.PrintWords Go.Proofs.YtfecfgimfjcbdaaDoorW.PrintLast Go.Proofs.YtfecfgimfjcbdaaDoorW.PrintMore Go.Proofs.YtfecfgimfjcbdaaDoor.QCParse

def setK (k : Nat → Int) (i : Nat) (n : Int) : Nat → Int := fun j => if j = i then n else k j
def semiB : ByteArray := (⟨#[59]⟩ : ByteArray)
/-- A key's value, and the mark behind it: the secret, the values, the place behind; or what is wrong. -/
def valueP (s : ByteArray) (p : Nat) (key : Option Nat) (sc : ByteArray) (k : Nat → Int) : Except (Nat × Int) (ByteArray × (Nat → Int) × Nat) :=
  match nextP s p with
  | .error a => .error (a, 121)
  | .ok (kd, a, v, q) =>
    if kd = 1 then .error (a, 121) else
    match key with
    | none => if 64 < v.size then .error (a, 124) else match wantP s q 1 semiB with
      | .error e => .error e
      | .ok aq => .ok (v, k, aq.2)
    | some i => match kTab[i]? with
      | some t => match readP t kd v with
        | some n => match wantP s q 1 semiB with
          | .error e => .error e
          | .ok aq => .ok (sc, setK k i n, aq.2)
        | none => .error (a, 124)
      | none => .error (0, 0)
/-- The resource that is filled. -/
def CfgAt (w : World) (c : Nat) (nm sc : ByteArray) (k : Nat → Int) : Prop := w.heap[c]? = some (.cells (cfgC nm sc k) 23 (0, 0))
theorem cfg_set (nm sc : ByteArray) (k : Nat → Int) (i : Nat) (hi : i < 16) (n : Int) : (cfgC nm sc k).setIfInBounds (kOff i) (.int .i64 n) = cfgC nm sc (setK k i n) := by
  rcases i with _ | _ | _ | _ | _ | _ | _ | _ | _ | _ | _ | _ | _ | _ | _ | _ | i
  case succ.succ.succ.succ.succ.succ.succ.succ.succ.succ.succ.succ.succ.succ.succ.succ => omega
  all_goals rfl
theorem CfgAt.setK {w : World} {c i : Nat} {nm sc : ByteArray} {k : Nat → Int} (h : CfgAt w c nm sc k) (hi : i < 16) (n : Int) : CfgAt (w.setCell ⟨c, kOff i, none⟩ (.int .i64 n)) c nm sc (Cf.setK k i n) := blk_put h (kOff i) _ (cfg_set nm sc k i hi n)
theorem CfgAt.setS {w : World} {c : Nat} {nm sc : ByteArray} {k : Nat → Int} (h : CfgAt w c nm sc k) (v : ByteArray) : CfgAt (w.setCell ⟨c, 11, none⟩ (.string v)) c nm v k := blk_put h 11 _ rfl
def VPost (r c : Nat) (s nm : ByteArray) (w : World) (o : Except (Nat × Int) (ByteArray × (Nat → Int) × Nat)) (e : Ending) (w' : World) : Prop :=
  match o with
  | .ok (sc, k, q) => e = .returned (.tuple #[]) ∧ Rd w' r s q ∧ CfgAt w' c nm sc k ∧ Ch [r, c] w w'
  | .error (a, er) => Faults e a er ∧ Ch [r, c] w w'
/-- The key's pointer; its cells lie from block B0 on. -/
def KeyPtr (w : World) (B0 : Nat) (kp : Value) : Option Nat → Prop
  | none => kp = .pointer none
  | some i => i < 16 ∧ ∃ B g, kp = .pointer (some ⟨g, i * 8, none⟩) ∧ B0 ≤ B ∧ B ≤ g ∧ ∀ t, kTab[i]? = some t → KeyAt w B g i t
theorem kTab_len (i : Nat) (t : KeyT) (ht : kTab[i]? = some t) (p : List ByteArray × List Int) (hp : t.2.2.2.2.2 = some p) : p.1.length ≤ 1000 := by
  have hl : i < 16 := (List.getElem?_eq_some_iff.1 ht).1
  rcases i with _ | _ | _ | _ | _ | _ | _ | _ | _ | _ | _ | _ | _ | _ | _ | _ | i
  case succ.succ.succ.succ.succ.succ.succ.succ.succ.succ.succ.succ.succ.succ.succ.succ => omega
  all_goals
    obtain rfl := Option.some.inj ht
    first
      | (cases hp; done)
      | (obtain rfl := Option.some.inj hp; decide)
/-- A key's cells while other blocks turn. -/
theorem KeyAt.ch {w w1 : World} {L : List Nat} {B B0 g i : Nat} {t : KeyT} (h : KeyAt w B g i t) (hc : Ch L w w1) (hB : B0 ≤ B) (hg : B ≤ g) (hL : ∀ k ∈ L, k < B0) : KeyAt w1 B g i t :=
  h.keep hg (fun k hk hlt => hc.block k hlt (fun e => by have := hL k e; omega))

theorem nextP_size (s : ByteArray) (hs : s.size ≤ 1000000) (p a : Nat) (v : ByteArray) (q : Nat) (h : nextP s p = .ok (0, a, v, q)) : v.size ≤ 1000000 := by
  unfold nextP at h
  split at h
  · cases h
  · split at h
    · simp only [Except.ok.injEq, Prod.mk.injEq] at h
      obtain ⟨_, _, rfl, _⟩ := h
      rw [ByteArray.size_extract]
      omega
    · split at h
      · simp only [Except.ok.injEq, Prod.mk.injEq] at h
        omega
      · split at h
        · split at h
          · simp only [Except.ok.injEq, Prod.mk.injEq] at h
            omega
          · cases h
        · cases h
set_option maxRecDepth 100000 in
set_option maxHeartbeats 1000000 in
theorem value_any (s : ByteArray) (hs : s.size ≤ 1000000) (r c p B0 : Nat) (hrc : r ≠ c) (hrB : r < B0) (hp : p ≤ s.size) (nm sc : ByteArray) (k : Nat → Int) (key : Option Nat) (kp : Value) (w : World) (hr : Rd w r s p) (hc : CfgAt w c nm sc k) (hkp : KeyPtr w B0 kp key)
    (out : Except (Nat × Int) (ByteArray × (Nat → Int) × Nat)) (hout : valueP s p key sc k = out) :
    Calls Tryd.prog 104 #[.pointer (some ⟨r, 0, none⟩), kp, .pointer (some ⟨c, 0, none⟩)] w (VPost r c s nm w out) := by
  have HOUT := Aside0.mk hout
  have HCF := Aside0.mk hc
  have HKP := Aside0.mk hkp
  have hcw : c < w.heap.size := blk_lt hc
  have hrw : r < w.heap.size := blk_lt hr
  have HN := Aside0.mk (next_any s hs r p hp w hr)
  clear hout hc hkp hr
  unfold valueP at HOUT
  go_enter Tryd.func104, Tryd.ntmps104
  go_wp2_with fail
  cases hn : nextP s p with
  | error a =>
    rw [hn] at HOUT HN
    obtain rfl : out = .error (a, 121) := HOUT.out.symm
    clear HOUT hn
    refine HN.out.mono ?_
    rintro e w1 ⟨rfl, hc1⟩
    have HC := Aside0.mk (hc1.more (L' := [r, c]) (by simp))
    clear hc1 HN
    go_wp2
    exact ⟨rfl, rfl, HC.out⟩
  | ok tk =>
    obtain ⟨kd, a, v, q⟩ := tk
    rw [hn] at HOUT HN
    simp only at HOUT
    have hqs := (nextP_le s p kd a v q hp hn).2.2
    have HVS : Aside0 (kd = 0 → v.size ≤ 1000000) := ⟨fun h0 => by subst h0; exact nextP_size s hs p a v q hn⟩
    clear hn
    refine HN.out.mono ?_
    rintro e w1 ⟨rfl, hr1, hc1⟩
    have hw1 : w.heap.size ≤ w1.heap.size := hc1.size
    have HR2 : Aside0 (Rd (w1.alloc (.cells #[.int .i64 0, .int .i64 0, .string ⟨#[]⟩] 121)) r s q) := ⟨blk_alloc hr1 _⟩
    have HC2 := Aside0.mk (hc1.alloc (.cells #[.int .i64 0, .int .i64 0, .string ⟨#[]⟩] 121))
    have hn := blk_new w1 (.cells #[.int .i64 0, .int .i64 0, .string ⟨#[]⟩] 121)
    clear hr1 hc1 HN
    go_upto_region 1 with (refine store_whole rfl rfl rfl (g := w1.heap.size) rfl (tokC kd a v) rfl hn (by kernel_rfl) (by rfl) (tokOne kd a v) ?_; intro w3 h3 hg3)
    have HB := Aside0.mk h3
    have HR3 : Aside0 (Rd w3 r s q) := ⟨grown_blk hg3 HR2.out (by omega)⟩
    have HC3 := Aside0.mk ((HC2.out.grown hg3 (.inr (by omega))).more (L' := [r, c]) (by simp))
    have HF3 : Aside0 (CfgAt w3 c nm sc k) := ⟨grown_blk hg3 (HC2.out.blk HCF.out (by simp; omega)) (by omega)⟩
    have hw3 : w1.heap.size < w3.heap.size := blk_lt HB.out
    have HCr := Aside0.mk (HC2.out.grown hg3 (.inr hw1))
    clear hg3 h3 hn HR2 HC2 HCF
    have t0 : w3.cell? ⟨w1.heap.size, 0, none⟩ = some (.int .i64 (kd : Int)) := (blk_cell HB.out 0).trans rfl
    have t1 : w3.cell? ⟨w1.heap.size, 1, none⟩ = some (.int .i64 (a : Int)) := (blk_cell HB.out 1).trans rfl
    have t2 : w3.cell? ⟨w1.heap.size, 2, none⟩ = some (.string v) := (blk_cell HB.out 2).trans rfl
    by_cases hk : kd = 1
    · rw [if_pos hk] at HOUT
      obtain rfl : out = .error (a, 121) := HOUT.out.symm
      subst hk
      clear HOUT
      go_wp2_with fail
      refine (give_any a 121 w3).mono ?_
      rintro e w' ⟨rfl, rfl⟩
      go_wp2
      exact ⟨rfl, rfl, HC3.out⟩
    · rw [if_neg hk] at HOUT
      have hkb : ((kd : Int) == 1) = false := by simp; omega
      clear hk
      cases key with
      | none =>
        obtain rfl : kp = .pointer none := HKP.out
        simp only at HOUT
        by_cases h64 : 64 < v.size
        · rw [if_pos h64] at HOUT
          obtain rfl : out = .error (a, 124) := HOUT.out.symm
          have d64 : decide ((64 : Int) < (v.size : Int)) = true := decide_eq_true (by omega)
          clear HOUT
          go_wp2_with fail
          refine (give_any a 124 w3).mono ?_
          rintro e w' ⟨rfl, rfl⟩
          go_wp2
          exact ⟨rfl, rfl, HC3.out⟩
        · rw [if_neg h64] at HOUT
          have d64 : decide ((64 : Int) < (v.size : Int)) = false := decide_eq_false (by omega)
          have f11 : w3.frozen? ⟨c, 11, none⟩ = false := blk_frozen HF3.out 11
          have o11 : w3.cell? ⟨c, 11, none⟩ = some (.string sc) := (blk_cell HF3.out 11).trans rfl
          have HF4 : Aside0 (CfgAt (w3.setCell ⟨c, 11, none⟩ (.string v)) c nm v k) := ⟨HF3.out.setS v⟩
          have HR4 : Aside0 (Rd (w3.setCell ⟨c, 11, none⟩ (.string v)) r s q) := ⟨blk_far HR3.out (by show r ≠ c; exact hrc) _⟩
          have HC4 : Aside0 (Ch [r, c] w (w3.setCell ⟨c, 11, none⟩ (.string v))) := ⟨HC3.out.set (by simp) 11 _⟩
          clear HF3 HR3 HC3 HCr
          go_wp2_with fail
          generalize w3.setCell ⟨c, 11, none⟩ (.string v) = w4 at *
          have HW := Aside0.mk (want_any s hs r q hqs 1 semiB w4 HR4.out)
          cases hwn : wantP s q 1 semiB with
          | error ae =>
            obtain ⟨ea, er⟩ := ae
            rw [hwn] at HOUT HW
            obtain rfl : out = .error (ea, er) := HOUT.out.symm
            clear HOUT hwn
            refine HW.out.mono ?_
            rintro e w5 ⟨rfl, hc5⟩
            have HC5 := Aside0.mk (HC4.out.trans (hc5.more (L' := [r, c]) (by simp)))
            clear hc5 HW
            go_wp2
            exact ⟨rfl, rfl, HC5.out⟩
          | ok aq =>
            obtain ⟨wa, wq⟩ := aq
            rw [hwn] at HOUT HW
            obtain rfl : out = .ok (v, k, wq) := HOUT.out.symm
            clear HOUT hwn
            refine HW.out.mono ?_
            rintro e w5 ⟨rfl, hr5, hc5⟩
            have HC5 := Aside0.mk (HC4.out.trans (hc5.more (L' := [r, c]) (by simp)))
            have HR5 := Aside0.mk hr5
            have HF5 : Aside0 (CfgAt w5 c nm v k) := ⟨hc5.blk HF4.out (by simp; omega)⟩
            clear hc5 hr5 HW
            go_wp2
            go_end0
            exact ⟨rfl, HR5.out, HF5.out, HC5.out⟩
      | some i =>
        obtain ⟨hi, B, g, rfl, hB0, hBg, hKA⟩ := HKP.out
        obtain ⟨t, ht⟩ : ∃ t, kTab[i]? = some t := ⟨_, List.getElem?_eq_getElem hi⟩
        have hK3 : KeyAt w3 B g i t := (hKA t ht).ch HCr.out hB0 hBg (by simp; omega)
        obtain ⟨_, _, z3⟩ := kTab_small i t ht
        simp only [ht] at HOUT
        have KK := Aside0.mk hK3
        have HKL := Aside0.mk (kTab_len i t ht)
        have HZ3 := Aside0.mk z3
        clear hK3 hKA z3 ht HKP
        go_wp2_with ((with_reducible refine gate_dst (N := 33) rfl ?_); refine wpList_load_row rfl 121 _ rfl w1.heap.size rfl 121 (tokC kd a v) (0, 0) _ HB.out Tryd.underlying121 rfl (by kernel_rfl) ?_)
        obtain ⟨ro, hro⟩ : ∃ ro, readP t kd v = ro := ⟨_, rfl⟩
        rw [hro] at HOUT
        refine (read_any w3 B g i t hBg KK.out (fun p hp => (HZ3.out p hp).1) (fun p hp => HKL.out p hp) kd a v HVS.out ro hro).mono ?_
        rintro e w4 ⟨⟨n', rfl, hn'⟩, hB4⟩
        have HB4 := Aside0.mk (blk_below HB.out hB4)
        have HF4 : Aside0 (CfgAt w4 c nm sc k) := ⟨blk_below HF3.out hB4⟩
        have HR4 : Aside0 (Rd w4 r s q) := ⟨blk_below HR3.out hB4⟩
        have HC4 := Aside0.mk (HC3.out.then hB4)
        have K4 := Aside0.mk (KK.out.ch (L := []) (Ch.of_below hB4 []) (Nat.le_refl B) hBg (by simp))
        clear hB4 hro HF3 HR3 HC3 HCr KK HVS HB
        have t1 : w4.cell? ⟨w1.heap.size, 1, none⟩ = some (.int .i64 (a : Int)) := (blk_cell HB4.out 1).trans rfl
        cases ro with
        | none =>
          simp only at HOUT
          obtain rfl : out = .error (a, 124) := HOUT.out.symm
          clear HOUT hn'
          simp only [Option.isSome_none]
          go_wp2_with fail
          refine (give_any a 124 w4).mono ?_
          rintro e w' ⟨rfl, rfl⟩
          go_wp2
          exact ⟨rfl, rfl, HC4.out⟩
        | some n =>
          obtain rfl := hn' n rfl
          simp only at HOUT
          simp only [Option.isSome_some]
          have hcf := fun args W => call_kfield i hi args W
          have c7 : w4.cell? ⟨g, i * 8 + 7, none⟩ = some (.func (.func (58 + i)) #[] #[]) := K4.out.2.2.2.2.2.2
          clear hn'
          go_wp2_with fail
          refine (kfield_any i hi c w4).mono ?_
          rintro e w5 ⟨rfl, rfl⟩
          have hof : kOff i < 18 := kOff_lt i hi
          have fk : w4.frozen? ⟨c, kOff i, none⟩ = false := blk_frozen HF4.out (kOff i)
          have ok : w4.cell? ⟨c, kOff i, none⟩ = some (.int .i64 (k i)) := (blk_cell HF4.out _).trans (cfg_key nm sc k i hi)
          have HF5 : Aside0 (CfgAt (w4.setCell ⟨c, kOff i, none⟩ (.int .i64 n')) c nm sc (Cf.setK k i n')) := ⟨HF4.out.setK hi n'⟩
          have HR5 : Aside0 (Rd (w4.setCell ⟨c, kOff i, none⟩ (.int .i64 n')) r s q) := ⟨blk_far HR4.out (by show r ≠ c; exact hrc) _⟩
          have HC5 : Aside0 (Ch [r, c] w (w4.setCell ⟨c, kOff i, none⟩ (.int .i64 n'))) := ⟨HC4.out.set (by simp) (kOff i) _⟩
          clear HF4 HR4 HC4 K4 HB4 hcf c7
          go_wp2_with fail
          generalize w4.setCell ⟨c, kOff i, none⟩ (.int .i64 n') = w6 at *
          have HW := Aside0.mk (want_any s hs r q hqs 1 semiB w6 HR5.out)
          cases hwn : wantP s q 1 semiB with
          | error ae =>
            obtain ⟨ea, er⟩ := ae
            rw [hwn] at HOUT HW
            obtain rfl : out = .error (ea, er) := HOUT.out.symm
            clear HOUT hwn
            refine HW.out.mono ?_
            rintro e w7 ⟨rfl, hc7⟩
            have HC7 := Aside0.mk (HC5.out.trans (hc7.more (L' := [r, c]) (by simp)))
            clear hc7 HW
            go_wp2
            exact ⟨rfl, rfl, HC7.out⟩
          | ok aq =>
            obtain ⟨wa, wq⟩ := aq
            rw [hwn] at HOUT HW
            obtain rfl : out = .ok (sc, Cf.setK k i n', wq) := HOUT.out.symm
            clear HOUT hwn
            refine HW.out.mono ?_
            rintro e w7 ⟨rfl, hr7, hc7⟩
            have HC7 := Aside0.mk (HC5.out.trans (hc7.more (L' := [r, c]) (by simp)))
            have HR7 := Aside0.mk hr7
            have HF7 : Aside0 (CfgAt w7 c nm sc (Cf.setK k i n')) := ⟨hc7.blk HF5.out (by simp; omega)⟩
            clear hc7 hr7 HW
            go_wp2
            go_end0
            exact ⟨rfl, HR7.out, HF7.out, HC7.out⟩
end Go.Proofs.YtfecfgimfjcbdaaDoor.Cf
