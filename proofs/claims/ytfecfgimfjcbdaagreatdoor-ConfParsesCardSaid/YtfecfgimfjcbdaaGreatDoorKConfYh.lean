/- The reference's given: walked. -/
import Derived.Test.YtfecfgimfjcbdaaGreatDoorKConfYg
namespace Go.Proofs.YtfecfgimfjcbdaaGreatDoor.Cf
open Go.RowKit Go.Proofs.YtfecfgimfjcbdaaGreatDoorW.PrintWords Go.Proofs.YtfecfgimfjcbdaaGreatDoorW.PrintLast Go.Proofs.YtfecfgimfjcbdaaGreatDoorW.PrintMore Go.Proofs.YtfecfgimfjcbdaaGreatDoor.QRParse

def FV.putK (v : FV) (i : Nat) (n : Int) : FV := { v with is := fun j => if j = i then n else v.is j, th := fun j => if j = i then true else v.th j }
def FV.putI (v : FV) (i : Nat) (n : Int) : FV := { v with is := fun j => if j = i then n else v.is j }
def FV.putS (v : FV) (x : ByteArray) : FV := { v with sc := x, st := true }
def FV.putS0 (v : FV) (x : ByteArray) : FV := { v with sc := x }
/-- A value read for a key. -/
def FV.put (v : FV) (key : Option Nat) (sc : ByteArray) (k : Nat → Int) : FV := match key with
  | none => v.nx.putS sc
  | some i => v.nx.putK i (k i)
theorem file_is (lv : Value) (v : FV) (bad pos : Int) (i : Nat) (hi : i < 16) : (fileC lv v bad pos)[4 + i]? = some (.int .i64 (v.is i)) := by
  rcases i with _ | _ | _ | _ | _ | _ | _ | _ | _ | _ | _ | _ | _ | _ | _ | _ | i
  case succ.succ.succ.succ.succ.succ.succ.succ.succ.succ.succ.succ.succ.succ.succ.succ => omega
  all_goals rfl
theorem file_th (lv : Value) (v : FV) (bad pos : Int) (i : Nat) (hi : i < 16) : (fileC lv v bad pos)[20 + i]? = some (.bool (v.th i)) := by
  rcases i with _ | _ | _ | _ | _ | _ | _ | _ | _ | _ | _ | _ | _ | _ | _ | _ | i
  case succ.succ.succ.succ.succ.succ.succ.succ.succ.succ.succ.succ.succ.succ.succ.succ => omega
  all_goals rfl
theorem file_setI (lv : Value) (v : FV) (bad pos : Int) (i : Nat) (hi : i < 16) (n : Int) : (fileC lv v bad pos).setIfInBounds (4 + i) (.int .i64 n) = fileC lv (v.putI i n) bad pos := by
  rcases i with _ | _ | _ | _ | _ | _ | _ | _ | _ | _ | _ | _ | _ | _ | _ | _ | i
  case succ.succ.succ.succ.succ.succ.succ.succ.succ.succ.succ.succ.succ.succ.succ.succ => omega
  all_goals rfl
theorem file_setT (lv : Value) (v : FV) (bad pos : Int) (i : Nat) (hi : i < 16) (n : Int) : (fileC lv (v.putI i n) bad pos).setIfInBounds (20 + i) (.bool true) = fileC lv (v.putK i n) bad pos := by
  rcases i with _ | _ | _ | _ | _ | _ | _ | _ | _ | _ | _ | _ | _ | _ | _ | _ | i
  case succ.succ.succ.succ.succ.succ.succ.succ.succ.succ.succ.succ.succ.succ.succ.succ => omega
  all_goals rfl
theorem RF.putK {w : World} {g : Nat} {lv : Value} {L : List TkT} {s : ByteArray} {v : FV} {p : Nat} (h : RF w g lv L s v p) {i : Nat} (hi : i < 16) (n : Int) :
    RF ((w.setCell ⟨g, 4 + i, none⟩ (.int .i64 n)).setCell ⟨g, 20 + i, none⟩ (.bool true)) g lv L s (v.putK i n) p := by
  obtain ⟨⟨a, b, hf⟩, ht, hp⟩ := h
  exact ⟨⟨a, b, (hf.set (bad' := a) (pos' := b) (4 + i) _ (file_setI lv v a b i hi n)).set (20 + i) _ (file_setT lv v a b i hi n)⟩, ht.ch (((Ch.refl [g] w).set (by simp) _ _).set (by simp) _ _), hp⟩
theorem RF.putS {w : World} {g : Nat} {lv : Value} {L : List TkT} {s : ByteArray} {v : FV} {p : Nat} (h : RF w g lv L s v p) (x : ByteArray) :
    RF ((w.setCell ⟨g, 3, none⟩ (.string x)).setCell ⟨g, 36, none⟩ (.bool true)) g lv L s (v.putS x) p := by
  obtain ⟨⟨a, b, hf⟩, ht, hp⟩ := h
  exact ⟨⟨a, b, (hf.set (v' := v.putS0 x) (bad' := a) (pos' := b) 3 _ rfl).set 36 _ rfl⟩, ht.ch (((Ch.refl [g] w).set (by simp) _ _).set (by simp) _ _), hp⟩
theorem row5 {w : World} {g : Nat} {a b c d e : Value} {t : TypeId} (h : w.heap[g]? = some (.cells #[a, b, c, d, e] t (0, 0))) :
    w.cell? ⟨g, 0, none⟩ = some a ∧ w.cell? ⟨g, 1, none⟩ = some b ∧ w.cell? ⟨g, 2, none⟩ = some c ∧ w.cell? ⟨g, 3, none⟩ = some d ∧ w.cell? ⟨g, 4, none⟩ = some e :=
  ⟨blk_cell h 0, blk_cell h 1, blk_cell h 2, blk_cell h 3, blk_cell h 4⟩
theorem rvalue_some (i : Nat) (t : KeyT) (ht : kTab[i]? = some t) (els : Int) (kd a : Nat) (x : ByteArray) (hx : kd = 0 → x.size ≤ 1000000) (n : Int) (hr : readP t kd x = some n) (w : World) :
    Calls Tryz.prog 69 #[keyV t els, tkV kd a x] w fun e w' => e = .returned (.tuple #[.int .i64 n, .bool true]) ∧ Below w.heap.size w w' := by
  refine (rvalue_any i t ht els kd a x hx w).mono ?_
  rintro e w' ⟨⟨m, rfl, h⟩, hB⟩
  rw [h n hr, hr]
  exact ⟨rfl, hB⟩
theorem rvalue_none (i : Nat) (t : KeyT) (ht : kTab[i]? = some t) (els : Int) (kd a : Nat) (x : ByteArray) (hx : kd = 0 → x.size ≤ 1000000) (hr : readP t kd x = none) (w : World) :
    Calls Tryz.prog 69 #[keyV t els, tkV kd a x] w fun e w' => (∃ m, e = .returned (.tuple #[.int .i64 m, .bool false])) ∧ Below w.heap.size w w' := by
  refine (rvalue_any i t ht els kd a x hx w).mono ?_
  rintro e w' ⟨⟨m, rfl, h⟩, hB⟩
  rw [hr]
  exact ⟨⟨m, rfl⟩, hB⟩
/-- The cells of key i in block g. -/
theorem file_at {w : World} {g : Nat} {lv : Value} {v : FV} {bad pos : Int} (h : FileAt w g lv v bad pos) {i : Nat} (hi : i < 16) :
    w.cell? ⟨g, 4 + i, none⟩ = some (.int .i64 (v.is i)) ∧ w.cell? ⟨g, 20 + i, none⟩ = some (.bool (v.th i)) ∧ w.frozen? ⟨g, 4 + i, none⟩ = false ∧ w.frozen? ⟨g, 20 + i, none⟩ = false :=
  ⟨(blk_cell h _).trans (file_is _ _ _ _ i hi), (blk_cell h _).trans (file_th _ _ _ _ i hi), blk_frozen h _, blk_frozen h _⟩
def GvPost (g : Nat) (lv : Value) (L : List TkT) (s : ByteArray) (v : FV) (key : Option Nat) (w : World) (o : Except (Nat × Int) (ByteArray × (Nat → Int) × Nat)) (e : Ending) (w' : World) : Prop :=
  match o with
  | .ok (sc, k, q) => e = .returned (.bool true) ∧ RF w' g lv L s (v.put key sc k).nx q ∧ Ch [g] w w'
  | .error (a, er) => e = .returned (.bool false) ∧ FaultAt w' g er a ∧ Ch [g] w w'
set_option maxRecDepth 100000 in
set_option maxHeartbeats 1000000 in
theorem rgiven_key {w : World} {g : Nat} {lv : Value} {L : List TkT} {s : ByteArray} (hs : s.size ≤ 1000000) {v : FV} {p : Nat} (h : RF w g lv L s v p) (i : Nat) (t : KeyT) (ht : kTab[i]? = some t) (els : Int) (sc : ByteArray) (k : Nat → Int) {o : Except (Nat × Int) (ByteArray × (Nat → Int) × Nat)} (ho : valueP s p (some i) sc k = o) :
    Calls Tryz.prog 43 #[.pointer (some ⟨g, 0, none⟩), keyV t els, .int .i64 (i : Int)] w (GvPost g lv L s v (some i) w o) := by
  unfold valueP at ho
  have hg := h.lt
  have hi : i < 16 := (List.getElem?_eq_some_iff.1 ht).1
  have hv : ∀ kd a x q, nextP s p = .ok (kd, a, x, q) → kd = 0 → x.size ≤ 1000000 := fun kd a x q h h0 => by
    subst h0
    exact nextP_size s hs p a x q h
  simp only [ht] at ho
  unfold keyV
  cases hn : nextP s p with
  | error a =>
    rw [hn] at ho
    dsimp only at ho
    subst ho
    have NX := Aside0.mk (rnext_any (h.alloc (.cells #[.string t.2.1, .string t.1, .int .i64 t.2.2.1, .int .i64 t.2.2.2.1, .int .i64 els] 73)) hn)
    clear h hn
    go_enter Tryz.func43, Tryz.ntmps43
    go_wp2_with (first | (go_at_call 25; refine NX.out.mono ?_; rintro e w1 ⟨⟨t', rfl⟩, h1, h2⟩; dsimp only [tkC]) | fail)
    go_ret
    exact ⟨rfl, h1.alloc _, h2.start.alloc _⟩
  | ok y =>
    obtain ⟨kd, a, x, q⟩ := y
    rw [hn] at ho
    dsimp only at ho
    have NX := Aside0.mk (rnext_any (h.alloc (.cells #[.string t.2.1, .string t.1, .int .i64 t.2.2.1, .int .i64 t.2.2.2.1, .int .i64 els] 73)) hn)
    have hx := hv _ _ _ _ hn
    clear h hn hv
    by_cases hk : kd = 1
    · rw [if_pos hk] at ho
      subst ho hk
      clear hx
      go_enter Tryz.func43, Tryz.ntmps43
      go_wp2_with (first
        | (go_at_call 25; refine NX.out.mono ?_; rintro e w1 ⟨rfl, h1, h2⟩; have Z := Aside0.mk (res0 h2 hg); obtain ⟨k0, k1, k2, k3, k4⟩ := row5 Z.out; have hwl := blk_lt Z.out; dsimp only [tkC])
        | (go_at_call 26; refine (rfail_any (h1.alloc _) _ _).mono ?_; rintro e w2 ⟨rfl, h3, h4⟩))
      go_ret
      exact ⟨rfl, h3, (h2.start.alloc _).trans h4⟩
    · rw [if_neg hk] at ho
      have hk' : ((kd : Int) + 2 == 3) = false := by simp; omega
      have hneg : decide ((i : Int) < 0) = false := decide_eq_false (by omega)
      clear hk
      cases hr : readP t kd x with
      | none =>
        rw [hr] at ho
        dsimp only at ho
        subst ho
        have VX := Aside0.mk (rvalue_none i t ht els kd a x hx hr)
        unfold keyV tkV at VX
        clear hx hr
        go_enter Tryz.func43, Tryz.ntmps43
        go_wp2_with (first
          | (go_at_call 25; refine NX.out.mono ?_; rintro e w1 ⟨rfl, h1, h2⟩; have Z := Aside0.mk (res0 h2 hg); obtain ⟨k0, k1, k2, k3, k4⟩ := row5 Z.out; have hwl := blk_lt Z.out; dsimp only [tkC])
          | (go_at_call 69; refine (VX.out _).mono ?_; rintro e w2 ⟨⟨m, rfl⟩, hB⟩; have H2 := Aside0.mk ((h1.alloc _).keep (Ch.of_below hB [])); have T2 := blk_below (blk_new w1 _) hB; obtain ⟨t0, t1, t2, _, _, _⟩ := row3 T2; clear T2; obtain ⟨bd, ps, hf⟩ := H2.out.fl; obtain ⟨cI, cT, fI, fT⟩ := file_at hf hi; clear hf)
          | (go_at_call 26; refine (rfail_any H2.out _ _).mono ?_; rintro e w3 ⟨rfl, h3, h4⟩))
        go_ret
        exact ⟨rfl, h3, (h2.start.alloc _).then hB |>.trans h4⟩
      | some n =>
        rw [hr] at ho
        dsimp only at ho
        have VX := Aside0.mk (rvalue_some i t ht els kd a x hx n hr)
        unfold keyV tkV at VX
        clear hx hr
        have hi2 : (i : Int) < 16 := by omega
        cases hw : wantP s q 1 semiB with
        | error ae =>
          obtain ⟨a', er⟩ := ae
          rw [hw] at ho
          dsimp only at ho
          subst ho
          go_enter Tryz.func43, Tryz.ntmps43
          go_wp2_with (first
            | (go_at_call 25; refine NX.out.mono ?_; rintro e w1 ⟨rfl, h1, h2⟩; have Z := Aside0.mk (res0 h2 hg); obtain ⟨k0, k1, k2, k3, k4⟩ := row5 Z.out; have hwl := blk_lt Z.out; dsimp only [tkC])
            | (go_at_call 69; refine (VX.out _).mono ?_; rintro e w2 ⟨rfl, hB⟩; have H2 := Aside0.mk ((h1.alloc _).keep (Ch.of_below hB [])); have T2 := blk_below (blk_new w1 _) hB; obtain ⟨t0, t1, t2, _, _, _⟩ := row3 T2; clear T2; obtain ⟨bd, ps, hf⟩ := H2.out.fl; obtain ⟨cI, cT, fI, fT⟩ := file_at hf hi; clear hf)
            | (go_at_call 28; refine (rmark_any (H2.out.putK hi n) semiB hw).mono ?_; rintro e w3 ⟨rfl, h3, h4⟩))
          go_ret
          exact ⟨rfl, h3, (((((h2.start.alloc _).then hB).set (by simp) _ _).set (by simp) _ _).trans h4)⟩
        | ok aq =>
          obtain ⟨a', q'⟩ := aq
          rw [hw] at ho
          dsimp only at ho
          subst ho
          go_enter Tryz.func43, Tryz.ntmps43
          go_wp2_with (first
            | (go_at_call 25; refine NX.out.mono ?_; rintro e w1 ⟨rfl, h1, h2⟩; have Z := Aside0.mk (res0 h2 hg); obtain ⟨k0, k1, k2, k3, k4⟩ := row5 Z.out; have hwl := blk_lt Z.out; dsimp only [tkC])
            | (go_at_call 69; refine (VX.out _).mono ?_; rintro e w2 ⟨rfl, hB⟩; have H2 := Aside0.mk ((h1.alloc _).keep (Ch.of_below hB [])); have T2 := blk_below (blk_new w1 _) hB; obtain ⟨t0, t1, t2, _, _, _⟩ := row3 T2; clear T2; obtain ⟨bd, ps, hf⟩ := H2.out.fl; obtain ⟨cI, cT, fI, fT⟩ := file_at hf hi; clear hf)
            | (go_at_call 28; refine (rmark_any (H2.out.putK hi n) semiB hw).mono ?_; rintro e w3 ⟨rfl, h3, h4⟩))
          go_ret
          refine ⟨rfl, ?_, (((((h2.start.alloc _).then hB).set (by simp) _ _).set (by simp) _ _).trans h4)⟩
          have e : setK k i n i = n := by simp [setK]
          unfold FV.put
          dsimp only
          rw [e]
          exact h3
def key0V : Value := .agg #[.string ⟨#[]⟩, .string ⟨#[]⟩, .int .i64 0, .int .i64 0, .int .i64 0]
set_option maxRecDepth 100000 in
set_option maxHeartbeats 1000000 in
theorem rgiven_secret {w : World} {g : Nat} {lv : Value} {L : List TkT} {s : ByteArray} {v : FV} {p : Nat} (h : RF w g lv L s v p) (sc : ByteArray) (k : Nat → Int) {o : Except (Nat × Int) (ByteArray × (Nat → Int) × Nat)} (ho : valueP s p none sc k = o) :
    Calls Tryz.prog 43 #[.pointer (some ⟨g, 0, none⟩), key0V, .int .i64 (-1)] w (GvPost g lv L s v none w o) := by
  unfold valueP at ho
  have hg := h.lt
  unfold key0V
  cases hn : nextP s p with
  | error a =>
    rw [hn] at ho
    dsimp only at ho
    subst ho
    have NX := Aside0.mk (rnext_any (h.alloc (.cells #[.string ⟨#[]⟩, .string ⟨#[]⟩, .int .i64 0, .int .i64 0, .int .i64 0] 73)) hn)
    clear h hn
    go_enter Tryz.func43, Tryz.ntmps43
    go_wp2_with (first | (go_at_call 25; refine NX.out.mono ?_; rintro e w1 ⟨⟨t', rfl⟩, h1, h2⟩; dsimp only [tkC]) | fail)
    go_ret
    exact ⟨rfl, h1.alloc _, h2.start.alloc _⟩
  | ok y =>
    obtain ⟨kd, a, x, q⟩ := y
    rw [hn] at ho
    dsimp only at ho
    have NX := Aside0.mk (rnext_any (h.alloc (.cells #[.string ⟨#[]⟩, .string ⟨#[]⟩, .int .i64 0, .int .i64 0, .int .i64 0] 73)) hn)
    clear h hn
    by_cases hk : kd = 1
    · rw [if_pos hk] at ho
      subst ho hk
      go_enter Tryz.func43, Tryz.ntmps43
      go_wp2_with (first
        | (go_at_call 25; refine NX.out.mono ?_; rintro e w1 ⟨rfl, h1, h2⟩; dsimp only [tkC])
        | (go_at_call 26; refine (rfail_any (h1.alloc _) _ _).mono ?_; rintro e w2 ⟨rfl, h3, h4⟩))
      go_ret
      exact ⟨rfl, h3, (h2.start.alloc _).trans h4⟩
    · rw [if_neg hk] at ho
      have hk' : ((kd : Int) + 2 == 3) = false := by simp; omega
      clear hk
      by_cases h64 : 64 < x.size
      · rw [if_pos h64] at ho
        subst ho
        have hd : decide ((64 : Int) < (x.size : Int)) = true := decide_eq_true (by omega)
        clear h64
        go_enter Tryz.func43, Tryz.ntmps43
        go_wp2_with (first
          | (go_at_call 25; refine NX.out.mono ?_; rintro e w1 ⟨rfl, h1, h2⟩; dsimp only [tkC])
          | (go_at_call 26; refine (rfail_any (h1.alloc _) _ _).mono ?_; rintro e w2 ⟨rfl, h3, h4⟩))
        go_ret
        exact ⟨rfl, h3, (h2.start.alloc _).trans h4⟩
      · rw [if_neg h64] at ho
        have hd : decide ((64 : Int) < (x.size : Int)) = false := decide_eq_false (by omega)
        clear h64
        cases hw : wantP s q 1 semiB with
        | error ae =>
          obtain ⟨a', er⟩ := ae
          rw [hw] at ho
          dsimp only at ho
          subst ho
          go_enter Tryz.func43, Tryz.ntmps43
          go_wp2_with (first
            | (go_at_call 25; refine NX.out.mono ?_; rintro e w1 ⟨rfl, h1, h2⟩; obtain ⟨bd, ps, hf⟩ := h1.fl; have c3 := blk_cell hf 3; have c6 := blk_cell hf 36; have f3 := blk_frozen hf 3; have f6 := blk_frozen hf 36; have hgl := blk_lt hf; clear hf; simp only [fileC, List.getElem?_toArray, List.getElem?_cons_succ, List.getElem?_cons_zero] at c3 c6; dsimp only [tkC])
            | (go_at_call 28; refine (rmark_any ((h1.putS x).alloc _) semiB hw).mono ?_; rintro e w3 ⟨rfl, h3, h4⟩))
          go_ret
          exact ⟨rfl, h3, (((h2.start.set (by simp) _ _).set (by simp) _ _).alloc _).trans h4⟩
        | ok aq =>
          obtain ⟨a', q'⟩ := aq
          rw [hw] at ho
          dsimp only at ho
          subst ho
          go_enter Tryz.func43, Tryz.ntmps43
          go_wp2_with (first
            | (go_at_call 25; refine NX.out.mono ?_; rintro e w1 ⟨rfl, h1, h2⟩; obtain ⟨bd, ps, hf⟩ := h1.fl; have c3 := blk_cell hf 3; have c6 := blk_cell hf 36; have f3 := blk_frozen hf 3; have f6 := blk_frozen hf 36; have hgl := blk_lt hf; clear hf; simp only [fileC, List.getElem?_toArray, List.getElem?_cons_succ, List.getElem?_cons_zero] at c3 c6; dsimp only [tkC])
            | (go_at_call 28; refine (rmark_any ((h1.putS x).alloc _) semiB hw).mono ?_; rintro e w3 ⟨rfl, h3, h4⟩))
          go_ret
          exact ⟨rfl, h3, (((h2.start.set (by simp) _ _).set (by simp) _ _).alloc _).trans h4⟩
end Go.Proofs.YtfecfgimfjcbdaaGreatDoor.Cf
