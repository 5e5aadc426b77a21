/- The reference's part: walked. -/
import Derived.Test.YtfecfgimfjcbdaaGreatDoorKConfYe
namespace Go.Proofs.YtfecfgimfjcbdaaGreatDoor.Cf
open Go.RowKit Go.Proofs.YtfecfgimfjcbdaaGreatDoorW.PrintWords Go.Proofs.YtfecfgimfjcbdaaGreatDoorW.PrintLast Go.Proofs.YtfecfgimfjcbdaaGreatDoorW.PrintMore Go.Proofs.YtfecfgimfjcbdaaGreatDoor.QRParse

/-- A word (false), or the mark that ends a section (true). -/
def partP (s : ByteArray) (p : Nat) : Except (Nat × Int) (Bool × Nat × Nat × ByteArray × Nat) :=
  match nextP s p with
  | .error a => .error (a, 121)
  | .ok (kd, a, x, q) => if kd = 1 ∧ x.toList = [125] then .ok (true, kd, a, x, q) else if kd ≠ 0 then .error (a, 121) else .ok (false, kd, a, x, q)
def tkV (kd a : Nat) (x : ByteArray) : Value := .agg #[.int .i64 ((kd : Int) + 2), .int .i64 (a : Int), .string x]
def PtPost (g : Nat) (lv : Value) (L : List TkT) (s : ByteArray) (v : FV) (w : World) (o : Except (Nat × Int) (Bool × Nat × Nat × ByteArray × Nat)) (e : Ending) (w' : World) : Prop :=
  match o with
  | .ok (b, kd, a, x, q) => e = .returned (.tuple #[tkV kd a x, .bool b, .bool true]) ∧ RF w' g lv L s v.nx q ∧ Ch [g] w w'
  | .error (a, er) => (∃ t, e = .returned (.tuple #[.agg (tkC t), .bool false, .bool false])) ∧ FaultAt w' g er a ∧ Ch [g] w w'
theorem row3 {w : World} {g : Nat} {a b c : Value} {t : TypeId} (h : w.heap[g]? = some (.cells #[a, b, c] t (0, 0))) :
    w.cell? ⟨g, 0, none⟩ = some a ∧ w.cell? ⟨g, 1, none⟩ = some b ∧ w.cell? ⟨g, 2, none⟩ = some c ∧ w.frozen? ⟨g, 0, none⟩ = false ∧ w.frozen? ⟨g, 1, none⟩ = false ∧ w.frozen? ⟨g, 2, none⟩ = false :=
  ⟨blk_cell h 0, blk_cell h 1, blk_cell h 2, blk_frozen h 0, blk_frozen h 1, blk_frozen h 2⟩
/-- A block that was new at the start. -/
theorem res0 {w w1 : World} {g : Nat} {cs : Array Value} {t : TypeId} (h : Ch [g] (w.alloc (.cells cs t)) w1) (hg : g < w.heap.size) : w1.heap[w.heap.size]? = some (.cells cs t (0, 0)) :=
  h.blk (blk_new w _) (by simp; omega)
/-- Three stores into a row. -/
theorem put3 {w : World} {g : Nat} {a b c : Value} {t : TypeId} (h : w.heap[g]? = some (.cells #[a, b, c] t (0, 0))) (x y z : Value) :
    (((w.setCell ⟨g, 0, none⟩ x).setCell ⟨g, 1, none⟩ y).setCell ⟨g, 2, none⟩ z).heap[g]? = some (.cells #[x, y, z] t (0, 0)) := blk_put (blk_set (blk_set h 0 x) 1 y) 2 z rfl
theorem FaultAt.of {w w1 : World} {g B : Nat} {er a : Int} (h : FaultAt w g er a) (hb : Below B w w1) (hg : g < B) : FaultAt w1 g er a := by
  obtain ⟨lv, v, h⟩ := h
  exact ⟨lv, v, (hb.block g hg).trans h⟩
theorem RF.of {w w1 : World} {g : Nat} {lv : Value} {L : List TkT} {s : ByteArray} {v : FV} {p : Nat} {B : Nat} (h : RF w g lv L s v p) (hb : Ch [B] w w1) (hg : g ≠ B) (hB : ∀ b n c, lv = .slice (some ⟨b, 0, none⟩) n c → b ≠ B) : RF w1 g lv L s v p := by
  obtain ⟨⟨a, b, hf⟩, ⟨⟨b', c', h1, h2, h3, h4, h5⟩, h6⟩, h7⟩ := h
  have e : ∀ o, w1.cell? ⟨b', o, none⟩ = w.cell? ⟨b', o, none⟩ := fun o => World.cell?_of_block (hb.block b' h3 (by simp; exact hB _ _ _ h1))
  refine ⟨⟨a, b, (hb.block g (blk_lt hf) (by simpa using hg)).trans hf⟩, ⟨⟨b', c', h1, h2, Nat.lt_of_lt_of_le h3 hb.size, h4, fun i t ht => ?_⟩, h6⟩, h7⟩
  obtain ⟨a1, a2, a3⟩ := h5 i t ht
  exact ⟨(e _).trans a1, (e _).trans a2, (e _).trans a3⟩
theorem RF.far {w : World} {g : Nat} {lv : Value} {L : List TkT} {s : ByteArray} {v : FV} {p : Nat} (h : RF w g lv L s v p) : ∀ b n c, lv = .slice (some ⟨b, 0, none⟩) n c → b ≠ w.heap.size := by
  obtain ⟨b', c', h1, _, h3, _⟩ := h.tk.lie
  intro b n c e
  rw [h1] at e
  injection e with e1 _ _
  injection e1 with e1
  injection e1 with e1
  omega
/-- What follows on three stores into the result's block. -/
theorem RF.res {w w1 w2 : World} {g : Nat} {lv : Value} {L : List TkT} {s : ByteArray} {v v' : FV} {p q : Nat} (h : RF w g lv L s v p) (h1 : RF w1 g lv L s v' q) (hb : Ch [w.heap.size] w1 w2) : RF w2 g lv L s v' q :=
  h1.of hb (Nat.ne_of_lt h.lt) h.far
theorem Ch.set3 {w : World} (g : Nat) (x y z : Value) : Ch [g] w (((w.setCell ⟨g, 0, none⟩ x).setCell ⟨g, 1, none⟩ y).setCell ⟨g, 2, none⟩ z) := (((Ch.refl [g] w).set (by simp) 0 _).set (by simp) 1 _).set (by simp) 2 _
theorem Ch.start {w w1 : World} {g : Nat} {o : Obj} (h : Ch [g] (w.alloc o) w1) : Ch [g] w w1 := ((Ch.refl [g] w).alloc o).trans h
theorem Ch.fin {w w1 w2 : World} {g : Nat} (h : Ch [g] w w1) (k : Ch [w.heap.size] w1 w2) : Ch [g] w w2 := h.step (k.more (by simp)) (Nat.le_refl _)
theorem FaultAt.res {w1 w2 : World} {g B : Nat} {er a : Int} (h : FaultAt w1 g er a) (hg : g < B) (hb : Ch [B] w1 w2) (hl : g < w1.heap.size) : FaultAt w2 g er a := by
  obtain ⟨lv, v, h⟩ := h
  exact ⟨lv, v, (hb.block g hl (by simp; omega)).trans h⟩
set_option maxRecDepth 100000 in
set_option maxHeartbeats 1000000 in
theorem rpart_any {w : World} {g : Nat} {lv : Value} {L : List TkT} {s : ByteArray} {v : FV} {p : Nat} (h : RF w g lv L s v p) {o : Except (Nat × Int) (Bool × Nat × Nat × ByteArray × Nat)} (ho : partP s p = o) :
    Calls Tryz.prog 42 #[.pointer (some ⟨g, 0, none⟩)] w (PtPost g lv L s v w o) := by
  unfold partP at ho
  have hg := h.lt
  cases hn : nextP s p with
  | error a =>
    rw [hn] at ho
    dsimp only at ho
    subst ho
    have NX := Aside0.mk (rnext_any (h.alloc (.cells #[.int .i64 0, .int .i64 0, .string ⟨#[]⟩] 63)) hn)
    clear hn
    go_enter Tryz.func42, Tryz.ntmps42
    go_wp2_with (go_at_call 25; refine NX.out.mono ?_; rintro e w1 ⟨⟨t, rfl⟩, h1, h2⟩; have Z := Aside0.mk (res0 h2 hg); obtain ⟨k0, k1, k2, y0, y1, y2⟩ := row3 Z.out; have hwl := blk_lt Z.out; dsimp only [tkC])
    refine bodyPost_ret (results_ctt rfl _ _ w.heap.size 63 _ (0, 0) _ rfl (blk_alloc (put3 Z.out _ _ _) _) Tryz.underlying63 rfl (by kernel_rfl)) rfl ?_
    exact ⟨⟨t, rfl⟩, h1.res hg ((Ch.set3 _ _ _ _).alloc _) (by omega), (h2.start.fin (Ch.set3 _ _ _ _)).alloc _⟩
  | ok y =>
    obtain ⟨kd, a, x, q⟩ := y
    rw [hn] at ho
    dsimp only at ho
    have NX := Aside0.mk (rnext_any (h.alloc (.cells #[.int .i64 0, .int .i64 0, .string ⟨#[]⟩] 63)) hn)
    clear hn
    by_cases hc : kd = 1 ∧ x.toList = [125]
    · rw [if_pos hc] at ho
      obtain ⟨rfl, hx⟩ := hc
      have hx' : (x.toList == [125]) = true := beq_iff_eq.2 hx
      subst ho
      clear hx
      go_enter Tryz.func42, Tryz.ntmps42
      go_wp2_with (go_at_call 25; refine NX.out.mono ?_; rintro e w1 ⟨rfl, h1, h2⟩; have Z := Aside0.mk (res0 h2 hg); obtain ⟨k0, k1, k2, y0, y1, y2⟩ := row3 Z.out; have hwl := blk_lt Z.out; dsimp only [tkC])
      refine bodyPost_ret (results_ctt rfl _ _ w.heap.size 63 _ (0, 0) _ rfl (blk_alloc (put3 Z.out _ _ _) _) Tryz.underlying63 rfl (by kernel_rfl)) rfl ?_
      exact ⟨rfl, h.res h1 ((Ch.set3 _ _ _ _).alloc _), (h2.start.fin (Ch.set3 _ _ _ _)).alloc _⟩
    · rw [if_neg hc] at ho
      by_cases hk : kd = 0
      · subst hk
        rw [if_neg (by simp)] at ho
        subst ho
        clear hc
        go_enter Tryz.func42, Tryz.ntmps42
        go_wp2_with (go_at_call 25; refine NX.out.mono ?_; rintro e w1 ⟨rfl, h1, h2⟩; have Z := Aside0.mk (res0 h2 hg); obtain ⟨k0, k1, k2, y0, y1, y2⟩ := row3 Z.out; have hwl := blk_lt Z.out; dsimp only [tkC])
        refine bodyPost_ret (results_ctt rfl _ _ w.heap.size 63 _ (0, 0) _ rfl (blk_alloc (put3 Z.out _ _ _) _) Tryz.underlying63 rfl (by kernel_rfl)) rfl ?_
        exact ⟨rfl, h.res h1 ((Ch.set3 _ _ _ _).alloc _), (h2.start.fin (Ch.set3 _ _ _ _)).alloc _⟩
      · rw [if_pos hk] at ho
        subst ho
        have hk2 : ((kd : Int) + 2 != 2) = true := by simp; omega
        by_cases hk1 : kd = 1
        · subst hk1
          have hx' : (x.toList == [125]) = false := beq_eq_false_iff_ne.2 (fun e => hc ⟨rfl, e⟩)
          clear hc
          go_enter Tryz.func42, Tryz.ntmps42
          go_wp2_with (go_at_call 25; refine NX.out.mono ?_; rintro e w1 ⟨rfl, h1, h2⟩; have Z := Aside0.mk (res0 h2 hg); obtain ⟨k0, k1, k2, y0, y1, y2⟩ := row3 Z.out; have hwl := blk_lt Z.out; dsimp only [tkC])
          have hgl : g < w1.heap.size := by omega
          have T0 := blk_new w1 (.cells #[.int .i64 3, .int .i64 (a : Int), .string x] 63)
          have Z1 := blk_alloc Z.out (.cells #[.int .i64 3, .int .i64 (a : Int), .string x] 63)
          have H1 := Aside0.mk (h1.alloc (.cells #[.int .i64 3, .int .i64 (a : Int), .string x] 63))
          have H2 := Aside0.mk (h2.start.alloc (.cells #[.int .i64 3, .int .i64 (a : Int), .string x] 63))
          clear Z k0 k1 k2 y0 y1 y2 h1 h2 NX
          generalize w1.alloc (.cells #[.int .i64 3, .int .i64 (a : Int), .string x] 63) = wq at *
          obtain ⟨bt, hbt⟩ : ∃ bt, w1.heap.size = bt := ⟨_, rfl⟩
          rw [hbt] at T0 hwl hgl ⊢
          clear hbt
          have hgl2 : g < wq.heap.size := H1.out.lt
          obtain ⟨t0, t1, t2, _, _, _⟩ := row3 T0
          obtain ⟨k0, k1, k2, y0, y1, y2⟩ := row3 Z1
          obtain ⟨bd, ps, hf⟩ := H1.out.fl
          have HF := Aside0.mk hf
          have d37 : wq.cell? ⟨g, 37, none⟩ = some (.int .i64 bd) := blk_cell hf 37
          have d38 : wq.cell? ⟨g, 38, none⟩ = some (.int .i64 ps) := blk_cell hf 38
          have h37 : wq.frozen? ⟨g, 37, none⟩ = false := blk_frozen hf 37
          have h38 : wq.frozen? ⟨g, 38, none⟩ = false := blk_frozen hf 38
          have AF := Aside0.mk (fail_x wq.drew g (.int .i64 bd) (.int .i64 ps) 121 (a : Int) d37 d38 h37 h38)
          have Z2 := Aside0.mk Z1
          clear hf T0 Z1
          have hne : w.heap.size ≠ g := by omega
          have hne2 : g ≠ bt := by omega
          have hne3 : w.heap.size ≠ bt := by omega
          go_region_held3 (fun W => W.cell? ⟨bt, 0, none⟩ = some (.int .i64 3) ∧ W.cell? ⟨bt, 1, none⟩ = some (.int .i64 (a : Int)) ∧ W.cell? ⟨bt, 2, none⟩ = some (.string x)) (go_keep) (first | (go_at_call 26; refine AF.out.mono ?_; rintro e w' ⟨rfl, rfl⟩))
          all_goals
            go_wp2
            have N1 := blk_far (blk_far Z2.out (p := ⟨g, 37, none⟩) hne (.int .i64 121)) (p := ⟨g, 38, none⟩) hne (.int .i64 (a : Int))
            have F1 := fail_x_at HF.out 121 (a : Int)
            refine bodyPost_ret (results_ctt rfl _ _ w.heap.size 63 _ (0, 0) _ rfl (blk_drew (put3 N1 _ _ _)) Tryz.underlying63 rfl (by kernel_rfl)) rfl ?_
            refine ⟨⟨⟨_, _, _⟩, rfl⟩, FaultAt.res ⟨_, _, F1⟩ hg (Ch.set3 _ _ _ _).drew (by simp; exact hgl2), ?_⟩
            exact (((H2.out.set (by simp) 37 _).set (by simp) 38 _).fin (Ch.set3 _ _ _ _)).drew
        · have hk3 : ((kd : Int) + 2 == 3) = false := by simp; omega
          clear hc
          go_enter Tryz.func42, Tryz.ntmps42
          go_wp2_with (go_at_call 25; refine NX.out.mono ?_; rintro e w1 ⟨rfl, h1, h2⟩; have Z := Aside0.mk (res0 h2 hg); obtain ⟨k0, k1, k2, y0, y1, y2⟩ := row3 Z.out; have hwl := blk_lt Z.out; dsimp only [tkC])
          have hgl : g < w1.heap.size := by omega
          have T0 := blk_new w1 (.cells #[.int .i64 ((kd : Int) + 2), .int .i64 (a : Int), .string x] 63)
          have Z1 := blk_alloc Z.out (.cells #[.int .i64 ((kd : Int) + 2), .int .i64 (a : Int), .string x] 63)
          have H1 := Aside0.mk (h1.alloc (.cells #[.int .i64 ((kd : Int) + 2), .int .i64 (a : Int), .string x] 63))
          have H2 := Aside0.mk (h2.start.alloc (.cells #[.int .i64 ((kd : Int) + 2), .int .i64 (a : Int), .string x] 63))
          clear Z k0 k1 k2 y0 y1 y2 h1 h2 NX
          generalize w1.alloc (.cells #[.int .i64 ((kd : Int) + 2), .int .i64 (a : Int), .string x] 63) = wq at *
          obtain ⟨bt, hbt⟩ : ∃ bt, w1.heap.size = bt := ⟨_, rfl⟩
          rw [hbt] at T0 hwl hgl ⊢
          clear hbt
          have hgl2 : g < wq.heap.size := H1.out.lt
          obtain ⟨t0, t1, t2, _, _, _⟩ := row3 T0
          obtain ⟨k0, k1, k2, y0, y1, y2⟩ := row3 Z1
          obtain ⟨bd, ps, hf⟩ := H1.out.fl
          have HF := Aside0.mk hf
          have d37 : wq.cell? ⟨g, 37, none⟩ = some (.int .i64 bd) := blk_cell hf 37
          have d38 : wq.cell? ⟨g, 38, none⟩ = some (.int .i64 ps) := blk_cell hf 38
          have h37 : wq.frozen? ⟨g, 37, none⟩ = false := blk_frozen hf 37
          have h38 : wq.frozen? ⟨g, 38, none⟩ = false := blk_frozen hf 38
          have AF := Aside0.mk (fail_x wq.drew g (.int .i64 bd) (.int .i64 ps) 121 (a : Int) d37 d38 h37 h38)
          have Z2 := Aside0.mk Z1
          clear hf T0 Z1
          have hne : w.heap.size ≠ g := by omega
          have hne2 : g ≠ bt := by omega
          have hne3 : w.heap.size ≠ bt := by omega
          go_region_held3 (fun W => W.cell? ⟨bt, 0, none⟩ = some (.int .i64 ((kd : Int) + 2)) ∧ W.cell? ⟨bt, 1, none⟩ = some (.int .i64 (a : Int)) ∧ W.cell? ⟨bt, 2, none⟩ = some (.string x)) (go_keep) (first | (go_at_call 26; refine AF.out.mono ?_; rintro e w' ⟨rfl, rfl⟩))
          all_goals
            go_wp2
            have N1 := blk_far (blk_far Z2.out (p := ⟨g, 37, none⟩) hne (.int .i64 121)) (p := ⟨g, 38, none⟩) hne (.int .i64 (a : Int))
            have F1 := fail_x_at HF.out 121 (a : Int)
            refine bodyPost_ret (results_ctt rfl _ _ w.heap.size 63 _ (0, 0) _ rfl (blk_drew (put3 N1 _ _ _)) Tryz.underlying63 rfl (by kernel_rfl)) rfl ?_
            refine ⟨⟨⟨_, _, _⟩, rfl⟩, FaultAt.res ⟨_, _, F1⟩ hg (Ch.set3 _ _ _ _).drew (by simp; exact hgl2), ?_⟩
            exact (((H2.out.set (by simp) 37 _).set (by simp) 38 _).fin (Ch.set3 _ _ _ _)).drew
end Go.Proofs.YtfecfgimfjcbdaaGreatDoor.Cf
