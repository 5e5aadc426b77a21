/- The reference's mark, part: walked. -/
import Derived.Test.YtfecfgimfjcbdaaGreatDoorKConfYd
namespace Go.Proofs.YtfecfgimfjcbdaaGreatDoor.Cf
open Go.RowKit Go.Proofs.YtfecfgimfjcbdaaGreatDoorW.PrintWords Go.Proofs.YtfecfgimfjcbdaaGreatDoorW.PrintLast Go.Proofs.YtfecfgimfjcbdaaGreatDoorW.PrintMore Go.Proofs.YtfecfgimfjcbdaaGreatDoor.QRParse

/-- The File in block g stands at place p of the text. -/
structure RF (w : World) (g : Nat) (lv : Value) (L : List TkT) (s : ByteArray) (v : FV) (p : Nat) : Prop where
  fl : ∃ bad pos, FileAt w g lv v bad pos
  tk : Toked w g lv L
  ps : Pos s L v.at_ p
theorem RF.lt {w : World} {g : Nat} {lv : Value} {L : List TkT} {s : ByteArray} {v : FV} {p : Nat} (h : RF w g lv L s v p) : g < w.heap.size := by
  obtain ⟨_, _, h⟩ := h.fl
  exact blk_lt h
/-- Other blocks are no concern of it. -/
theorem RF.keep {w w1 : World} {g : Nat} {lv : Value} {L : List TkT} {s : ByteArray} {v : FV} {p : Nat} (h : RF w g lv L s v p) (hc : Ch [] w w1) : RF w1 g lv L s v p := by
  obtain ⟨a, b, hf⟩ := h.fl
  exact ⟨⟨a, b, (hc.block g (blk_lt hf) (by simp)).trans hf⟩, h.tk.ch (hc.more (by simp)), h.ps⟩
/-- As above, while new blocks turn too. -/
theorem RF.new {w w1 : World} {g : Nat} {lv : Value} {L : List TkT} {s : ByteArray} {v : FV} {p : Nat} {l : List Nat} (h : RF w g lv L s v p) (hc : Ch l w w1) (hl : ∀ k ∈ l, w.heap.size ≤ k) : RF w1 g lv L s v p := by
  have hb : Ch [] w w1 := ⟨hc.os, hc.tape, hc.output, hc.size, fun i hi _ => hc.block i hi (fun e => by have := hl i e; omega)⟩
  exact h.keep hb
theorem FaultAt.keep {w w1 : World} {g : Nat} {er a : Int} (h : FaultAt w g er a) (hb : Below w.heap.size w w1) : FaultAt w1 g er a := by
  obtain ⟨lv, v, h⟩ := h
  exact ⟨lv, v, h.keep hb⟩
def FV.nx (v : FV) : FV := { v with at_ := v.at_ + 1 }
def NxPost (g : Nat) (lv : Value) (L : List TkT) (s : ByteArray) (v : FV) (w : World) (o : Except Nat (Nat × Nat × ByteArray × Nat)) (e : Ending) (w' : World) : Prop :=
  match o with
  | .ok (kd, a, x, q) => e = .returned (.tuple #[.agg (tkC ⟨((kd + 2 : Nat) : Int), (a : Int), x⟩), .bool true]) ∧ RF w' g lv L s v.nx q ∧ Ch [g] w w'
  | .error a => (∃ t, e = .returned (.tuple #[.agg (tkC t), .bool false])) ∧ FaultAt w' g 121 a ∧ Ch [g] w w'
theorem rnext_any {w : World} {g : Nat} {lv : Value} {L : List TkT} {s : ByteArray} {v : FV} {p : Nat} (h : RF w g lv L s v p) {o : Except Nat (Nat × Nat × ByteArray × Nat)} (ho : nextP s p = o) :
    Calls Tryz.prog 25 #[.pointer (some ⟨g, 0, none⟩)] w (NxPost g lv L s v w o) := by
  obtain ⟨⟨bad, pos, hf⟩, hk, hp⟩ := h
  cases o with
  | error a =>
    have ht := (hp.bad ho).1
    refine (rnext_bad w g lv v bad pos L _ hf hk ht (by dsimp only; split <;> simp)).mono ?_
    rintro e w' ⟨rfl, h1, h2⟩
    exact ⟨⟨_, rfl⟩, ⟨_, _, h1⟩, h2⟩
  | ok y =>
    obtain ⟨kd, a, x, q⟩ := y
    have ht := hp.tok ho
    refine (rnext_ok w g lv v bad pos L _ hf hk ht.1 ⟨by dsimp only; omega, by dsimp only; omega⟩).mono ?_
    rintro e w' ⟨rfl, h1, h2⟩
    exact ⟨rfl, ⟨⟨_, _, h1⟩, hk.ch h2, ht.2.1⟩, h2⟩
theorem rfail_any {w : World} {g : Nat} {lv : Value} {L : List TkT} {s : ByteArray} {v : FV} {p : Nat} (h : RF w g lv L s v p) (er a : Int) :
    Calls Tryz.prog 26 #[.pointer (some ⟨g, 0, none⟩), .int .i64 er, .int .i64 a] w fun e w' => e = .returned (.bool false) ∧ FaultAt w' g er a ∧ Ch [g] w w' := by
  obtain ⟨⟨bad, pos, hf⟩, _, _⟩ := h
  refine (fail_any w g lv v bad pos er a hf).mono ?_
  rintro e w' ⟨h0, h1, h2⟩
  exact ⟨h0, ⟨_, _, h1⟩, h2⟩
theorem FaultAt.alloc {w : World} {g : Nat} {er a : Int} (h : FaultAt w g er a) (o : Obj) : FaultAt (w.alloc o) g er a := h.keep ((Below.refl _ _).alloc (Nat.le_refl _) _)
theorem RF.alloc {w : World} {g : Nat} {lv : Value} {L : List TkT} {s : ByteArray} {v : FV} {p : Nat} (h : RF w g lv L s v p) (o : Obj) : RF (w.alloc o) g lv L s v p := h.keep ((Ch.refl [] w).alloc o)
def MkPost (g : Nat) (lv : Value) (L : List TkT) (s : ByteArray) (v : FV) (w : World) (o : Except (Nat × Int) (Nat × Nat)) (e : Ending) (w' : World) : Prop :=
  match o with
  | .ok (_, q) => e = .returned (.bool true) ∧ RF w' g lv L s v.nx q ∧ Ch [g] w w'
  | .error (a, er) => e = .returned (.bool false) ∧ FaultAt w' g er a ∧ Ch [g] w w'
set_option maxRecDepth 100000 in
set_option maxHeartbeats 1000000 in
theorem rmark_any {w : World} {g : Nat} {lv : Value} {L : List TkT} {s : ByteArray} {v : FV} {p : Nat} (h : RF w g lv L s v p) (m : ByteArray) {o : Except (Nat × Int) (Nat × Nat)} (ho : wantP s p 1 m = o) :
    Calls Tryz.prog 28 #[.pointer (some ⟨g, 0, none⟩), .string m] w (MkPost g lv L s v w o) := by
  unfold wantP at ho
  have hg := h.lt
  cases hn : nextP s p with
  | error a =>
    rw [hn] at ho
    dsimp only at ho
    have NX := Aside0.mk (rnext_any h hn)
    clear h hn
    go_enter Tryz.func28, Tryz.ntmps28
    go_wp2_with (go_at_call 25; refine NX.out.mono ?_; rintro e w1 ⟨⟨t, rfl⟩, h1, h2⟩; dsimp only [tkC])
    go_ret
    subst ho
    exact ⟨rfl, h1.alloc _, h2.alloc _⟩
  | ok y =>
    obtain ⟨kd, a, x, q⟩ := y
    rw [hn] at ho
    dsimp only at ho
    have NX := Aside0.mk (rnext_any h hn)
    clear h hn
    by_cases hc : kd = 1 ∧ x.toList = m.toList
    · rw [if_pos hc] at ho
      obtain ⟨rfl, hx⟩ := hc
      have hx' : (x.toList == m.toList) = true := beq_iff_eq.2 hx
      subst ho
      clear hx
      go_enter Tryz.func28, Tryz.ntmps28
      go_wp2_with (go_at_call 25; refine NX.out.mono ?_; rintro e w1 ⟨rfl, h1, h2⟩; dsimp only [tkC])
      go_ret
      exact ⟨rfl, h1.alloc _, h2.alloc _⟩
    · rw [if_neg hc] at ho
      subst ho
      by_cases hk : kd = 1
      · subst hk
        have hx' : (x.toList == m.toList) = false := beq_eq_false_iff_ne.2 (fun e => hc ⟨rfl, e⟩)
        clear hc
        go_enter Tryz.func28, Tryz.ntmps28
        go_wp2_with (first
          | (go_at_call 25; refine NX.out.mono ?_; rintro e w1 ⟨rfl, h1, h2⟩; dsimp only [tkC])
          | (go_at_call 26; refine (rfail_any (h1.alloc _) _ _).mono ?_; rintro e w2 ⟨rfl, h3, h4⟩))
        go_ret
        exact ⟨rfl, h3, (h2.alloc _).trans h4⟩
      · have hk' : ((kd : Int) + 2 != 3) = true := by simp; omega
        clear hc
        go_enter Tryz.func28, Tryz.ntmps28
        go_wp2_with (first
          | (go_at_call 25; refine NX.out.mono ?_; rintro e w1 ⟨rfl, h1, h2⟩; dsimp only [tkC])
          | (go_at_call 26; refine (rfail_any (h1.alloc _) _ _).mono ?_; rintro e w2 ⟨rfl, h3, h4⟩))
        go_ret
        exact ⟨rfl, h3, (h2.alloc _).trans h4⟩
end Go.Proofs.YtfecfgimfjcbdaaGreatDoor.Cf
