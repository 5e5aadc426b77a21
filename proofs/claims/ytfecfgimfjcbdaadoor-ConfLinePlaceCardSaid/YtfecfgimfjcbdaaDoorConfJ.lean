/- The reference's reading of a status line, in plain words; its table read. -/
import Derived.Test.YtfecfgimfjcbdaaDoorConfI
import Derived.Test.YtfecfgimfjcbdaaDoorConfP
namespace Go.Proofs.YtfecfgimfjcbdaaDoor.Cf
open Go.RowKit Go.Proofs.YtfecfgimfjcbdaaDoorW.PrintWords Go.Proofs.YtfecfgimfjcbdaaDoor.QCParseStatus

/-- The 30 parts. -/
def rTab : List Pt :=
  [.lit (⟨#[99, 115, 58]⟩ : ByteArray), .words cConn, .lit (⟨#[32, 114, 111, 58]⟩ : ByteArray), .words (cRoles.take 2), .lit (⟨#[47]⟩ : ByteArray), .words cRoles, .lit (⟨#[32, 100, 115, 58]⟩ : ByteArray), .words (cDisks.take 3), .lit (⟨#[47]⟩ : ByteArray), .words cDisks, .lit (⟨#[32]⟩ : ByteArray), .words cProt,
   .lit (⟨#[32, 110, 115, 58]⟩ : ByteArray), .num, .lit (⟨#[32, 110, 114, 58]⟩ : ByteArray), .num, .lit (⟨#[32, 100, 119, 58]⟩ : ByteArray), .num, .lit (⟨#[32, 100, 114, 58]⟩ : ByteArray), .num, .lit (⟨#[32, 97, 108, 58]⟩ : ByteArray), .num, .lit (⟨#[32, 97, 112, 58]⟩ : ByteArray), .num, .lit (⟨#[32, 117, 97, 58]⟩ : ByteArray), .num, .lit (⟨#[32, 101, 112, 58]⟩ : ByteArray), .num, .lit (⟨#[32, 111, 111, 115, 58]⟩ : ByteArray), .num]

def Pt.isLit : Pt → Bool
  | .lit _ => true
  | _ => false

/-- The words' slice of a part, as it is read. -/
def WordsAt (w : World) (v : Value) (ws : List ByteArray) : Prop := ∃ A c, v = .slice A ws.length c ∧ ws.length ≤ c ∧ Kd.C Kd.string w A ws.length ws
theorem WordsAt.none (w : World) : WordsAt w (.slice none 0 0) [] := ⟨_, _, rfl, Nat.le_refl _, rfl, by decide, fun h => absurd h (by simp)⟩
theorem WordsAt.of {w : World} {B : Nat} {v : Value} {ws : List ByteArray} (h : StrBlk w B v ws) : WordsAt w v ws := by
  have h' := h.reads
  obtain ⟨gw, c, rest, rfl, hc, hl, hB, hb⟩ := h
  obtain ⟨ad, cc, e, hr⟩ := h'
  cases e
  exact ⟨_, _, rfl, hc, hr⟩
theorem WordsAt.below {w w1 : World} {v : Value} {ws : List ByteArray} (h : WordsAt w v ws) (hb : Below w.heap.size w w1) : WordsAt w1 v ws := by
  obtain ⟨A, c, rfl, hc, hr⟩ := h
  exact ⟨A, c, rfl, hc, Kd.C_below hr hb⟩

/-- Part i over block g. -/
def PieceR (w : World) (g i : Nat) (p : Pt) : Prop :=
  ∃ (t : ByteArray) (v : Value) (b : Bool) (ws : List ByteArray), w.cell? ⟨g, i * 3, none⟩ = some (.string t) ∧ w.cell? ⟨g, i * 3 + 1, none⟩ = some v ∧ w.cell? ⟨g, i * 3 + 2, none⟩ = some (.bool b) ∧ WordsAt w v ws ∧ ptIs p t ws b ∧ (t.toList == ([] : List UInt8)) = !p.isLit
theorem PieceR.below {w w1 : World} {g i : Nat} {p : Pt} (h : PieceR w g i p) (hb : Below w.heap.size w w1) : PieceR w1 g i p := by
  obtain ⟨t, v, b, ws, h1, h2, h3, h4, h5⟩ := h
  exact ⟨t, v, b, ws, pw_cell_below hb h1, pw_cell_below hb h2, pw_cell_below hb h3, h4.below hb, h5⟩

set_option maxRecDepth 100000 in
set_option maxHeartbeats 1000000 in
theorem refparts_any (w : World) : Calls Tryd.prog 45 #[] w fun e w' => ∃ (g c : Nat), e = .returned (.slice (some ⟨g, 0, none⟩) 30 c) ∧ Below w.heap.size w w' ∧ ∀ i p, rTab[i]? = some p → PieceR w' g i p := by
  refine (refparts_blk w).mono ?_
  rintro e w' ⟨v, v0, v1, v2, v3, v4, v5, rfl, hb, ho, s0, s1, s2, s3, s4, s5⟩
  obtain ⟨_, ⟨_, h⟩ | ⟨g, cap, cur, rfl, hg, hh, hc, hm, hs, ht⟩⟩ := ho
  · cases h
  refine ⟨g, cap, rfl, hb, fun i p hi => ?_⟩
  have hcell : ∀ j u, j < 90 → (rHead v0 v1 v2 v3 v4 v5 ++ rNames.flatMap rNum)[j]? = some u → w'.cell? ⟨g, j, none⟩ = some u := by
    intro j u hj hu
    rw [blk_cell hh j, ← hu, ← ht, List.getElem?_take_of_lt (by omega), Array.getElem?_toList]
  have hl : i < 30 := (List.getElem?_eq_some_iff.1 hi).1
  have H := Aside0.mk hcell
  clear hcell ht hh
  have W0 := WordsAt.of s0
  have W1 := WordsAt.of s1
  have W2 := WordsAt.of s2
  have W3 := WordsAt.of s3
  have W4 := WordsAt.of s4
  have W5 := WordsAt.of s5
  rcases i with _ | _ | _ | _ | _ | _ | _ | _ | _ | _ | _ | _ | _ | _ | _ | _ | _ | _ | _ | _ | _ | _ | _ | _ | _ | _ | _ | _ | _ | _ | i
  case succ.succ.succ.succ.succ.succ.succ.succ.succ.succ.succ.succ.succ.succ.succ.succ.succ.succ.succ.succ.succ.succ.succ.succ.succ.succ.succ.succ.succ.succ => omega
  · obtain rfl := Option.some.inj hi; exact ⟨_, _, _, [], H.out _ _ (by decide) rfl, H.out _ _ (by decide) rfl, H.out _ _ (by decide) rfl, WordsAt.none _, ⟨rfl, by decide +kernel, by decide⟩, by decide +kernel⟩
  · obtain rfl := Option.some.inj hi; exact ⟨_, _, _, _, H.out _ _ (by decide) rfl, H.out _ _ (by decide) rfl, H.out _ _ (by decide) rfl, W0, ⟨rfl, rfl, rfl, by decide, by decide⟩, by decide +kernel⟩
  · obtain rfl := Option.some.inj hi; exact ⟨_, _, _, [], H.out _ _ (by decide) rfl, H.out _ _ (by decide) rfl, H.out _ _ (by decide) rfl, WordsAt.none _, ⟨rfl, by decide +kernel, by decide⟩, by decide +kernel⟩
  · obtain rfl := Option.some.inj hi; exact ⟨_, _, _, _, H.out _ _ (by decide) rfl, H.out _ _ (by decide) rfl, H.out _ _ (by decide) rfl, W1, ⟨rfl, rfl, rfl, by decide, by decide⟩, by decide +kernel⟩
  · obtain rfl := Option.some.inj hi; exact ⟨_, _, _, [], H.out _ _ (by decide) rfl, H.out _ _ (by decide) rfl, H.out _ _ (by decide) rfl, WordsAt.none _, ⟨rfl, by decide +kernel, by decide⟩, by decide +kernel⟩
  · obtain rfl := Option.some.inj hi; exact ⟨_, _, _, _, H.out _ _ (by decide) rfl, H.out _ _ (by decide) rfl, H.out _ _ (by decide) rfl, W2, ⟨rfl, rfl, rfl, by decide, by decide⟩, by decide +kernel⟩
  · obtain rfl := Option.some.inj hi; exact ⟨_, _, _, [], H.out _ _ (by decide) rfl, H.out _ _ (by decide) rfl, H.out _ _ (by decide) rfl, WordsAt.none _, ⟨rfl, by decide +kernel, by decide⟩, by decide +kernel⟩
  · obtain rfl := Option.some.inj hi; exact ⟨_, _, _, _, H.out _ _ (by decide) rfl, H.out _ _ (by decide) rfl, H.out _ _ (by decide) rfl, W3, ⟨rfl, rfl, rfl, by decide, by decide⟩, by decide +kernel⟩
  · obtain rfl := Option.some.inj hi; exact ⟨_, _, _, [], H.out _ _ (by decide) rfl, H.out _ _ (by decide) rfl, H.out _ _ (by decide) rfl, WordsAt.none _, ⟨rfl, by decide +kernel, by decide⟩, by decide +kernel⟩
  · obtain rfl := Option.some.inj hi; exact ⟨_, _, _, _, H.out _ _ (by decide) rfl, H.out _ _ (by decide) rfl, H.out _ _ (by decide) rfl, W4, ⟨rfl, rfl, rfl, by decide, by decide⟩, by decide +kernel⟩
  · obtain rfl := Option.some.inj hi; exact ⟨_, _, _, [], H.out _ _ (by decide) rfl, H.out _ _ (by decide) rfl, H.out _ _ (by decide) rfl, WordsAt.none _, ⟨rfl, by decide +kernel, by decide⟩, by decide +kernel⟩
  · obtain rfl := Option.some.inj hi; exact ⟨_, _, _, _, H.out _ _ (by decide) rfl, H.out _ _ (by decide) rfl, H.out _ _ (by decide) rfl, W5, ⟨rfl, rfl, rfl, by decide, by decide⟩, by decide +kernel⟩
  · obtain rfl := Option.some.inj hi; exact ⟨_, _, _, [], H.out _ _ (by decide) rfl, H.out _ _ (by decide) rfl, H.out _ _ (by decide) rfl, WordsAt.none _, ⟨rfl, by decide +kernel, by decide⟩, by decide +kernel⟩
  · obtain rfl := Option.some.inj hi; exact ⟨_, _, _, [], H.out _ _ (by decide) rfl, H.out _ _ (by decide) rfl, H.out _ _ (by decide) rfl, WordsAt.none _, ⟨rfl, rfl⟩, by decide +kernel⟩
  · obtain rfl := Option.some.inj hi; exact ⟨_, _, _, [], H.out _ _ (by decide) rfl, H.out _ _ (by decide) rfl, H.out _ _ (by decide) rfl, WordsAt.none _, ⟨rfl, by decide +kernel, by decide⟩, by decide +kernel⟩
  · obtain rfl := Option.some.inj hi; exact ⟨_, _, _, [], H.out _ _ (by decide) rfl, H.out _ _ (by decide) rfl, H.out _ _ (by decide) rfl, WordsAt.none _, ⟨rfl, rfl⟩, by decide +kernel⟩
  · obtain rfl := Option.some.inj hi; exact ⟨_, _, _, [], H.out _ _ (by decide) rfl, H.out _ _ (by decide) rfl, H.out _ _ (by decide) rfl, WordsAt.none _, ⟨rfl, by decide +kernel, by decide⟩, by decide +kernel⟩
  · obtain rfl := Option.some.inj hi; exact ⟨_, _, _, [], H.out _ _ (by decide) rfl, H.out _ _ (by decide) rfl, H.out _ _ (by decide) rfl, WordsAt.none _, ⟨rfl, rfl⟩, by decide +kernel⟩
  · obtain rfl := Option.some.inj hi; exact ⟨_, _, _, [], H.out _ _ (by decide) rfl, H.out _ _ (by decide) rfl, H.out _ _ (by decide) rfl, WordsAt.none _, ⟨rfl, by decide +kernel, by decide⟩, by decide +kernel⟩
  · obtain rfl := Option.some.inj hi; exact ⟨_, _, _, [], H.out _ _ (by decide) rfl, H.out _ _ (by decide) rfl, H.out _ _ (by decide) rfl, WordsAt.none _, ⟨rfl, rfl⟩, by decide +kernel⟩
  · obtain rfl := Option.some.inj hi; exact ⟨_, _, _, [], H.out _ _ (by decide) rfl, H.out _ _ (by decide) rfl, H.out _ _ (by decide) rfl, WordsAt.none _, ⟨rfl, by decide +kernel, by decide⟩, by decide +kernel⟩
  · obtain rfl := Option.some.inj hi; exact ⟨_, _, _, [], H.out _ _ (by decide) rfl, H.out _ _ (by decide) rfl, H.out _ _ (by decide) rfl, WordsAt.none _, ⟨rfl, rfl⟩, by decide +kernel⟩
  · obtain rfl := Option.some.inj hi; exact ⟨_, _, _, [], H.out _ _ (by decide) rfl, H.out _ _ (by decide) rfl, H.out _ _ (by decide) rfl, WordsAt.none _, ⟨rfl, by decide +kernel, by decide⟩, by decide +kernel⟩
  · obtain rfl := Option.some.inj hi; exact ⟨_, _, _, [], H.out _ _ (by decide) rfl, H.out _ _ (by decide) rfl, H.out _ _ (by decide) rfl, WordsAt.none _, ⟨rfl, rfl⟩, by decide +kernel⟩
  · obtain rfl := Option.some.inj hi; exact ⟨_, _, _, [], H.out _ _ (by decide) rfl, H.out _ _ (by decide) rfl, H.out _ _ (by decide) rfl, WordsAt.none _, ⟨rfl, by decide +kernel, by decide⟩, by decide +kernel⟩
  · obtain rfl := Option.some.inj hi; exact ⟨_, _, _, [], H.out _ _ (by decide) rfl, H.out _ _ (by decide) rfl, H.out _ _ (by decide) rfl, WordsAt.none _, ⟨rfl, rfl⟩, by decide +kernel⟩
  · obtain rfl := Option.some.inj hi; exact ⟨_, _, _, [], H.out _ _ (by decide) rfl, H.out _ _ (by decide) rfl, H.out _ _ (by decide) rfl, WordsAt.none _, ⟨rfl, by decide +kernel, by decide⟩, by decide +kernel⟩
  · obtain rfl := Option.some.inj hi; exact ⟨_, _, _, [], H.out _ _ (by decide) rfl, H.out _ _ (by decide) rfl, H.out _ _ (by decide) rfl, WordsAt.none _, ⟨rfl, rfl⟩, by decide +kernel⟩
  · obtain rfl := Option.some.inj hi; exact ⟨_, _, _, [], H.out _ _ (by decide) rfl, H.out _ _ (by decide) rfl, H.out _ _ (by decide) rfl, WordsAt.none _, ⟨rfl, by decide +kernel, by decide⟩, by decide +kernel⟩
  · obtain rfl := Option.some.inj hi; exact ⟨_, _, _, [], H.out _ _ (by decide) rfl, H.out _ _ (by decide) rfl, H.out _ _ (by decide) rfl, WordsAt.none _, ⟨rfl, rfl⟩, by decide +kernel⟩
end Go.Proofs.YtfecfgimfjcbdaaDoor.Cf
