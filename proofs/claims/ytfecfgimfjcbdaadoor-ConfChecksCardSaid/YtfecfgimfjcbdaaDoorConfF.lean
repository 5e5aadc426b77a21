/- The table of a status line's pieces, as the program makes it. -/
import Derived.Test.YtfecfgimfjcbdaaDoorConfD
namespace Go.Proofs.YtfecfgimfjcbdaaDoor.Cf
open Go.RowKit Go.Proofs.YtfecfgimfjcbdaaDoorW.PrintWords Go.Proofs.YtfecfgimfjcbdaaDoorW.PrintLast Go.Proofs.YtfecfgimfjcbdaaDoorW.PrintMore Go.Proofs.YtfecfgimfjcbdaaDoor.QCParseStatus

def cConn : List ByteArray := [(⟨#[83, 116, 97, 110, 100, 65, 108, 111, 110, 101]⟩ : ByteArray), (⟨#[67, 111, 110, 110, 101, 99, 116, 105, 110, 103]⟩ : ByteArray), (⟨#[71, 114, 101, 101, 116, 105, 110, 103]⟩ : ByteArray), (⟨#[67, 111, 110, 110, 101, 99, 116, 101, 100]⟩ : ByteArray), (⟨#[83, 121, 110, 99, 83, 111, 117, 114, 99, 101]⟩ : ByteArray), (⟨#[83, 121, 110, 99, 84, 97, 114, 103, 101, 116]⟩ : ByteArray), (⟨#[86, 101, 114, 105, 102, 121, 83, 111, 117, 114, 99, 101]⟩ : ByteArray), (⟨#[86, 101, 114, 105, 102, 121, 84, 97, 114, 103, 101, 116]⟩ : ByteArray)]
def cRoles : List ByteArray := [(⟨#[83, 101, 99, 111, 110, 100, 97, 114, 121]⟩ : ByteArray), (⟨#[80, 114, 105, 109, 97, 114, 121]⟩ : ByteArray), (⟨#[85, 110, 107, 110, 111, 119, 110]⟩ : ByteArray)]
def cDisks : List ByteArray := [(⟨#[73, 110, 99, 111, 110, 115, 105, 115, 116, 101, 110, 116]⟩ : ByteArray), (⟨#[79, 117, 116, 100, 97, 116, 101, 100]⟩ : ByteArray), (⟨#[85, 112, 84, 111, 68, 97, 116, 101]⟩ : ByteArray), (⟨#[68, 85, 110, 107, 110, 111, 119, 110]⟩ : ByteArray)]
def cProt : List ByteArray := [(⟨#[65]⟩ : ByteArray), (⟨#[66]⟩ : ByteArray), (⟨#[67]⟩ : ByteArray)]

/-- A slice of strings over a block from B on, of which more than the slice may be there. -/
def StrBlk (w : World) (B : Nat) (v : Value) (ws : List ByteArray) : Prop :=
  ∃ (gw c : Nat) (rest : List ByteArray), v = .slice (some ⟨gw, 0, none⟩) ws.length c ∧ ws.length ≤ c ∧ ws.length ≤ 1000 ∧ B ≤ gw ∧ w.heap[gw]? = some (.cells ((ws ++ rest).map Value.string).toArray 9 (0, 0))

theorem StrBlk.keep {w w1 : World} {B : Nat} {v : Value} {ws : List ByteArray} (h : StrBlk w B v ws) (hk : ∀ k, B ≤ k → k < w.heap.size → w1.heap[k]? = w.heap[k]?) : StrBlk w1 B v ws := by
  obtain ⟨gw, c, rest, rfl, hc, hl, hB, hb⟩ := h
  exact ⟨gw, c, rest, rfl, hc, hl, hB, (hk gw hB (blk_lt hb)).trans hb⟩
theorem StrBlk.reads {w : World} {B : Nat} {v : Value} {ws : List ByteArray} (h : StrBlk w B v ws) : ∃ ad c, v = .slice (some ad) ws.length c ∧ Kd.C Kd.string w (some ad) ws.length ws := by
  obtain ⟨gw, c, rest, rfl, hc, hl, hB, hb⟩ := h
  refine ⟨_, c, rfl, rfl, by omega, fun _ => ⟨_, rfl, fun j p hj => ⟨[.string p], rfl, rfl, fun i u hu => ?_⟩⟩⟩
  have hi : i = 0 := by
    rcases i with _ | i
    · rfl
    · simp at hu
  subst hi
  have hj' : j < ws.length := (List.getElem?_eq_some_iff.1 hj).1
  rw [show Kd.string.sz = 1 from rfl, show j * 1 + 0 = j by omega, add_plain, blk_cell hb j]
  rw [← hu, List.getElem?_toArray, List.getElem?_map, List.getElem?_append_left hj', hj]
  rfl

/-- The 15 pieces: what stands ahead, the words (or none), what the first of them stands for. -/
def cTab : List (ByteArray × Option (List ByteArray) × Int) :=
  [((⟨#[99, 115, 58]⟩ : ByteArray), some cConn, 0), ((⟨#[32, 114, 111, 58]⟩ : ByteArray), some (cRoles.take 2), 0), ((⟨#[47]⟩ : ByteArray), some cRoles, 0), ((⟨#[32, 100, 115, 58]⟩ : ByteArray), some (cDisks.take 3), 0), ((⟨#[47]⟩ : ByteArray), some cDisks, 0), ((⟨#[32]⟩ : ByteArray), some cProt, 1),
   ((⟨#[32, 110, 115, 58]⟩ : ByteArray), none, 0), ((⟨#[32, 110, 114, 58]⟩ : ByteArray), none, 0), ((⟨#[32, 100, 119, 58]⟩ : ByteArray), none, 0), ((⟨#[32, 100, 114, 58]⟩ : ByteArray), none, 0), ((⟨#[32, 97, 108, 58]⟩ : ByteArray), none, 0), ((⟨#[32, 97, 112, 58]⟩ : ByteArray), none, 0), ((⟨#[32, 117, 97, 58]⟩ : ByteArray), none, 0), ((⟨#[32, 101, 112, 58]⟩ : ByteArray), none, 0), ((⟨#[32, 111, 111, 115, 58]⟩ : ByteArray), none, 0)]

/-- Piece i of the table over block g. -/
def Piece (w : World) (B g i : Nat) (t : ByteArray × Option (List ByteArray) × Int) : Prop :=
  w.cell? ⟨g, i * 4, none⟩ = some (.string t.1) ∧ (∃ v, w.cell? ⟨g, i * 4 + 1, none⟩ = some v ∧ match t.2.1 with | some ws => StrBlk w B v ws | none => v = .slice none 0 0) ∧
  w.cell? ⟨g, i * 4 + 2, none⟩ = some (.int .i64 t.2.2) ∧ w.cell? ⟨g, i * 4 + 3, none⟩ = some (.func (.func (79 + i)) #[] #[])

theorem three_new {w w2 : World} {n : Nat} (A B T : Obj) (hb : Below n w w2) (hn : n ≤ w2.heap.size) :
    (((w2.alloc A).alloc B).alloc T).drew.heap[w2.heap.size]? = some A ∧ (((w2.alloc A).alloc B).alloc T).drew.heap[w2.heap.size + 1]? = some B ∧ (((w2.alloc A).alloc B).alloc T).drew.heap[w2.heap.size + 1 + 1]? = some T ∧
    (∀ (k : Nat) (o : Obj), w2.heap[k]? = some o → (((w2.alloc A).alloc B).alloc T).drew.heap[k]? = some o) ∧ Below n w (((w2.alloc A).alloc B).alloc T).drew := by
  have e1 : (w2.alloc A).heap.size = w2.heap.size + 1 := by simp
  have e2 : ((w2.alloc A).alloc B).heap.size = w2.heap.size + 1 + 1 := by simp
  refine ⟨blk_alloc (blk_alloc (blk_new w2 A) B) T, ?_, ?_, fun k o h => blk_alloc (blk_alloc (blk_alloc h A) B) T, below_drew ((((hb.alloc hn A).alloc (by omega) B)).alloc (by omega) T)⟩
  · rw [← e1]; exact blk_alloc (blk_new (w2.alloc A) B) T
  · rw [← e2]; exact blk_new ((w2.alloc A).alloc B) T

set_option maxRecDepth 100000 in
set_option maxHeartbeats 4000000 in
theorem parts_blk (w : World) : Calls Tryd.prog 41 #[] w fun e w' => ∃ (g : Nat) (v0 v1 v2 v3 v4 v5 : Value), e = .returned (.slice (some ⟨g, 0, none⟩) 15 15) ∧ w.heap.size ≤ g ∧ Below w.heap.size w w' ∧
    w'.heap[g]? = some (.cells #[.string (⟨#[99, 115, 58]⟩ : ByteArray), v0, .int .i64 0, .func (.func 79) #[] #[], .string (⟨#[32, 114, 111, 58]⟩ : ByteArray), v1, .int .i64 0, .func (.func 80) #[] #[], .string (⟨#[47]⟩ : ByteArray), v2, .int .i64 0, .func (.func 81) #[] #[], .string (⟨#[32, 100, 115, 58]⟩ : ByteArray), v3, .int .i64 0, .func (.func 82) #[] #[], .string (⟨#[47]⟩ : ByteArray), v4, .int .i64 0, .func (.func 83) #[] #[], .string (⟨#[32]⟩ : ByteArray), v5, .int .i64 1, .func (.func 84) #[] #[], .string (⟨#[32, 110, 115, 58]⟩ : ByteArray), .slice none 0 0, .int .i64 0, .func (.func 85) #[] #[], .string (⟨#[32, 110, 114, 58]⟩ : ByteArray), .slice none 0 0, .int .i64 0, .func (.func 86) #[] #[], .string (⟨#[32, 100, 119, 58]⟩ : ByteArray), .slice none 0 0, .int .i64 0, .func (.func 87) #[] #[], .string (⟨#[32, 100, 114, 58]⟩ : ByteArray), .slice none 0 0, .int .i64 0, .func (.func 88) #[] #[], .string (⟨#[32, 97, 108, 58]⟩ : ByteArray), .slice none 0 0, .int .i64 0, .func (.func 89) #[] #[], .string (⟨#[32, 97, 112, 58]⟩ : ByteArray), .slice none 0 0, .int .i64 0, .func (.func 90) #[] #[], .string (⟨#[32, 117, 97, 58]⟩ : ByteArray), .slice none 0 0, .int .i64 0, .func (.func 91) #[] #[], .string (⟨#[32, 101, 112, 58]⟩ : ByteArray), .slice none 0 0, .int .i64 0, .func (.func 92) #[] #[], .string (⟨#[32, 111, 111, 115, 58]⟩ : ByteArray), .slice none 0 0, .int .i64 0, .func (.func 93) #[] #[]] 76 (0, 0)) ∧
    StrBlk w' w.heap.size v0 cConn ∧ StrBlk w' w.heap.size v1 (cRoles.take 2) ∧ StrBlk w' w.heap.size v2 cRoles ∧ StrBlk w' w.heap.size v3 (cDisks.take 3) ∧ StrBlk w' w.heap.size v4 cDisks ∧ StrBlk w' w.heap.size v5 cProt := by
  go_enter Tryd.func41, Tryd.ntmps41
  go_wp2
  generalize hD : Obj.cells _ 9 = D
  generalize hw1 : w.alloc D = w1
  generalize hR : Obj.cells _ 9 = R
  generalize hw2 : w1.alloc R = w2
  generalize hn : w.heap.size = n
  have hn1 : w1.heap.size = n + 1 := by rw [← hw1, ← hn]; simp
  have hn2 : w2.heap.size = n + 2 := by rw [← hw2]; simp [hn1]
  have hb1 : w1.heap[n]? = some D := by rw [← hw1, ← hn]; exact blk_new w D
  have hb2 : w2.heap[n]? = some D := by rw [← hw2]; exact blk_alloc hb1 R
  have hb3 : w2.heap[n + 1]? = some R := by rw [← hw2, ← hn1]; exact blk_new w1 R
  have hb : Below n w w2 := by rw [← hw2, ← hw1, ← hn]; exact ((Below.refl _ _).alloc (Nat.le_refl _) _).alloc (by simp) _
  have HN := Aside0.mk hn
  have HN2 := Aside0.mk hn2
  clear hn1 hn2 hw1 hw2 hb1
  subst hD hR
  clear hn
  go_region
  all_goals
    go_wp2
    go_ret
    rw [HN.out]
    generalize hA : Obj.cells _ 9 = A
    generalize hB : Obj.cells _ 9 = B
    generalize hT : Obj.cells _ 76 = T
    obtain ⟨x1, x2, x3, x4, x5⟩ := three_new A B T hb (by rw [HN2.out]; omega)
    refine ⟨_, _, _, _, _, _, _, rfl, ?_, x5, x3.trans (congrArg some hT.symm), ⟨_, _, [], rfl, ?_, ?_, ?_, ?_⟩, ⟨_, _, cRoles.drop 2, rfl, ?_, ?_, ?_, ?_⟩, ⟨_, _, [], rfl, ?_, ?_, ?_, ?_⟩, ⟨_, _, cDisks.drop 3, rfl, ?_, ?_, ?_, ?_⟩, ⟨_, _, [], rfl, ?_, ?_, ?_, ?_⟩, ⟨_, _, [], rfl, ?_, ?_, ?_, ?_⟩⟩
    all_goals first
      | (show _ ≤ _; first | decide | (rw [HN2.out]; omega) | omega)
      | exact x4 _ _ hb2
      | exact x4 _ _ hb3
      | exact x1.trans (by rw [← hA]; rfl)
      | exact x1.trans (by rw [← hB]; rfl)
      | exact x2.trans (by rw [← hA]; rfl)
      | exact x2.trans (by rw [← hB]; rfl)
theorem Piece.keep {w w1 : World} {B g i : Nat} {t : ByteArray × Option (List ByteArray) × Int} (h : Piece w B g i t) (hg : B ≤ g) (hk : ∀ k, B ≤ k → k < w.heap.size → w1.heap[k]? = w.heap[k]?) : Piece w1 B g i t := by
  obtain ⟨h0, ⟨v, h1, hv⟩, h2, h3⟩ := h
  have hc : ∀ j, w1.cell? ⟨g, j, none⟩ = w.cell? ⟨g, j, none⟩ := fun j => by
    unfold World.cell?
    rw [hk g hg (World.block_lt_of_cell? w _ h0)]
  refine ⟨(hc _).trans h0, ⟨v, (hc _).trans h1, ?_⟩, (hc _).trans h2, (hc _).trans h3⟩
  cases e : t.2.1 with
  | none => rw [e] at hv; exact hv
  | some ws => rw [e] at hv; exact StrBlk.keep hv hk

set_option maxRecDepth 100000 in
theorem parts_typed (w : World) : Calls Tryd.prog 41 #[] w fun e w' => ∃ g : Nat, e = .returned (.slice (some ⟨g, 0, none⟩) 15 15) ∧ w.heap.size ≤ g ∧ Below w.heap.size w w' ∧ (∃ cs, w'.heap[g]? = some (.cells cs 76 (0, 0))) ∧ ∀ i t, cTab[i]? = some t → Piece w' w.heap.size g i t := by
  refine (parts_blk w).mono ?_
  rintro e w' ⟨g, v0, v1, v2, v3, v4, v5, rfl, hg, hb, ht, s0, s1, s2, s3, s4, s5⟩
  refine ⟨g, rfl, hg, hb, ⟨_, ht⟩, fun i t hi => ?_⟩
  have hl : i < 15 := (List.getElem?_eq_some_iff.1 hi).1
  rcases i with _ | _ | _ | _ | _ | _ | _ | _ | _ | _ | _ | _ | _ | _ | _ | i
  case succ.succ.succ.succ.succ.succ.succ.succ.succ.succ.succ.succ.succ.succ.succ => omega
  all_goals
    obtain rfl := Option.some.inj hi
    refine ⟨(blk_cell ht _).trans rfl, ⟨_, (blk_cell ht _).trans rfl, ?_⟩, (blk_cell ht _).trans rfl, (blk_cell ht _).trans rfl⟩
    first | exact s0 | exact s1 | exact s2 | exact s3 | exact s4 | exact s5 | rfl

theorem parts_any (w : World) : Calls Tryd.prog 41 #[] w fun e w' => ∃ g : Nat, e = .returned (.slice (some ⟨g, 0, none⟩) 15 15) ∧ w.heap.size ≤ g ∧ Below w.heap.size w w' ∧ g < w'.heap.size ∧ ∀ i t, cTab[i]? = some t → Piece w' w.heap.size g i t := by
  refine (parts_typed w).mono ?_
  rintro e w' ⟨g, h1, h2, h3, ⟨cs, h4⟩, h5⟩
  exact ⟨g, h1, h2, h3, blk_lt h4, h5⟩

/-- The piece's field of a status at block b. -/
theorem field_any (i : Nat) (hi : i < 15) (b : Nat) (w : World) : Calls Tryd.prog (79 + i) #[.pointer (some ⟨b, 0, none⟩)] w fun e w' => e = .returned (.pointer (some ⟨b, i, none⟩)) ∧ w = w' := by
  rcases i with _ | _ | _ | _ | _ | _ | _ | _ | _ | _ | _ | _ | _ | _ | _ | i
  case succ.succ.succ.succ.succ.succ.succ.succ.succ.succ.succ.succ.succ.succ.succ => omega
  · go_enter Tryd.func79, Tryd.ntmps79; go_wp2; go_ret; exact ⟨rfl, rfl⟩
  · go_enter Tryd.func80, Tryd.ntmps80; go_wp2; go_ret; exact ⟨rfl, rfl⟩
  · go_enter Tryd.func81, Tryd.ntmps81; go_wp2; go_ret; exact ⟨rfl, rfl⟩
  · go_enter Tryd.func82, Tryd.ntmps82; go_wp2; go_ret; exact ⟨rfl, rfl⟩
  · go_enter Tryd.func83, Tryd.ntmps83; go_wp2; go_ret; exact ⟨rfl, rfl⟩
  · go_enter Tryd.func84, Tryd.ntmps84; go_wp2; go_ret; exact ⟨rfl, rfl⟩
  · go_enter Tryd.func85, Tryd.ntmps85; go_wp2; go_ret; exact ⟨rfl, rfl⟩
  · go_enter Tryd.func86, Tryd.ntmps86; go_wp2; go_ret; exact ⟨rfl, rfl⟩
  · go_enter Tryd.func87, Tryd.ntmps87; go_wp2; go_ret; exact ⟨rfl, rfl⟩
  · go_enter Tryd.func88, Tryd.ntmps88; go_wp2; go_ret; exact ⟨rfl, rfl⟩
  · go_enter Tryd.func89, Tryd.ntmps89; go_wp2; go_ret; exact ⟨rfl, rfl⟩
  · go_enter Tryd.func90, Tryd.ntmps90; go_wp2; go_ret; exact ⟨rfl, rfl⟩
  · go_enter Tryd.func91, Tryd.ntmps91; go_wp2; go_ret; exact ⟨rfl, rfl⟩
  · go_enter Tryd.func92, Tryd.ntmps92; go_wp2; go_ret; exact ⟨rfl, rfl⟩
  · go_enter Tryd.func93, Tryd.ntmps93; go_wp2; go_ret; exact ⟨rfl, rfl⟩
end Go.Proofs.YtfecfgimfjcbdaaDoor.Cf
