/- A resource read by the reference: which parts were there (plain words); the row of the parts' names. -/
import Derived.Test.YtfecfgimfjcbdaaGreatDoorKConfYk
namespace Go.Proofs.YtfecfgimfjcbdaaGreatDoor.Cf
open Go.RowKit Go.Proofs.YtfecfgimfjcbdaaGreatDoorW.PrintWords Go.Proofs.YtfecfgimfjcbdaaGreatDoorW.PrintLast Go.Proofs.YtfecfgimfjcbdaaGreatDoorW.PrintMore

theorem fIdx_cong {s s' n n' : ByteArray} (h1 : s.toList = s'.toList) (h2 : n.toList = n'.toList) : ∀ m j, fIdx s n m j = fIdx s' n' m j
  | 0, _ => rfl
  | m + 1, j => by simp only [fIdx, h1, h2, fIdx_cong h1 h2 m (j + 1)]
theorem findP_cong {s s' n n' : ByteArray} (h1 : s.toList = s'.toList) (h2 : n.toList = n'.toList) : findP s n = findP s' n' := by
  simp only [findP, h1, h2, fIdx_cong h1 h2]
theorem find_prot {x : ByteArray} (h : x.toList = protB) : findP ⟨#[]⟩ x = some (some 0) := by
  rw [findP_cong (s' := ⟨#[]⟩) (n' := (⟨#[112, 114, 111, 116, 111, 99, 111, 108]⟩ : ByteArray)) rfl (by rw [h, toList_blN]; rfl)]
  decide +kernel
theorem find_part {x : ByteArray} (h : x.toList = devB ∨ x.toList = netB ∨ x.toList = synB) : findP ⟨#[]⟩ x = none := by
  rcases h with h | h | h
  · rw [findP_cong (s' := ⟨#[]⟩) (n' := (⟨#[100, 101, 118, 105, 99, 101]⟩ : ByteArray)) rfl (by rw [h, toList_blN]; rfl)]; decide +kernel
  · rw [findP_cong (s' := ⟨#[]⟩) (n' := (⟨#[110, 101, 116]⟩ : ByteArray)) rfl (by rw [h, toList_blN]; rfl)]; decide +kernel
  · rw [findP_cong (s' := ⟨#[]⟩) (n' := (⟨#[115, 121, 110, 99, 101, 114]⟩ : ByteArray)) rfl (by rw [h, toList_blN]; rfl)]; decide +kernel
/-- The part in which a key stands. -/
def partOf (t : KeyT) : List UInt8 := if t.1.toList = [] then protB else t.1.toList
structure PInv (v : FV) (L D : List ByteArray) : Prop where
  key : ∀ i t, kTab[i]? = some t → ∀ y : ByteArray, y.toList = partOf t → seen L y = false → v.th i = false
  sec : ∀ y : ByteArray, y.toList = netB → seen L y = false → v.st = false
  blk : v.th 1 = seen D blkB
  siz : v.th 2 = seen D sizB
theorem PInv.nx {v : FV} {L D : List ByteArray} (h : PInv v L D) : PInv v.nx L D := ⟨h.key, h.sec, h.blk, h.siz⟩
theorem key1 : kTab[1]? = some ((⟨#[100, 101, 118, 105, 99, 101]⟩ : ByteArray), blkB, 1, 4096, false, none) := by rfl
theorem key2 : kTab[2]? = some ((⟨#[100, 101, 118, 105, 99, 101]⟩ : ByteArray), sizB, 128, 1024, true, none) := by rfl
theorem dev_list : ((⟨#[100, 101, 118, 105, 99, 101]⟩ : ByteArray)).toList = devB := by rw [toList_blN]; rfl
/-- Before a section is read. -/
theorem PInv.sect {v : FV} {L D : List ByteArray} (h : PInv v L D) {x : ByteArray} (hx : x.toList = devB ∨ x.toList = netB ∨ x.toList = synB) (hs : seen L x = false) : Sec v x [] := by
  have hne : x.toList ≠ [] := by
    intro e
    rw [e] at hx
    revert hx
    decide
  refine ⟨fun i t ht he => ?_, fun hn y hy => ?_⟩
  · rw [h.key i t ht x (by unfold partOf; rw [if_neg (by rw [he]; exact hne), he]) hs]
    rfl
  · rw [h.sec x hn hs]
    rfl
theorem PInv.sected {v v' : FV} {L D D' : List ByteArray} (h : PInv v L D) {x : ByteArray} (hx : x.toList = devB ∨ x.toList = netB ∨ x.toList = synB) (hS : Sec v' x D') (hO : Oth v v' x) : PInv v' (x :: L) (if (x.toList == devB) = true then D' else D) := by
  refine ⟨fun i t ht y hy hs => ?_, fun y hy hs => ?_, ?_, ?_⟩
  · rw [seen_cons, Bool.or_eq_false_iff] at hs
    have hne : t.1.toList ≠ x.toList := by
      intro e
      have : y.toList = x.toList := by
        rw [hy]
        unfold partOf
        rw [if_neg, e]
        rw [e]
        intro e2
        rw [e2] at hx
        revert hx
        decide
      exact beq_eq_false_iff_ne.1 hs.1 this.symm
    rw [hO.key i t ht hne]
    exact h.key i t ht y hy hs.2
  · rw [seen_cons, Bool.or_eq_false_iff] at hs
    rw [hO.sec (fun e => beq_eq_false_iff_ne.1 hs.1 (e.trans hy.symm))]
    exact h.sec y hy hs.2
  · by_cases e : x.toList = devB
    · rw [if_pos (beq_iff_eq.2 e)]
      exact hS.key 1 _ key1 (dev_list.trans e.symm)
    · rw [if_neg (fun h => e (beq_iff_eq.1 h)), hO.key 1 _ key1 (fun e' => e (e'.symm.trans dev_list))]
      exact h.blk
  · by_cases e : x.toList = devB
    · rw [if_pos (beq_iff_eq.2 e)]
      exact hS.key 2 _ key2 (dev_list.trans e.symm)
    · rw [if_neg (fun h => e (beq_iff_eq.1 h)), hO.key 2 _ key2 (fun e' => e (e'.symm.trans dev_list))]
      exact h.siz
theorem PInv.prot {v v' : FV} {L D : List ByteArray} (h : PInv v L D) {x : ByteArray} (hx : x.toList = protB) (hO : Oth v v' ⟨#[]⟩) : PInv v' (x :: L) D := by
  have hnil : (⟨#[]⟩ : ByteArray).toList = [] := by rw [toList_blN]; rfl
  refine ⟨fun i t ht y hy hs => ?_, fun y hy hs => ?_, ?_, ?_⟩
  · rw [seen_cons, Bool.or_eq_false_iff] at hs
    have hne : t.1.toList ≠ (⟨#[]⟩ : ByteArray).toList := by
      intro e
      rw [hnil] at e
      have : y.toList = x.toList := by rw [hy, hx]; unfold partOf; rw [if_pos e]
      exact beq_eq_false_iff_ne.1 hs.1 this.symm
    rw [hO.key i t ht hne]
    exact h.key i t ht y hy hs.2
  · rw [seen_cons, Bool.or_eq_false_iff] at hs
    rw [hO.sec (by rw [hnil]; decide)]
    exact h.sec y hy hs.2
  · rw [hO.key 1 _ key1 (by rw [hnil]; show ((⟨#[100, 101, 118, 105, 99, 101]⟩ : ByteArray)).toList ≠ []; rw [dev_list]; decide)]
    exact h.blk
  · rw [hO.key 2 _ key2 (by rw [hnil]; show ((⟨#[100, 101, 118, 105, 99, 101]⟩ : ByteArray)).toList ≠ []; rw [dev_list]; decide)]
    exact h.siz
theorem partsP_part (s : ByteArray) (f p : Nat) (L D : List ByteArray) (sc : ByteArray) (k : Nat → Int) : partsP s (f + 1) p L D sc k = (match partP s p with
    | .error e => .error e
    | .ok (true, _, a, _, q) => .ok (a, D, sc, k, q)
    | .ok (false, _, a, x, q) => if isPart x = false then .error (a, 122) else if seen L x = true then .error (a, 123) else match findP ⟨#[]⟩ x with
      | some key => match valueP s q key sc k with
        | .error e => .error e
        | .ok y => partsP s f y.2.2 (x :: L) D y.1 y.2.1
      | none => match wantP s q 1 openB with
        | .error e => .error e
        | .ok aq => match sectP s x (s.size + 1) aq.2 [] sc k with
          | .error e => .error e
          | .ok y => partsP s f y.2.2.2 (x :: L) (if (x.toList == devB) = true then y.1 else D) y.2.1 y.2.2.1) := by
  simp only [partsP, partP]
  cases nextP s p with
  | error a => rfl
  | ok y =>
    obtain ⟨kd, a, x, q⟩ := y
    dsimp only
    by_cases h1 : kd = 1 ∧ x.toList = [125]
    · rw [if_pos h1, if_pos h1]
    · rw [if_neg h1, if_neg h1]
      by_cases h2 : kd ≠ 0
      · rw [if_pos h2, if_pos h2]
      · rw [if_neg h2, if_neg h2]
        rfl
def Names (w : World) (B : Nat) (v : Value) (xs : List ByteArray) : Prop := w.ownsRow B 9 1 v xs.length (encs Value.string xs)
theorem Names.nil (w : World) (B : Nat) : Names w B (.slice none 0 0) [] := ⟨rfl, .inl ⟨rfl, rfl⟩⟩
theorem Names.block {w : World} {B : Nat} {v : Value} {xs : List ByteArray} (h : Names w B v xs) {b : Nat} (hb : v.ownBlock = some b) : B ≤ b ∧ b < w.heap.size := World.ownsRow.lt h b hb
theorem Names.ch {w w1 : World} {B : Nat} {v : Value} {xs : List ByteArray} {l : List Nat} (h : Names w B v xs) (hc : Ch l w w1) (hl : ∀ k ∈ l, k < B) : Names w1 B v xs := by
  refine ⟨h.1, ?_⟩
  rcases h.2 with h0 | ⟨g, cap, cur, hv, hg, hgk, hq⟩
  · exact .inl h0
  · exact .inr ⟨g, cap, cur, hv, hg, hc.blk hgk (fun e => by have := hl g e; omega), hq⟩
/-- What an append turns: the row alone, and what is new. -/
theorem Names.turned {w w1 : World} {B : Nat} {v : Value} {xs : List ByteArray} (h : Names w B v xs) (hg : w.grownBy w1 v.ownBlock) : ∃ l : List Nat, Ch l w w1 ∧ ∀ k ∈ l, B ≤ k := by
  cases hv : v.ownBlock with
  | none =>
    rw [hv] at hg
    exact ⟨[], ⟨hg.os, hg.tape, hg.output, hg.size, fun i hi _ => hg.block i hi (by simp)⟩, fun k hk => by cases hk⟩
  | some b =>
    rw [hv] at hg
    exact ⟨[b], ⟨hg.os, hg.tape, hg.output, hg.size, fun i hi hn => hg.block i hi (by simpa using hn)⟩, fun k hk => by obtain rfl := List.mem_singleton.1 hk; exact (h.block hv).1⟩
theorem RF.high {w w1 : World} {g : Nat} {lv : Value} {L : List TkT} {s : ByteArray} {v : FV} {p B : Nat} {l : List Nat} (h : RF w g lv L s v p) (hc : Ch l w w1) (hl : ∀ k ∈ l, B ≤ k) (hg : g < B) (hlv : ∀ b n c, lv = .slice (some ⟨b, 0, none⟩) n c → b < B) : RF w1 g lv L s v p := by
  obtain ⟨⟨a, b, hf⟩, ⟨⟨b', c', h1, h2, h3, h4, h5⟩, h6⟩, h7⟩ := h
  have e : ∀ o, w1.cell? ⟨b', o, none⟩ = w.cell? ⟨b', o, none⟩ := fun o => World.cell?_of_block (hc.block b' h3 (fun e => by have := hl _ e; have := hlv _ _ _ h1; omega))
  refine ⟨⟨a, b, hc.blk hf (fun e => by have := hl _ e; omega)⟩, ⟨⟨b', c', h1, h2, Nat.lt_of_lt_of_le h3 hc.size, h4, fun i t ht => ?_⟩, h6⟩, h7⟩
  obtain ⟨a1, a2, a3⟩ := h5 i t ht
  exact ⟨(e _).trans a1, (e _).trans a2, (e _).trans a3⟩
theorem RF.low {w : World} {g : Nat} {lv : Value} {L : List TkT} {s : ByteArray} {v : FV} {p : Nat} (h : RF w g lv L s v p) : ∀ b n c, lv = .slice (some ⟨b, 0, none⟩) n c → b < w.heap.size := by
  obtain ⟨b', c', h1, _, h3, _⟩ := h.tk.lie
  intro b n c e
  rw [h1] at e
  injection e with e1 _ _
  injection e1 with e1
  injection e1 with e1
  omega
theorem Ch.high {g : Nat} {w w1 w2 : World} {l : List Nat} (h : Ch [g] w w1) (k : Ch l w1 w2) (hl : ∀ q ∈ l, w.heap.size ≤ q) : Ch [g] w w2 :=
  ⟨k.os.trans h.os, k.tape.trans h.tape, k.output.trans h.output, Nat.le_trans h.size k.size, fun i hi hn => (k.block i (Nat.lt_of_lt_of_le hi h.size) (fun e => by have := hl i e; omega)).trans (h.block i hi hn)⟩
theorem info_str : (Tryz.prog.info? 9).map (fun i => (i.zero, i.size, i.bytes)) = some (some (.string ⟨#[]⟩), 1, 16) := by kernel_rfl
/-- One name more. -/
theorem names_append {P : Program} {ops : Array Oper} {rest : List Oper} {o : Oper} {a : Act} {Q : Exit → Act → World → Prop} {W : World} (B : Nat) (hgd : o.guard = none) (s x : Operand) (t : TypeId)
    (ho : o.op = .call { callee := .builtin .append, args := #[s, x], argTypes := #[t, t] })
    (ht : P.underlying t = some (.slice 9)) (hinfo : (P.info? 9).map (fun i => (i.zero, i.size, i.bytes)) = some (some (.string ⟨#[]⟩), 1, 16))
    (v : Value) (xs : List ByteArray) (y : ByteArray) (hs : a.eval s = v) (hx : a.eval x = .slice (some ⟨W.heap.size, 0, none⟩) 1 1)
    (HO : Names W B v xs) (hbase : B ≤ W.heap.size) (hl : xs.length ≤ 1000000)
    (h : ∀ v1 w1 l, Names w1 B v1 (xs ++ [y]) → Ch l W w1 → (∀ k ∈ l, B ≤ k) → wpList P ops Q rest (a.put o.dst v1) w1) :
    wpList P ops Q (o :: rest) a (W.alloc (.cells #[.string y] 9)) :=
  print_append_of (w0 := W) Value.string B hgd s x t 9 (.string ⟨#[]⟩) 16 ho ht hinfo rfl (by decide) v xs y hs hx rfl HO (Below.refl _ _) hbase (by omega) fun v1 w1 h1 _ h3 _ => by
    obtain ⟨l, hc, hl⟩ := HO.turned h3
    exact h v1 w1 l h1 hc hl
theorem Names.reads {w : World} {B : Nat} {v : Value} {xs : List ByteArray} (h : Names w B v xs) : ∃ A c, v = .slice A xs.length c ∧ ReadsOf Value.string ByteArray.empty w A xs.length xs := own_reads_of h
end Go.Proofs.YtfecfgimfjcbdaaGreatDoor.Cf
