/- conf.Parse, walked: of the texts ConfA .. ConfNn what it leans on. -/
import Derived.Test.YtfecfgimfjcbdaaGreatDoorKWWords
import Derived.Test.YtfecfgimfjcbdaaGreatDoorKWLast
import Derived.Test.YtfecfgimfjcbdaaGreatDoorKQCRead
import Derived.Test.YtfecfgimfjcbdaaGreatDoorProg
import Derived.Lib.Builder
import Derived.Shelf.Strings.Builder1
import Derived.WalkLawsBesides
import Derived.Test.YtfecfgimfjcbdaaGreatDoorKQRParse4
import Derived.Lib.ValidLaws
import Derived.Laws.BitsLemmas
namespace Go.Proofs.YtfecfgimfjcbdaaGreatDoor.Cf
open Go.RowKit Go.Proofs.YtfecfgimfjcbdaaGreatDoorW.PrintWords

/-- A string's bytes. -/
def bl (s : ByteArray) : List UInt8 := s.data.toList
theorem bl_length (s : ByteArray) : (bl s).length = s.size := data_length s
theorem bl_drop (s : ByteArray) (i : Nat) (h : i < s.size) : ∃ b : UInt8, (bl s).drop i = b :: (bl s).drop (i + 1) ∧ bt s (i : Int) = (b.toNat : Int) := by
  have h' : i < (bl s).length := by rw [bl_length]; exact h
  refine ⟨(bl s)[i], (List.drop_eq_getElem_cons h'), ?_⟩
  have := bt_at s (i : Int) (by simpa using h)
  rw [← this]
  simp [bl]
  rfl
theorem wrap_id {i : Int} (h0 : -9223372036854775808 ≤ i) (h1 : i ≤ 9223372036854775807) : wrap64 i = i := by
  unfold wrap64
  omega
end Go.Proofs.YtfecfgimfjcbdaaGreatDoor.Cf

namespace Go.Proofs.YtfecfgimfjcbdaaGreatDoor.Cf
open Go.RowKit Go.Proofs.YtfecfgimfjcbdaaGreatDoorW.PrintWords Go.Proofs.YtfecfgimfjcbdaaGreatDoorW.PrintLast Go.Proofs.YtfecfgimfjcbdaaGreatDoorW.PrintMore Go.Proofs.YtfecfgimfjcbdaaGreatDoor.QCParse

/-- A slice of strings over a block from B on, of which more than the slice may be there. -/
def StrBlk (w : World) (B : Nat) (v : Value) (ws : List ByteArray) : Prop :=
  ∃ (gw c : Nat) (rest : List ByteArray), v = .slice (some ⟨gw, 0, none⟩) ws.length c ∧ ws.length ≤ c ∧ ws.length ≤ 1000 ∧ B ≤ gw ∧ w.heap[gw]? = some (.cells ((ws ++ rest).map Value.string).toArray 9 (0, 0))

theorem StrBlk.keep {w w1 : World} {B : Nat} {v : Value} {ws : List ByteArray} (h : StrBlk w B v ws) (hk : ∀ k, B ≤ k → k < w.heap.size → w1.heap[k]? = w.heap[k]?) : StrBlk w1 B v ws := by
  obtain ⟨gw, c, rest, rfl, hc, hl, hB, hb⟩ := h
  exact ⟨gw, c, rest, rfl, hc, hl, hB, (hk gw hB (blk_lt hb)).trans hb⟩

end Go.Proofs.YtfecfgimfjcbdaaGreatDoor.Cf

namespace Go.Proofs.YtfecfgimfjcbdaaGreatDoor.Cf
open Go.RowKit Go.Proofs.YtfecfgimfjcbdaaGreatDoorW.PrintWords

theorem whole_blk {W : World} {g : Nat} {e : TypeId} {cur : Array Value} (cs : Array Value) (hh : W.heap[g]? = some (.cells cur e (0, 0))) (hsz : cs.size = cur.size) : (W.setCells g 0 cs.toList).heap[g]? = some (.cells cs e (0, 0)) ∧ W.grownBy (W.setCells g 0 cs.toList) (some g) := by
  obtain ⟨cur', h2, h3, h4⟩ := setCells_row cs.toList 0 W cur hh (by rw [Array.length_toList]; omega)
  obtain ⟨s1, s2, s3, s4⟩ := setCells_same g cs.toList 0 W
  have hc : cur' = cs := by
    apply Array.ext'
    rw [h4, List.take_zero, List.nil_append, Nat.zero_add, List.drop_of_length_le (by rw [Array.length_toList, Array.length_toList]; omega), List.append_nil]
  subst hc
  exact ⟨h2, s1, s2, s3, by omega, fun k _ hr => setCells_far _ _ k (fun e => hr (by rw [e]))⟩

section
variable {P : Program} {ops : Array Oper} {rest : List Oper} {o : Oper} {a : Act} {Q : Exit → Act → World → Prop}
theorem store_whole {W : World} (hgd : o.guard = none) {t : TypeId} {p x : Operand} (ho : o.op = .store t p x) (hN : o.dst = none) {g : Nat} (haddr : a.eval p = .pointer (some ⟨g, 0, none⟩)) (cs : Array Value) (hx : a.eval x = .agg cs)
    {e : TypeId} {cur : Array Value} (hh : W.heap[g]? = some (.cells cur e (0, 0))) (ht : (P.info? t).map (·.size) = some cs.size) (hsz : cs.size = cur.size) (h1 : ∀ q ∈ cs.toList, q.oneCell' = true)
    (h : ∀ w', w'.heap[g]? = some (.cells cs e (0, 0)) → W.grownBy w' (some g) → wpList P ops Q rest a w') : wpList P ops Q (o :: rest) a W := by
  have hrun : (Instr.storeAt t (.pointer (some ⟨g, 0, none⟩)) (.agg cs)).run P W = .ok () (W.setCells g 0 cs.toList) :=
    run_store_run t (.agg cs) cs.toList hh (by simp [Value.cells]) (by rw [Array.length_toList]; exact ht) (by rw [Array.length_toList]; omega) h1
  obtain ⟨hb, hg⟩ := whole_blk cs hh hsz
  have hk := h (W.setCells g 0 cs.toList) hb hg
  refine wpList_plain hgd fun K hK => ?_
  unfold Oper.wp execOp
  simp only [ho, haddr, hx, Sem.run_bind, hrun, Result.andThen_ok, Sem.run_pure]
  show K (a.put o.dst undef) _
  rw [hN]
  exact hK _ _ hk
end
theorem grown_blk {w w1 : World} {g k : Nat} {o : Obj} (h : w.grownBy w1 (some g)) (hb : w.heap[k]? = some o) (hk : k ≠ g) : w1.heap[k]? = some o := blk_grown hb h (fun e => hk (Option.some.inj e))

end Go.Proofs.YtfecfgimfjcbdaaGreatDoor.Cf

namespace Go.Proofs.YtfecfgimfjcbdaaGreatDoor.Cf
open Go.RowKit Go.Proofs.YtfecfgimfjcbdaaGreatDoorW.PrintWords

/-- What a builder's writes leave alone: every block but the builder's own that is no row of bytes. -/
def BKeep (w w' : World) (b : Nat) : Prop := w.heap.size ≤ w'.heap.size ∧ ∀ k o, w.heap[k]? = some o → k ≠ b → (∀ cs fr, o ≠ .cells cs 5 fr) → w'.heap[k]? = some o
theorem BKeep.refl (w : World) (b : Nat) : BKeep w w b := ⟨Nat.le_refl _, fun _ _ h _ _ => h⟩
theorem BKeep.trans {w w1 w2 : World} {b : Nat} (h : BKeep w w1 b) (k : BKeep w1 w2 b) : BKeep w w2 b := ⟨Nat.le_trans h.1 k.1, fun i o h1 h2 h3 => k.2 i o (h.2 i o h1 h2 h3) h2 h3⟩
theorem BKeep.of_below {w w1 : World} (h : Below w.heap.size w w1) (b : Nat) : BKeep w w1 b := ⟨h.size, fun _ _ h1 _ _ => blk_below h1 h⟩
theorem BKeep.set {w w1 : World} {b : Nat} (h : BKeep w w1 b) (j : Nat) (v : Value) : BKeep w (w1.setCell ⟨b, j, none⟩ v) b :=
  ⟨by simpa [World.setCell] using h.1, fun i o h1 h2 h3 => (Below.heap_setCell w1 ⟨b, j, none⟩ v i h2).trans (h.2 i o h1 h2 h3)⟩
theorem BKeep.cell {w w1 : World} {b : Nat} (h : BKeep w w1 b) {g : Nat} {cs : Array Value} {t : TypeId} {fr : Nat × Nat} (hb : w.heap[g]? = some (.cells cs t fr)) (hg : g ≠ b) (ht : t ≠ 5) : w1.heap[g]? = some (.cells cs t fr) :=
  h.2 g _ hb hg (fun cs fr e => ht (by injection e))

theorem own_bytes {w : World} {B n : Nat} {v : Value} {xs : List Value} (h : w.ownsRow B 5 1 v n xs) : ∀ k, v.ownBlock = some k → ∃ cs fr, w.heap[k]? = some (.cells cs 5 fr) := fun k hk => by
  obtain ⟨cells, hc⟩ := own_typed h k hk
  exact ⟨cells, (0, 0), hc⟩

theorem info_byte : (Tryz.prog.info? 5).map (fun i => (i.zero, i.size, i.bytes)) = some (some (.int .u8 0), 1, 1) := by kernel_rfl

end Go.Proofs.YtfecfgimfjcbdaaGreatDoor.Cf

namespace Go.Proofs.YtfecfgimfjcbdaaGreatDoor.Cf
open Go.RowKit Go.Proofs.YtfecfgimfjcbdaaGreatDoorW.PrintWords Go.Proofs.YtfecfgimfjcbdaaGreatDoorW.PrintLast Go.Proofs.YtfecfgimfjcbdaaGreatDoorW.PrintMore

/-- Blocks made one behind the other. -/
def mades (w : World) : List Obj → World
  | [] => w
  | o :: os => mades (w.alloc o) os
theorem made_size : ∀ (os : List Obj) (w : World), (mades w os).heap.size = w.heap.size + os.length
  | [], w => rfl
  | o :: os, w => by
    show (mades (w.alloc o) os).heap.size = _
    rw [made_size os, show (w.alloc o).heap.size = w.heap.size + 1 by simp, List.length_cons]
    omega
theorem made_old : ∀ (os : List Obj) (w : World) (k : Nat) (o : Obj), w.heap[k]? = some o → (mades w os).heap[k]? = some o
  | [], _, _, _, h => h
  | o :: os, w, k, _, h => made_old os (w.alloc o) k _ (blk_alloc h o)
theorem made_get : ∀ (os : List Obj) (w : World) (i : Nat) (o : Obj), os[i]? = some o → (mades w os).heap[w.heap.size + i]? = some o
  | [], _, _, _, h => by simp at h
  | o :: os, w, 0, _, h => by
    obtain rfl := Option.some.inj h
    exact made_old os (w.alloc o) _ _ (blk_new w o)
  | o :: os, w, i + 1, _, h => by
    have := made_get os (w.alloc o) i _ (by simpa using h)
    rw [show (w.alloc o).heap.size = w.heap.size + 1 by simp] at this
    rw [show w.heap.size + (i + 1) = w.heap.size + 1 + i by omega]
    exact this
theorem made_below : ∀ (os : List Obj) (w w1 : World) (n : Nat), Below n w w1 → n ≤ w1.heap.size → Below n w (mades w1 os)
  | [], _, _, _, h, _ => h
  | o :: os, w, w1, n, h, hn => made_below os w (w1.alloc o) n (h.alloc hn o) (by rw [show (w1.alloc o).heap.size = w1.heap.size + 1 by simp]; omega)

/-- A slice of ints over a block from B on. -/
def IntBlk (w : World) (B : Nat) (v : Value) (ns : List Int) : Prop :=
  ∃ gw : Nat, v = .slice (some ⟨gw, 0, none⟩) ns.length ns.length ∧ ns.length ≤ 1000 ∧ B ≤ gw ∧ w.heap[gw]? = some (.cells (ns.map (Value.int .i64)).toArray 3 (0, 0))
theorem IntBlk.keep {w w1 : World} {B : Nat} {v : Value} {ns : List Int} (h : IntBlk w B v ns) (hk : ∀ k, B ≤ k → k < w.heap.size → w1.heap[k]? = w.heap[k]?) : IntBlk w1 B v ns := by
  obtain ⟨gw, rfl, hl, hB, hb⟩ := h
  exact ⟨gw, rfl, hl, hB, (hk gw hB (blk_lt hb)).trans hb⟩

def kPol : List ByteArray := [(⟨#[100, 105, 115, 99, 111, 110, 110, 101, 99, 116]⟩ : ByteArray), (⟨#[100, 105, 115, 99, 97, 114, 100, 45, 122, 101, 114, 111, 45, 99, 104, 97, 110, 103, 101, 115]⟩ : ByteArray), (⟨#[100, 105, 115, 99, 97, 114, 100, 45, 108, 101, 97, 115, 116, 45, 99, 104, 97, 110, 103, 101, 115]⟩ : ByteArray), (⟨#[100, 105, 115, 99, 97, 114, 100, 45, 110, 111, 100, 101, 45, 48]⟩ : ByteArray), (⟨#[100, 105, 115, 99, 97, 114, 100, 45, 110, 111, 100, 101, 45, 49]⟩ : ByteArray)]
/-- A key: its section, its name, its least and its greatest number, whether it is a size, its words and what they mean (or none). -/
abbrev KeyT := ByteArray × ByteArray × Int × Int × Bool × Option (List ByteArray × List Int)
def kTab : List KeyT :=
  [((⟨#[]⟩ : ByteArray), (⟨#[112, 114, 111, 116, 111, 99, 111, 108]⟩ : ByteArray), 0, 0, false, some ([(⟨#[65]⟩ : ByteArray), (⟨#[66]⟩ : ByteArray), (⟨#[67]⟩ : ByteArray)], [1, 2, 3])),
   ((⟨#[100, 101, 118, 105, 99, 101]⟩ : ByteArray), (⟨#[98, 108, 111, 99, 107, 115]⟩ : ByteArray), 1, 4096, false, none),
   ((⟨#[100, 101, 118, 105, 99, 101]⟩ : ByteArray), (⟨#[98, 108, 111, 99, 107, 45, 115, 105, 122, 101]⟩ : ByteArray), 128, 1024, true, none),
   ((⟨#[100, 101, 118, 105, 99, 101]⟩ : ByteArray), (⟨#[97, 108, 45, 115, 108, 111, 116, 115]⟩ : ByteArray), 1, 16, false, none),
   ((⟨#[110, 101, 116]⟩ : ByteArray), (⟨#[119, 105, 110, 100, 111, 119]⟩ : ByteArray), 1, 64, false, none),
   ((⟨#[110, 101, 116]⟩ : ByteArray), (⟨#[98, 97, 99, 107, 108, 111, 103]⟩ : ByteArray), 1, 1024, false, none),
   ((⟨#[110, 101, 116]⟩ : ByteArray), (⟨#[114, 101, 115, 101, 110, 100]⟩ : ByteArray), 1, 1000, false, none),
   ((⟨#[110, 101, 116]⟩ : ByteArray), (⟨#[116, 105, 109, 101, 111, 117, 116]⟩ : ByteArray), 1, 1000, false, none),
   ((⟨#[110, 101, 116]⟩ : ByteArray), (⟨#[109, 97, 120, 45, 101, 112, 111, 99, 104, 45, 115, 105, 122, 101]⟩ : ByteArray), 1, 64, false, none),
   ((⟨#[110, 101, 116]⟩ : ByteArray), (⟨#[109, 97, 120, 45, 113, 117, 101, 117, 101]⟩ : ByteArray), 1, 256, false, none),
   ((⟨#[110, 101, 116]⟩ : ByteArray), (⟨#[97, 102, 116, 101, 114, 45, 115, 98, 45, 48, 112, 114, 105]⟩ : ByteArray), 0, 0, false, some (kPol, [0, 1, 2, 3, 4])),
   ((⟨#[110, 101, 116]⟩ : ByteArray), (⟨#[97, 102, 116, 101, 114, 45, 115, 98, 45, 49, 112, 114, 105]⟩ : ByteArray), 0, 0, false, some ([(⟨#[100, 105, 115, 99, 111, 110, 110, 101, 99, 116]⟩ : ByteArray), (⟨#[100, 105, 115, 99, 97, 114, 100, 45, 115, 101, 99, 111, 110, 100, 97, 114, 121]⟩ : ByteArray), (⟨#[99, 111, 110, 115, 101, 110, 115, 117, 115]⟩ : ByteArray)], [0, 5, 6])),
   ((⟨#[110, 101, 116]⟩ : ByteArray), (⟨#[97, 102, 116, 101, 114, 45, 115, 98, 45, 50, 112, 114, 105]⟩ : ByteArray), 0, 0, false, some ([(⟨#[100, 105, 115, 99, 111, 110, 110, 101, 99, 116]⟩ : ByteArray)], [0])),
   ((⟨#[115, 121, 110, 99, 101, 114]⟩ : ByteArray), (⟨#[114, 97, 116, 101]⟩ : ByteArray), 1, 1024, false, none),
   ((⟨#[115, 121, 110, 99, 101, 114]⟩ : ByteArray), (⟨#[98, 117, 114, 115, 116]⟩ : ByteArray), 1, 1024, false, none),
   ((⟨#[115, 121, 110, 99, 101, 114]⟩ : ByteArray), (⟨#[97, 104, 101, 97, 100]⟩ : ByteArray), 1, 64, false, none)]
/-- The place of key i's field in a Config. -/
def kOff (i : Nat) : Nat := if i = 0 then 4 else if i ≤ 3 then i else if i ≤ 9 then i + 1 else i + 2
def kCells (n0 : Nat) : Array Value := #[
  .string (⟨#[]⟩ : ByteArray), .string (⟨#[112, 114, 111, 116, 111, 99, 111, 108]⟩ : ByteArray), .int .i64 0, .int .i64 0, .bool false, .slice (some ⟨n0 + 1, 0, none⟩) 3 3, .slice (some ⟨n0 + 2, 0, none⟩) 3 3, .func (.func 48) #[] #[],
  .string (⟨#[100, 101, 118, 105, 99, 101]⟩ : ByteArray), .string (⟨#[98, 108, 111, 99, 107, 115]⟩ : ByteArray), .int .i64 1, .int .i64 4096, .bool false, .slice none 0 0, .slice none 0 0, .func (.func 49) #[] #[],
  .string (⟨#[100, 101, 118, 105, 99, 101]⟩ : ByteArray), .string (⟨#[98, 108, 111, 99, 107, 45, 115, 105, 122, 101]⟩ : ByteArray), .int .i64 128, .int .i64 1024, .bool true, .slice none 0 0, .slice none 0 0, .func (.func 50) #[] #[],
  .string (⟨#[100, 101, 118, 105, 99, 101]⟩ : ByteArray), .string (⟨#[97, 108, 45, 115, 108, 111, 116, 115]⟩ : ByteArray), .int .i64 1, .int .i64 16, .bool false, .slice none 0 0, .slice none 0 0, .func (.func 51) #[] #[],
  .string (⟨#[110, 101, 116]⟩ : ByteArray), .string (⟨#[119, 105, 110, 100, 111, 119]⟩ : ByteArray), .int .i64 1, .int .i64 64, .bool false, .slice none 0 0, .slice none 0 0, .func (.func 52) #[] #[],
  .string (⟨#[110, 101, 116]⟩ : ByteArray), .string (⟨#[98, 97, 99, 107, 108, 111, 103]⟩ : ByteArray), .int .i64 1, .int .i64 1024, .bool false, .slice none 0 0, .slice none 0 0, .func (.func 53) #[] #[],
  .string (⟨#[110, 101, 116]⟩ : ByteArray), .string (⟨#[114, 101, 115, 101, 110, 100]⟩ : ByteArray), .int .i64 1, .int .i64 1000, .bool false, .slice none 0 0, .slice none 0 0, .func (.func 54) #[] #[],
  .string (⟨#[110, 101, 116]⟩ : ByteArray), .string (⟨#[116, 105, 109, 101, 111, 117, 116]⟩ : ByteArray), .int .i64 1, .int .i64 1000, .bool false, .slice none 0 0, .slice none 0 0, .func (.func 55) #[] #[],
  .string (⟨#[110, 101, 116]⟩ : ByteArray), .string (⟨#[109, 97, 120, 45, 101, 112, 111, 99, 104, 45, 115, 105, 122, 101]⟩ : ByteArray), .int .i64 1, .int .i64 64, .bool false, .slice none 0 0, .slice none 0 0, .func (.func 56) #[] #[],
  .string (⟨#[110, 101, 116]⟩ : ByteArray), .string (⟨#[109, 97, 120, 45, 113, 117, 101, 117, 101]⟩ : ByteArray), .int .i64 1, .int .i64 256, .bool false, .slice none 0 0, .slice none 0 0, .func (.func 57) #[] #[],
  .string (⟨#[110, 101, 116]⟩ : ByteArray), .string (⟨#[97, 102, 116, 101, 114, 45, 115, 98, 45, 48, 112, 114, 105]⟩ : ByteArray), .int .i64 0, .int .i64 0, .bool false, .slice (some ⟨n0 + 0, 0, none⟩) 5 5, .slice (some ⟨n0 + 3, 0, none⟩) 5 5, .func (.func 58) #[] #[],
  .string (⟨#[110, 101, 116]⟩ : ByteArray), .string (⟨#[97, 102, 116, 101, 114, 45, 115, 98, 45, 49, 112, 114, 105]⟩ : ByteArray), .int .i64 0, .int .i64 0, .bool false, .slice (some ⟨n0 + 4, 0, none⟩) 3 3, .slice (some ⟨n0 + 5, 0, none⟩) 3 3, .func (.func 59) #[] #[],
  .string (⟨#[110, 101, 116]⟩ : ByteArray), .string (⟨#[97, 102, 116, 101, 114, 45, 115, 98, 45, 50, 112, 114, 105]⟩ : ByteArray), .int .i64 0, .int .i64 0, .bool false, .slice (some ⟨n0 + 6, 0, none⟩) 1 1, .slice (some ⟨n0 + 7, 0, none⟩) 1 1, .func (.func 60) #[] #[],
  .string (⟨#[115, 121, 110, 99, 101, 114]⟩ : ByteArray), .string (⟨#[114, 97, 116, 101]⟩ : ByteArray), .int .i64 1, .int .i64 1024, .bool false, .slice none 0 0, .slice none 0 0, .func (.func 61) #[] #[],
  .string (⟨#[115, 121, 110, 99, 101, 114]⟩ : ByteArray), .string (⟨#[98, 117, 114, 115, 116]⟩ : ByteArray), .int .i64 1, .int .i64 1024, .bool false, .slice none 0 0, .slice none 0 0, .func (.func 62) #[] #[],
  .string (⟨#[115, 121, 110, 99, 101, 114]⟩ : ByteArray), .string (⟨#[97, 104, 101, 97, 100]⟩ : ByteArray), .int .i64 1, .int .i64 64, .bool false, .slice none 0 0, .slice none 0 0, .func (.func 63) #[] #[]]

/-- Key i of the table over block g. -/
def KeyAt (w : World) (B g i : Nat) (t : KeyT) : Prop :=
  w.cell? ⟨g, i * 8, none⟩ = some (.string t.1) ∧ w.cell? ⟨g, i * 8 + 1, none⟩ = some (.string t.2.1) ∧ w.cell? ⟨g, i * 8 + 2, none⟩ = some (.int .i64 t.2.2.1) ∧ w.cell? ⟨g, i * 8 + 3, none⟩ = some (.int .i64 t.2.2.2.1) ∧ w.cell? ⟨g, i * 8 + 4, none⟩ = some (.bool t.2.2.2.2.1) ∧
  (∃ v u, w.cell? ⟨g, i * 8 + 5, none⟩ = some v ∧ w.cell? ⟨g, i * 8 + 6, none⟩ = some u ∧ match t.2.2.2.2.2 with | some (ws, ns) => StrBlk w B v ws ∧ IntBlk w B u ns | none => v = .slice none 0 0 ∧ u = .slice none 0 0) ∧
  w.cell? ⟨g, i * 8 + 7, none⟩ = some (.func (.func (48 + i)) #[] #[])
theorem KeyAt.keep {w w1 : World} {B g i : Nat} {t : KeyT} (h : KeyAt w B g i t) (hg : B ≤ g) (hk : ∀ k, B ≤ k → k < w.heap.size → w1.heap[k]? = w.heap[k]?) : KeyAt w1 B g i t := by
  obtain ⟨h0, h1, h2, h3, h4, ⟨v, u, h5, h6, hv⟩, h7⟩ := h
  have hc : ∀ j, w1.cell? ⟨g, j, none⟩ = w.cell? ⟨g, j, none⟩ := fun j => by
    unfold World.cell?
    rw [hk g hg (World.block_lt_of_cell? w _ h0)]
  refine ⟨(hc _).trans h0, (hc _).trans h1, (hc _).trans h2, (hc _).trans h3, (hc _).trans h4, ⟨v, u, (hc _).trans h5, (hc _).trans h6, ?_⟩, (hc _).trans h7⟩
  cases e : t.2.2.2.2.2 with
  | none => rw [e] at hv; exact hv
  | some p => rw [e] at hv; exact ⟨StrBlk.keep hv.1 hk, IntBlk.keep hv.2 hk⟩

set_option maxRecDepth 100000 in
set_option maxHeartbeats 4000000 in
theorem keys_blk (w : World) : Calls Tryz.prog 36 #[] w fun e w' => ∃ os : List Obj, e = .returned (.slice (some ⟨w.heap.size + 8, 0, none⟩) 16 16) ∧ w' = mades w os ∧ os.length = 9 ∧
    os[0]? = some (.cells (kPol.map Value.string).toArray 9 (0, 0)) ∧
    os[1]? = some (.cells ([(⟨#[65]⟩ : ByteArray), (⟨#[66]⟩ : ByteArray), (⟨#[67]⟩ : ByteArray)].map Value.string).toArray 9 (0, 0)) ∧
    os[2]? = some (.cells (([1, 2, 3] : List Int).map (Value.int .i64)).toArray 3 (0, 0)) ∧
    os[3]? = some (.cells (([0, 1, 2, 3, 4] : List Int).map (Value.int .i64)).toArray 3 (0, 0)) ∧
    os[4]? = some (.cells ([(⟨#[100, 105, 115, 99, 111, 110, 110, 101, 99, 116]⟩ : ByteArray), (⟨#[100, 105, 115, 99, 97, 114, 100, 45, 115, 101, 99, 111, 110, 100, 97, 114, 121]⟩ : ByteArray), (⟨#[99, 111, 110, 115, 101, 110, 115, 117, 115]⟩ : ByteArray)].map Value.string).toArray 9 (0, 0)) ∧
    os[5]? = some (.cells (([0, 5, 6] : List Int).map (Value.int .i64)).toArray 3 (0, 0)) ∧
    os[6]? = some (.cells ([(⟨#[100, 105, 115, 99, 111, 110, 110, 101, 99, 116]⟩ : ByteArray)].map Value.string).toArray 9 (0, 0)) ∧
    os[7]? = some (.cells (([0] : List Int).map (Value.int .i64)).toArray 3 (0, 0)) ∧
    os[8]? = some (.cells (kCells w.heap.size) 83 (0, 0)) := by
  go_enter Tryz.func36, Tryz.ntmps36
  go_wp2
  go_ret
  exact ⟨[_, _, _, _, _, _, _, _, _], rfl, rfl, rfl, rfl, rfl, rfl, rfl, rfl, rfl, rfl, rfl, rfl⟩

set_option maxRecDepth 100000 in
theorem keys_any (w : World) : Calls Tryz.prog 36 #[] w fun e w' => ∃ g : Nat, e = .returned (.slice (some ⟨g, 0, none⟩) 16 16) ∧ w.heap.size ≤ g ∧ Below w.heap.size w w' ∧ g < w'.heap.size ∧ (∃ cs, w'.heap[g]? = some (.cells cs 83 (0, 0))) ∧ ∀ i t, kTab[i]? = some t → KeyAt w' w.heap.size g i t := by
  refine (keys_blk w).mono ?_
  rintro e w' ⟨os, rfl, rfl, hl, o0, o1, o2, o3, o4, o5, o6, o7, o8⟩
  have ht := made_get os w 8 _ o8
  refine ⟨w.heap.size + 8, rfl, by omega, made_below os w w _ (Below.refl _ _) (Nat.le_refl _), by rw [made_size]; omega, ⟨_, ht⟩, fun i t hi => ?_⟩
  have hlt : i < 16 := (List.getElem?_eq_some_iff.1 hi).1
  have s0 : StrBlk (mades w os) w.heap.size (.slice (some ⟨w.heap.size + 0, 0, none⟩) 5 5) kPol := ⟨_, _, [], rfl, by decide, by decide, by omega, (made_get os w 0 _ o0).trans rfl⟩
  have s1 : StrBlk (mades w os) w.heap.size (.slice (some ⟨w.heap.size + 1, 0, none⟩) 3 3) [(⟨#[65]⟩ : ByteArray), (⟨#[66]⟩ : ByteArray), (⟨#[67]⟩ : ByteArray)] := ⟨_, _, [], rfl, by decide, by decide, by omega, (made_get os w 1 _ o1).trans rfl⟩
  have s2 : IntBlk (mades w os) w.heap.size (.slice (some ⟨w.heap.size + 2, 0, none⟩) 3 3) [1, 2, 3] := ⟨_, rfl, by decide, by omega, (made_get os w 2 _ o2).trans rfl⟩
  have s3 : IntBlk (mades w os) w.heap.size (.slice (some ⟨w.heap.size + 3, 0, none⟩) 5 5) [0, 1, 2, 3, 4] := ⟨_, rfl, by decide, by omega, (made_get os w 3 _ o3).trans rfl⟩
  have s4 : StrBlk (mades w os) w.heap.size (.slice (some ⟨w.heap.size + 4, 0, none⟩) 3 3) [(⟨#[100, 105, 115, 99, 111, 110, 110, 101, 99, 116]⟩ : ByteArray), (⟨#[100, 105, 115, 99, 97, 114, 100, 45, 115, 101, 99, 111, 110, 100, 97, 114, 121]⟩ : ByteArray), (⟨#[99, 111, 110, 115, 101, 110, 115, 117, 115]⟩ : ByteArray)] := ⟨_, _, [], rfl, by decide, by decide, by omega, (made_get os w 4 _ o4).trans rfl⟩
  have s5 : IntBlk (mades w os) w.heap.size (.slice (some ⟨w.heap.size + 5, 0, none⟩) 3 3) [0, 5, 6] := ⟨_, rfl, by decide, by omega, (made_get os w 5 _ o5).trans rfl⟩
  have s6 : StrBlk (mades w os) w.heap.size (.slice (some ⟨w.heap.size + 6, 0, none⟩) 1 1) [(⟨#[100, 105, 115, 99, 111, 110, 110, 101, 99, 116]⟩ : ByteArray)] := ⟨_, _, [], rfl, by decide, by decide, by omega, (made_get os w 6 _ o6).trans rfl⟩
  have s7 : IntBlk (mades w os) w.heap.size (.slice (some ⟨w.heap.size + 7, 0, none⟩) 1 1) [0] := ⟨_, rfl, by decide, by omega, (made_get os w 7 _ o7).trans rfl⟩
  rcases i with _ | _ | _ | _ | _ | _ | _ | _ | _ | _ | _ | _ | _ | _ | _ | _ | i
  case succ.succ.succ.succ.succ.succ.succ.succ.succ.succ.succ.succ.succ.succ.succ.succ => omega
  all_goals
    obtain rfl := Option.some.inj hi
    refine ⟨(blk_cell ht _).trans rfl, (blk_cell ht _).trans rfl, (blk_cell ht _).trans rfl, (blk_cell ht _).trans rfl, (blk_cell ht _).trans rfl, ⟨_, _, (blk_cell ht _).trans rfl, (blk_cell ht _).trans rfl, ?_⟩, (blk_cell ht _).trans rfl⟩
    first | exact ⟨rfl, rfl⟩ | exact ⟨s1, s2⟩ | exact ⟨s0, s3⟩ | exact ⟨s4, s5⟩ | exact ⟨s6, s7⟩

/-- The key's field of a Config at block b. -/
theorem kfield_any (i : Nat) (hi : i < 16) (b : Nat) (w : World) : Calls Tryz.prog (48 + i) #[.pointer (some ⟨b, 0, none⟩)] w fun e w' => e = .returned (.pointer (some ⟨b, kOff i, none⟩)) ∧ w = w' := by
  rcases i with _ | _ | _ | _ | _ | _ | _ | _ | _ | _ | _ | _ | _ | _ | _ | _ | i
  case succ.succ.succ.succ.succ.succ.succ.succ.succ.succ.succ.succ.succ.succ.succ.succ => omega
  · go_enter Tryz.func48, Tryz.ntmps48; go_wp2; go_ret; exact ⟨rfl, rfl⟩
  · go_enter Tryz.func49, Tryz.ntmps49; go_wp2; go_ret; exact ⟨rfl, rfl⟩
  · go_enter Tryz.func50, Tryz.ntmps50; go_wp2; go_ret; exact ⟨rfl, rfl⟩
  · go_enter Tryz.func51, Tryz.ntmps51; go_wp2; go_ret; exact ⟨rfl, rfl⟩
  · go_enter Tryz.func52, Tryz.ntmps52; go_wp2; go_ret; exact ⟨rfl, rfl⟩
  · go_enter Tryz.func53, Tryz.ntmps53; go_wp2; go_ret; exact ⟨rfl, rfl⟩
  · go_enter Tryz.func54, Tryz.ntmps54; go_wp2; go_ret; exact ⟨rfl, rfl⟩
  · go_enter Tryz.func55, Tryz.ntmps55; go_wp2; go_ret; exact ⟨rfl, rfl⟩
  · go_enter Tryz.func56, Tryz.ntmps56; go_wp2; go_ret; exact ⟨rfl, rfl⟩
  · go_enter Tryz.func57, Tryz.ntmps57; go_wp2; go_ret; exact ⟨rfl, rfl⟩
  · go_enter Tryz.func58, Tryz.ntmps58; go_wp2; go_ret; exact ⟨rfl, rfl⟩
  · go_enter Tryz.func59, Tryz.ntmps59; go_wp2; go_ret; exact ⟨rfl, rfl⟩
  · go_enter Tryz.func60, Tryz.ntmps60; go_wp2; go_ret; exact ⟨rfl, rfl⟩
  · go_enter Tryz.func61, Tryz.ntmps61; go_wp2; go_ret; exact ⟨rfl, rfl⟩
  · go_enter Tryz.func62, Tryz.ntmps62; go_wp2; go_ret; exact ⟨rfl, rfl⟩
  · go_enter Tryz.func63, Tryz.ntmps63; go_wp2; go_ret; exact ⟨rfl, rfl⟩
end Go.Proofs.YtfecfgimfjcbdaaGreatDoor.Cf

namespace Go.Proofs.YtfecfgimfjcbdaaGreatDoor.Cf
open Go.RowKit Go.Proofs.YtfecfgimfjcbdaaGreatDoorW.PrintWords Go.Proofs.YtfecfgimfjcbdaaGreatDoorW.PrintLast Go.Proofs.YtfecfgimfjcbdaaGreatDoorW.PrintMore

def tk (t : KeyT) (n : Int) : Bool :=
  match t.2.2.2.2.2 with
  | some p => p.2.any fun x => x == n
  | none => if n < t.2.2.1 then false else if n > t.2.2.2.1 then false else if t.2.2.2.2.1 then Go.bits .and .i64 n (wrap64 (n - 1)) == 0 else true

set_option maxRecDepth 100000 in
set_option maxHeartbeats 1000000 in
theorem takes_any (w : World) (B g i : Nat) (t : KeyT) (n : Int) (hK : KeyAt w B g i t) (hn : -9223372036854775808 ≤ n ∧ n ≤ 9223372036854775807) :
    Calls Tryz.prog 65 #[.pointer (some ⟨g, i * 8, none⟩), .int .i64 n] w fun e w' => e = .returned (.bool (tk t n)) ∧ w' = w := by
  obtain ⟨h0, h1, h2, h3, h4, ⟨v, u, h5, h6, hv⟩, h7⟩ := hK
  obtain ⟨ts, tn, lo, hi', z, o⟩ := t
  cases o with
  | none =>
    simp only at hv h2 h3 h4
    obtain ⟨rfl, rfl⟩ := hv
    by_cases hlo : n < lo
    · go_enter Tryz.func65, Tryz.ntmps65
      go_wp2
      go_ret
      exact ⟨by simp [tk, hlo], rfl⟩
    · by_cases hhi : n > hi'
      · have hd : decide (hi' < n) = true := decide_eq_true hhi
        go_enter Tryz.func65, Tryz.ntmps65
        go_wp2
        go_ret
        exact ⟨by simp [tk, hhi], rfl⟩
      · have hd : decide (hi' < n) = false := decide_eq_false hhi
        cases z with
        | false =>
          go_enter Tryz.func65, Tryz.ntmps65
          go_wp2
          go_ret
          exact ⟨by simp [tk, hlo, hhi], rfl⟩
        | true =>
          go_enter Tryz.func65, Tryz.ntmps65
          go_wp2
          go_ret
          refine ⟨?_, rfl⟩
          show Ending.returned (.bool (Go.bits .and .i64 n (wrap64 (n - 1)) == 0)) = _
          unfold tk
          simp only
          rw [if_neg (by omega), if_neg (by omega)]
          rfl
  | some p =>
    obtain ⟨ws, ns⟩ := p
    simp only at hv
    obtain ⟨⟨gw, c, rest, rfl, hc1, hc2, hB, hb⟩, ⟨gi, rfl, hl, hBi, hbi⟩⟩ := hv
    go_enter Tryz.func65, Tryz.ntmps65
    go_wp2
    go_loopg [17] ns.length (fun kq v17 wr => ∃ j : Nat, j ≤ ns.length ∧ kq = ns.length - j ∧ v17 = .int .i64 j ∧ Aside0 ((ns.drop j).any (fun x => x == n) = ns.any fun x => x == n) ∧ wr = w)
    case atStart => exact ⟨0, by omega, rfl, rfl, ⟨rfl⟩, rfl⟩
    case round =>
      clear h0 h1 h2 h3 h4 h5 h6 h7
      obtain ⟨j, hj, rfl, rfl, HA, hwr⟩ := hrel
      subst hwr
      by_cases hlt : j < ns.length
      · have hd : decide ((j : Int) < ns.length) = true := decide_eq_true (by omega)
        obtain ⟨x, hx⟩ : ∃ x, ns[j]? = some x := ⟨_, List.getElem?_eq_getElem hlt⟩
        have hc : wr.cell? ⟨gi, j, none⟩ = some (.int .i64 x) := by
          rw [blk_cell hbi j, List.getElem?_toArray, List.getElem?_map, hx]
          rfl
        have hdr : ns.drop j = x :: ns.drop (j + 1) := by rw [List.drop_eq_getElem?_toList_append, hx]; rfl
        rw [hdr, List.any_cons] at HA
        by_cases hxn : x = n
        · subst hxn
          have HA' : ns.any (fun y => y == x) = true := by rw [← HA.out]; simp
          clear hdr HA
          go_wp2
          go_ret
          refine ⟨?_, rfl⟩
          rw [show tk (ts, tn, lo, hi', z, some (ws, ns)) x = true from HA']
          rfl
        · have hxb : (x == n) = false := by simpa using hxn
          rw [hxb, Bool.false_or] at HA
          clear hdr
          go_wp2
          go_roundg (ns.length - (j + 1))
          case measure => omega
          case rel => exact ⟨j + 1, by omega, rfl, by go_num, HA, rfl⟩
      · have hd : decide ((j : Int) < ns.length) = false := decide_eq_false (by omega)
        obtain rfl : j = ns.length := by omega
        rw [List.drop_length] at HA
        have HA' : ns.any (fun y => y == n) = false := by rw [← HA.out]; rfl
        go_wp2
        go_ret
        refine ⟨?_, rfl⟩
        rw [show tk (ts, tn, lo, hi', z, some (ws, ns)) n = false from HA']
        rfl
end Go.Proofs.YtfecfgimfjcbdaaGreatDoor.Cf

namespace Go.Proofs.YtfecfgimfjcbdaaGreatDoor.Cf
open Go.RowKit Go.Proofs.YtfecfgimfjcbdaaGreatDoorW.PrintWords Go.Proofs.YtfecfgimfjcbdaaGreatDoor.QRParse

theorem wrap_at {i : Int} (h0 : 0 ≤ i) (h1 : i ≤ 9223372036854775807) : wrap64 i = i := wrap_id (by omega) h1
theorem i64_small (n : Int) (h0 : 0 ≤ n) (h1 : n < 2 ^ 31) : IntKind.i64.wrap n = n := by rw [IntKind.wrap_i64]; omega
theorem and_mask (i : Nat) (hi : i ≤ 31) (x : Int) (h0 : 0 ≤ x) (h1 : x < 2 ^ 31) : Go.bits .and .i64 x (2 ^ i - 1) = x % 2 ^ i := bits_mask .i64 31 (by decide) i64_small i hi x h0 h1
theorem and63 (x : Int) (h0 : 0 ≤ x) (h1 : x < 2 ^ 31) : Go.bits .and .i64 x 63 = x % 64 := and_mask 6 (by decide) x h0 h1
theorem and31 (x : Int) (h0 : 0 ≤ x) (h1 : x < 2 ^ 31) : Go.bits .and .i64 x 31 = x % 32 := and_mask 5 (by decide) x h0 h1
theorem and15 (x : Int) (h0 : 0 ≤ x) (h1 : x < 2 ^ 31) : Go.bits .and .i64 x 15 = x % 16 := and_mask 4 (by decide) x h0 h1
theorem and7 (x : Int) (h0 : 0 ≤ x) (h1 : x < 2 ^ 31) : Go.bits .and .i64 x 7 = x % 8 := and_mask 3 (by decide) x h0 h1

/-- May it be a character's number? -/
def scalarP (v : Nat) : Bool := decide (v ≤ 1114111 ∧ (v < 55296 ∨ 57343 < v))
theorem scalar_f (v : Nat) : replicaref12_scalar.f (v : Int) = some (scalarP v) := by
  unfold replicaref12_scalar.f scalarP
  rw [if_pos (by omega)]
  by_cases h1 : v ≤ 1114111
  · rw [if_pos (by omega)]
    by_cases h2 : v < 55296
    · rw [if_pos (by omega), decide_eq_true ⟨h1, .inl h2⟩]
    · rw [if_neg (by omega)]
      congr 1
      exact decide_eq_decide.2 ⟨fun h => ⟨h1, .inr (by omega)⟩, fun h => by omega⟩
  · rw [if_neg (by omega), decide_eq_false (by omega)]
/-- A character's bytes. -/
def utfL (v : Nat) : List Nat :=
  if v < 128 then [v] else if v < 2048 then [192 + v / 64, 128 + v % 64] else if v < 65536 then [224 + v / 4096, 128 + v / 64 % 64, 128 + v % 64] else [240 + v / 262144, 128 + v / 4096 % 64, 128 + v / 64 % 64, 128 + v % 64]
theorem utf_f (v : Nat) (hv : v < 2097152) : replicaref12_utf.f (v : Int) = some ((utfL v).map fun x => ((x % 256 : Nat) : Int)) := by
  unfold replicaref12_utf.f utfL
  have a0 := and63 (v : Int) (by omega) (by omega)
  have a1 := and63 ((v : Int) / 64) (by omega) (by omega)
  have a2 := and63 ((v : Int) / 4096) (by omega) (by omega)
  rw [a0, a1, a2]
  by_cases h1 : v < 128
  · rw [if_pos (by omega), if_pos h1]
    simp
  · rw [if_neg (by omega), if_neg h1]
    by_cases h2 : v < 2048
    · rw [if_pos (by omega), if_pos h2, wrap_at (by omega) (by omega), wrap_at (by omega) (by omega)]
      simp
    · rw [if_neg (by omega), if_neg h2]
      by_cases h3 : v < 65536
      · rw [if_pos (by omega), if_pos h3, wrap_at (by omega) (by omega), wrap_at (by omega) (by omega), wrap_at (by omega) (by omega)]
        simp
      · rw [if_neg (by omega), if_neg h3, wrap_at (by omega) (by omega), wrap_at (by omega) (by omega), wrap_at (by omega) (by omega), wrap_at (by omega) (by omega)]
        simp
theorem toList_bl (s : ByteArray) : s.toList = bl s := ByteArray.toList_eq s
theorem str_utf (l : List Nat) : (strOfNums (l.map fun x => ((x % 256 : Nat) : Int))).toList = l.map UInt8.ofNat := by
  rw [toList_bl]
  simp only [bl, strOfNums, List.map_map]
  refine List.map_congr_left fun x _ => ?_
  simp only [Function.comp, Int.toNat_natCast]
  apply UInt8.toNat.inj
  simp

/-- With w bytes from i on and the number v made of them: whether it is the character. -/
theorem wide_tail (s : ByteArray) (hs : s.size ≤ 1125899906842624) (i w v k : Nat) (hw : i + w ≤ s.size) (hw4 : w ≤ 4) (hv : v < 2097152) :
    replicaref12_wide.l1 (k + 1) s (i : Int) (w : Int) (v : Int) (w : Int) = if scalarP v = true ∧ (utfL v).map UInt8.ofNat = ((bl s).drop i).take w then some ((w : Int), (v : Int)) else replicaref12_wide.l0 k s (i : Int) ((w + 1 : Nat) : Int) := by
  simp only [replicaref12_wide.l1]
  rw [if_neg (by omega), scalar_f, Option.bind_some, utf_f v hv, Option.bind_some, wrap_at (i := (i : Int) + (w : Int)) (by omega) (by omega), wrap_at (i := (w : Int) + 1) (by omega) (by omega), str_utf, toList_bl]
  have e : bl (s.extract (i : Int).toNat ((i : Int) + (w : Int)).toNat) = ((bl s).drop i).take w := by
    rw [show ((i : Int) + (w : Int)).toNat = i + w by omega, Int.toNat_natCast]
    simp only [bl, ByteArray.data_extract, Array.toList_extract, List.extract, Nat.add_sub_cancel_left]
  rw [e]
  by_cases h1 : scalarP v = true
  · rw [if_pos h1]
    by_cases h2 : (utfL v).map UInt8.ofNat = ((bl s).drop i).take w
    · rw [if_pos (by omega), if_pos (by omega), if_pos (by omega), if_pos h2, if_pos ⟨h1, h2⟩]
    · rw [if_pos (by omega), if_pos (by omega), if_pos (by omega), if_neg h2, if_neg (fun h => h2 h.2)]
      rfl
  · rw [if_neg h1, if_neg (fun h => h1 h.1)]
    rfl
theorem wide_end (s : ByteArray) (hs : s.size ≤ 1125899906842624) (i w k : Nat) (hi : i ≤ s.size) (hw4 : w ≤ 5) (hw : s.size < i + w ∨ 4 < w) : replicaref12_wide.l0 (k + 2) s (i : Int) (w : Int) = some (0, 0) := by
  simp only [replicaref12_wide.l0]
  by_cases h : (w : Int) ≤ 4
  · rw [if_pos h, wrap_at (by omega) (by omega), decide_eq_false (by omega)]
    simp only [replicaref12_wide.j1, Bool.false_eq_true, if_false]
  · rw [if_neg h]
    simp only [replicaref12_wide.j1, Bool.false_eq_true, if_false]
theorem ofNat_is (x : Nat) (c : UInt8) : UInt8.ofNat x = c ↔ x % 256 = c.toNat := by
  rw [← UInt8.toNat_inj]
  simp

theorem wide_1 (s : ByteArray) (hs : s.size ≤ 1125899906842624) (i k : Nat) (hw : i + 1 ≤ s.size) (c0 : UInt8) (h0 : bt s (i : Int) = (c0.toNat : Int)) (hd : ((bl s).drop i).take 1 = [c0]) :
    replicaref12_wide.l0 (k + 4) s (i : Int) 1 = if c0.toNat < 128 then some (1, (c0.toNat : Int)) else replicaref12_wide.l0 k s (i : Int) 2 := by
  have hc := c0.toNat_lt
  have ht := wide_tail s hs i 1 c0.toNat k hw (by omega) (by omega)
  simp only [replicaref12_wide.l0, replicaref12_wide.j1, replicaref12_wide.j2]
  rw [if_pos (by omega), wrap_at (i := (i : Int) + 1) (by omega) (by omega), decide_eq_true (by omega), if_pos rfl, if_pos (by omega), if_pos (by omega), if_neg (by omega), h0, wrap_at (by omega) (by omega)]
  rw [show ((1 : Nat) : Int) = 1 from rfl] at ht
  rw [ht, hd]
  have e : (scalarP c0.toNat = true ∧ (utfL c0.toNat).map UInt8.ofNat = [c0]) ↔ c0.toNat < 128 := by
    unfold scalarP utfL
    by_cases h : c0.toNat < 128
    · simp only [if_pos h, List.map_cons, List.map_nil, List.cons.injEq, and_true, ofNat_is, decide_eq_true_eq]
      omega
    · rw [if_neg h, if_pos (by omega)]
      simp [h]
  by_cases h : c0.toNat < 128
  · rw [if_pos (e.2 h), if_pos h]
  · rw [if_neg (fun x => h (e.1 x)), if_neg h]
    rfl

theorem wide_2 (s : ByteArray) (hs : s.size ≤ 1125899906842624) (i k : Nat) (hw : i + 2 ≤ s.size) (c0 c1 : UInt8) (h0 : bt s (i : Int) = (c0.toNat : Int)) (h1 : bt s ((i : Int) + 1) = (c1.toNat : Int)) (hd : ((bl s).drop i).take 2 = [c0, c1]) :
    replicaref12_wide.l0 (k + 5) s (i : Int) 2 = if c0.toNat / 32 = 6 ∧ c1.toNat / 64 = 2 ∧ 128 ≤ c0.toNat % 32 * 64 + c1.toNat % 64 then some (2, ((c0.toNat % 32 * 64 + c1.toNat % 64 : Nat) : Int)) else replicaref12_wide.l0 k s (i : Int) 3 := by
  have hc := c0.toNat_lt
  have hc1 := c1.toNat_lt
  have ht := wide_tail s hs i 2 (c0.toNat % 32 * 64 + c1.toNat % 64) k hw (by omega) (by omega)
  have hm : wrap64 (shl .i64 1 (IntKind.u64.wrap (wrap64 (7 - 2))) - 1) = 31 := by decide +kernel
  have hu : (0 : Int) ≤ IntKind.u64.wrap (wrap64 (7 - 2)) := by decide +kernel
  simp only [replicaref12_wide.l0, replicaref12_wide.j1, replicaref12_wide.j2]
  rw [if_pos (by omega), wrap_at (i := (i : Int) + 2) (by omega) (by omega), decide_eq_true (by omega), if_pos rfl, if_pos (by omega), if_pos (by omega), if_pos (by omega), if_pos hu, hm, h0, wrap_at (i := ((c0.toNat : Nat) : Int)) (by omega) (by omega), and31 _ (by omega) (by omega)]
  rw [replicaref12_wide.l1, if_pos (by omega), wrap_at (i := (i : Int) + 1) (by omega) (by omega), if_pos (by omega), if_pos (by omega), h1, wrap_at (i := ((c1.toNat : Nat) : Int)) (by omega) (by omega), and63 _ (by omega) (by omega),
    wrap_at (i := ((c0.toNat : Nat) : Int) % 32 * 64) (by omega) (by omega), wrap_at (by omega) (by omega), show wrap64 (1 + 1) = 2 by decide +kernel]
  rw [show ((2 : Nat) : Int) = 2 from rfl, show ((c0.toNat % 32 * 64 + c1.toNat % 64 : Nat) : Int) = (c0.toNat : Int) % 32 * 64 + (c1.toNat : Int) % 64 by omega] at ht
  rw [ht, hd]
  have e : (scalarP (c0.toNat % 32 * 64 + c1.toNat % 64) = true ∧ (utfL (c0.toNat % 32 * 64 + c1.toNat % 64)).map UInt8.ofNat = [c0, c1]) ↔ (c0.toNat / 32 = 6 ∧ c1.toNat / 64 = 2 ∧ 128 ≤ c0.toNat % 32 * 64 + c1.toNat % 64) := by
    unfold scalarP utfL
    by_cases h : c0.toNat % 32 * 64 + c1.toNat % 64 < 128
    · rw [if_pos h]
      simp only [List.map_cons, List.map_nil, List.cons.injEq, reduceCtorEq, and_false, false_iff]
      omega
    · rw [if_neg h, if_pos (by omega)]
      simp only [List.map_cons, List.map_nil, List.cons.injEq, and_true, ofNat_is, decide_eq_true_eq]
      omega
  by_cases h : c0.toNat / 32 = 6 ∧ c1.toNat / 64 = 2 ∧ 128 ≤ c0.toNat % 32 * 64 + c1.toNat % 64
  · rw [if_pos (e.2 h), if_pos h]
    congr 2
  · rw [if_neg (fun x => h (e.1 x)), if_neg h]
    rfl

theorem wide_3 (s : ByteArray) (hs : s.size ≤ 1125899906842624) (i k : Nat) (hw : i + 3 ≤ s.size) (c0 c1 c2 : UInt8) (h0 : bt s (i : Int) = (c0.toNat : Int)) (h1 : bt s ((i : Int) + 1) = (c1.toNat : Int)) (h2 : bt s ((i : Int) + 2) = (c2.toNat : Int)) (hd : ((bl s).drop i).take 3 = [c0, c1, c2]) (v : Nat) (hv : v = c0.toNat % 16 * 4096 + c1.toNat % 64 * 64 + c2.toNat % 64) :
    replicaref12_wide.l0 (k + 6) s (i : Int) 3 = if c0.toNat / 16 = 14 ∧ c1.toNat / 64 = 2 ∧ c2.toNat / 64 = 2 ∧ 2048 ≤ v ∧ (v < 55296 ∨ 57344 ≤ v) then some (3, (v : Int)) else replicaref12_wide.l0 k s (i : Int) 4 := by
  have hc := c0.toNat_lt
  have hc1 := c1.toNat_lt
  have hc2 := c2.toNat_lt
  have ht := wide_tail s hs i 3 v k hw (by omega) (by omega)
  have hm : wrap64 (shl .i64 1 (IntKind.u64.wrap (wrap64 (7 - 3))) - 1) = 15 := by decide +kernel
  have hu : (0 : Int) ≤ IntKind.u64.wrap (wrap64 (7 - 3)) := by decide +kernel
  simp only [replicaref12_wide.l0, replicaref12_wide.j1, replicaref12_wide.j2]
  rw [if_pos (by omega), wrap_at (i := (i : Int) + 3) (by omega) (by omega), decide_eq_true (by omega), if_pos rfl, if_pos (by omega), if_pos (by omega), if_pos (by omega), if_pos hu, hm, h0, wrap_at (i := ((c0.toNat : Nat) : Int)) (by omega) (by omega), and15 _ (by omega) (by omega)]
  rw [replicaref12_wide.l1, if_pos (by omega), wrap_at (i := (i : Int) + 1) (by omega) (by omega), if_pos (by omega), if_pos (by omega), h1, wrap_at (i := ((c1.toNat : Nat) : Int)) (by omega) (by omega), and63 _ (by omega) (by omega),
    wrap_at (i := ((c0.toNat : Nat) : Int) % 16 * 64) (by omega) (by omega), wrap_at (i := ((c0.toNat : Nat) : Int) % 16 * 64 + ((c1.toNat : Nat) : Int) % 64) (by omega) (by omega), show wrap64 (1 + 1) = 2 by decide +kernel]
  rw [replicaref12_wide.l1, if_pos (by omega), wrap_at (i := (i : Int) + 2) (by omega) (by omega), if_pos (by omega), if_pos (by omega), h2, wrap_at (i := ((c2.toNat : Nat) : Int)) (by omega) (by omega), and63 _ (by omega) (by omega),
    wrap_at (i := (((c0.toNat : Nat) : Int) % 16 * 64 + ((c1.toNat : Nat) : Int) % 64) * 64) (by omega) (by omega), wrap_at (by omega) (by omega), show wrap64 (2 + 1) = 3 by decide +kernel]
  rw [show ((3 : Nat) : Int) = 3 from rfl, show ((v : Nat) : Int) = ((c0.toNat : Int) % 16 * 64 + (c1.toNat : Int) % 64) * 64 + (c2.toNat : Int) % 64 by omega] at ht
  rw [ht, hd]
  have e : (scalarP v = true ∧ (utfL v).map UInt8.ofNat = [c0, c1, c2]) ↔ (c0.toNat / 16 = 14 ∧ c1.toNat / 64 = 2 ∧ c2.toNat / 64 = 2 ∧ 2048 ≤ v ∧ (v < 55296 ∨ 57344 ≤ v)) := by
    unfold scalarP utfL
    by_cases h : v < 128
    · rw [if_pos h]
      simp only [List.map_cons, List.map_nil, List.cons.injEq, reduceCtorEq, and_false, false_iff]
      omega
    · by_cases h' : v < 2048
      · rw [if_neg h, if_pos h']
        simp only [List.map_cons, List.map_nil, List.cons.injEq, reduceCtorEq, and_false, false_iff]
        omega
      · rw [if_neg h, if_neg h', if_pos (by omega)]
        simp only [List.map_cons, List.map_nil, List.cons.injEq, and_true, ofNat_is, decide_eq_true_eq]
        omega
  by_cases h : c0.toNat / 16 = 14 ∧ c1.toNat / 64 = 2 ∧ c2.toNat / 64 = 2 ∧ 2048 ≤ v ∧ (v < 55296 ∨ 57344 ≤ v)
  · rw [if_pos (e.2 h), if_pos h]
    congr 2
    omega
  · rw [if_neg (fun x => h (e.1 x)), if_neg h]
    rfl

theorem wide_4 (s : ByteArray) (hs : s.size ≤ 1125899906842624) (i k : Nat) (hw : i + 4 ≤ s.size) (c0 c1 c2 c3 : UInt8) (h0 : bt s (i : Int) = (c0.toNat : Int)) (h1 : bt s ((i : Int) + 1) = (c1.toNat : Int)) (h2 : bt s ((i : Int) + 2) = (c2.toNat : Int)) (h3 : bt s ((i : Int) + 3) = (c3.toNat : Int)) (hd : ((bl s).drop i).take 4 = [c0, c1, c2, c3]) (v : Nat) (hv : v = c0.toNat % 8 * 262144 + c1.toNat % 64 * 4096 + c2.toNat % 64 * 64 + c3.toNat % 64) :
    replicaref12_wide.l0 (k + 7) s (i : Int) 4 = if c0.toNat / 8 = 30 ∧ c1.toNat / 64 = 2 ∧ c2.toNat / 64 = 2 ∧ c3.toNat / 64 = 2 ∧ 65536 ≤ v ∧ v ≤ 1114111 then some (4, (v : Int)) else replicaref12_wide.l0 k s (i : Int) 5 := by
  have hc := c0.toNat_lt
  have hc1 := c1.toNat_lt
  have hc2 := c2.toNat_lt
  have hc3 := c3.toNat_lt
  have ht := wide_tail s hs i 4 v k hw (by omega) (by omega)
  have hm : wrap64 (shl .i64 1 (IntKind.u64.wrap (wrap64 (7 - 4))) - 1) = 7 := by decide +kernel
  have hu : (0 : Int) ≤ IntKind.u64.wrap (wrap64 (7 - 4)) := by decide +kernel
  simp only [replicaref12_wide.l0, replicaref12_wide.j1, replicaref12_wide.j2]
  rw [if_pos (by omega), wrap_at (i := (i : Int) + 4) (by omega) (by omega), decide_eq_true (by omega), if_pos rfl, if_pos (by omega), if_pos (by omega), if_pos (by omega), if_pos hu, hm, h0, wrap_at (i := ((c0.toNat : Nat) : Int)) (by omega) (by omega), and7 _ (by omega) (by omega)]
  rw [replicaref12_wide.l1, if_pos (by omega), wrap_at (i := (i : Int) + 1) (by omega) (by omega), if_pos (by omega), if_pos (by omega), h1, wrap_at (i := ((c1.toNat : Nat) : Int)) (by omega) (by omega), and63 _ (by omega) (by omega),
    wrap_at (i := ((c0.toNat : Nat) : Int) % 8 * 64) (by omega) (by omega), wrap_at (i := ((c0.toNat : Nat) : Int) % 8 * 64 + ((c1.toNat : Nat) : Int) % 64) (by omega) (by omega), show wrap64 (1 + 1) = 2 by decide +kernel]
  rw [replicaref12_wide.l1, if_pos (by omega), wrap_at (i := (i : Int) + 2) (by omega) (by omega), if_pos (by omega), if_pos (by omega), h2, wrap_at (i := ((c2.toNat : Nat) : Int)) (by omega) (by omega), and63 _ (by omega) (by omega),
    wrap_at (i := (((c0.toNat : Nat) : Int) % 8 * 64 + ((c1.toNat : Nat) : Int) % 64) * 64) (by omega) (by omega), wrap_at (i := (((c0.toNat : Nat) : Int) % 8 * 64 + ((c1.toNat : Nat) : Int) % 64) * 64 + ((c2.toNat : Nat) : Int) % 64) (by omega) (by omega), show wrap64 (2 + 1) = 3 by decide +kernel]
  rw [replicaref12_wide.l1, if_pos (by omega), wrap_at (i := (i : Int) + 3) (by omega) (by omega), if_pos (by omega), if_pos (by omega), h3, wrap_at (i := ((c3.toNat : Nat) : Int)) (by omega) (by omega), and63 _ (by omega) (by omega),
    wrap_at (i := ((((c0.toNat : Nat) : Int) % 8 * 64 + ((c1.toNat : Nat) : Int) % 64) * 64 + ((c2.toNat : Nat) : Int) % 64) * 64) (by omega) (by omega), wrap_at (by omega) (by omega), show wrap64 (3 + 1) = 4 by decide +kernel]
  rw [show ((4 : Nat) : Int) = 4 from rfl, show ((v : Nat) : Int) = (((c0.toNat : Int) % 8 * 64 + (c1.toNat : Int) % 64) * 64 + (c2.toNat : Int) % 64) * 64 + (c3.toNat : Int) % 64 by omega] at ht
  rw [ht, hd]
  have e : (scalarP v = true ∧ (utfL v).map UInt8.ofNat = [c0, c1, c2, c3]) ↔ (c0.toNat / 8 = 30 ∧ c1.toNat / 64 = 2 ∧ c2.toNat / 64 = 2 ∧ c3.toNat / 64 = 2 ∧ 65536 ≤ v ∧ v ≤ 1114111) := by
    unfold scalarP utfL
    by_cases h : v < 128
    · rw [if_pos h]
      simp only [List.map_cons, List.map_nil, List.cons.injEq, reduceCtorEq, and_false, false_iff]
      omega
    · by_cases h' : v < 2048
      · rw [if_neg h, if_pos h']
        simp only [List.map_cons, List.map_nil, List.cons.injEq, reduceCtorEq, and_false, false_iff]
        omega
      · by_cases h'' : v < 65536
        · rw [if_neg h, if_neg h', if_pos h'']
          simp only [List.map_cons, List.map_nil, List.cons.injEq, reduceCtorEq, and_false, false_iff]
          omega
        · rw [if_neg h, if_neg h', if_neg h'']
          simp only [List.map_cons, List.map_nil, List.cons.injEq, and_true, ofNat_is, decide_eq_true_eq]
          omega
  by_cases h : c0.toNat / 8 = 30 ∧ c1.toNat / 64 = 2 ∧ c2.toNat / 64 = 2 ∧ c3.toNat / 64 = 2 ∧ 65536 ≤ v ∧ v ≤ 1114111
  · rw [if_pos (e.2 h), if_pos h]
    congr 2
    omega
  · rw [if_neg (fun x => h (e.1 x)), if_neg h]
    rfl

/-- What the decoder says of the character at the head: how many bytes, its number; (0, 0): none begins there. -/
def wdL (l : List UInt8) : Nat × Nat := if (Lib.decodeL l).1 = 65533 ∧ (Lib.decodeL l).2 = 1 then (0, 0) else ((Lib.decodeL l).2, (Lib.decodeL l).1)
set_option maxHeartbeats 4000000 in
theorem wd_arith (n b0 b1 b2 b3 : Nat) (h0 : b0 < 256) : (if (Lib.decodeN n b0 b1 b2 b3).1 = 65533 ∧ (Lib.decodeN n b0 b1 b2 b3).2 = 1 then (0, 0) else ((Lib.decodeN n b0 b1 b2 b3).2, (Lib.decodeN n b0 b1 b2 b3).1)) =
    if b0 < 128 then (1, b0) else if 2 ≤ n ∧ b0 / 32 = 6 ∧ b1 / 64 = 2 ∧ 128 ≤ b0 % 32 * 64 + b1 % 64 then (2, b0 % 32 * 64 + b1 % 64)
    else if 3 ≤ n ∧ b0 / 16 = 14 ∧ b1 / 64 = 2 ∧ b2 / 64 = 2 ∧ 2048 ≤ b0 % 16 * 4096 + b1 % 64 * 64 + b2 % 64 ∧ (b0 % 16 * 4096 + b1 % 64 * 64 + b2 % 64 < 55296 ∨ 57344 ≤ b0 % 16 * 4096 + b1 % 64 * 64 + b2 % 64) then (3, b0 % 16 * 4096 + b1 % 64 * 64 + b2 % 64)
    else if 4 ≤ n ∧ b0 / 8 = 30 ∧ b1 / 64 = 2 ∧ b2 / 64 = 2 ∧ b3 / 64 = 2 ∧ 65536 ≤ b0 % 8 * 262144 + b1 % 64 * 4096 + b2 % 64 * 64 + b3 % 64 ∧ b0 % 8 * 262144 + b1 % 64 * 4096 + b2 % 64 * 64 + b3 % 64 ≤ 1114111 then (4, b0 % 8 * 262144 + b1 % 64 * 4096 + b2 % 64 * 64 + b3 % 64) else (0, 0) := by
  have l2 : b0 % 32 * 64 + b1 % 64 < 2048 := by omega
  have l3 : b0 % 16 * 4096 + b1 % 64 * 64 + b2 % 64 < 65536 := by omega
  obtain ⟨v2, e2⟩ : ∃ v, b0 % 32 * 64 + b1 % 64 = v := ⟨_, rfl⟩
  obtain ⟨v3, e3⟩ : ∃ v, b0 % 16 * 4096 + b1 % 64 * 64 + b2 % 64 = v := ⟨_, rfl⟩
  obtain ⟨v4, e4⟩ : ∃ v, b0 % 8 * 262144 + b1 % 64 * 4096 + b2 % 64 * 64 + b3 % 64 = v := ⟨_, rfl⟩
  simp only [Lib.decodeN, e2, e3, e4] at l2 l3 ⊢
  clear e2 e3 e4
  by_cases h1 : b0 < 128
  · rw [if_pos h1, if_pos h1, if_neg (by simp; omega)]
  · rw [if_neg h1, if_neg h1]
    by_cases h2 : b0 / 32 = 6 ∧ (1 < n ∧ b1 / 64 = 2)
    · rw [if_pos h2]
      by_cases h3 : v2 ≥ 128
      · rw [if_pos h3, if_neg (by simp), if_pos (by omega)]
      · rw [if_neg h3, if_pos (by simp), if_neg (by omega), if_neg (by omega), if_neg (by omega)]
    · rw [if_neg h2]
      by_cases h3 : b0 / 16 = 14 ∧ (1 < n ∧ b1 / 64 = 2) ∧ (2 < n ∧ b2 / 64 = 2)
      · rw [if_pos h3]
        by_cases h4 : v3 ≥ 2048 ∧ (v3 < 55296 ∨ (57344 ≤ v3 ∧ v3 ≤ 1114111))
        · rw [if_pos h4, if_neg (by simp), if_neg (by omega), if_pos (by omega)]
        · rw [if_neg h4, if_pos (by simp), if_neg (by omega), if_neg (by omega), if_neg (by omega)]
      · rw [if_neg h3]
        by_cases h4 : b0 / 8 = 30 ∧ (1 < n ∧ b1 / 64 = 2) ∧ (2 < n ∧ b2 / 64 = 2) ∧ (3 < n ∧ b3 / 64 = 2)
        · rw [if_pos h4]
          by_cases h5 : v4 ≥ 65536 ∧ (v4 < 55296 ∨ (57344 ≤ v4 ∧ v4 ≤ 1114111))
          · rw [if_pos h5, if_neg (by simp), if_neg (by omega), if_neg (by omega), if_pos (by omega)]
          · rw [if_neg h5, if_pos (by simp), if_neg (by omega), if_neg (by omega), if_neg (by omega)]
        · rw [if_neg h4, if_pos (by simp), if_neg (by omega), if_neg (by omega), if_neg (by omega)]

set_option maxRecDepth 10000 in
theorem wide_spec (s : ByteArray) (hs : s.size ≤ 1125899906842624) (i : Nat) (hi : i < s.size) : replicaref12_wide.f 30 s (i : Int) = some (((wdL ((bl s).drop i)).1 : Int), ((wdL ((bl s).drop i)).2 : Int)) := by
  unfold wdL
  rw [Lib.decodeL_N, wd_arith _ _ _ _ _ (UInt8.toNat_lt _)]
  obtain ⟨c0, d0, b0⟩ := bl_drop s i hi
  have hlen : ((bl s).drop i).length = s.size - i := by rw [List.length_drop, bl_length]
  rw [hlen]
  unfold replicaref12_wide.f
  have e1 := wide_1 s hs i 26 (by omega) c0 b0 (by rw [d0]; rfl)
  rw [show 30 = 26 + 4 from rfl, e1]
  by_cases h1 : i + 1 < s.size
  · obtain ⟨c1, d1, b1⟩ := bl_drop s (i + 1) h1
    rw [show ((i + 1 : Nat) : Int) = (i : Int) + 1 by omega] at b1
    have e2 := wide_2 s hs i 21 (by omega) c0 c1 b0 b1 (by rw [d0, d1]; rfl)
    rw [show 26 = 21 + 5 from rfl, e2]
    by_cases h2 : i + 1 + 1 < s.size
    · obtain ⟨c2, d2, b2⟩ := bl_drop s (i + 1 + 1) h2
      rw [show ((i + 1 + 1 : Nat) : Int) = (i : Int) + 2 by omega] at b2
      have e3 := wide_3 s hs i 15 (by omega) c0 c1 c2 b0 b1 b2 (by rw [d0, d1, d2]; rfl) _ rfl
      rw [show 21 = 15 + 6 from rfl, e3]
      by_cases h3 : i + 1 + 1 + 1 < s.size
      · obtain ⟨c3, d3, b3⟩ := bl_drop s (i + 1 + 1 + 1) h3
        rw [show ((i + 1 + 1 + 1 : Nat) : Int) = (i : Int) + 3 by omega] at b3
        have e4 := wide_4 s hs i 8 (by omega) c0 c1 c2 c3 b0 b1 b2 b3 (by rw [d0, d1, d2, d3]; rfl) _ rfl
        have e5 := wide_end s hs i 5 6 (by omega) (by omega) (.inr (by omega))
        rw [show 15 = 8 + 7 from rfl, e4, show 8 = 6 + 2 from rfl, show (5 : Int) = ((5 : Nat) : Int) from rfl, e5]
        rw [d0, d1, d2, d3]
        have q2 : 2 ≤ s.size - i := by omega
        have q3 : 3 ≤ s.size - i := by omega
        have q4 : 4 ≤ s.size - i := by omega
        simp only [List.getD_cons_zero, List.getD_cons_succ, q2, q3, q4, true_and]
        repeat' split
        all_goals rfl
      · have e5 := wide_end s hs i 4 13 (by omega) (by omega) (.inl (by omega))
        rw [show 15 = 13 + 2 from rfl, show (4 : Int) = ((4 : Nat) : Int) from rfl, e5]
        have d3 : (bl s).drop (i + 1 + 1 + 1) = [] := List.drop_eq_nil_of_le (by rw [bl_length]; omega)
        rw [d0, d1, d2, d3]
        have q2 : 2 ≤ s.size - i := by omega
        have q3 : 3 ≤ s.size - i := by omega
        have q4 : ¬ 4 ≤ s.size - i := by omega
        simp only [List.getD_cons_zero, List.getD_cons_succ, q2, q3, q4, true_and, false_and, if_false]
        repeat' split
        all_goals rfl
    · have e5 := wide_end s hs i 3 19 (by omega) (by omega) (.inl (by omega))
      rw [show 21 = 19 + 2 from rfl, show (3 : Int) = ((3 : Nat) : Int) from rfl, e5]
      have d2 : (bl s).drop (i + 1 + 1) = [] := List.drop_eq_nil_of_le (by rw [bl_length]; omega)
      rw [d0, d1, d2]
      have q2 : 2 ≤ s.size - i := by omega
      have q3 : ¬ 3 ≤ s.size - i := by omega
      have q4 : ¬ 4 ≤ s.size - i := by omega
      simp only [List.getD_cons_zero, List.getD_cons_succ, q2, q3, q4, true_and, false_and, if_false]
      repeat' split
      all_goals rfl
  · have e5 := wide_end s hs i 2 24 (by omega) (by omega) (.inl (by omega))
    rw [show 26 = 24 + 2 from rfl, show (2 : Int) = ((2 : Nat) : Int) from rfl, e5]
    have d1 : (bl s).drop (i + 1) = [] := List.drop_eq_nil_of_le (by rw [bl_length]; omega)
    rw [d0, d1]
    have q2 : ¬ 2 ≤ s.size - i := by omega
    have q3 : ¬ 3 ≤ s.size - i := by omega
    have q4 : ¬ 4 ≤ s.size - i := by omega
    simp only [List.getD_cons_zero, q2, q3, q4, false_and, if_false]
    repeat' split
    all_goals rfl

theorem wd_le (l : List UInt8) (hl : l ≠ []) : (wdL l).1 ≤ l.length := by
  unfold wdL
  split
  · exact Nat.zero_le _
  · exact Lib.decodeL_le l hl
end Go.Proofs.YtfecfgimfjcbdaaGreatDoor.Cf
