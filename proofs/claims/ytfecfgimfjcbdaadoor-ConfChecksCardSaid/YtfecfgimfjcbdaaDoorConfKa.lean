/- The table of the resource file's keys, as the program makes it; which numbers a key takes. -/
import Derived.Test.YtfecfgimfjcbdaaDoorConfF
namespace Go.Proofs.YtfecfgimfjcbdaaDoor.Cf
open Go.RowKit Go.Proofs.YtfecfgimfjcbdaaDoorW.PrintWords Go.Proofs.YtfecfgimfjcbdaaDoorW.PrintLast Go.Proofs.YtfecfgimfjcbdaaDoorW.PrintMore

/-- Blocks made one behind the other. -/
def mades (w : World) : List Obj → World
  | [] => w
  | o :: os => mades (w.alloc o) os
theorem made_size : ∀ (os : List Obj) (w : World), (mades w os).heap.size = w.heap.size + os.length
  | [], w => rfl
  | o :: os, w => by
    show (mades (w.alloc o) os).heap.size = _
    rw [made_size os, show (w.alloc o).heap.size = w.heap.size + 1 by simp, List.length_cons]
    omega
theorem made_old : ∀ (os : List Obj) (w : World) (k : Nat) (o : Obj), w.heap[k]? = some o → (mades w os).heap[k]? = some o
  | [], _, _, _, h => h
  | o :: os, w, k, _, h => made_old os (w.alloc o) k _ (blk_alloc h o)
theorem made_get : ∀ (os : List Obj) (w : World) (i : Nat) (o : Obj), os[i]? = some o → (mades w os).heap[w.heap.size + i]? = some o
  | [], _, _, _, h => by simp at h
  | o :: os, w, 0, _, h => by
    obtain rfl := Option.some.inj h
    exact made_old os (w.alloc o) _ _ (blk_new w o)
  | o :: os, w, i + 1, _, h => by
    have := made_get os (w.alloc o) i _ (by simpa using h)
    rw [show (w.alloc o).heap.size = w.heap.size + 1 by simp] at this
    rw [show w.heap.size + (i + 1) = w.heap.size + 1 + i by omega]
    exact this
theorem made_below : ∀ (os : List Obj) (w w1 : World) (n : Nat), Below n w w1 → n ≤ w1.heap.size → Below n w (mades w1 os)
  | [], _, _, _, h, _ => h
  | o :: os, w, w1, n, h, hn => made_below os w (w1.alloc o) n (h.alloc hn o) (by rw [show (w1.alloc o).heap.size = w1.heap.size + 1 by simp]; omega)

/-- A slice of ints over a block from B on. -/
def IntBlk (w : World) (B : Nat) (v : Value) (ns : List Int) : Prop :=
  ∃ gw : Nat, v = .slice (some ⟨gw, 0, none⟩) ns.length ns.length ∧ ns.length ≤ 1000 ∧ B ≤ gw ∧ w.heap[gw]? = some (.cells (ns.map (Value.int .i64)).toArray 3 (0, 0))
theorem IntBlk.keep {w w1 : World} {B : Nat} {v : Value} {ns : List Int} (h : IntBlk w B v ns) (hk : ∀ k, B ≤ k → k < w.heap.size → w1.heap[k]? = w.heap[k]?) : IntBlk w1 B v ns := by
  obtain ⟨gw, rfl, hl, hB, hb⟩ := h
  exact ⟨gw, rfl, hl, hB, (hk gw hB (blk_lt hb)).trans hb⟩

def kPol : List ByteArray := [(⟨#[100, 105, 115, 99, 111, 110, 110, 101, 99, 116]⟩ : ByteArray), (⟨#[100, 105, 115, 99, 97, 114, 100, 45, 122, 101, 114, 111, 45, 99, 104, 97, 110, 103, 101, 115]⟩ : ByteArray), (⟨#[100, 105, 115, 99, 97, 114, 100, 45, 108, 101, 97, 115, 116, 45, 99, 104, 97, 110, 103, 101, 115]⟩ : ByteArray), (⟨#[100, 105, 115, 99, 97, 114, 100, 45, 110, 111, 100, 101, 45, 48]⟩ : ByteArray), (⟨#[100, 105, 115, 99, 97, 114, 100, 45, 110, 111, 100, 101, 45, 49]⟩ : ByteArray)]
/-- A key: its section, its name, its least and its greatest number, whether it is a size, its words and what they mean (or none). -/
abbrev KeyT := ByteArray × ByteArray × Int × Int × Bool × Option (List ByteArray × List Int)
def kTab : List KeyT :=
  [((⟨#[]⟩ : ByteArray), (⟨#[112, 114, 111, 116, 111, 99, 111, 108]⟩ : ByteArray), 0, 0, false, some ([(⟨#[65]⟩ : ByteArray), (⟨#[66]⟩ : ByteArray), (⟨#[67]⟩ : ByteArray)], [1, 2, 3])),
   ((⟨#[100, 101, 118, 105, 99, 101]⟩ : ByteArray), (⟨#[98, 108, 111, 99, 107, 115]⟩ : ByteArray), 1, 4096, false, none),
   ((⟨#[100, 101, 118, 105, 99, 101]⟩ : ByteArray), (⟨#[98, 108, 111, 99, 107, 45, 115, 105, 122, 101]⟩ : ByteArray), 128, 1024, true, none),
   ((⟨#[100, 101, 118, 105, 99, 101]⟩ : ByteArray), (⟨#[97, 108, 45, 115, 108, 111, 116, 115]⟩ : ByteArray), 1, 16, false, none),
   ((⟨#[110, 101, 116]⟩ : ByteArray), (⟨#[119, 105, 110, 100, 111, 119]⟩ : ByteArray), 1, 64, false, none),
   ((⟨#[110, 101, 116]⟩ : ByteArray), (⟨#[98, 97, 99, 107, 108, 111, 103]⟩ : ByteArray), 1, 1024, false, none),
   ((⟨#[110, 101, 116]⟩ : ByteArray), (⟨#[114, 101, 115, 101, 110, 100]⟩ : ByteArray), 1, 1000, false, none),
   ((⟨#[110, 101, 116]⟩ : ByteArray), (⟨#[116, 105, 109, 101, 111, 117, 116]⟩ : ByteArray), 1, 1000, false, none),
   ((⟨#[110, 101, 116]⟩ : ByteArray), (⟨#[109, 97, 120, 45, 101, 112, 111, 99, 104, 45, 115, 105, 122, 101]⟩ : ByteArray), 1, 64, false, none),
   ((⟨#[110, 101, 116]⟩ : ByteArray), (⟨#[109, 97, 120, 45, 113, 117, 101, 117, 101]⟩ : ByteArray), 1, 256, false, none),
   ((⟨#[110, 101, 116]⟩ : ByteArray), (⟨#[97, 102, 116, 101, 114, 45, 115, 98, 45, 48, 112, 114, 105]⟩ : ByteArray), 0, 0, false, some (kPol, [0, 1, 2, 3, 4])),
   ((⟨#[110, 101, 116]⟩ : ByteArray), (⟨#[97, 102, 116, 101, 114, 45, 115, 98, 45, 49, 112, 114, 105]⟩ : ByteArray), 0, 0, false, some ([(⟨#[100, 105, 115, 99, 111, 110, 110, 101, 99, 116]⟩ : ByteArray), (⟨#[100, 105, 115, 99, 97, 114, 100, 45, 115, 101, 99, 111, 110, 100, 97, 114, 121]⟩ : ByteArray), (⟨#[99, 111, 110, 115, 101, 110, 115, 117, 115]⟩ : ByteArray)], [0, 5, 6])),
   ((⟨#[110, 101, 116]⟩ : ByteArray), (⟨#[97, 102, 116, 101, 114, 45, 115, 98, 45, 50, 112, 114, 105]⟩ : ByteArray), 0, 0, false, some ([(⟨#[100, 105, 115, 99, 111, 110, 110, 101, 99, 116]⟩ : ByteArray)], [0])),
   ((⟨#[115, 121, 110, 99, 101, 114]⟩ : ByteArray), (⟨#[114, 97, 116, 101]⟩ : ByteArray), 1, 1024, false, none),
   ((⟨#[115, 121, 110, 99, 101, 114]⟩ : ByteArray), (⟨#[98, 117, 114, 115, 116]⟩ : ByteArray), 1, 1024, false, none),
   ((⟨#[115, 121, 110, 99, 101, 114]⟩ : ByteArray), (⟨#[97, 104, 101, 97, 100]⟩ : ByteArray), 1, 64, false, none)]
/-- The place of key i's field in a Config. -/
def kOff (i : Nat) : Nat := if i = 0 then 4 else if i ≤ 3 then i else if i ≤ 9 then i + 1 else i + 2
def kCells (n0 : Nat) : Array Value := #[
  .string (⟨#[]⟩ : ByteArray), .string (⟨#[112, 114, 111, 116, 111, 99, 111, 108]⟩ : ByteArray), .int .i64 0, .int .i64 0, .bool false, .slice (some ⟨n0 + 1, 0, none⟩) 3 3, .slice (some ⟨n0 + 2, 0, none⟩) 3 3, .func (.func 58) #[] #[],
  .string (⟨#[100, 101, 118, 105, 99, 101]⟩ : ByteArray), .string (⟨#[98, 108, 111, 99, 107, 115]⟩ : ByteArray), .int .i64 1, .int .i64 4096, .bool false, .slice none 0 0, .slice none 0 0, .func (.func 59) #[] #[],
  .string (⟨#[100, 101, 118, 105, 99, 101]⟩ : ByteArray), .string (⟨#[98, 108, 111, 99, 107, 45, 115, 105, 122, 101]⟩ : ByteArray), .int .i64 128, .int .i64 1024, .bool true, .slice none 0 0, .slice none 0 0, .func (.func 60) #[] #[],
  .string (⟨#[100, 101, 118, 105, 99, 101]⟩ : ByteArray), .string (⟨#[97, 108, 45, 115, 108, 111, 116, 115]⟩ : ByteArray), .int .i64 1, .int .i64 16, .bool false, .slice none 0 0, .slice none 0 0, .func (.func 61) #[] #[],
  .string (⟨#[110, 101, 116]⟩ : ByteArray), .string (⟨#[119, 105, 110, 100, 111, 119]⟩ : ByteArray), .int .i64 1, .int .i64 64, .bool false, .slice none 0 0, .slice none 0 0, .func (.func 62) #[] #[],
  .string (⟨#[110, 101, 116]⟩ : ByteArray), .string (⟨#[98, 97, 99, 107, 108, 111, 103]⟩ : ByteArray), .int .i64 1, .int .i64 1024, .bool false, .slice none 0 0, .slice none 0 0, .func (.func 63) #[] #[],
  .string (⟨#[110, 101, 116]⟩ : ByteArray), .string (⟨#[114, 101, 115, 101, 110, 100]⟩ : ByteArray), .int .i64 1, .int .i64 1000, .bool false, .slice none 0 0, .slice none 0 0, .func (.func 64) #[] #[],
  .string (⟨#[110, 101, 116]⟩ : ByteArray), .string (⟨#[116, 105, 109, 101, 111, 117, 116]⟩ : ByteArray), .int .i64 1, .int .i64 1000, .bool false, .slice none 0 0, .slice none 0 0, .func (.func 65) #[] #[],
  .string (⟨#[110, 101, 116]⟩ : ByteArray), .string (⟨#[109, 97, 120, 45, 101, 112, 111, 99, 104, 45, 115, 105, 122, 101]⟩ : ByteArray), .int .i64 1, .int .i64 64, .bool false, .slice none 0 0, .slice none 0 0, .func (.func 66) #[] #[],
  .string (⟨#[110, 101, 116]⟩ : ByteArray), .string (⟨#[109, 97, 120, 45, 113, 117, 101, 117, 101]⟩ : ByteArray), .int .i64 1, .int .i64 256, .bool false, .slice none 0 0, .slice none 0 0, .func (.func 67) #[] #[],
  .string (⟨#[110, 101, 116]⟩ : ByteArray), .string (⟨#[97, 102, 116, 101, 114, 45, 115, 98, 45, 48, 112, 114, 105]⟩ : ByteArray), .int .i64 0, .int .i64 0, .bool false, .slice (some ⟨n0 + 0, 0, none⟩) 5 5, .slice (some ⟨n0 + 3, 0, none⟩) 5 5, .func (.func 68) #[] #[],
  .string (⟨#[110, 101, 116]⟩ : ByteArray), .string (⟨#[97, 102, 116, 101, 114, 45, 115, 98, 45, 49, 112, 114, 105]⟩ : ByteArray), .int .i64 0, .int .i64 0, .bool false, .slice (some ⟨n0 + 4, 0, none⟩) 3 3, .slice (some ⟨n0 + 5, 0, none⟩) 3 3, .func (.func 69) #[] #[],
  .string (⟨#[110, 101, 116]⟩ : ByteArray), .string (⟨#[97, 102, 116, 101, 114, 45, 115, 98, 45, 50, 112, 114, 105]⟩ : ByteArray), .int .i64 0, .int .i64 0, .bool false, .slice (some ⟨n0 + 6, 0, none⟩) 1 1, .slice (some ⟨n0 + 7, 0, none⟩) 1 1, .func (.func 70) #[] #[],
  .string (⟨#[115, 121, 110, 99, 101, 114]⟩ : ByteArray), .string (⟨#[114, 97, 116, 101]⟩ : ByteArray), .int .i64 1, .int .i64 1024, .bool false, .slice none 0 0, .slice none 0 0, .func (.func 71) #[] #[],
  .string (⟨#[115, 121, 110, 99, 101, 114]⟩ : ByteArray), .string (⟨#[98, 117, 114, 115, 116]⟩ : ByteArray), .int .i64 1, .int .i64 1024, .bool false, .slice none 0 0, .slice none 0 0, .func (.func 72) #[] #[],
  .string (⟨#[115, 121, 110, 99, 101, 114]⟩ : ByteArray), .string (⟨#[97, 104, 101, 97, 100]⟩ : ByteArray), .int .i64 1, .int .i64 64, .bool false, .slice none 0 0, .slice none 0 0, .func (.func 73) #[] #[]]

/-- Key i of the table over block g. -/
def KeyAt (w : World) (B g i : Nat) (t : KeyT) : Prop :=
  w.cell? ⟨g, i * 8, none⟩ = some (.string t.1) ∧ w.cell? ⟨g, i * 8 + 1, none⟩ = some (.string t.2.1) ∧ w.cell? ⟨g, i * 8 + 2, none⟩ = some (.int .i64 t.2.2.1) ∧ w.cell? ⟨g, i * 8 + 3, none⟩ = some (.int .i64 t.2.2.2.1) ∧ w.cell? ⟨g, i * 8 + 4, none⟩ = some (.bool t.2.2.2.2.1) ∧
  (∃ v u, w.cell? ⟨g, i * 8 + 5, none⟩ = some v ∧ w.cell? ⟨g, i * 8 + 6, none⟩ = some u ∧ match t.2.2.2.2.2 with | some (ws, ns) => StrBlk w B v ws ∧ IntBlk w B u ns | none => v = .slice none 0 0 ∧ u = .slice none 0 0) ∧
  w.cell? ⟨g, i * 8 + 7, none⟩ = some (.func (.func (58 + i)) #[] #[])
theorem KeyAt.keep {w w1 : World} {B g i : Nat} {t : KeyT} (h : KeyAt w B g i t) (hg : B ≤ g) (hk : ∀ k, B ≤ k → k < w.heap.size → w1.heap[k]? = w.heap[k]?) : KeyAt w1 B g i t := by
  obtain ⟨h0, h1, h2, h3, h4, ⟨v, u, h5, h6, hv⟩, h7⟩ := h
  have hc : ∀ j, w1.cell? ⟨g, j, none⟩ = w.cell? ⟨g, j, none⟩ := fun j => by
    unfold World.cell?
    rw [hk g hg (World.block_lt_of_cell? w _ h0)]
  refine ⟨(hc _).trans h0, (hc _).trans h1, (hc _).trans h2, (hc _).trans h3, (hc _).trans h4, ⟨v, u, (hc _).trans h5, (hc _).trans h6, ?_⟩, (hc _).trans h7⟩
  cases e : t.2.2.2.2.2 with
  | none => rw [e] at hv; exact hv
  | some p => rw [e] at hv; exact ⟨StrBlk.keep hv.1 hk, IntBlk.keep hv.2 hk⟩

set_option maxRecDepth 100000 in
set_option maxHeartbeats 4000000 in
theorem keys_blk (w : World) : Calls Tryd.prog 30 #[] w fun e w' => ∃ os : List Obj, e = .returned (.slice (some ⟨w.heap.size + 8, 0, none⟩) 16 16) ∧ w' = mades w os ∧ os.length = 9 ∧
    os[0]? = some (.cells (kPol.map Value.string).toArray 9 (0, 0)) ∧
    os[1]? = some (.cells ([(⟨#[65]⟩ : ByteArray), (⟨#[66]⟩ : ByteArray), (⟨#[67]⟩ : ByteArray)].map Value.string).toArray 9 (0, 0)) ∧
    os[2]? = some (.cells (([1, 2, 3] : List Int).map (Value.int .i64)).toArray 3 (0, 0)) ∧
    os[3]? = some (.cells (([0, 1, 2, 3, 4] : List Int).map (Value.int .i64)).toArray 3 (0, 0)) ∧
    os[4]? = some (.cells ([(⟨#[100, 105, 115, 99, 111, 110, 110, 101, 99, 116]⟩ : ByteArray), (⟨#[100, 105, 115, 99, 97, 114, 100, 45, 115, 101, 99, 111, 110, 100, 97, 114, 121]⟩ : ByteArray), (⟨#[99, 111, 110, 115, 101, 110, 115, 117, 115]⟩ : ByteArray)].map Value.string).toArray 9 (0, 0)) ∧
    os[5]? = some (.cells (([0, 5, 6] : List Int).map (Value.int .i64)).toArray 3 (0, 0)) ∧
    os[6]? = some (.cells ([(⟨#[100, 105, 115, 99, 111, 110, 110, 101, 99, 116]⟩ : ByteArray)].map Value.string).toArray 9 (0, 0)) ∧
    os[7]? = some (.cells (([0] : List Int).map (Value.int .i64)).toArray 3 (0, 0)) ∧
    os[8]? = some (.cells (kCells w.heap.size) 55 (0, 0)) := by
  go_enter Tryd.func30, Tryd.ntmps30
  go_wp2
  go_ret
  exact ⟨[_, _, _, _, _, _, _, _, _], rfl, rfl, rfl, rfl, rfl, rfl, rfl, rfl, rfl, rfl, rfl, rfl⟩

set_option maxRecDepth 100000 in
theorem keys_any (w : World) : Calls Tryd.prog 30 #[] w fun e w' => ∃ g : Nat, e = .returned (.slice (some ⟨g, 0, none⟩) 16 16) ∧ w.heap.size ≤ g ∧ Below w.heap.size w w' ∧ g < w'.heap.size ∧ (∃ cs, w'.heap[g]? = some (.cells cs 55 (0, 0))) ∧ ∀ i t, kTab[i]? = some t → KeyAt w' w.heap.size g i t := by
  refine (keys_blk w).mono ?_
  rintro e w' ⟨os, rfl, rfl, hl, o0, o1, o2, o3, o4, o5, o6, o7, o8⟩
  have ht := made_get os w 8 _ o8
  refine ⟨w.heap.size + 8, rfl, by omega, made_below os w w _ (Below.refl _ _) (Nat.le_refl _), by rw [made_size]; omega, ⟨_, ht⟩, fun i t hi => ?_⟩
  have hlt : i < 16 := (List.getElem?_eq_some_iff.1 hi).1
  have s0 : StrBlk (mades w os) w.heap.size (.slice (some ⟨w.heap.size + 0, 0, none⟩) 5 5) kPol := ⟨_, _, [], rfl, by decide, by decide, by omega, (made_get os w 0 _ o0).trans rfl⟩
  have s1 : StrBlk (mades w os) w.heap.size (.slice (some ⟨w.heap.size + 1, 0, none⟩) 3 3) [(⟨#[65]⟩ : ByteArray), (⟨#[66]⟩ : ByteArray), (⟨#[67]⟩ : ByteArray)] := ⟨_, _, [], rfl, by decide, by decide, by omega, (made_get os w 1 _ o1).trans rfl⟩
  have s2 : IntBlk (mades w os) w.heap.size (.slice (some ⟨w.heap.size + 2, 0, none⟩) 3 3) [1, 2, 3] := ⟨_, rfl, by decide, by omega, (made_get os w 2 _ o2).trans rfl⟩
  have s3 : IntBlk (mades w os) w.heap.size (.slice (some ⟨w.heap.size + 3, 0, none⟩) 5 5) [0, 1, 2, 3, 4] := ⟨_, rfl, by decide, by omega, (made_get os w 3 _ o3).trans rfl⟩
  have s4 : StrBlk (mades w os) w.heap.size (.slice (some ⟨w.heap.size + 4, 0, none⟩) 3 3) [(⟨#[100, 105, 115, 99, 111, 110, 110, 101, 99, 116]⟩ : ByteArray), (⟨#[100, 105, 115, 99, 97, 114, 100, 45, 115, 101, 99, 111, 110, 100, 97, 114, 121]⟩ : ByteArray), (⟨#[99, 111, 110, 115, 101, 110, 115, 117, 115]⟩ : ByteArray)] := ⟨_, _, [], rfl, by decide, by decide, by omega, (made_get os w 4 _ o4).trans rfl⟩
  have s5 : IntBlk (mades w os) w.heap.size (.slice (some ⟨w.heap.size + 5, 0, none⟩) 3 3) [0, 5, 6] := ⟨_, rfl, by decide, by omega, (made_get os w 5 _ o5).trans rfl⟩
  have s6 : StrBlk (mades w os) w.heap.size (.slice (some ⟨w.heap.size + 6, 0, none⟩) 1 1) [(⟨#[100, 105, 115, 99, 111, 110, 110, 101, 99, 116]⟩ : ByteArray)] := ⟨_, _, [], rfl, by decide, by decide, by omega, (made_get os w 6 _ o6).trans rfl⟩
  have s7 : IntBlk (mades w os) w.heap.size (.slice (some ⟨w.heap.size + 7, 0, none⟩) 1 1) [0] := ⟨_, rfl, by decide, by omega, (made_get os w 7 _ o7).trans rfl⟩
  rcases i with _ | _ | _ | _ | _ | _ | _ | _ | _ | _ | _ | _ | _ | _ | _ | _ | i
  case succ.succ.succ.succ.succ.succ.succ.succ.succ.succ.succ.succ.succ.succ.succ.succ => omega
  all_goals
    obtain rfl := Option.some.inj hi
    refine ⟨(blk_cell ht _).trans rfl, (blk_cell ht _).trans rfl, (blk_cell ht _).trans rfl, (blk_cell ht _).trans rfl, (blk_cell ht _).trans rfl, ⟨_, _, (blk_cell ht _).trans rfl, (blk_cell ht _).trans rfl, ?_⟩, (blk_cell ht _).trans rfl⟩
    first | exact ⟨rfl, rfl⟩ | exact ⟨s1, s2⟩ | exact ⟨s0, s3⟩ | exact ⟨s4, s5⟩ | exact ⟨s6, s7⟩

/-- The key's field of a Config at block b. -/
theorem kfield_any (i : Nat) (hi : i < 16) (b : Nat) (w : World) : Calls Tryd.prog (58 + i) #[.pointer (some ⟨b, 0, none⟩)] w fun e w' => e = .returned (.pointer (some ⟨b, kOff i, none⟩)) ∧ w = w' := by
  rcases i with _ | _ | _ | _ | _ | _ | _ | _ | _ | _ | _ | _ | _ | _ | _ | _ | i
  case succ.succ.succ.succ.succ.succ.succ.succ.succ.succ.succ.succ.succ.succ.succ.succ => omega
  · go_enter Tryd.func58, Tryd.ntmps58; go_wp2; go_ret; exact ⟨rfl, rfl⟩
  · go_enter Tryd.func59, Tryd.ntmps59; go_wp2; go_ret; exact ⟨rfl, rfl⟩
  · go_enter Tryd.func60, Tryd.ntmps60; go_wp2; go_ret; exact ⟨rfl, rfl⟩
  · go_enter Tryd.func61, Tryd.ntmps61; go_wp2; go_ret; exact ⟨rfl, rfl⟩
  · go_enter Tryd.func62, Tryd.ntmps62; go_wp2; go_ret; exact ⟨rfl, rfl⟩
  · go_enter Tryd.func63, Tryd.ntmps63; go_wp2; go_ret; exact ⟨rfl, rfl⟩
  · go_enter Tryd.func64, Tryd.ntmps64; go_wp2; go_ret; exact ⟨rfl, rfl⟩
  · go_enter Tryd.func65, Tryd.ntmps65; go_wp2; go_ret; exact ⟨rfl, rfl⟩
  · go_enter Tryd.func66, Tryd.ntmps66; go_wp2; go_ret; exact ⟨rfl, rfl⟩
  · go_enter Tryd.func67, Tryd.ntmps67; go_wp2; go_ret; exact ⟨rfl, rfl⟩
  · go_enter Tryd.func68, Tryd.ntmps68; go_wp2; go_ret; exact ⟨rfl, rfl⟩
  · go_enter Tryd.func69, Tryd.ntmps69; go_wp2; go_ret; exact ⟨rfl, rfl⟩
  · go_enter Tryd.func70, Tryd.ntmps70; go_wp2; go_ret; exact ⟨rfl, rfl⟩
  · go_enter Tryd.func71, Tryd.ntmps71; go_wp2; go_ret; exact ⟨rfl, rfl⟩
  · go_enter Tryd.func72, Tryd.ntmps72; go_wp2; go_ret; exact ⟨rfl, rfl⟩
  · go_enter Tryd.func73, Tryd.ntmps73; go_wp2; go_ret; exact ⟨rfl, rfl⟩
end Go.Proofs.YtfecfgimfjcbdaaDoor.Cf
