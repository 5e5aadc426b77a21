/- Small laws of the walk: a struct stored over a whole block. -/
import Derived.Test.YtfecfgimfjcbdaaDoorConfA
import Derived.Test.YtfecfgimfjcbdaaDoorWLast
namespace Go.Proofs.YtfecfgimfjcbdaaDoor.Cf
open Go.RowKit Go.Proofs.YtfecfgimfjcbdaaDoorW.PrintWords

theorem whole_blk {W : World} {g : Nat} {e : TypeId} {cur : Array Value} (cs : Array Value) (hh : W.heap[g]? = some (.cells cur e (0, 0))) (hsz : cs.size = cur.size) : (W.setCells g 0 cs.toList).heap[g]? = some (.cells cs e (0, 0)) ∧ W.grownBy (W.setCells g 0 cs.toList) (some g) := by
  obtain ⟨cur', h2, h3, h4⟩ := setCells_row cs.toList 0 W cur hh (by rw [Array.length_toList]; omega)
  obtain ⟨s1, s2, s3, s4⟩ := setCells_same g cs.toList 0 W
  have hc : cur' = cs := by
    apply Array.ext'
    rw [h4, List.take_zero, List.nil_append, Nat.zero_add, List.drop_of_length_le (by rw [Array.length_toList, Array.length_toList]; omega), List.append_nil]
  subst hc
  exact ⟨h2, s1, s2, s3, by omega, fun k _ hr => setCells_far _ _ k (fun e => hr (by rw [e]))⟩

section
variable {P : Program} {ops : Array Oper} {rest : List Oper} {o : Oper} {a : Act} {Q : Exit → Act → World → Prop}
theorem store_whole {W : World} (hgd : o.guard = none) {t : TypeId} {p x : Operand} (ho : o.op = .store t p x) (hN : o.dst = none) {g : Nat} (haddr : a.eval p = .pointer (some ⟨g, 0, none⟩)) (cs : Array Value) (hx : a.eval x = .agg cs)
    {e : TypeId} {cur : Array Value} (hh : W.heap[g]? = some (.cells cur e (0, 0))) (ht : (P.info? t).map (·.size) = some cs.size) (hsz : cs.size = cur.size) (h1 : ∀ q ∈ cs.toList, q.oneCell' = true)
    (h : ∀ w', w'.heap[g]? = some (.cells cs e (0, 0)) → W.grownBy w' (some g) → wpList P ops Q rest a w') : wpList P ops Q (o :: rest) a W := by
  have hrun : (Instr.storeAt t (.pointer (some ⟨g, 0, none⟩)) (.agg cs)).run P W = .ok () (W.setCells g 0 cs.toList) :=
    run_store_run t (.agg cs) cs.toList hh (by simp [Value.cells]) (by rw [Array.length_toList]; exact ht) (by rw [Array.length_toList]; omega) h1
  obtain ⟨hb, hg⟩ := whole_blk cs hh hsz
  have hk := h (W.setCells g 0 cs.toList) hb hg
  refine wpList_plain hgd fun K hK => ?_
  unfold Oper.wp execOp
  simp only [ho, haddr, hx, Sem.run_bind, hrun, Result.andThen_ok, Sem.run_pure]
  show K (a.put o.dst undef) _
  rw [hN]
  exact hK _ _ hk
end
theorem grown_blk {w w1 : World} {g k : Nat} {o : Obj} (h : w.grownBy w1 (some g)) (hb : w.heap[k]? = some o) (hk : k ≠ g) : w1.heap[k]? = some o := blk_grown hb h (fun e => hk (Option.some.inj e))

/-- Blocks laid one behind the other. -/
def allocs (w : World) : List Obj → World
  | [] => w
  | o :: r => allocs (w.alloc o) r
theorem allocs_size : ∀ (os : List Obj) (w : World), (allocs w os).heap.size = w.heap.size + os.length
  | [], w => rfl
  | o :: r, w => by
    rw [allocs, allocs_size r (w.alloc o)]
    simp
    omega
theorem allocs_below : ∀ (os : List Obj) (w : World), Below w.heap.size w (allocs w os)
  | [], w => Below.refl _ _
  | o :: r, w => by
    have h := allocs_below r (w.alloc o)
    exact below_then ((Below.refl _ _).alloc (Nat.le_refl _) o) (by simp) h
theorem allocs_at : ∀ (os : List Obj) (w : World) (i : Nat) (o : Obj), os[i]? = some o → (allocs w os).heap[w.heap.size + i]? = some o
  | [], _, _, _, h => by simp at h
  | o' :: r, w, 0, o, h => by
    obtain rfl : o' = o := by simpa using h
    exact blk_below (blk_new w o') (by rw [allocs]; exact allocs_below r _)
  | o' :: r, w, i + 1, o, h => by
    have := allocs_at r (w.alloc o') i o (by simpa using h)
    rw [allocs]
    have e : (w.alloc o').heap.size + i = w.heap.size + (i + 1) := by simp; omega
    rw [← e]
    exact this
/-- Go on from a world in which blocks have been laid: a letter for it. -/
theorem wp_allocs {P : Program} {c : Code} {Q : Exit → Act → World → Prop} {a : Act} {w W : World} (os : List Obj) (hW : W = allocs w os)
    (h : ∀ W', (∀ i o, os[i]? = some o → W'.heap[w.heap.size + i]? = some o) → Below w.heap.size w W' → W'.heap.size = w.heap.size + os.length → c.wp P Q a W') : c.wp P Q a W := by
  subst hW
  exact h _ (allocs_at os w) (allocs_below os w) (allocs_size os w)
end Go.Proofs.YtfecfgimfjcbdaaDoor.Cf
