/- replicaref12.Check, walked. -/
import Derived.Test.YtfecfgimfjcbdaaDoorConfKe
import Derived.Test.YtfecfgimfjcbdaaDoorQRCheck3
namespace Go.Proofs.YtfecfgimfjcbdaaDoor.Cf
open Go.RowKit Go.Proofs.YtfecfgimfjcbdaaDoorW.PrintWords Go.Proofs.YtfecfgimfjcbdaaDoorW.PrintLast Go.Proofs.YtfecfgimfjcbdaaDoorW.PrintMore Go.Proofs.YtfecfgimfjcbdaaDoor.QRCheck

/-- A result that lies in a cell of its own. -/
theorem results_c1 {P : Program} {fn : Func} {p : Tmp} {ty : TypeId} (h : fn.results = #[.cell p ty]) (tmps : Array Value) (w : World) (g : Nat) (t : TypeId) (cs : Array Value) (fr : Nat × Nat) (d : TypeDesc)
    (hp : tmps.getD p undef = .pointer (some ⟨g, 0, none⟩)) (hg : w.heap[g]? = some (.cells cs t fr))
    (hu : P.underlying ty = some d) (hd : (match d with | .struct _ | .array _ _ => true | _ => false) = true) (hi : (P.info? ty).map (·.size) = some cs.size) :
    (results fn tmps).run P w = .ok (.agg cs) w := by
  have hp' : tmps[p]?.getD undef = .pointer (some ⟨g, 0, none⟩) := by simpa using hp
  simp [results, h, hp', asAddr, run_loadVar_row w g t ty cs fr d hg hu hd hi]

/-- The reference's table of keys, cell by cell. -/
def rTabC : Array Value := #[.string (⟨#[112, 114, 111, 116, 111, 99, 111, 108]⟩ : ByteArray), .string (⟨#[]⟩ : ByteArray), .int .i64 0, .int .i64 0, .int .i64 3, .string (⟨#[98, 108, 111, 99, 107, 115]⟩ : ByteArray), .string (⟨#[100, 101, 118, 105, 99, 101]⟩ : ByteArray), .int .i64 1, .int .i64 4096, .int .i64 (-1), .string (⟨#[98, 108, 111, 99, 107, 45, 115, 105, 122, 101]⟩ : ByteArray), .string (⟨#[100, 101, 118, 105, 99, 101]⟩ : ByteArray), .int .i64 128, .int .i64 1024, .int .i64 (-1), .string (⟨#[97, 108, 45, 115, 108, 111, 116, 115]⟩ : ByteArray), .string (⟨#[100, 101, 118, 105, 99, 101]⟩ : ByteArray), .int .i64 1, .int .i64 16, .int .i64 4, .string (⟨#[119, 105, 110, 100, 111, 119]⟩ : ByteArray), .string (⟨#[110, 101, 116]⟩ : ByteArray), .int .i64 1, .int .i64 64, .int .i64 8, .string (⟨#[98, 97, 99, 107, 108, 111, 103]⟩ : ByteArray), .string (⟨#[110, 101, 116]⟩ : ByteArray), .int .i64 1, .int .i64 1024, .int .i64 256, .string (⟨#[114, 101, 115, 101, 110, 100]⟩ : ByteArray), .string (⟨#[110, 101, 116]⟩ : ByteArray), .int .i64 1, .int .i64 1000, .int .i64 3, .string (⟨#[116, 105, 109, 101, 111, 117, 116]⟩ : ByteArray), .string (⟨#[110, 101, 116]⟩ : ByteArray), .int .i64 1, .int .i64 1000, .int .i64 20, .string (⟨#[109, 97, 120, 45, 101, 112, 111, 99, 104, 45, 115, 105, 122, 101]⟩ : ByteArray), .string (⟨#[110, 101, 116]⟩ : ByteArray), .int .i64 1, .int .i64 64, .int .i64 16, .string (⟨#[109, 97, 120, 45, 113, 117, 101, 117, 101]⟩ : ByteArray), .string (⟨#[110, 101, 116]⟩ : ByteArray), .int .i64 1, .int .i64 256, .int .i64 32, .string (⟨#[97, 102, 116, 101, 114, 45, 115, 98, 45, 48, 112, 114, 105]⟩ : ByteArray), .string (⟨#[110, 101, 116]⟩ : ByteArray), .int .i64 0, .int .i64 0, .int .i64 0, .string (⟨#[97, 102, 116, 101, 114, 45, 115, 98, 45, 49, 112, 114, 105]⟩ : ByteArray), .string (⟨#[110, 101, 116]⟩ : ByteArray), .int .i64 0, .int .i64 0, .int .i64 0, .string (⟨#[97, 102, 116, 101, 114, 45, 115, 98, 45, 50, 112, 114, 105]⟩ : ByteArray), .string (⟨#[110, 101, 116]⟩ : ByteArray), .int .i64 0, .int .i64 0, .int .i64 0, .string (⟨#[114, 97, 116, 101]⟩ : ByteArray), .string (⟨#[115, 121, 110, 99, 101, 114]⟩ : ByteArray), .int .i64 1, .int .i64 1024, .int .i64 4, .string (⟨#[98, 117, 114, 115, 116]⟩ : ByteArray), .string (⟨#[115, 121, 110, 99, 101, 114]⟩ : ByteArray), .int .i64 1, .int .i64 1024, .int .i64 8, .string (⟨#[97, 104, 101, 97, 100]⟩ : ByteArray), .string (⟨#[115, 121, 110, 99, 101, 114]⟩ : ByteArray), .int .i64 1, .int .i64 64, .int .i64 4]
set_option maxRecDepth 100000 in
set_option maxHeartbeats 4000000 in
theorem table_any (w : World) : Calls Tryd.prog 35 #[] w fun e w' => e = .returned (.agg rTabC) ∧ Below w.heap.size w w' := by
  have hB := (Below.refl w.heap.size w).alloc (Nat.le_refl _) (.cells Tryd.zeroCells61 61)
  have hn := blk_new w (.cells Tryd.zeroCells61 61)
  go_enter Tryd.func35, Tryd.ntmps35
  go_wp2_with (refine store_whole rfl rfl rfl (g := w.heap.size) rfl rTabC (by rfl) hn (by kernel_rfl) (by kernel_rfl) (by decide +kernel) ?_; intro w6 h6 hg6)
  refine bodyPost_ret (results_c1 rfl _ _ w.heap.size 61 rTabC (0, 0) _ rfl h6 Tryd.underlying61 rfl (by kernel_rfl)) rfl ?_
  exact ⟨rfl, pw_below_grown hB (some w.heap.size) hB.size hg6 (fun q hq => by obtain rfl := Option.some.inj hq; exact Nat.le_refl _)⟩

def numC (k : Nat → Int) : Array Value := #[.int .i64 (k 0), .int .i64 (k 1), .int .i64 (k 2), .int .i64 (k 3), .int .i64 (k 4), .int .i64 (k 5), .int .i64 (k 6), .int .i64 (k 7), .int .i64 (k 8), .int .i64 (k 9), .int .i64 (k 10), .int .i64 (k 11), .int .i64 (k 12), .int .i64 (k 13), .int .i64 (k 14), .int .i64 (k 15)]
set_option maxRecDepth 100000 in
set_option maxHeartbeats 4000000 in
theorem numbers_any (nm sc : ByteArray) (k : Nat → Int) (w : World) : Calls Tryd.prog 36 #[.agg (cfgC nm sc k)] w fun e w' => e = .returned (.agg (numC k)) ∧ Below w.heap.size w w' := by
  unfold cfgC
  go_enter Tryd.func36, Tryd.ntmps36
  go_wp2
  refine bodyPost_ret (results_c1 rfl _ _ (w.heap.size + 1) 63 (numC k) (0, 0) _ rfl (made_get [_, _] w 1 _ rfl) Tryd.underlying63 rfl (by kernel_rfl)) rfl ?_
  exact ⟨rfl, made_below [_, _] w w _ (Below.refl _ _) (Nat.le_refl _)⟩

theorem rTab_key (i : Nat) (t : KeyT) (ht : kTab[i]? = some t) : ∃ els : Int, rTabC[i * 5]? = some (.string t.2.1) ∧ rTabC[i * 5 + 1]? = some (.string t.1) ∧ rTabC[i * 5 + 2]? = some (.int .i64 t.2.2.1) ∧ rTabC[i * 5 + 3]? = some (.int .i64 t.2.2.2.1) ∧ rTabC[i * 5 + 4]? = some (.int .i64 els) := by
  have hl : i < 16 := (List.getElem?_eq_some_iff.1 ht).1
  rcases i with _ | _ | _ | _ | _ | _ | _ | _ | _ | _ | _ | _ | _ | _ | _ | _ | i
  case succ.succ.succ.succ.succ.succ.succ.succ.succ.succ.succ.succ.succ.succ.succ.succ => omega
  all_goals
    obtain rfl := Option.some.inj ht
    exact ⟨_, rfl, rfl, rfl, rfl, rfl⟩
theorem num_key (k : Nat → Int) (i : Nat) (hi : i < 16) : (numC k)[i]? = some (.int .i64 (k i)) := by
  rcases i with _ | _ | _ | _ | _ | _ | _ | _ | _ | _ | _ | _ | _ | _ | _ | _ | i
  case succ.succ.succ.succ.succ.succ.succ.succ.succ.succ.succ.succ.succ.succ.succ.succ => omega
  all_goals rfl
theorem rtog_f (nm sc : ByteArray) (k : Nat → Int) : replicaref12_together.f nm (k 1) (k 2) (k 3) (k 0) (k 4) (k 5) (k 6) (k 7) (k 8) (k 9) sc (k 10) (k 11) (k 12) (k 13) (k 14) (k 15) = some (togI k) := by
  unfold replicaref12_together.f togI
  split <;> rfl

end Go.Proofs.YtfecfgimfjcbdaaDoor.Cf
