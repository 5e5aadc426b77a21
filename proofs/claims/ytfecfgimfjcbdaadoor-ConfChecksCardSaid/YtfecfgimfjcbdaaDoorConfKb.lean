/- Which numbers a key takes: the program's way. -/
import Derived.Test.YtfecfgimfjcbdaaDoorConfKa
namespace Go.Proofs.YtfecfgimfjcbdaaDoor.Cf
open Go.RowKit Go.Proofs.YtfecfgimfjcbdaaDoorW.PrintWords Go.Proofs.YtfecfgimfjcbdaaDoorW.PrintLast Go.Proofs.YtfecfgimfjcbdaaDoorW.PrintMore

def tk (t : KeyT) (n : Int) : Bool :=
  match t.2.2.2.2.2 with
  | some p => p.2.any fun x => x == n
  | none => if n < t.2.2.1 then false else if n > t.2.2.2.1 then false else if t.2.2.2.2.1 then Go.bits .and .i64 n (wrap64 (n - 1)) == 0 else true

set_option maxRecDepth 100000 in
set_option maxHeartbeats 1000000 in
theorem takes_any (w : World) (B g i : Nat) (t : KeyT) (n : Int) (hK : KeyAt w B g i t) (hn : -9223372036854775808 ≤ n ∧ n ≤ 9223372036854775807) :
    Calls Tryd.prog 31 #[.pointer (some ⟨g, i * 8, none⟩), .int .i64 n] w fun e w' => e = .returned (.bool (tk t n)) ∧ w' = w := by
  obtain ⟨h0, h1, h2, h3, h4, ⟨v, u, h5, h6, hv⟩, h7⟩ := hK
  obtain ⟨ts, tn, lo, hi', z, o⟩ := t
  cases o with
  | none =>
    simp only at hv h2 h3 h4
    obtain ⟨rfl, rfl⟩ := hv
    by_cases hlo : n < lo
    · go_enter Tryd.func31, Tryd.ntmps31
      go_wp2
      go_ret
      exact ⟨by simp [tk, hlo], rfl⟩
    · by_cases hhi : n > hi'
      · have hd : decide (hi' < n) = true := decide_eq_true hhi
        go_enter Tryd.func31, Tryd.ntmps31
        go_wp2
        go_ret
        exact ⟨by simp [tk, hhi], rfl⟩
      · have hd : decide (hi' < n) = false := decide_eq_false hhi
        cases z with
        | false =>
          go_enter Tryd.func31, Tryd.ntmps31
          go_wp2
          go_ret
          exact ⟨by simp [tk, hlo, hhi], rfl⟩
        | true =>
          go_enter Tryd.func31, Tryd.ntmps31
          go_wp2
          go_ret
          refine ⟨?_, rfl⟩
          show Ending.returned (.bool (Go.bits .and .i64 n (wrap64 (n - 1)) == 0)) = _
          unfold tk
          simp only
          rw [if_neg (by omega), if_neg (by omega)]
          rfl
  | some p =>
    obtain ⟨ws, ns⟩ := p
    simp only at hv
    obtain ⟨⟨gw, c, rest, rfl, hc1, hc2, hB, hb⟩, ⟨gi, rfl, hl, hBi, hbi⟩⟩ := hv
    go_enter Tryd.func31, Tryd.ntmps31
    go_wp2
    go_loopg [17] ns.length (fun kq v17 wr => ∃ j : Nat, j ≤ ns.length ∧ kq = ns.length - j ∧ v17 = .int .i64 j ∧ Aside0 ((ns.drop j).any (fun x => x == n) = ns.any fun x => x == n) ∧ wr = w)
    case atStart => exact ⟨0, by omega, rfl, rfl, ⟨rfl⟩, rfl⟩
    case round =>
      clear h0 h1 h2 h3 h4 h5 h6 h7
      obtain ⟨j, hj, rfl, rfl, HA, hwr⟩ := hrel
      subst hwr
      by_cases hlt : j < ns.length
      · have hd : decide ((j : Int) < ns.length) = true := decide_eq_true (by omega)
        obtain ⟨x, hx⟩ : ∃ x, ns[j]? = some x := ⟨_, List.getElem?_eq_getElem hlt⟩
        have hc : wr.cell? ⟨gi, j, none⟩ = some (.int .i64 x) := by
          rw [blk_cell hbi j, List.getElem?_toArray, List.getElem?_map, hx]
          rfl
        have hdr : ns.drop j = x :: ns.drop (j + 1) := by rw [List.drop_eq_getElem?_toList_append, hx]; rfl
        rw [hdr, List.any_cons] at HA
        by_cases hxn : x = n
        · subst hxn
          have HA' : ns.any (fun y => y == x) = true := by rw [← HA.out]; simp
          clear hdr HA
          go_wp2
          go_ret
          refine ⟨?_, rfl⟩
          rw [show tk (ts, tn, lo, hi', z, some (ws, ns)) x = true from HA']
          rfl
        · have hxb : (x == n) = false := by simpa using hxn
          rw [hxb, Bool.false_or] at HA
          clear hdr
          go_wp2
          go_roundg (ns.length - (j + 1))
          case measure => omega
          case rel => exact ⟨j + 1, by omega, rfl, by go_num, HA, rfl⟩
      · have hd : decide ((j : Int) < ns.length) = false := decide_eq_false (by omega)
        obtain rfl : j = ns.length := by omega
        rw [List.drop_length] at HA
        have HA' : ns.any (fun y => y == n) = false := by rw [← HA.out]; rfl
        go_wp2
        go_ret
        refine ⟨?_, rfl⟩
        rw [show tk (ts, tn, lo, hi', z, some (ws, ns)) n = false from HA']
        rfl
end Go.Proofs.YtfecfgimfjcbdaaDoor.Cf
