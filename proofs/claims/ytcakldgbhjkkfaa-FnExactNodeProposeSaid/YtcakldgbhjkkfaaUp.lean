/- UpToDate: the contracts. -/
import Derived.Test.YtcakldgbhjkkfaaNodeOK4
import Derived.Test.YtcakldgbhjkkfaaNodeOK5
namespace Go.Proofs.Ytcakldgbhjkkfaa
set_option linter.unusedVariables false
set_option linter.unusedSimpArgs false
open Go.RowKit
def termOf (xs : List Ent) (p : Nat) : Int := if p = 0 then 0 else (xs[p - 1]?.map (·.1)).getD 0
theorem termOf_zero (xs : List Ent) : termOf xs 0 = 0 := rfl
theorem termOf_pos {xs : List Ent} {p : Nat} (h0 : p ≠ 0) (h : p - 1 < xs.length) : termOf xs p = xs[p - 1].1 := by
  simp [termOf, h0, List.getElem?_eq_getElem h]
def upB (N : NodeV) (i t : Int) : Bool := decide (termOf N.log N.log.length < t) || (decide (t = termOf N.log N.log.length) && decide ((N.log.length : Int) ≤ i))
set_option maxHeartbeats 1000000 in
theorem l08Term_c (al : Option Addr) (cl : Nat) (av : Option Addr) (cv : Nat) (an : Option Addr) (cn : Nat) (am : Option Addr) (cm : Nat) (N : NodeV) (p : Nat) (w : World) (hN : NodeSl w al av an am N) (hZ : N.log.length ≤ 1048576) (hp : p ≤ N.log.length) :
    Calls Try.prog 58 #[.agg #[.int .i64 N.id, .int .i64 N.nodes, .int .i64 N.term, .int .i64 N.vote, .int .i64 N.role, .bool N.up, .slice al N.log.length cl, .int .i64 N.commit, .int .i64 N.elapsed, .int .i64 N.wait, .slice av N.votes.length cv, .slice an N.next.length cn, .slice am N.mtch.length cm], .int .i64 p] w fun e w' => e = .returned (.int .i64 (termOf N.log p)) ∧ Below w.heap.size w w' := by
  by_cases h0 : p = 0
  · subst h0
    go_enter Try.func58, Try.ntmps58
    go_wp2_with fail
    go_ret
    exact ⟨rfl, (by repeat (first | exact Below.refl _ _ | (refine Below.alloc ?_ (by (try simp) <;> (try omega)) _) | (refine Below.setCell ?_ (by (try simp) <;> (try omega)) _) | (refine Below.drew ?_) | (refine Below.trans ?_ (Below.mono (by assumption) (by (try simp) <;> (try omega))))))⟩
  · have hlt : p - 1 < N.log.length := by omega
    rw [termOf_pos h0 hlt]
    obtain ⟨b1, o1, rfl, hb1, hc1⟩ := hN.log.at hlt
    have c1 := hc1 (p - 1) hlt 0 (by omega)
    simp only [entE, Nat.add_zero, List.getElem?_cons_zero] at c1
    have g0 : ((p : Int) == 0) = false := by simp; omega
    have g1 : 1 ≤ p := by omega
    clear hc1 h0
    go_enter Try.func58, Try.ntmps58
    go_wp2_with fail
    go_ret
    exact ⟨rfl, (by repeat (first | exact Below.refl _ _ | (refine Below.alloc ?_ (by (try simp) <;> (try omega)) _) | (refine Below.setCell ?_ (by (try simp) <;> (try omega)) _) | (refine Below.drew ?_) | (refine Below.trans ?_ (Below.mono (by assumption) (by (try simp) <;> (try omega))))))⟩
set_option maxHeartbeats 1000000 in
theorem termAt_c (b : Nat) (al : Option Addr) (cl : Nat) (xs : List Ent) (p : Nat) (w : World) (hc : w.cell? ⟨b, 6, none⟩ = some (.slice al xs.length cl)) (hN : Sl entE 2 w al xs) (hZ : xs.length ≤ 1048576) (hp : p ≤ xs.length) :
    Calls Try.prog 47 #[.pointer (some ⟨b, 0, none⟩), .int .i64 p] w fun e w' => e = .returned (.int .i64 (termOf xs p)) ∧ w = w' := by
  by_cases h0 : p = 0
  · subst h0
    go_enter Try.func47, Try.ntmps47
    go_wp2_with fail
    go_ret
    exact ⟨rfl, rfl⟩
  · have hlt : p - 1 < xs.length := by omega
    rw [termOf_pos h0 hlt]
    obtain ⟨b1, o1, rfl, hb1, hc1⟩ := hN.at hlt
    have c1 := hc1 (p - 1) hlt 0 (by omega)
    simp only [entE, Nat.add_zero, List.getElem?_cons_zero] at c1
    have g0 : ((p : Int) == 0) = false := by simp; omega
    have g1 : 1 ≤ p := by omega
    clear hc1 h0
    go_enter Try.func47, Try.ntmps47
    go_wp2_with fail
    go_ret
    exact ⟨rfl, rfl⟩
noncomputable def upV (N : NodeV) (i t : Int) : Bool × Int := if nodeOK N = true then (upB N i t, 0) else (false, 1)
end Go.Proofs.Ytcakldgbhjkkfaa
