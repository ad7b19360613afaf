/- UpToDate: the contracts. -/
import Derived.Test.YtmkgmecpjppgcaaNodeOK4
import Derived.Test.YtmkgmecpjppgcaaNodeOK5
namespace Go.Proofs.Ytmkgmecpjppgcaa
set_option linter.unusedVariables false
set_option linter.unusedSimpArgs false
open Go.RowKit
def termOf (xs : List Ent) (p : Nat) : Int := if p = 0 then 0 else (xs[p - 1]?.map (·.1)).getD 0
theorem termOf_zero (xs : List Ent) : termOf xs 0 = 0 := rfl
theorem termOf_pos {xs : List Ent} {p : Nat} (h0 : p ≠ 0) (h : p - 1 < xs.length) : termOf xs p = xs[p - 1].1 := by
  simp [termOf, h0, List.getElem?_eq_getElem h]
def upB (N : NodeV) (i t : Int) : Bool := decide (termOf N.log N.log.length < t) || (decide (t = termOf N.log N.log.length) && decide ((N.log.length : Int) ≤ i))
set_option maxHeartbeats 1000000 in
theorem l08Term_c (al : Option Addr) (cl : Nat) (av : Option Addr) (cv : Nat) (an : Option Addr) (cn : Nat) (am : Option Addr) (cm : Nat) (N : NodeV) (p : Nat) (w : World) (hN : NodeSl w al av an am N) (hZ : N.log.length ≤ 1048576) (hp : p ≤ N.log.length) :
    Calls Try.prog 112 #[.agg #[.int .i64 N.id, .int .i64 N.nodes, .int .i64 N.term, .int .i64 N.vote, .int .i64 N.role, .bool N.up, .slice al N.log.length cl, .int .i64 N.commit, .int .i64 N.elapsed, .int .i64 N.wait, .slice av N.votes.length cv, .slice an N.next.length cn, .slice am N.mtch.length cm], .int .i64 p] w fun e w' => e = .returned (.int .i64 (termOf N.log p)) ∧ Below w.heap.size w w' := by
  by_cases h0 : p = 0
  · subst h0
    go_enter Try.func112, Try.ntmps112
    go_wp2_with fail
    go_ret
    exact ⟨rfl, (by repeat (first | exact Below.refl _ _ | (refine Below.alloc ?_ (by (try simp) <;> (try omega)) _) | (refine Below.setCell ?_ (by (try simp) <;> (try omega)) _) | (refine Below.drew ?_) | (refine Below.trans ?_ (Below.mono (by assumption) (by (try simp) <;> (try omega))))))⟩
  · have hlt : p - 1 < N.log.length := by omega
    rw [termOf_pos h0 hlt]
    obtain ⟨b1, o1, rfl, hb1, hc1⟩ := hN.log.at hlt
    have c1 := hc1 (p - 1) hlt 0 (by omega)
    simp only [entE, Nat.add_zero, List.getElem?_cons_zero] at c1
    have g0 : ((p : Int) == 0) = false := by simp; omega
    have g1 : 1 ≤ p := by omega
    clear hc1 h0
    go_enter Try.func112, Try.ntmps112
    go_wp2_with fail
    go_ret
    exact ⟨rfl, (by repeat (first | exact Below.refl _ _ | (refine Below.alloc ?_ (by (try simp) <;> (try omega)) _) | (refine Below.setCell ?_ (by (try simp) <;> (try omega)) _) | (refine Below.drew ?_) | (refine Below.trans ?_ (Below.mono (by assumption) (by (try simp) <;> (try omega))))))⟩
set_option maxHeartbeats 1000000 in
theorem termAt_c (b : Nat) (al : Option Addr) (cl : Nat) (xs : List Ent) (p : Nat) (w : World) (hc : w.cell? ⟨b, 6, none⟩ = some (.slice al xs.length cl)) (hN : Sl entE 2 w al xs) (hZ : xs.length ≤ 1048576) (hp : p ≤ xs.length) :
    Calls Try.prog 113 #[.pointer (some ⟨b, 0, none⟩), .int .i64 p] w fun e w' => e = .returned (.int .i64 (termOf xs p)) ∧ w = w' := by
  by_cases h0 : p = 0
  · subst h0
    go_enter Try.func113, Try.ntmps113
    go_wp2_with fail
    go_ret
    exact ⟨rfl, rfl⟩
  · have hlt : p - 1 < xs.length := by omega
    rw [termOf_pos h0 hlt]
    obtain ⟨b1, o1, rfl, hb1, hc1⟩ := hN.at hlt
    have c1 := hc1 (p - 1) hlt 0 (by omega)
    simp only [entE, Nat.add_zero, List.getElem?_cons_zero] at c1
    have g0 : ((p : Int) == 0) = false := by simp; omega
    have g1 : 1 ≤ p := by omega
    clear hc1 h0
    go_enter Try.func113, Try.ntmps113
    go_wp2_with fail
    go_ret
    exact ⟨rfl, rfl⟩
set_option maxHeartbeats 2000000 in
theorem l08UpToDate_c (al : Option Addr) (cl : Nat) (av : Option Addr) (cv : Nat) (an : Option Addr) (cn : Nat) (am : Option Addr) (cm : Nat) (N : NodeV) (i t : Int) (w : World) (hN : NodeSl w al av an am N) (hZ : N.log.length ≤ 1048576) :
    Calls Try.prog 93 #[.agg #[.int .i64 N.id, .int .i64 N.nodes, .int .i64 N.term, .int .i64 N.vote, .int .i64 N.role, .bool N.up, .slice al N.log.length cl, .int .i64 N.commit, .int .i64 N.elapsed, .int .i64 N.wait, .slice av N.votes.length cv, .slice an N.next.length cn, .slice am N.mtch.length cm], .int .i64 i, .int .i64 t] w fun e w' => e = .returned (.bool (upB N i t)) ∧ Below w.heap.size w w' := by
  go_enter Try.func93, Try.ntmps93
  go_wp2_with fail
  refine (l08Term_c al cl av cv an cn am cm N N.log.length _ (hN.alloc _) hZ (Nat.le_refl _)).mono ?_
  rintro e w1 ⟨rfl, hb1⟩
  have hz1 := hb1.size
  try simp at hz1
  have q1_0_0 : w1.cell? ⟨w.heap.size, 0, none⟩ = some (.int .i64 N.id) := by
    rw [hb1.cell (p := ⟨w.heap.size, 0, none⟩) (show w.heap.size < _ by (try simp) <;> (try omega))]
    first | assumption | (simp [go_sem, *])
  have q1_0_1 : w1.cell? ⟨w.heap.size, 1, none⟩ = some (.int .i64 N.nodes) := by
    rw [hb1.cell (p := ⟨w.heap.size, 1, none⟩) (show w.heap.size < _ by (try simp) <;> (try omega))]
    first | assumption | (simp [go_sem, *])
  have q1_0_2 : w1.cell? ⟨w.heap.size, 2, none⟩ = some (.int .i64 N.term) := by
    rw [hb1.cell (p := ⟨w.heap.size, 2, none⟩) (show w.heap.size < _ by (try simp) <;> (try omega))]
    first | assumption | (simp [go_sem, *])
  have q1_0_3 : w1.cell? ⟨w.heap.size, 3, none⟩ = some (.int .i64 N.vote) := by
    rw [hb1.cell (p := ⟨w.heap.size, 3, none⟩) (show w.heap.size < _ by (try simp) <;> (try omega))]
    first | assumption | (simp [go_sem, *])
  have q1_0_4 : w1.cell? ⟨w.heap.size, 4, none⟩ = some (.int .i64 N.role) := by
    rw [hb1.cell (p := ⟨w.heap.size, 4, none⟩) (show w.heap.size < _ by (try simp) <;> (try omega))]
    first | assumption | (simp [go_sem, *])
  have q1_0_5 : w1.cell? ⟨w.heap.size, 5, none⟩ = some (.bool N.up) := by
    rw [hb1.cell (p := ⟨w.heap.size, 5, none⟩) (show w.heap.size < _ by (try simp) <;> (try omega))]
    first | assumption | (simp [go_sem, *])
  have q1_0_6 : w1.cell? ⟨w.heap.size, 6, none⟩ = some (.slice al N.log.length cl) := by
    rw [hb1.cell (p := ⟨w.heap.size, 6, none⟩) (show w.heap.size < _ by (try simp) <;> (try omega))]
    first | assumption | (simp [go_sem, *])
  have q1_0_7 : w1.cell? ⟨w.heap.size, 7, none⟩ = some (.int .i64 N.commit) := by
    rw [hb1.cell (p := ⟨w.heap.size, 7, none⟩) (show w.heap.size < _ by (try simp) <;> (try omega))]
    first | assumption | (simp [go_sem, *])
  have q1_0_8 : w1.cell? ⟨w.heap.size, 8, none⟩ = some (.int .i64 N.elapsed) := by
    rw [hb1.cell (p := ⟨w.heap.size, 8, none⟩) (show w.heap.size < _ by (try simp) <;> (try omega))]
    first | assumption | (simp [go_sem, *])
  have q1_0_9 : w1.cell? ⟨w.heap.size, 9, none⟩ = some (.int .i64 N.wait) := by
    rw [hb1.cell (p := ⟨w.heap.size, 9, none⟩) (show w.heap.size < _ by (try simp) <;> (try omega))]
    first | assumption | (simp [go_sem, *])
  have q1_0_10 : w1.cell? ⟨w.heap.size, 10, none⟩ = some (.slice av N.votes.length cv) := by
    rw [hb1.cell (p := ⟨w.heap.size, 10, none⟩) (show w.heap.size < _ by (try simp) <;> (try omega))]
    first | assumption | (simp [go_sem, *])
  have q1_0_11 : w1.cell? ⟨w.heap.size, 11, none⟩ = some (.slice an N.next.length cn) := by
    rw [hb1.cell (p := ⟨w.heap.size, 11, none⟩) (show w.heap.size < _ by (try simp) <;> (try omega))]
    first | assumption | (simp [go_sem, *])
  have q1_0_12 : w1.cell? ⟨w.heap.size, 12, none⟩ = some (.slice am N.mtch.length cm) := by
    rw [hb1.cell (p := ⟨w.heap.size, 12, none⟩) (show w.heap.size < _ by (try simp) <;> (try omega))]
    first | assumption | (simp [go_sem, *])
  have hl1_0 : w.heap.size < w1.heap.size := by omega
  cases q1 : decide (termOf N.log N.log.length < t)
  · cases q2 : decide (t = termOf N.log N.log.length)
    · have q2' : (t == termOf N.log N.log.length) = false := by simpa using q2
      go_wp2_with fail
      go_ret
      exact ⟨by unfold upB; simp only [q1, q2, Bool.false_or, Bool.false_and]; try rfl, (by repeat (first | exact Below.refl _ _ | (refine Below.alloc ?_ (by (try simp) <;> (try omega)) _) | (refine Below.setCell ?_ (by (try simp) <;> (try omega)) _) | (refine Below.drew ?_) | (refine Below.trans ?_ (Below.mono (by assumption) (by (try simp) <;> (try omega))))))⟩
    · have q2' : (t == termOf N.log N.log.length) = true := by simpa using q2
      cases q3 : decide ((N.log.length : Int) ≤ i)
      all_goals
        go_wp2_with fail
        go_ret
        exact ⟨by unfold upB; simp only [q1, q2, q3, Bool.false_or, Bool.true_and]; try rfl, (by repeat (first | exact Below.refl _ _ | (refine Below.alloc ?_ (by (try simp) <;> (try omega)) _) | (refine Below.setCell ?_ (by (try simp) <;> (try omega)) _) | (refine Below.drew ?_) | (refine Below.trans ?_ (Below.mono (by assumption) (by (try simp) <;> (try omega))))))⟩
  · go_wp2_with fail
    go_ret
    exact ⟨by unfold upB; simp only [q1, Bool.true_or]; try rfl, (by repeat (first | exact Below.refl _ _ | (refine Below.alloc ?_ (by (try simp) <;> (try omega)) _) | (refine Below.setCell ?_ (by (try simp) <;> (try omega)) _) | (refine Below.drew ?_) | (refine Below.trans ?_ (Below.mono (by assumption) (by (try simp) <;> (try omega))))))⟩
set_option maxHeartbeats 2000000 in
theorem isUpToDate_c (b : Nat) (al : Option Addr) (cl : Nat) (N : NodeV) (i t : Int) (w : World) (hc : w.cell? ⟨b, 6, none⟩ = some (.slice al N.log.length cl)) (hN : Sl entE 2 w al N.log) (hZ : N.log.length ≤ 1048576) :
    Calls Try.prog 94 #[.pointer (some ⟨b, 0, none⟩), .int .i64 i, .int .i64 t] w fun e w' => e = .returned (.bool (upB N i t)) ∧ w = w' := by
  go_enter Try.func94, Try.ntmps94
  go_wp2_with fail
  refine (termAt_c b al cl N.log N.log.length _ hc hN hZ (Nat.le_refl _)).mono ?_
  rintro e w1 ⟨rfl, rfl⟩
  cases q1 : decide (termOf N.log N.log.length < t)
  · cases q2 : decide (t = termOf N.log N.log.length)
    · have q2' : (t == termOf N.log N.log.length) = false := by simpa using q2
      go_wp2_with fail
      go_ret
      exact ⟨by unfold upB; simp only [q1, q2, Bool.false_or, Bool.false_and]; try rfl, rfl⟩
    · have q2' : (t == termOf N.log N.log.length) = true := by simpa using q2
      cases q3 : decide ((N.log.length : Int) ≤ i)
      all_goals
        go_wp2_with fail
        go_ret
        exact ⟨by unfold upB; simp only [q1, q2, q3, Bool.false_or, Bool.true_and]; try rfl, rfl⟩
  · go_wp2_with fail
    go_ret
    exact ⟨by unfold upB; simp only [q1, Bool.true_or]; try rfl, rfl⟩
noncomputable def upV (N : NodeV) (i t : Int) : Bool × Int := if nodeOK N = true then (upB N i t, 0) else (false, 1)
set_option maxHeartbeats 2000000 in
theorem specUp_c (al : Option Addr) (cl : Nat) (av : Option Addr) (cv : Nat) (an : Option Addr) (cn : Nat) (am : Option Addr) (cm : Nat) (N : NodeV) (i t : Int) (w : World) (hN : NodeSl w al av an am N) (hZ : NodeSz N 1048576) :
    Calls Try.prog 54 #[.agg #[.int .i64 N.id, .int .i64 N.nodes, .int .i64 N.term, .int .i64 N.vote, .int .i64 N.role, .bool N.up, .slice al N.log.length cl, .int .i64 N.commit, .int .i64 N.elapsed, .int .i64 N.wait, .slice av N.votes.length cv, .slice an N.next.length cn, .slice am N.mtch.length cm], .int .i64 i, .int .i64 t] w fun e w' => e = .returned (.tuple #[.bool (upV N i t).1, .int .i64 (upV N i t).2]) ∧ Below w.heap.size w w' := by
  go_enter Try.func54, Try.ntmps54
  go_wp2_with fail
  refine (specNodeOK_c al cl av cv an cn am cm N _ (hN.alloc _) hZ).mono ?_
  rintro e w1 ⟨rfl, hb1⟩
  have hN1 := (hN.alloc _).keep hb1
  have hz1 := hb1.size
  try simp at hz1
  have q1_0_0 : w1.cell? ⟨w.heap.size, 0, none⟩ = some (.int .i64 N.id) := by
    rw [hb1.cell (p := ⟨w.heap.size, 0, none⟩) (show w.heap.size < _ by (try simp) <;> (try omega))]
    first | assumption | (simp [go_sem, *])
  have q1_0_1 : w1.cell? ⟨w.heap.size, 1, none⟩ = some (.int .i64 N.nodes) := by
    rw [hb1.cell (p := ⟨w.heap.size, 1, none⟩) (show w.heap.size < _ by (try simp) <;> (try omega))]
    first | assumption | (simp [go_sem, *])
  have q1_0_2 : w1.cell? ⟨w.heap.size, 2, none⟩ = some (.int .i64 N.term) := by
    rw [hb1.cell (p := ⟨w.heap.size, 2, none⟩) (show w.heap.size < _ by (try simp) <;> (try omega))]
    first | assumption | (simp [go_sem, *])
  have q1_0_3 : w1.cell? ⟨w.heap.size, 3, none⟩ = some (.int .i64 N.vote) := by
    rw [hb1.cell (p := ⟨w.heap.size, 3, none⟩) (show w.heap.size < _ by (try simp) <;> (try omega))]
    first | assumption | (simp [go_sem, *])
  have q1_0_4 : w1.cell? ⟨w.heap.size, 4, none⟩ = some (.int .i64 N.role) := by
    rw [hb1.cell (p := ⟨w.heap.size, 4, none⟩) (show w.heap.size < _ by (try simp) <;> (try omega))]
    first | assumption | (simp [go_sem, *])
  have q1_0_5 : w1.cell? ⟨w.heap.size, 5, none⟩ = some (.bool N.up) := by
    rw [hb1.cell (p := ⟨w.heap.size, 5, none⟩) (show w.heap.size < _ by (try simp) <;> (try omega))]
    first | assumption | (simp [go_sem, *])
  have q1_0_6 : w1.cell? ⟨w.heap.size, 6, none⟩ = some (.slice al N.log.length cl) := by
    rw [hb1.cell (p := ⟨w.heap.size, 6, none⟩) (show w.heap.size < _ by (try simp) <;> (try omega))]
    first | assumption | (simp [go_sem, *])
  have q1_0_7 : w1.cell? ⟨w.heap.size, 7, none⟩ = some (.int .i64 N.commit) := by
    rw [hb1.cell (p := ⟨w.heap.size, 7, none⟩) (show w.heap.size < _ by (try simp) <;> (try omega))]
    first | assumption | (simp [go_sem, *])
  have q1_0_8 : w1.cell? ⟨w.heap.size, 8, none⟩ = some (.int .i64 N.elapsed) := by
    rw [hb1.cell (p := ⟨w.heap.size, 8, none⟩) (show w.heap.size < _ by (try simp) <;> (try omega))]
    first | assumption | (simp [go_sem, *])
  have q1_0_9 : w1.cell? ⟨w.heap.size, 9, none⟩ = some (.int .i64 N.wait) := by
    rw [hb1.cell (p := ⟨w.heap.size, 9, none⟩) (show w.heap.size < _ by (try simp) <;> (try omega))]
    first | assumption | (simp [go_sem, *])
  have q1_0_10 : w1.cell? ⟨w.heap.size, 10, none⟩ = some (.slice av N.votes.length cv) := by
    rw [hb1.cell (p := ⟨w.heap.size, 10, none⟩) (show w.heap.size < _ by (try simp) <;> (try omega))]
    first | assumption | (simp [go_sem, *])
  have q1_0_11 : w1.cell? ⟨w.heap.size, 11, none⟩ = some (.slice an N.next.length cn) := by
    rw [hb1.cell (p := ⟨w.heap.size, 11, none⟩) (show w.heap.size < _ by (try simp) <;> (try omega))]
    first | assumption | (simp [go_sem, *])
  have q1_0_12 : w1.cell? ⟨w.heap.size, 12, none⟩ = some (.slice am N.mtch.length cm) := by
    rw [hb1.cell (p := ⟨w.heap.size, 12, none⟩) (show w.heap.size < _ by (try simp) <;> (try omega))]
    first | assumption | (simp [go_sem, *])
  have hl1_0 : w.heap.size < w1.heap.size := by omega
  cases q : nodeOK N
  · go_wp2_with fail
    go_ret2
    exact ⟨by simp [upV, q], (by repeat (first | exact Below.refl _ _ | (refine Below.alloc ?_ (by (try simp) <;> (try omega)) _) | (refine Below.setCell ?_ (by (try simp) <;> (try omega)) _) | (refine Below.drew ?_) | (refine Below.trans ?_ (Below.mono (by assumption) (by (try simp) <;> (try omega))))))⟩
  · go_wp2_with fail
    refine (l08UpToDate_c al cl av cv an cn am cm N i t _ hN1 hZ.log).mono ?_
    rintro e w2 ⟨rfl, hb2⟩
    go_wp2_with fail
    go_ret2
    exact ⟨by simp [upV, q], (by repeat (first | exact Below.refl _ _ | (refine Below.alloc ?_ (by (try simp) <;> (try omega)) _) | (refine Below.setCell ?_ (by (try simp) <;> (try omega)) _) | (refine Below.drew ?_) | (refine Below.trans ?_ (Below.mono (by assumption) (by (try simp) <;> (try omega))))))⟩
set_option maxHeartbeats 2000000 in
theorem implUp_c (al : Option Addr) (cl : Nat) (av : Option Addr) (cv : Nat) (an : Option Addr) (cn : Nat) (am : Option Addr) (cm : Nat) (N : NodeV) (i t : Int) (w : World) (hN : NodeSl w al av an am N) (hZ : NodeSz N 1048576) :
    Calls Try.prog 55 #[.agg #[.int .i64 N.id, .int .i64 N.nodes, .int .i64 N.term, .int .i64 N.vote, .int .i64 N.role, .bool N.up, .slice al N.log.length cl, .int .i64 N.commit, .int .i64 N.elapsed, .int .i64 N.wait, .slice av N.votes.length cv, .slice an N.next.length cn, .slice am N.mtch.length cm], .int .i64 i, .int .i64 t] w fun e w' => e = .returned (.tuple #[.bool (upV N i t).1, .int .i64 (upV N i t).2]) ∧ Below w.heap.size w w' := by
  go_enter Try.func55, Try.ntmps55
  go_wp2_with fail
  refine (isNode_c al cl av cv an cn am cm N _ (hN.alloc _) hZ).mono ?_
  rintro e w1 ⟨rfl, hb1⟩
  have hN1 := (hN.alloc _).keep hb1
  have hz1 := hb1.size
  try simp at hz1
  have q1_0_0 : w1.cell? ⟨w.heap.size, 0, none⟩ = some (.int .i64 N.id) := by
    rw [hb1.cell (p := ⟨w.heap.size, 0, none⟩) (show w.heap.size < _ by (try simp) <;> (try omega))]
    first | assumption | (simp [go_sem, *])
  have q1_0_1 : w1.cell? ⟨w.heap.size, 1, none⟩ = some (.int .i64 N.nodes) := by
    rw [hb1.cell (p := ⟨w.heap.size, 1, none⟩) (show w.heap.size < _ by (try simp) <;> (try omega))]
    first | assumption | (simp [go_sem, *])
  have q1_0_2 : w1.cell? ⟨w.heap.size, 2, none⟩ = some (.int .i64 N.term) := by
    rw [hb1.cell (p := ⟨w.heap.size, 2, none⟩) (show w.heap.size < _ by (try simp) <;> (try omega))]
    first | assumption | (simp [go_sem, *])
  have q1_0_3 : w1.cell? ⟨w.heap.size, 3, none⟩ = some (.int .i64 N.vote) := by
    rw [hb1.cell (p := ⟨w.heap.size, 3, none⟩) (show w.heap.size < _ by (try simp) <;> (try omega))]
    first | assumption | (simp [go_sem, *])
  have q1_0_4 : w1.cell? ⟨w.heap.size, 4, none⟩ = some (.int .i64 N.role) := by
    rw [hb1.cell (p := ⟨w.heap.size, 4, none⟩) (show w.heap.size < _ by (try simp) <;> (try omega))]
    first | assumption | (simp [go_sem, *])
  have q1_0_5 : w1.cell? ⟨w.heap.size, 5, none⟩ = some (.bool N.up) := by
    rw [hb1.cell (p := ⟨w.heap.size, 5, none⟩) (show w.heap.size < _ by (try simp) <;> (try omega))]
    first | assumption | (simp [go_sem, *])
  have q1_0_6 : w1.cell? ⟨w.heap.size, 6, none⟩ = some (.slice al N.log.length cl) := by
    rw [hb1.cell (p := ⟨w.heap.size, 6, none⟩) (show w.heap.size < _ by (try simp) <;> (try omega))]
    first | assumption | (simp [go_sem, *])
  have q1_0_7 : w1.cell? ⟨w.heap.size, 7, none⟩ = some (.int .i64 N.commit) := by
    rw [hb1.cell (p := ⟨w.heap.size, 7, none⟩) (show w.heap.size < _ by (try simp) <;> (try omega))]
    first | assumption | (simp [go_sem, *])
  have q1_0_8 : w1.cell? ⟨w.heap.size, 8, none⟩ = some (.int .i64 N.elapsed) := by
    rw [hb1.cell (p := ⟨w.heap.size, 8, none⟩) (show w.heap.size < _ by (try simp) <;> (try omega))]
    first | assumption | (simp [go_sem, *])
  have q1_0_9 : w1.cell? ⟨w.heap.size, 9, none⟩ = some (.int .i64 N.wait) := by
    rw [hb1.cell (p := ⟨w.heap.size, 9, none⟩) (show w.heap.size < _ by (try simp) <;> (try omega))]
    first | assumption | (simp [go_sem, *])
  have q1_0_10 : w1.cell? ⟨w.heap.size, 10, none⟩ = some (.slice av N.votes.length cv) := by
    rw [hb1.cell (p := ⟨w.heap.size, 10, none⟩) (show w.heap.size < _ by (try simp) <;> (try omega))]
    first | assumption | (simp [go_sem, *])
  have q1_0_11 : w1.cell? ⟨w.heap.size, 11, none⟩ = some (.slice an N.next.length cn) := by
    rw [hb1.cell (p := ⟨w.heap.size, 11, none⟩) (show w.heap.size < _ by (try simp) <;> (try omega))]
    first | assumption | (simp [go_sem, *])
  have q1_0_12 : w1.cell? ⟨w.heap.size, 12, none⟩ = some (.slice am N.mtch.length cm) := by
    rw [hb1.cell (p := ⟨w.heap.size, 12, none⟩) (show w.heap.size < _ by (try simp) <;> (try omega))]
    first | assumption | (simp [go_sem, *])
  have hl1_0 : w.heap.size < w1.heap.size := by omega
  cases q : nodeOK N
  · go_wp2_with fail
    go_ret2
    exact ⟨by simp [upV, q], (by repeat (first | exact Below.refl _ _ | (refine Below.alloc ?_ (by (try simp) <;> (try omega)) _) | (refine Below.setCell ?_ (by (try simp) <;> (try omega)) _) | (refine Below.drew ?_) | (refine Below.trans ?_ (Below.mono (by assumption) (by (try simp) <;> (try omega))))))⟩
  · go_wp2_with fail
    refine (isUpToDate_c w.heap.size al cl N i t _ q1_0_6 hN1.log hZ.log).mono ?_
    rintro e w2 ⟨rfl, rfl⟩
    go_wp2_with fail
    go_ret2
    exact ⟨by simp [upV, q], (by repeat (first | exact Below.refl _ _ | (refine Below.alloc ?_ (by (try simp) <;> (try omega)) _) | (refine Below.setCell ?_ (by (try simp) <;> (try omega)) _) | (refine Below.drew ?_) | (refine Below.trans ?_ (Below.mono (by assumption) (by (try simp) <;> (try omega))))))⟩
end Go.Proofs.Ytmkgmecpjppgcaa
