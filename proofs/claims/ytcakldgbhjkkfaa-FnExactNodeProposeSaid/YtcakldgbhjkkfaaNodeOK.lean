/- impl.isNode: validity of nodes. -/
import Derived.Test.YtcakldgbhjkkfaaNode
import Derived.BigGuardPart
namespace Go.Proofs.Ytcakldgbhjkkfaa
set_option linter.unusedVariables false
set_option linter.unusedSimpArgs false
open Go.RowKit
def VoteAt (N : NodeV) (k : Nat) : Prop := ∃ h : k < N.votes.length, inB N.votes[k] 0 (N.nodes - 1) = true ∧ ∀ h0 : 0 < k, N.votes[k - 1] < N.votes[k]
def NextAt (N : NodeV) (k : Nat) : Prop := ∃ (h : k < N.next.length) (h2 : k < N.mtch.length), inB N.next[k] 1 (N.log.length + 1) = true ∧ inB N.mtch[k] 0 (N.next[k] - 1) = true
structure NHead (N : NodeV) : Prop where
  nodes : inB N.nodes 1 5 = true
  id : inB N.id 0 (N.nodes - 1) = true
  st : stOK N.term N.vote N.log = true
  vote : N.vote < N.nodes
  role : inB N.role 0 2 = true
  up : N.up = true ∨ N.role = 0
  commit : inB N.commit 0 N.log.length = true
  elapsed : inB N.elapsed 0 1000 = true
  wait : inB N.wait 5 100 = true
  nl : (N.next.length : Int) = N.nodes
  ml : (N.mtch.length : Int) = N.nodes
structure NOK (N : NodeV) : Prop extends NHead N where
  votes : ∀ k, k < N.votes.length → VoteAt N k
  next : ∀ k, k < N.next.length → NextAt N k
open Classical in
noncomputable def nodeOK (N : NodeV) : Bool := decide (NOK N)
theorem nodeOK_true {N : NodeV} (h : NOK N) : nodeOK N = true := by simp [nodeOK, h]
theorem nodeOK_false {N : NodeV} (h : ¬ NOK N) : nodeOK N = false := by simp [nodeOK, h]
theorem hml_of {a b : Int} (h : (a != b) = false) : a = b := by
  by_cases hq : a = b
  · exact hq
  · exact hq.elim (by rw [bne, beq_false_of_ne hq] at h; cases h)
set_option maxRecDepth 100000 in
set_option maxHeartbeats 4000000 in
theorem isNode_head_no (al : Option Addr) (cl : Nat) (av : Option Addr) (cv : Nat) (an : Option Addr) (cn : Nat) (am : Option Addr) (cm : Nat) (N : NodeV) (w : World) (hN : NodeSl w al av an am N) (hZ : NodeSz N 1048576) (h1 : 1 ≤ N.nodes) (h5 : N.nodes ≤ 5) (hno : ¬ NHead N) :
    Calls Try.prog 23 #[.agg #[.int .i64 N.id, .int .i64 N.nodes, .int .i64 N.term, .int .i64 N.vote, .int .i64 N.role, .bool N.up, .slice al N.log.length cl, .int .i64 N.commit, .int .i64 N.elapsed, .int .i64 N.wait, .slice av N.votes.length cv, .slice an N.next.length cn, .slice am N.mtch.length cm]] w fun e w' => e = .returned (.bool (nodeOK N)) ∧ Below w.heap.size w w' := by
  have HZ := Lib.hid hZ
  have HNo := Lib.hid hno
  have g1 : inB N.nodes 1 5 = true := by simp [inB, h1, h5]
  have z1 := hZ.log
  have z2 := hZ.next
  have z3 := hZ.mtch
  clear hZ hno
  go_enter Try.func23, Try.ntmps23
  simp only [List.append_eq, List.cons_append, List.nil_append]
  go_wp2_with (first
    | (go_at_call 24; refine (within_c _ _ _ _).mono ?_; rintro e w' ⟨rfl, rfl⟩)
    | (go_at_call 44
       refine (isState_c al cl N.log N.term N.vote _ (hN.log.alloc _) HZ.out.log HZ.out.data).mono ?_
       rintro e w1 ⟨rfl, hb1⟩
       have hz1 := hb1.size
       try simp at hz1
       have q1_0_0 : w1.cell? ⟨w.heap.size, 0, none⟩ = some (.int .i64 N.id) := by
         rw [hb1.cell (p := ⟨w.heap.size, 0, none⟩) (show w.heap.size < _ by (try simp) <;> (try omega))]
         first | assumption | (simp [go_sem, *])
       have q1_0_1 : w1.cell? ⟨w.heap.size, 1, none⟩ = some (.int .i64 N.nodes) := by
         rw [hb1.cell (p := ⟨w.heap.size, 1, none⟩) (show w.heap.size < _ by (try simp) <;> (try omega))]
         first | assumption | (simp [go_sem, *])
       have q1_0_2 : w1.cell? ⟨w.heap.size, 2, none⟩ = some (.int .i64 N.term) := by
         rw [hb1.cell (p := ⟨w.heap.size, 2, none⟩) (show w.heap.size < _ by (try simp) <;> (try omega))]
         first | assumption | (simp [go_sem, *])
       have q1_0_3 : w1.cell? ⟨w.heap.size, 3, none⟩ = some (.int .i64 N.vote) := by
         rw [hb1.cell (p := ⟨w.heap.size, 3, none⟩) (show w.heap.size < _ by (try simp) <;> (try omega))]
         first | assumption | (simp [go_sem, *])
       have q1_0_4 : w1.cell? ⟨w.heap.size, 4, none⟩ = some (.int .i64 N.role) := by
         rw [hb1.cell (p := ⟨w.heap.size, 4, none⟩) (show w.heap.size < _ by (try simp) <;> (try omega))]
         first | assumption | (simp [go_sem, *])
       have q1_0_5 : w1.cell? ⟨w.heap.size, 5, none⟩ = some (.bool N.up) := by
         rw [hb1.cell (p := ⟨w.heap.size, 5, none⟩) (show w.heap.size < _ by (try simp) <;> (try omega))]
         first | assumption | (simp [go_sem, *])
       have q1_0_6 : w1.cell? ⟨w.heap.size, 6, none⟩ = some (.slice al N.log.length cl) := by
         rw [hb1.cell (p := ⟨w.heap.size, 6, none⟩) (show w.heap.size < _ by (try simp) <;> (try omega))]
         first | assumption | (simp [go_sem, *])
       have q1_0_7 : w1.cell? ⟨w.heap.size, 7, none⟩ = some (.int .i64 N.commit) := by
         rw [hb1.cell (p := ⟨w.heap.size, 7, none⟩) (show w.heap.size < _ by (try simp) <;> (try omega))]
         first | assumption | (simp [go_sem, *])
       have q1_0_8 : w1.cell? ⟨w.heap.size, 8, none⟩ = some (.int .i64 N.elapsed) := by
         rw [hb1.cell (p := ⟨w.heap.size, 8, none⟩) (show w.heap.size < _ by (try simp) <;> (try omega))]
         first | assumption | (simp [go_sem, *])
       have q1_0_9 : w1.cell? ⟨w.heap.size, 9, none⟩ = some (.int .i64 N.wait) := by
         rw [hb1.cell (p := ⟨w.heap.size, 9, none⟩) (show w.heap.size < _ by (try simp) <;> (try omega))]
         first | assumption | (simp [go_sem, *])
       have q1_0_10 : w1.cell? ⟨w.heap.size, 10, none⟩ = some (.slice av N.votes.length cv) := by
         rw [hb1.cell (p := ⟨w.heap.size, 10, none⟩) (show w.heap.size < _ by (try simp) <;> (try omega))]
         first | assumption | (simp [go_sem, *])
       have q1_0_11 : w1.cell? ⟨w.heap.size, 11, none⟩ = some (.slice an N.next.length cn) := by
         rw [hb1.cell (p := ⟨w.heap.size, 11, none⟩) (show w.heap.size < _ by (try simp) <;> (try omega))]
         first | assumption | (simp [go_sem, *])
       have q1_0_12 : w1.cell? ⟨w.heap.size, 12, none⟩ = some (.slice am N.mtch.length cm) := by
         rw [hb1.cell (p := ⟨w.heap.size, 12, none⟩) (show w.heap.size < _ by (try simp) <;> (try omega))]
         first | assumption | (simp [go_sem, *])
       have hl1_0 : w.heap.size < w1.heap.size := by omega))
  all_goals first
    | (go_ret
       exact ⟨by rw [nodeOK_false (fun h => HNo.out h.toNHead)]; rfl, (by repeat (first | exact Below.refl _ _ | (refine Below.alloc ?_ (by (try simp) <;> (try omega)) _) | (refine Below.setCell ?_ (by (try simp) <;> (try omega)) _) | (refine Below.drew ?_) | (refine Below.trans ?_ (Below.mono (by assumption) (by (try simp) <;> (try omega))))))⟩)
    | exact absurd ⟨g1, by assumption, by assumption, by assumption, by assumption, by first | exact .inl (by assumption) | exact .inr (by assumption), by assumption, by assumption, by assumption, by assumption, hml_of (by assumption)⟩ HNo.out
set_option maxRecDepth 100000 in
set_option maxHeartbeats 400000 in
theorem isNode_nodes_no (al : Option Addr) (cl : Nat) (av : Option Addr) (cv : Nat) (an : Option Addr) (cn : Nat) (am : Option Addr) (cm : Nat) (N : NodeV) (w : World) (h : inB N.nodes 1 5 = false) :
    Calls Try.prog 23 #[.agg #[.int .i64 N.id, .int .i64 N.nodes, .int .i64 N.term, .int .i64 N.vote, .int .i64 N.role, .bool N.up, .slice al N.log.length cl, .int .i64 N.commit, .int .i64 N.elapsed, .int .i64 N.wait, .slice av N.votes.length cv, .slice an N.next.length cn, .slice am N.mtch.length cm]] w fun e w' => e = .returned (.bool (nodeOK N)) ∧ Below w.heap.size w w' := by
  have hwi := within_c N.nodes 1 5
  rw [h] at hwi
  go_enter Try.func23, Try.ntmps23
  simp only [List.append_eq, List.cons_append, List.nil_append]
  go_wp2_with (go_at_call 24; refine (hwi _).mono ?_; rintro e w' ⟨rfl, rfl⟩)
  go_ret
  exact ⟨by rw [nodeOK_false (fun k => by have := k.nodes; rw [h] at this; cases this)]; rfl, (by repeat (first | exact Below.refl _ _ | (refine Below.alloc ?_ (by (try simp) <;> (try omega)) _) | (refine Below.setCell ?_ (by (try simp) <;> (try omega)) _) | (refine Below.drew ?_) | (refine Below.trans ?_ (Below.mono (by assumption) (by (try simp) <;> (try omega))))))⟩
end Go.Proofs.Ytcakldgbhjkkfaa
