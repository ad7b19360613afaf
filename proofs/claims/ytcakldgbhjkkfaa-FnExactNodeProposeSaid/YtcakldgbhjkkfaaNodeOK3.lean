/- spec.NodeOK: validity of nodes; the head. -/
import Derived.Test.YtcakldgbhjkkfaaNodeOK2
import Derived.Test.YtcakldgbhjkkfaaState2
namespace Go.Proofs.Ytcakldgbhjkkfaa
set_option linter.unusedVariables false
set_option linter.unusedSimpArgs false
open Go.RowKit
theorem l08Nodes_c (n : Int) (w : World) : Calls Try.prog 36 #[.int .i64 n] w fun e w' => e = .returned (.bool (inB n 1 5)) ∧ w = w' := by
  go_enter Try.func36, Try.ntmps36
  go_wp2_with (go_at_call 17; refine (l01In_c _ _ _ _).mono ?_; rintro e w' ⟨rfl, rfl⟩)
  go_ret
  exact ⟨rfl, rfl⟩
set_option maxHeartbeats 1000000 in
theorem l08State_c (al : Option Addr) (cl : Nat) (av : Option Addr) (cv : Nat) (an : Option Addr) (cn : Nat) (am : Option Addr) (cm : Nat) (N : NodeV) (w : World) : Calls Try.prog 38 #[.agg #[.int .i64 N.id, .int .i64 N.nodes, .int .i64 N.term, .int .i64 N.vote, .int .i64 N.role, .bool N.up, .slice al N.log.length cl, .int .i64 N.commit, .int .i64 N.elapsed, .int .i64 N.wait, .slice av N.votes.length cv, .slice an N.next.length cn, .slice am N.mtch.length cm]] w fun e w' => e = .returned (.agg #[.int .i64 N.term, .int .i64 N.vote, .slice al N.log.length cl]) ∧ Below w.heap.size w w' := by
  go_enter Try.func38, Try.ntmps38
  go_wp2_with fail
  refine bodyPost_ret (v := .agg #[.int .i64 N.term, .int .i64 N.vote, .slice al N.log.length cl]) (by simp [results, Try.results38, go_sem]) rfl ?_
  exact ⟨rfl, (by repeat (first | exact Below.refl _ _ | (refine Below.alloc ?_ (by (try simp) <;> (try omega)) _) | (refine Below.setCell ?_ (by (try simp) <;> (try omega)) _) | (refine Below.drew ?_) | (refine Below.trans ?_ (Below.mono (by assumption) (by (try simp) <;> (try omega))))))⟩
set_option maxRecDepth 100000 in
set_option maxHeartbeats 4000000 in
theorem specNode_head_no (al : Option Addr) (cl : Nat) (av : Option Addr) (cv : Nat) (an : Option Addr) (cn : Nat) (am : Option Addr) (cm : Nat) (N : NodeV) (w : World) (hN : NodeSl w al av an am N) (hZ : NodeSz N 1048576) (h1 : 1 ≤ N.nodes) (h5 : N.nodes ≤ 5) (hno : ¬ NHead N) :
    Calls Try.prog 16 #[.agg #[.int .i64 N.id, .int .i64 N.nodes, .int .i64 N.term, .int .i64 N.vote, .int .i64 N.role, .bool N.up, .slice al N.log.length cl, .int .i64 N.commit, .int .i64 N.elapsed, .int .i64 N.wait, .slice av N.votes.length cv, .slice an N.next.length cn, .slice am N.mtch.length cm]] w fun e w' => e = .returned (.bool (nodeOK N)) ∧ Below w.heap.size w w' := by
  have HZ := Lib.hid hZ
  have HNo := Lib.hid hno
  have g1 : inB N.nodes 1 5 = true := by simp [inB, h1, h5]
  have z1 := hZ.log
  have z2 := hZ.next
  have z3 := hZ.mtch
  clear hZ hno
  go_enter Try.func16, Try.ntmps16
  simp only [List.append_eq, List.cons_append, List.nil_append]
  go_wp2_with (first
    | (go_at_call 17; refine (l01In_c _ _ _ _).mono ?_; rintro e w' ⟨rfl, rfl⟩)
    | (go_at_call 36; refine (l08Nodes_c _ _).mono ?_; rintro e w' ⟨rfl, rfl⟩)
    | (go_at_call 38
       refine (l08State_c al cl av cv an cn am cm N _).mono ?_
       rintro e w0 ⟨rfl, hb0⟩
       have HB00 := Lib.hid hb0
       have hz0 := hb0.size
       try simp at hz0
       have q0_0_0 : w0.cell? ⟨w.heap.size, 0, none⟩ = some (.int .i64 N.id) := by
         rw [hb0.cell (p := ⟨w.heap.size, 0, none⟩) (show w.heap.size < _ by (try simp) <;> (try omega))]
         first | assumption | (simp [go_sem, *])
       have q0_0_1 : w0.cell? ⟨w.heap.size, 1, none⟩ = some (.int .i64 N.nodes) := by
         rw [hb0.cell (p := ⟨w.heap.size, 1, none⟩) (show w.heap.size < _ by (try simp) <;> (try omega))]
         first | assumption | (simp [go_sem, *])
       have q0_0_2 : w0.cell? ⟨w.heap.size, 2, none⟩ = some (.int .i64 N.term) := by
         rw [hb0.cell (p := ⟨w.heap.size, 2, none⟩) (show w.heap.size < _ by (try simp) <;> (try omega))]
         first | assumption | (simp [go_sem, *])
       have q0_0_3 : w0.cell? ⟨w.heap.size, 3, none⟩ = some (.int .i64 N.vote) := by
         rw [hb0.cell (p := ⟨w.heap.size, 3, none⟩) (show w.heap.size < _ by (try simp) <;> (try omega))]
         first | assumption | (simp [go_sem, *])
       have q0_0_4 : w0.cell? ⟨w.heap.size, 4, none⟩ = some (.int .i64 N.role) := by
         rw [hb0.cell (p := ⟨w.heap.size, 4, none⟩) (show w.heap.size < _ by (try simp) <;> (try omega))]
         first | assumption | (simp [go_sem, *])
       have q0_0_5 : w0.cell? ⟨w.heap.size, 5, none⟩ = some (.bool N.up) := by
         rw [hb0.cell (p := ⟨w.heap.size, 5, none⟩) (show w.heap.size < _ by (try simp) <;> (try omega))]
         first | assumption | (simp [go_sem, *])
       have q0_0_6 : w0.cell? ⟨w.heap.size, 6, none⟩ = some (.slice al N.log.length cl) := by
         rw [hb0.cell (p := ⟨w.heap.size, 6, none⟩) (show w.heap.size < _ by (try simp) <;> (try omega))]
         first | assumption | (simp [go_sem, *])
       have q0_0_7 : w0.cell? ⟨w.heap.size, 7, none⟩ = some (.int .i64 N.commit) := by
         rw [hb0.cell (p := ⟨w.heap.size, 7, none⟩) (show w.heap.size < _ by (try simp) <;> (try omega))]
         first | assumption | (simp [go_sem, *])
       have q0_0_8 : w0.cell? ⟨w.heap.size, 8, none⟩ = some (.int .i64 N.elapsed) := by
         rw [hb0.cell (p := ⟨w.heap.size, 8, none⟩) (show w.heap.size < _ by (try simp) <;> (try omega))]
         first | assumption | (simp [go_sem, *])
       have q0_0_9 : w0.cell? ⟨w.heap.size, 9, none⟩ = some (.int .i64 N.wait) := by
         rw [hb0.cell (p := ⟨w.heap.size, 9, none⟩) (show w.heap.size < _ by (try simp) <;> (try omega))]
         first | assumption | (simp [go_sem, *])
       have q0_0_10 : w0.cell? ⟨w.heap.size, 10, none⟩ = some (.slice av N.votes.length cv) := by
         rw [hb0.cell (p := ⟨w.heap.size, 10, none⟩) (show w.heap.size < _ by (try simp) <;> (try omega))]
         first | assumption | (simp [go_sem, *])
       have q0_0_11 : w0.cell? ⟨w.heap.size, 11, none⟩ = some (.slice an N.next.length cn) := by
         rw [hb0.cell (p := ⟨w.heap.size, 11, none⟩) (show w.heap.size < _ by (try simp) <;> (try omega))]
         first | assumption | (simp [go_sem, *])
       have q0_0_12 : w0.cell? ⟨w.heap.size, 12, none⟩ = some (.slice am N.mtch.length cm) := by
         rw [hb0.cell (p := ⟨w.heap.size, 12, none⟩) (show w.heap.size < _ by (try simp) <;> (try omega))]
         first | assumption | (simp [go_sem, *])
       have hl0_0 : w.heap.size < w0.heap.size := by omega)
    | (go_at_call 37
       refine (specStateOK_c al cl N.log N.term N.vote _ ((hN.log.alloc _).keep HB00.out) HZ.out.log HZ.out.data).mono ?_
       rintro e w1 ⟨rfl, hb1⟩
       have hz1 := hb1.size
       try simp at hz1
       have q1_0_0 : w1.cell? ⟨w.heap.size, 0, none⟩ = some (.int .i64 N.id) := by
         rw [hb1.cell (p := ⟨w.heap.size, 0, none⟩) (show w.heap.size < _ by (try simp) <;> (try omega))]
         first | assumption | (simp [go_sem, *])
       have q1_0_1 : w1.cell? ⟨w.heap.size, 1, none⟩ = some (.int .i64 N.nodes) := by
         rw [hb1.cell (p := ⟨w.heap.size, 1, none⟩) (show w.heap.size < _ by (try simp) <;> (try omega))]
         first | assumption | (simp [go_sem, *])
       have q1_0_2 : w1.cell? ⟨w.heap.size, 2, none⟩ = some (.int .i64 N.term) := by
         rw [hb1.cell (p := ⟨w.heap.size, 2, none⟩) (show w.heap.size < _ by (try simp) <;> (try omega))]
         first | assumption | (simp [go_sem, *])
       have q1_0_3 : w1.cell? ⟨w.heap.size, 3, none⟩ = some (.int .i64 N.vote) := by
         rw [hb1.cell (p := ⟨w.heap.size, 3, none⟩) (show w.heap.size < _ by (try simp) <;> (try omega))]
         first | assumption | (simp [go_sem, *])
       have q1_0_4 : w1.cell? ⟨w.heap.size, 4, none⟩ = some (.int .i64 N.role) := by
         rw [hb1.cell (p := ⟨w.heap.size, 4, none⟩) (show w.heap.size < _ by (try simp) <;> (try omega))]
         first | assumption | (simp [go_sem, *])
       have q1_0_5 : w1.cell? ⟨w.heap.size, 5, none⟩ = some (.bool N.up) := by
         rw [hb1.cell (p := ⟨w.heap.size, 5, none⟩) (show w.heap.size < _ by (try simp) <;> (try omega))]
         first | assumption | (simp [go_sem, *])
       have q1_0_6 : w1.cell? ⟨w.heap.size, 6, none⟩ = some (.slice al N.log.length cl) := by
         rw [hb1.cell (p := ⟨w.heap.size, 6, none⟩) (show w.heap.size < _ by (try simp) <;> (try omega))]
         first | assumption | (simp [go_sem, *])
       have q1_0_7 : w1.cell? ⟨w.heap.size, 7, none⟩ = some (.int .i64 N.commit) := by
         rw [hb1.cell (p := ⟨w.heap.size, 7, none⟩) (show w.heap.size < _ by (try simp) <;> (try omega))]
         first | assumption | (simp [go_sem, *])
       have q1_0_8 : w1.cell? ⟨w.heap.size, 8, none⟩ = some (.int .i64 N.elapsed) := by
         rw [hb1.cell (p := ⟨w.heap.size, 8, none⟩) (show w.heap.size < _ by (try simp) <;> (try omega))]
         first | assumption | (simp [go_sem, *])
       have q1_0_9 : w1.cell? ⟨w.heap.size, 9, none⟩ = some (.int .i64 N.wait) := by
         rw [hb1.cell (p := ⟨w.heap.size, 9, none⟩) (show w.heap.size < _ by (try simp) <;> (try omega))]
         first | assumption | (simp [go_sem, *])
       have q1_0_10 : w1.cell? ⟨w.heap.size, 10, none⟩ = some (.slice av N.votes.length cv) := by
         rw [hb1.cell (p := ⟨w.heap.size, 10, none⟩) (show w.heap.size < _ by (try simp) <;> (try omega))]
         first | assumption | (simp [go_sem, *])
       have q1_0_11 : w1.cell? ⟨w.heap.size, 11, none⟩ = some (.slice an N.next.length cn) := by
         rw [hb1.cell (p := ⟨w.heap.size, 11, none⟩) (show w.heap.size < _ by (try simp) <;> (try omega))]
         first | assumption | (simp [go_sem, *])
       have q1_0_12 : w1.cell? ⟨w.heap.size, 12, none⟩ = some (.slice am N.mtch.length cm) := by
         rw [hb1.cell (p := ⟨w.heap.size, 12, none⟩) (show w.heap.size < _ by (try simp) <;> (try omega))]
         first | assumption | (simp [go_sem, *])
       have hl1_0 : w.heap.size < w1.heap.size := by omega
       clear q0_0_0 q0_0_1 q0_0_2 q0_0_3 q0_0_4 q0_0_5 q0_0_6 q0_0_7 q0_0_8 q0_0_9 q0_0_10 q0_0_11 q0_0_12))
  all_goals first
    | (go_ret
       exact ⟨by rw [nodeOK_false (fun h => HNo.out h.toNHead)]; rfl, (by repeat (first | exact Below.refl _ _ | (refine Below.alloc ?_ (by (try simp) <;> (try omega)) _) | (refine Below.setCell ?_ (by (try simp) <;> (try omega)) _) | (refine Below.drew ?_) | (refine Below.trans ?_ (Below.mono (by assumption) (by (try simp) <;> (try omega))))))⟩)
    | exact absurd ⟨g1, by assumption, by assumption, by assumption, by assumption, by first | exact .inl (by assumption) | exact .inr (by assumption) | exact .inr (hml_of (by assumption)), by assumption, by assumption, by assumption, by first | assumption | exact hml_of (by assumption), by first | assumption | exact hml_of (by assumption)⟩ HNo.out
set_option maxRecDepth 100000 in
set_option maxHeartbeats 400000 in
theorem specNode_nodes_no (al : Option Addr) (cl : Nat) (av : Option Addr) (cv : Nat) (an : Option Addr) (cn : Nat) (am : Option Addr) (cm : Nat) (N : NodeV) (w : World) (h : inB N.nodes 1 5 = false) :
    Calls Try.prog 16 #[.agg #[.int .i64 N.id, .int .i64 N.nodes, .int .i64 N.term, .int .i64 N.vote, .int .i64 N.role, .bool N.up, .slice al N.log.length cl, .int .i64 N.commit, .int .i64 N.elapsed, .int .i64 N.wait, .slice av N.votes.length cv, .slice an N.next.length cn, .slice am N.mtch.length cm]] w fun e w' => e = .returned (.bool (nodeOK N)) ∧ Below w.heap.size w w' := by
  have hwi := l08Nodes_c N.nodes
  rw [h] at hwi
  go_enter Try.func16, Try.ntmps16
  simp only [List.append_eq, List.cons_append, List.nil_append]
  go_wp2_with (go_at_call 36; refine (hwi _).mono ?_; rintro e w' ⟨rfl, rfl⟩)
  go_ret
  exact ⟨by rw [nodeOK_false (fun k => by have := k.nodes; rw [h] at this; cases this)]; rfl, (by repeat (first | exact Below.refl _ _ | (refine Below.alloc ?_ (by (try simp) <;> (try omega)) _) | (refine Below.setCell ?_ (by (try simp) <;> (try omega)) _) | (refine Below.drew ?_) | (refine Below.trans ?_ (Below.mono (by assumption) (by (try simp) <;> (try omega))))))⟩
end Go.Proofs.Ytcakldgbhjkkfaa
