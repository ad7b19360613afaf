/- impl.isNode: the two loops. -/
import Derived.Test.YtcakldgbhjkkfaaNodeOK
namespace Go.Proofs.Ytcakldgbhjkkfaa
set_option linter.unusedVariables false
set_option linter.unusedSimpArgs false
open Go.RowKit
set_option maxRecDepth 100000 in
set_option maxHeartbeats 8000000 in
theorem isNode_yes (al : Option Addr) (cl : Nat) (av : Option Addr) (cv : Nat) (an : Option Addr) (cn : Nat) (am : Option Addr) (cm : Nat) (N : NodeV) (w : World) (hN : NodeSl w al av an am N) (hZ : NodeSz N 1048576) (hyes : NHead N) :
    Calls Try.prog 23 #[.agg #[.int .i64 N.id, .int .i64 N.nodes, .int .i64 N.term, .int .i64 N.vote, .int .i64 N.role, .bool N.up, .slice al N.log.length cl, .int .i64 N.commit, .int .i64 N.elapsed, .int .i64 N.wait, .slice av N.votes.length cv, .slice an N.next.length cn, .slice am N.mtch.length cm]] w fun e w' => e = .returned (.bool (nodeOK N)) ∧ Below w.heap.size w w' := by
  have HZ := Lib.hid hZ
  have HY := Lib.hid hyes
  have g1 := hyes.nodes
  have g2 := hyes.id
  have g3 := hyes.st
  have g4 := hyes.vote
  have g5 := hyes.role
  have g6 := hyes.commit
  have g7 := hyes.elapsed
  have g8 := hyes.wait
  have g9 := hyes.nl
  have g10 : ((N.mtch.length : Int) != N.nodes) = false := by simp [hyes.ml]
  have hin : 1 ≤ N.nodes ∧ N.nodes ≤ 5 := by have := g1; simp [inB] at this; omega
  obtain ⟨h1, h5⟩ := hin
  have z0 := hZ.votes
  have z1 := hZ.log
  have z2 := hZ.next
  have z3 := hZ.mtch
  clear hZ
  have g4' : decide (N.nodes ≤ N.vote) = false := by simpa using g4
  have hud : N.up = true ∨ (N.up = false ∧ N.role = 0) := by
    rcases hyes.up with h | h
    · exact .inl h
    · cases hu : N.up
      · exact .inr ⟨rfl, h⟩
      · exact .inl rfl
  rcases hud with hup | ⟨hup, hro⟩
  all_goals
    clear hyes
    go_enter Try.func23, Try.ntmps23
    simp only [List.append_eq, List.cons_append, List.nil_append]
    go_wp2_with (first
      | (go_at_call 24; refine (within_c _ _ _ _).mono ?_; rintro e w' ⟨rfl, rfl⟩)
      | (go_at_call 44
         refine (isState_c al cl N.log N.term N.vote _ (hN.log.alloc _) HZ.out.log HZ.out.data).mono ?_
         rintro e w1 ⟨rfl, hb1⟩
         have hz1 := hb1.size
         try simp at hz1
         have q1_0_0 : w1.cell? ⟨w.heap.size, 0, none⟩ = some (.int .i64 N.id) := by
           rw [hb1.cell (p := ⟨w.heap.size, 0, none⟩) (show w.heap.size < _ by (try simp) <;> (try omega))]
           first | assumption | (simp [go_sem, *])
         have q1_0_1 : w1.cell? ⟨w.heap.size, 1, none⟩ = some (.int .i64 N.nodes) := by
           rw [hb1.cell (p := ⟨w.heap.size, 1, none⟩) (show w.heap.size < _ by (try simp) <;> (try omega))]
           first | assumption | (simp [go_sem, *])
         have q1_0_2 : w1.cell? ⟨w.heap.size, 2, none⟩ = some (.int .i64 N.term) := by
           rw [hb1.cell (p := ⟨w.heap.size, 2, none⟩) (show w.heap.size < _ by (try simp) <;> (try omega))]
           first | assumption | (simp [go_sem, *])
         have q1_0_3 : w1.cell? ⟨w.heap.size, 3, none⟩ = some (.int .i64 N.vote) := by
           rw [hb1.cell (p := ⟨w.heap.size, 3, none⟩) (show w.heap.size < _ by (try simp) <;> (try omega))]
           first | assumption | (simp [go_sem, *])
         have q1_0_4 : w1.cell? ⟨w.heap.size, 4, none⟩ = some (.int .i64 N.role) := by
           rw [hb1.cell (p := ⟨w.heap.size, 4, none⟩) (show w.heap.size < _ by (try simp) <;> (try omega))]
           first | assumption | (simp [go_sem, *])
         have q1_0_5 : w1.cell? ⟨w.heap.size, 5, none⟩ = some (.bool N.up) := by
           rw [hb1.cell (p := ⟨w.heap.size, 5, none⟩) (show w.heap.size < _ by (try simp) <;> (try omega))]
           first | assumption | (simp [go_sem, *])
         have q1_0_6 : w1.cell? ⟨w.heap.size, 6, none⟩ = some (.slice al N.log.length cl) := by
           rw [hb1.cell (p := ⟨w.heap.size, 6, none⟩) (show w.heap.size < _ by (try simp) <;> (try omega))]
           first | assumption | (simp [go_sem, *])
         have q1_0_7 : w1.cell? ⟨w.heap.size, 7, none⟩ = some (.int .i64 N.commit) := by
           rw [hb1.cell (p := ⟨w.heap.size, 7, none⟩) (show w.heap.size < _ by (try simp) <;> (try omega))]
           first | assumption | (simp [go_sem, *])
         have q1_0_8 : w1.cell? ⟨w.heap.size, 8, none⟩ = some (.int .i64 N.elapsed) := by
           rw [hb1.cell (p := ⟨w.heap.size, 8, none⟩) (show w.heap.size < _ by (try simp) <;> (try omega))]
           first | assumption | (simp [go_sem, *])
         have q1_0_9 : w1.cell? ⟨w.heap.size, 9, none⟩ = some (.int .i64 N.wait) := by
           rw [hb1.cell (p := ⟨w.heap.size, 9, none⟩) (show w.heap.size < _ by (try simp) <;> (try omega))]
           first | assumption | (simp [go_sem, *])
         have q1_0_10 : w1.cell? ⟨w.heap.size, 10, none⟩ = some (.slice av N.votes.length cv) := by
           rw [hb1.cell (p := ⟨w.heap.size, 10, none⟩) (show w.heap.size < _ by (try simp) <;> (try omega))]
           first | assumption | (simp [go_sem, *])
         have q1_0_11 : w1.cell? ⟨w.heap.size, 11, none⟩ = some (.slice an N.next.length cn) := by
           rw [hb1.cell (p := ⟨w.heap.size, 11, none⟩) (show w.heap.size < _ by (try simp) <;> (try omega))]
           first | assumption | (simp [go_sem, *])
         have q1_0_12 : w1.cell? ⟨w.heap.size, 12, none⟩ = some (.slice am N.mtch.length cm) := by
           rw [hb1.cell (p := ⟨w.heap.size, 12, none⟩) (show w.heap.size < _ by (try simp) <;> (try omega))]
           first | assumption | (simp [go_sem, *])
         have hl1_0 : w.heap.size < w1.heap.size := by omega
         have HB0 : Hid (Below w.heap.size w w1) := (by repeat (first | exact Below.refl _ _ | (refine Below.alloc ?_ (by (try simp) <;> (try omega)) _) | (refine Below.setCell ?_ (by (try simp) <;> (try omega)) _) | (refine Below.drew ?_) | (refine Below.trans ?_ (Below.mono (by assumption) (by (try simp) <;> (try omega))))))
         clear hb1))
  all_goals
    clear g1 g2 g3 g4 g5 g6 g7 g8 g4'
    go_loopw [96] (fun i wr => ∃ k : Nat, k ≤ N.votes.length ∧ i = .int .i64 k ∧ (∀ j, j < k → VoteAt N j) ∧ Below w1.heap.size w1 wr) (fun i _ => N.votes.length - (intOf i).toNat)
    case atStart => exact ⟨0, Nat.zero_le _, rfl, fun j hj => absurd hj (Nat.not_lt_zero _), Below.refl _ _⟩
    case round =>
      obtain ⟨k, hk, rfl, hp, hbel⟩ := hrel
      obtain ⟨w2, hw2⟩ : ∃ x, x = wr := ⟨_, rfl⟩
      subst hw2
      have HP := Lib.hid hp
      clear hp
      by_cases hlt : k < N.votes.length
      · obtain ⟨b1, o1, rfl, hb1, hc1⟩ := ((hN.votes.keep HB0.out).keep hbel).at hlt
        have c1 := hc1 k hlt 0 (by omega)
        simp only [intE, Nat.mul_one, Nat.add_zero, List.getElem?_cons_zero] at c1
        have hz2 := hbel.size
        try simp at hz2
        have q2_0_0 : w2.cell? ⟨w.heap.size, 0, none⟩ = some (.int .i64 N.id) := by
          rw [hbel.cell (p := ⟨w.heap.size, 0, none⟩) (show w.heap.size < _ by (try simp) <;> (try omega))]
          first | assumption | (simp [go_sem, *])
        have q2_0_1 : w2.cell? ⟨w.heap.size, 1, none⟩ = some (.int .i64 N.nodes) := by
          rw [hbel.cell (p := ⟨w.heap.size, 1, none⟩) (show w.heap.size < _ by (try simp) <;> (try omega))]
          first | assumption | (simp [go_sem, *])
        have q2_0_2 : w2.cell? ⟨w.heap.size, 2, none⟩ = some (.int .i64 N.term) := by
          rw [hbel.cell (p := ⟨w.heap.size, 2, none⟩) (show w.heap.size < _ by (try simp) <;> (try omega))]
          first | assumption | (simp [go_sem, *])
        have q2_0_3 : w2.cell? ⟨w.heap.size, 3, none⟩ = some (.int .i64 N.vote) := by
          rw [hbel.cell (p := ⟨w.heap.size, 3, none⟩) (show w.heap.size < _ by (try simp) <;> (try omega))]
          first | assumption | (simp [go_sem, *])
        have q2_0_4 : w2.cell? ⟨w.heap.size, 4, none⟩ = some (.int .i64 N.role) := by
          rw [hbel.cell (p := ⟨w.heap.size, 4, none⟩) (show w.heap.size < _ by (try simp) <;> (try omega))]
          first | assumption | (simp [go_sem, *])
        have q2_0_5 : w2.cell? ⟨w.heap.size, 5, none⟩ = some (.bool N.up) := by
          rw [hbel.cell (p := ⟨w.heap.size, 5, none⟩) (show w.heap.size < _ by (try simp) <;> (try omega))]
          first | assumption | (simp [go_sem, *])
        have q2_0_6 : w2.cell? ⟨w.heap.size, 6, none⟩ = some (.slice al N.log.length cl) := by
          rw [hbel.cell (p := ⟨w.heap.size, 6, none⟩) (show w.heap.size < _ by (try simp) <;> (try omega))]
          first | assumption | (simp [go_sem, *])
        have q2_0_7 : w2.cell? ⟨w.heap.size, 7, none⟩ = some (.int .i64 N.commit) := by
          rw [hbel.cell (p := ⟨w.heap.size, 7, none⟩) (show w.heap.size < _ by (try simp) <;> (try omega))]
          first | assumption | (simp [go_sem, *])
        have q2_0_8 : w2.cell? ⟨w.heap.size, 8, none⟩ = some (.int .i64 N.elapsed) := by
          rw [hbel.cell (p := ⟨w.heap.size, 8, none⟩) (show w.heap.size < _ by (try simp) <;> (try omega))]
          first | assumption | (simp [go_sem, *])
        have q2_0_9 : w2.cell? ⟨w.heap.size, 9, none⟩ = some (.int .i64 N.wait) := by
          rw [hbel.cell (p := ⟨w.heap.size, 9, none⟩) (show w.heap.size < _ by (try simp) <;> (try omega))]
          first | assumption | (simp [go_sem, *])
        have q2_0_10 : w2.cell? ⟨w.heap.size, 10, none⟩ = some (.slice (some ⟨b1, o1, none⟩) N.votes.length cv) := by
          rw [hbel.cell (p := ⟨w.heap.size, 10, none⟩) (show w.heap.size < _ by (try simp) <;> (try omega))]
          first | assumption | (simp [go_sem, *])
        have q2_0_11 : w2.cell? ⟨w.heap.size, 11, none⟩ = some (.slice an N.next.length cn) := by
          rw [hbel.cell (p := ⟨w.heap.size, 11, none⟩) (show w.heap.size < _ by (try simp) <;> (try omega))]
          first | assumption | (simp [go_sem, *])
        have q2_0_12 : w2.cell? ⟨w.heap.size, 12, none⟩ = some (.slice am N.mtch.length cm) := by
          rw [hbel.cell (p := ⟨w.heap.size, 12, none⟩) (show w.heap.size < _ by (try simp) <;> (try omega))]
          first | assumption | (simp [go_sem, *])
        have hl2_0 : w.heap.size < w2.heap.size := by omega
        clear q1_0_0 q1_0_1 q1_0_2 q1_0_3 q1_0_4 q1_0_5 q1_0_6 q1_0_7 q1_0_8 q1_0_9 q1_0_10 q1_0_11 q1_0_12
        have HBE : Hid (Below w.heap.size w w2) := HB0.out.trans (hbel.mono (by omega))
        cases q1 : inB N.votes[k] 0 (N.nodes - 1)
        · have hwi := within_c N.votes[k] 0 (N.nodes - 1)
          rw [q1] at hwi
          have HW := Lib.hid hwi
          clear hwi hc1
          go_wp2_with (go_at_call 24; refine (HW.out _).mono ?_; rintro e w' ⟨rfl, rfl⟩)
          go_ret
          have hneg : ¬ NOK N := fun h => by
            obtain ⟨_, h1, _⟩ := h.votes k hlt
            rw [q1] at h1
            cases h1
          exact ⟨by rw [nodeOK_false hneg]; rfl, HBE.out⟩
        · have hwi := within_c N.votes[k] 0 (N.nodes - 1)
          rw [q1] at hwi
          have HW := Lib.hid hwi
          have Q1 := Lib.hid q1
          clear hwi q1
          by_cases q3 : k = 0
          · have f2 : decide (0 < k) = false := by simp; omega
            have Q3 := Lib.hid q3
            clear hc1 q3
            go_wp2_with (go_at_call 24; refine (HW.out _).mono ?_; rintro e w' ⟨rfl, rfl⟩)
            go_roundw
            case rel =>
              refine ⟨k + 1, by omega, by go_num, fun j hj => ?_, hbel⟩
              rcases Nat.lt_succ_iff_lt_or_eq.1 hj with h | rfl
              · exact HP.out j h
              · exact ⟨hlt, Q1.out, fun h0 => absurd Q3.out (by omega)⟩
            case measure => simp [intOf]; omega
          · have e1 := hc1 (k - 1) (by omega) 0 (by omega)
            simp only [intE, Nat.mul_one, Nat.add_zero, List.getElem?_cons_zero] at e1
            have f2 : decide (0 < k) = true := by simp; omega
            have Q3 := Lib.hid q3
            have q3' : 1 ≤ k := by omega
            clear hc1 q3
            by_cases q4 : N.votes[k - 1] < N.votes[k]
            · have f3 : decide (N.votes[k] ≤ N.votes[k - 1]) = false := by simp; omega
              go_wp2_with (go_at_call 24; refine (HW.out _).mono ?_; rintro e w' ⟨rfl, rfl⟩)
              go_roundw
              case rel =>
                refine ⟨k + 1, by omega, by go_num, fun j hj => ?_, hbel⟩
                rcases Nat.lt_succ_iff_lt_or_eq.1 hj with h | rfl
                · exact HP.out j h
                · exact ⟨hlt, Q1.out, fun h0 => q4⟩
              case measure => simp [intOf]; omega
            · have f3 : decide (N.votes[k] ≤ N.votes[k - 1]) = true := by simp; omega
              go_wp2_with (go_at_call 24; refine (HW.out _).mono ?_; rintro e w' ⟨rfl, rfl⟩)
              go_ret
              have hneg : ¬ NOK N := fun h => by
                obtain ⟨_, _, h2⟩ := h.votes k hlt
                have := h2 (by omega)
                omega
              exact ⟨by rw [nodeOK_false hneg]; rfl, HBE.out⟩
      · obtain rfl : k = N.votes.length := by omega
        have hz2 := hbel.size
        try simp at hz2
        have q2_0_0 : w2.cell? ⟨w.heap.size, 0, none⟩ = some (.int .i64 N.id) := by
          rw [hbel.cell (p := ⟨w.heap.size, 0, none⟩) (show w.heap.size < _ by (try simp) <;> (try omega))]
          first | assumption | (simp [go_sem, *])
        have q2_0_1 : w2.cell? ⟨w.heap.size, 1, none⟩ = some (.int .i64 N.nodes) := by
          rw [hbel.cell (p := ⟨w.heap.size, 1, none⟩) (show w.heap.size < _ by (try simp) <;> (try omega))]
          first | assumption | (simp [go_sem, *])
        have q2_0_2 : w2.cell? ⟨w.heap.size, 2, none⟩ = some (.int .i64 N.term) := by
          rw [hbel.cell (p := ⟨w.heap.size, 2, none⟩) (show w.heap.size < _ by (try simp) <;> (try omega))]
          first | assumption | (simp [go_sem, *])
        have q2_0_3 : w2.cell? ⟨w.heap.size, 3, none⟩ = some (.int .i64 N.vote) := by
          rw [hbel.cell (p := ⟨w.heap.size, 3, none⟩) (show w.heap.size < _ by (try simp) <;> (try omega))]
          first | assumption | (simp [go_sem, *])
        have q2_0_4 : w2.cell? ⟨w.heap.size, 4, none⟩ = some (.int .i64 N.role) := by
          rw [hbel.cell (p := ⟨w.heap.size, 4, none⟩) (show w.heap.size < _ by (try simp) <;> (try omega))]
          first | assumption | (simp [go_sem, *])
        have q2_0_5 : w2.cell? ⟨w.heap.size, 5, none⟩ = some (.bool N.up) := by
          rw [hbel.cell (p := ⟨w.heap.size, 5, none⟩) (show w.heap.size < _ by (try simp) <;> (try omega))]
          first | assumption | (simp [go_sem, *])
        have q2_0_6 : w2.cell? ⟨w.heap.size, 6, none⟩ = some (.slice al N.log.length cl) := by
          rw [hbel.cell (p := ⟨w.heap.size, 6, none⟩) (show w.heap.size < _ by (try simp) <;> (try omega))]
          first | assumption | (simp [go_sem, *])
        have q2_0_7 : w2.cell? ⟨w.heap.size, 7, none⟩ = some (.int .i64 N.commit) := by
          rw [hbel.cell (p := ⟨w.heap.size, 7, none⟩) (show w.heap.size < _ by (try simp) <;> (try omega))]
          first | assumption | (simp [go_sem, *])
        have q2_0_8 : w2.cell? ⟨w.heap.size, 8, none⟩ = some (.int .i64 N.elapsed) := by
          rw [hbel.cell (p := ⟨w.heap.size, 8, none⟩) (show w.heap.size < _ by (try simp) <;> (try omega))]
          first | assumption | (simp [go_sem, *])
        have q2_0_9 : w2.cell? ⟨w.heap.size, 9, none⟩ = some (.int .i64 N.wait) := by
          rw [hbel.cell (p := ⟨w.heap.size, 9, none⟩) (show w.heap.size < _ by (try simp) <;> (try omega))]
          first | assumption | (simp [go_sem, *])
        have q2_0_10 : w2.cell? ⟨w.heap.size, 10, none⟩ = some (.slice av N.votes.length cv) := by
          rw [hbel.cell (p := ⟨w.heap.size, 10, none⟩) (show w.heap.size < _ by (try simp) <;> (try omega))]
          first | assumption | (simp [go_sem, *])
        have q2_0_11 : w2.cell? ⟨w.heap.size, 11, none⟩ = some (.slice an N.next.length cn) := by
          rw [hbel.cell (p := ⟨w.heap.size, 11, none⟩) (show w.heap.size < _ by (try simp) <;> (try omega))]
          first | assumption | (simp [go_sem, *])
        have q2_0_12 : w2.cell? ⟨w.heap.size, 12, none⟩ = some (.slice am N.mtch.length cm) := by
          rw [hbel.cell (p := ⟨w.heap.size, 12, none⟩) (show w.heap.size < _ by (try simp) <;> (try omega))]
          first | assumption | (simp [go_sem, *])
        have hl2_0 : w.heap.size < w2.heap.size := by omega
        clear q1_0_0 q1_0_1 q1_0_2 q1_0_3 q1_0_4 q1_0_5 q1_0_6 q1_0_7 q1_0_8 q1_0_9 q1_0_10 q1_0_11 q1_0_12
        have HBE : Hid (Below w.heap.size w w2) := HB0.out.trans (hbel.mono (by omega))
        go_wp2_with fail
        go_loopw [125] (fun i wr => ∃ k : Nat, k ≤ N.next.length ∧ i = .int .i64 k ∧ (∀ j, j < k → NextAt N j) ∧ Below w2.heap.size w2 wr) (fun i _ => N.next.length - (intOf i).toNat)
        case atStart => exact ⟨0, Nat.zero_le _, rfl, fun j hj => absurd hj (Nat.not_lt_zero _), Below.refl _ _⟩
        case round =>
          obtain ⟨k, hk2, rfl, hp2, hbel2⟩ := hrel
          obtain ⟨w3, hw3⟩ : ∃ x, x = wr := ⟨_, rfl⟩
          subst hw3
          have HP2 := Lib.hid hp2
          clear hp2
          by_cases hlt : k < N.next.length
          · have hlt2 : k < N.mtch.length := by have := HY.out.ml; omega
            obtain ⟨b1, o1, rfl, hb1, hc1⟩ := ((hN.next.keep HBE.out).keep hbel2).at hlt
            have c1 := hc1 k hlt 0 (by omega)
            simp only [intE, Nat.mul_one, Nat.add_zero, List.getElem?_cons_zero] at c1
            obtain ⟨b2, o2, rfl, hb2, hc2⟩ := ((hN.mtch.keep HBE.out).keep hbel2).at hlt2
            have c2 := hc2 k hlt2 0 (by omega)
            simp only [intE, Nat.mul_one, Nat.add_zero, List.getElem?_cons_zero] at c2
            clear hc1 hc2
            have hz3 := hbel2.size
            try simp at hz3
            have q3_0_0 : w3.cell? ⟨w.heap.size, 0, none⟩ = some (.int .i64 N.id) := by
              rw [hbel2.cell (p := ⟨w.heap.size, 0, none⟩) (show w.heap.size < _ by (try simp) <;> (try omega))]
              first | assumption | (simp [go_sem, *])
            have q3_0_1 : w3.cell? ⟨w.heap.size, 1, none⟩ = some (.int .i64 N.nodes) := by
              rw [hbel2.cell (p := ⟨w.heap.size, 1, none⟩) (show w.heap.size < _ by (try simp) <;> (try omega))]
              first | assumption | (simp [go_sem, *])
            have q3_0_2 : w3.cell? ⟨w.heap.size, 2, none⟩ = some (.int .i64 N.term) := by
              rw [hbel2.cell (p := ⟨w.heap.size, 2, none⟩) (show w.heap.size < _ by (try simp) <;> (try omega))]
              first | assumption | (simp [go_sem, *])
            have q3_0_3 : w3.cell? ⟨w.heap.size, 3, none⟩ = some (.int .i64 N.vote) := by
              rw [hbel2.cell (p := ⟨w.heap.size, 3, none⟩) (show w.heap.size < _ by (try simp) <;> (try omega))]
              first | assumption | (simp [go_sem, *])
            have q3_0_4 : w3.cell? ⟨w.heap.size, 4, none⟩ = some (.int .i64 N.role) := by
              rw [hbel2.cell (p := ⟨w.heap.size, 4, none⟩) (show w.heap.size < _ by (try simp) <;> (try omega))]
              first | assumption | (simp [go_sem, *])
            have q3_0_5 : w3.cell? ⟨w.heap.size, 5, none⟩ = some (.bool N.up) := by
              rw [hbel2.cell (p := ⟨w.heap.size, 5, none⟩) (show w.heap.size < _ by (try simp) <;> (try omega))]
              first | assumption | (simp [go_sem, *])
            have q3_0_6 : w3.cell? ⟨w.heap.size, 6, none⟩ = some (.slice al N.log.length cl) := by
              rw [hbel2.cell (p := ⟨w.heap.size, 6, none⟩) (show w.heap.size < _ by (try simp) <;> (try omega))]
              first | assumption | (simp [go_sem, *])
            have q3_0_7 : w3.cell? ⟨w.heap.size, 7, none⟩ = some (.int .i64 N.commit) := by
              rw [hbel2.cell (p := ⟨w.heap.size, 7, none⟩) (show w.heap.size < _ by (try simp) <;> (try omega))]
              first | assumption | (simp [go_sem, *])
            have q3_0_8 : w3.cell? ⟨w.heap.size, 8, none⟩ = some (.int .i64 N.elapsed) := by
              rw [hbel2.cell (p := ⟨w.heap.size, 8, none⟩) (show w.heap.size < _ by (try simp) <;> (try omega))]
              first | assumption | (simp [go_sem, *])
            have q3_0_9 : w3.cell? ⟨w.heap.size, 9, none⟩ = some (.int .i64 N.wait) := by
              rw [hbel2.cell (p := ⟨w.heap.size, 9, none⟩) (show w.heap.size < _ by (try simp) <;> (try omega))]
              first | assumption | (simp [go_sem, *])
            have q3_0_10 : w3.cell? ⟨w.heap.size, 10, none⟩ = some (.slice av N.votes.length cv) := by
              rw [hbel2.cell (p := ⟨w.heap.size, 10, none⟩) (show w.heap.size < _ by (try simp) <;> (try omega))]
              first | assumption | (simp [go_sem, *])
            have q3_0_11 : w3.cell? ⟨w.heap.size, 11, none⟩ = some (.slice (some ⟨b1, o1, none⟩) N.next.length cn) := by
              rw [hbel2.cell (p := ⟨w.heap.size, 11, none⟩) (show w.heap.size < _ by (try simp) <;> (try omega))]
              first | assumption | (simp [go_sem, *])
            have q3_0_12 : w3.cell? ⟨w.heap.size, 12, none⟩ = some (.slice (some ⟨b2, o2, none⟩) N.mtch.length cm) := by
              rw [hbel2.cell (p := ⟨w.heap.size, 12, none⟩) (show w.heap.size < _ by (try simp) <;> (try omega))]
              first | assumption | (simp [go_sem, *])
            have hl3_0 : w.heap.size < w3.heap.size := by omega
            clear q2_0_0 q2_0_1 q2_0_2 q2_0_3 q2_0_4 q2_0_5 q2_0_6 q2_0_7 q2_0_8 q2_0_9 q2_0_10 q2_0_11 q2_0_12
            have HBF : Hid (Below w.heap.size w w3) := HBE.out.trans (hbel2.mono (by omega))
            cases q1 : inB N.next[k] 1 (N.log.length + 1)
            · go_wp2_with (go_at_call 24; refine (within_c _ _ _ _).mono ?_; rintro e w' ⟨rfl, rfl⟩)
              go_ret
              have hneg : ¬ NOK N := fun h => by
                obtain ⟨_, _, h1, _⟩ := h.next k hlt
                rw [q1] at h1
                cases h1
              exact ⟨by rw [nodeOK_false hneg]; rfl, HBF.out⟩
            · have hq : 1 ≤ N.next[k] ∧ N.next[k] ≤ 1048577 := by
                have := q1
                simp [inB] at this
                omega
              obtain ⟨hq1, hq2⟩ := hq
              cases q2 : inB N.mtch[k] 0 (N.next[k] - 1)
              · go_wp2_with (go_at_call 24; refine (within_c _ _ _ _).mono ?_; rintro e w' ⟨rfl, rfl⟩)
                go_ret
                have hneg : ¬ NOK N := fun h => by
                  obtain ⟨_, _, _, h1⟩ := h.next k hlt
                  rw [q2] at h1
                  cases h1
                exact ⟨by rw [nodeOK_false hneg]; rfl, HBF.out⟩
              · go_wp2_with (go_at_call 24; refine (within_c _ _ _ _).mono ?_; rintro e w' ⟨rfl, rfl⟩)
                go_roundw
                case rel =>
                  refine ⟨k + 1, by omega, by go_num, fun j hj => ?_, hbel2⟩
                  rcases Nat.lt_succ_iff_lt_or_eq.1 hj with h | rfl
                  · exact HP2.out j h
                  · exact ⟨hlt, hlt2, q1, q2⟩
                case measure => simp [intOf]; omega
          · obtain rfl : k = N.next.length := by omega
            have hpos : NOK N := ⟨HY.out, HP.out, HP2.out⟩
            go_wp2_with fail
            go_ret
            exact ⟨by rw [nodeOK_true hpos]; rfl, HBE.out.trans (hbel2.mono (by omega))⟩
theorem isNode_c (al : Option Addr) (cl : Nat) (av : Option Addr) (cv : Nat) (an : Option Addr) (cn : Nat) (am : Option Addr) (cm : Nat) (N : NodeV) (w : World) (hN : NodeSl w al av an am N) (hZ : NodeSz N 1048576) :
    Calls Try.prog 23 #[.agg #[.int .i64 N.id, .int .i64 N.nodes, .int .i64 N.term, .int .i64 N.vote, .int .i64 N.role, .bool N.up, .slice al N.log.length cl, .int .i64 N.commit, .int .i64 N.elapsed, .int .i64 N.wait, .slice av N.votes.length cv, .slice an N.next.length cn, .slice am N.mtch.length cm]] w fun e w' => e = .returned (.bool (nodeOK N)) ∧ Below w.heap.size w w' := by
  by_cases h : NHead N
  · exact isNode_yes al cl av cv an cn am cm N w hN hZ h
  · cases q : inB N.nodes 1 5
    · exact isNode_nodes_no al cl av cv an cn am cm N w q
    · have : 1 ≤ N.nodes ∧ N.nodes ≤ 5 := by simp [inB] at q; omega
      exact isNode_head_no al cl av cv an cn am cm N w hN hZ this.1 this.2 h
end Go.Proofs.Ytcakldgbhjkkfaa
