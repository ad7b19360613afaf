/- NodePropose of both. No conditions but sizes. -/
import Derived.Test.YtcakldgbhjkkfaaPrpA
import Derived.Test.YtcakldgbhjkkfaaNodeOK4
import Derived.Deep.DeepCutAuto
import Derived.Test.YtcakldgbhjkkfaaClu11
namespace Go.Proofs.Ytcakldgbhjkkfaa
set_option linter.unusedVariables false
set_option linter.unusedSimpArgs false
section
open Go.RowKit
set_option maxRecDepth 100000 in
set_option maxHeartbeats 16000000 in
theorem implProp_c (al : Option Addr) (cl : Nat) (av : Option Addr) (cv : Nat) (an : Option Addr) (cn : Nat) (am : Option Addr) (cm : Nat) (N : NodeV) (d : ByteArray) (w : World) (hN : NodeSl w al av an am N) (hZ : NodeSz N 1048576) (hd : d.size ≤ 1048576) :
    Calls Try.prog 7 #[.agg #[.int .i64 N.id, .int .i64 N.nodes, .int .i64 N.term, .int .i64 N.vote, .int .i64 N.role, .bool N.up, .slice al N.log.length cl, .int .i64 N.commit, .int .i64 N.elapsed, .int .i64 N.wait, .slice av N.votes.length cv, .slice an N.next.length cn, .slice am N.mtch.length cm], .string d] w (PropI (propR N d) w) := by
  have HN := Lib.hid hN
  have HZ := Lib.hid hZ
  clear hN hZ
  cases hl : longP (d.size : Int)
  case true =>
    have HR := Lib.hid (propR_long (N := N) hl)
    have HL := Lib.hid hl
    clear hl
    go_enter Try.func7, Try.ntmps7
    go_wp2_with fail
    refine Calls.mono (isLong1_c _ (d.size) _ _ ?_ ?_) ?_
    · simp
    · simp [go_sem]
    rw [HL.out]
    rintro e w1 ⟨rfl, rfl⟩
    go_wp2_with fail
    refine bodyPost_ret (v := .tuple #[.agg #[.int .i64 0, .int .i64 0, .int .i64 0, .int .i64 0, .int .i64 0, .bool false, .slice none 0 0, .int .i64 0, .int .i64 0, .int .i64 0, .slice none 0 0, .slice none 0 0, .slice none 0 0], .slice none 0 0, .int .i64 2]) (by simp [results, Try.results7, go_sem]) rfl ?_
    rw [HR.out]
    refine ⟨none, 0, none, 0, none, 0, none, 0, [], none, 0, w.heap.size, rfl, rfl, FreshNodeX.zero _ _ (Nat.le_refl _) _, ?_, SaI.nil _ _, ?_⟩
    · simp [World.setCell]; try omega
    · exact (by repeat (first | exact Below.refl _ _ | (refine Below.alloc ?_ (by (try simp) <;> (try omega)) _) | (refine Below.setCell ?_ (by (try simp) <;> (try omega)) _) | (refine Below.drew ?_) | (refine Below.trans ?_ (Below.mono (by assumption) (by (try simp) <;> (try omega))))))
  case false =>
    have HL := Lib.hid hl
    clear hl
    go_enter Try.func7, Try.ntmps7
    go_wp2_with fail
    refine Calls.mono (isLong1_c _ (d.size) _ _ ?_ ?_) ?_
    · simp
    · simp [go_sem]
    rw [HL.out]
    rintro e w1 ⟨rfl, rfl⟩
    have HB0 : Hid (Below w.heap.size w (((w.alloc (.cells #[.int .i64 N.id, .int .i64 N.nodes, .int .i64 N.term, .int .i64 N.vote, .int .i64 N.role, .bool N.up, .slice al N.log.length cl, .int .i64 N.commit, .int .i64 N.elapsed, .int .i64 N.wait, .slice av N.votes.length cv, .slice an N.next.length cn, .slice am N.mtch.length cm] 29)).alloc (.cells #[.int .i64 0, .int .i64 0, .int .i64 0, .int .i64 0, .int .i64 0, .bool false, .slice none 0 0, .int .i64 0, .int .i64 0, .int .i64 0, .slice none 0 0, .slice none 0 0, .slice none 0 0] 29)).alloc (.cells #[.int .i64 d.size] 3))) := Lib.hid ((((Below.refl w.heap.size w).alloc (Nat.le_refl _) _).alloc (by simp) _).alloc (by simp; omega) _)
    go_wp2_with fail
    refine (isNode_c al cl av cv an cn am cm N _ (HN.out.keep HB0.out) HZ.out).mono ?_
    rintro e x1 ⟨rfl, hb1⟩
    have hz1 := hb1.size
    simp only [World.size_alloc] at hz1
    have HB1 : Hid (Below w.heap.size w x1) := Lib.hid (HB0.out.trans (hb1.mono (by simp; omega)))
    have q1_0_0 : x1.cell? ⟨w.heap.size, 0, none⟩ = some (.int .i64 N.id) := (hb1.cell (p := ⟨w.heap.size, 0, none⟩) (by show w.heap.size < _; (try simp) <;> omega)).trans (by simp [go_sem])
    have q1_0_1 : x1.cell? ⟨w.heap.size, 1, none⟩ = some (.int .i64 N.nodes) := (hb1.cell (p := ⟨w.heap.size, 1, none⟩) (by show w.heap.size < _; (try simp) <;> omega)).trans (by simp [go_sem])
    have q1_0_2 : x1.cell? ⟨w.heap.size, 2, none⟩ = some (.int .i64 N.term) := (hb1.cell (p := ⟨w.heap.size, 2, none⟩) (by show w.heap.size < _; (try simp) <;> omega)).trans (by simp [go_sem])
    have q1_0_3 : x1.cell? ⟨w.heap.size, 3, none⟩ = some (.int .i64 N.vote) := (hb1.cell (p := ⟨w.heap.size, 3, none⟩) (by show w.heap.size < _; (try simp) <;> omega)).trans (by simp [go_sem])
    have q1_0_4 : x1.cell? ⟨w.heap.size, 4, none⟩ = some (.int .i64 N.role) := (hb1.cell (p := ⟨w.heap.size, 4, none⟩) (by show w.heap.size < _; (try simp) <;> omega)).trans (by simp [go_sem])
    have q1_0_5 : x1.cell? ⟨w.heap.size, 5, none⟩ = some (.bool N.up) := (hb1.cell (p := ⟨w.heap.size, 5, none⟩) (by show w.heap.size < _; (try simp) <;> omega)).trans (by simp [go_sem])
    have q1_0_6 : x1.cell? ⟨w.heap.size, 6, none⟩ = some (.slice al N.log.length cl) := (hb1.cell (p := ⟨w.heap.size, 6, none⟩) (by show w.heap.size < _; (try simp) <;> omega)).trans (by simp [go_sem])
    have q1_0_7 : x1.cell? ⟨w.heap.size, 7, none⟩ = some (.int .i64 N.commit) := (hb1.cell (p := ⟨w.heap.size, 7, none⟩) (by show w.heap.size < _; (try simp) <;> omega)).trans (by simp [go_sem])
    have q1_0_8 : x1.cell? ⟨w.heap.size, 8, none⟩ = some (.int .i64 N.elapsed) := (hb1.cell (p := ⟨w.heap.size, 8, none⟩) (by show w.heap.size < _; (try simp) <;> omega)).trans (by simp [go_sem])
    have q1_0_9 : x1.cell? ⟨w.heap.size, 9, none⟩ = some (.int .i64 N.wait) := (hb1.cell (p := ⟨w.heap.size, 9, none⟩) (by show w.heap.size < _; (try simp) <;> omega)).trans (by simp [go_sem])
    have q1_0_10 : x1.cell? ⟨w.heap.size, 10, none⟩ = some (.slice av N.votes.length cv) := (hb1.cell (p := ⟨w.heap.size, 10, none⟩) (by show w.heap.size < _; (try simp) <;> omega)).trans (by simp [go_sem])
    have q1_0_11 : x1.cell? ⟨w.heap.size, 11, none⟩ = some (.slice an N.next.length cn) := (hb1.cell (p := ⟨w.heap.size, 11, none⟩) (by show w.heap.size < _; (try simp) <;> omega)).trans (by simp [go_sem])
    have q1_0_12 : x1.cell? ⟨w.heap.size, 12, none⟩ = some (.slice am N.mtch.length cm) := (hb1.cell (p := ⟨w.heap.size, 12, none⟩) (by show w.heap.size < _; (try simp) <;> omega)).trans (by simp [go_sem])
    have q1_1_0 : x1.cell? ⟨w.heap.size + 1, 0, none⟩ = some (.int .i64 0) := (hb1.cell (p := ⟨w.heap.size + 1, 0, none⟩) (by show w.heap.size + 1 < _; (try simp) <;> omega)).trans (by simp [go_sem])
    have q1_1_1 : x1.cell? ⟨w.heap.size + 1, 1, none⟩ = some (.int .i64 0) := (hb1.cell (p := ⟨w.heap.size + 1, 1, none⟩) (by show w.heap.size + 1 < _; (try simp) <;> omega)).trans (by simp [go_sem])
    have q1_1_2 : x1.cell? ⟨w.heap.size + 1, 2, none⟩ = some (.int .i64 0) := (hb1.cell (p := ⟨w.heap.size + 1, 2, none⟩) (by show w.heap.size + 1 < _; (try simp) <;> omega)).trans (by simp [go_sem])
    have q1_1_3 : x1.cell? ⟨w.heap.size + 1, 3, none⟩ = some (.int .i64 0) := (hb1.cell (p := ⟨w.heap.size + 1, 3, none⟩) (by show w.heap.size + 1 < _; (try simp) <;> omega)).trans (by simp [go_sem])
    have q1_1_4 : x1.cell? ⟨w.heap.size + 1, 4, none⟩ = some (.int .i64 0) := (hb1.cell (p := ⟨w.heap.size + 1, 4, none⟩) (by show w.heap.size + 1 < _; (try simp) <;> omega)).trans (by simp [go_sem])
    have q1_1_5 : x1.cell? ⟨w.heap.size + 1, 5, none⟩ = some (.bool false) := (hb1.cell (p := ⟨w.heap.size + 1, 5, none⟩) (by show w.heap.size + 1 < _; (try simp) <;> omega)).trans (by simp [go_sem])
    have q1_1_6 : x1.cell? ⟨w.heap.size + 1, 6, none⟩ = some (.slice none 0 0) := (hb1.cell (p := ⟨w.heap.size + 1, 6, none⟩) (by show w.heap.size + 1 < _; (try simp) <;> omega)).trans (by simp [go_sem])
    have q1_1_7 : x1.cell? ⟨w.heap.size + 1, 7, none⟩ = some (.int .i64 0) := (hb1.cell (p := ⟨w.heap.size + 1, 7, none⟩) (by show w.heap.size + 1 < _; (try simp) <;> omega)).trans (by simp [go_sem])
    have q1_1_8 : x1.cell? ⟨w.heap.size + 1, 8, none⟩ = some (.int .i64 0) := (hb1.cell (p := ⟨w.heap.size + 1, 8, none⟩) (by show w.heap.size + 1 < _; (try simp) <;> omega)).trans (by simp [go_sem])
    have q1_1_9 : x1.cell? ⟨w.heap.size + 1, 9, none⟩ = some (.int .i64 0) := (hb1.cell (p := ⟨w.heap.size + 1, 9, none⟩) (by show w.heap.size + 1 < _; (try simp) <;> omega)).trans (by simp [go_sem])
    have q1_1_10 : x1.cell? ⟨w.heap.size + 1, 10, none⟩ = some (.slice none 0 0) := (hb1.cell (p := ⟨w.heap.size + 1, 10, none⟩) (by show w.heap.size + 1 < _; (try simp) <;> omega)).trans (by simp [go_sem])
    have q1_1_11 : x1.cell? ⟨w.heap.size + 1, 11, none⟩ = some (.slice none 0 0) := (hb1.cell (p := ⟨w.heap.size + 1, 11, none⟩) (by show w.heap.size + 1 < _; (try simp) <;> omega)).trans (by simp [go_sem])
    have q1_1_12 : x1.cell? ⟨w.heap.size + 1, 12, none⟩ = some (.slice none 0 0) := (hb1.cell (p := ⟨w.heap.size + 1, 12, none⟩) (by show w.heap.size + 1 < _; (try simp) <;> omega)).trans (by simp [go_sem])
    have f1 : ∀ o, x1.frozen? ⟨w.heap.size + 1, o, none⟩ = false := fun o => (hb1.frozen (p := ⟨w.heap.size + 1, o, none⟩) (by show w.heap.size + 1 < _; (try simp) <;> omega)).trans (by simp [go_sem])
    have hl1 : w.heap.size < x1.heap.size := by omega
    have hk1 : w.heap.size + 1 < x1.heap.size := by omega
    clear hb1 HB0
    cases ho : nodeOK N
    case false =>
      have HR := Lib.hid (propR_bad HL.out ho)
      clear ho
      go_wp2_with fail
      refine bodyPost_ret (v := .tuple #[.agg #[.int .i64 0, .int .i64 0, .int .i64 0, .int .i64 0, .int .i64 0, .bool false, .slice none 0 0, .int .i64 0, .int .i64 0, .int .i64 0, .slice none 0 0, .slice none 0 0, .slice none 0 0], .slice none 0 0, .int .i64 1]) (by simp [results, Try.results7, go_sem, q1_1_0, q1_1_1, q1_1_2, q1_1_3, q1_1_4, q1_1_5, q1_1_6, q1_1_7, q1_1_8, q1_1_9, q1_1_10, q1_1_11, q1_1_12, f1, hk1]) rfl ?_
      rw [HR.out]
      refine ⟨none, 0, none, 0, none, 0, none, 0, [], none, 0, w.heap.size, rfl, rfl, FreshNodeX.zero _ _ (Nat.le_refl _) _, ?_, SaI.nil _ _, ?_⟩
      · simp [World.setCell]; try omega
      · repeat (first | (with_reducible exact HB1.out) | (with_reducible refine Below.setCell ?_ ?_ _; rotate_left; (first | (show w.heap.size ≤ w.heap.size + 1; omega))))
    case true =>
      have HO := Lib.hid ho
      clear ho
      cases hr : inB (d.size : Int) 1 400
      case false =>
        have HR := Lib.hid (propR_range HL.out HO.out hr)
        have HI := Lib.hid hr
        clear hr
        go_wp2_with (go_at_call 24; refine (within_c _ _ _ _).mono ?_; rw [HI.out]; rintro e w' ⟨rfl, rfl⟩)
        refine bodyPost_ret (v := .tuple #[.agg #[.int .i64 0, .int .i64 0, .int .i64 0, .int .i64 0, .int .i64 0, .bool false, .slice none 0 0, .int .i64 0, .int .i64 0, .int .i64 0, .slice none 0 0, .slice none 0 0, .slice none 0 0], .slice none 0 0, .int .i64 4]) (by simp [results, Try.results7, go_sem, q1_1_0, q1_1_1, q1_1_2, q1_1_3, q1_1_4, q1_1_5, q1_1_6, q1_1_7, q1_1_8, q1_1_9, q1_1_10, q1_1_11, q1_1_12, f1, hk1]) rfl ?_
        rw [HR.out]
        refine ⟨none, 0, none, 0, none, 0, none, 0, [], none, 0, w.heap.size, rfl, rfl, FreshNodeX.zero _ _ (Nat.le_refl _) _, ?_, SaI.nil _ _, ?_⟩
        · simp [World.setCell]; try omega
        · repeat (first | (with_reducible exact HB1.out) | (with_reducible refine Below.setCell ?_ ?_ _; rotate_left; (first | (show w.heap.size ≤ w.heap.size + 1; omega))))
      case true =>
        have HI := Lib.hid hr
        clear hr
        go_wp2_with (go_at_call 24; refine (within_c _ _ _ _).mono ?_; rw [HI.out]; rintro e w' ⟨rfl, rfl⟩)
        refine (cloneNode_c al cl av cv an cn am cm N _ (HN.out.keep HB1.out) HZ.out).mono ?_
        rintro e x2 ⟨al2, cl2, av2, cv2, an2, cn2, am2, cm2, rfl, hf2, hb2⟩
        have hz2 := hb2.size
        have HB2 : Hid (Below w.heap.size w x2) := Lib.hid (HB1.out.trans (hb2.mono (by omega)))
        have HF2 := Lib.hid hf2
        have q2_0_0 : x2.cell? ⟨w.heap.size, 0, none⟩ = some (.int .i64 N.id) := (hb2.cell (p := ⟨w.heap.size, 0, none⟩) (by show w.heap.size < _; (try simp) <;> omega)).trans (q1_0_0)
        have q2_0_1 : x2.cell? ⟨w.heap.size, 1, none⟩ = some (.int .i64 N.nodes) := (hb2.cell (p := ⟨w.heap.size, 1, none⟩) (by show w.heap.size < _; (try simp) <;> omega)).trans (q1_0_1)
        have q2_0_2 : x2.cell? ⟨w.heap.size, 2, none⟩ = some (.int .i64 N.term) := (hb2.cell (p := ⟨w.heap.size, 2, none⟩) (by show w.heap.size < _; (try simp) <;> omega)).trans (q1_0_2)
        have q2_0_3 : x2.cell? ⟨w.heap.size, 3, none⟩ = some (.int .i64 N.vote) := (hb2.cell (p := ⟨w.heap.size, 3, none⟩) (by show w.heap.size < _; (try simp) <;> omega)).trans (q1_0_3)
        have q2_0_4 : x2.cell? ⟨w.heap.size, 4, none⟩ = some (.int .i64 N.role) := (hb2.cell (p := ⟨w.heap.size, 4, none⟩) (by show w.heap.size < _; (try simp) <;> omega)).trans (q1_0_4)
        have q2_0_5 : x2.cell? ⟨w.heap.size, 5, none⟩ = some (.bool N.up) := (hb2.cell (p := ⟨w.heap.size, 5, none⟩) (by show w.heap.size < _; (try simp) <;> omega)).trans (q1_0_5)
        have q2_0_6 : x2.cell? ⟨w.heap.size, 6, none⟩ = some (.slice al N.log.length cl) := (hb2.cell (p := ⟨w.heap.size, 6, none⟩) (by show w.heap.size < _; (try simp) <;> omega)).trans (q1_0_6)
        have q2_0_7 : x2.cell? ⟨w.heap.size, 7, none⟩ = some (.int .i64 N.commit) := (hb2.cell (p := ⟨w.heap.size, 7, none⟩) (by show w.heap.size < _; (try simp) <;> omega)).trans (q1_0_7)
        have q2_0_8 : x2.cell? ⟨w.heap.size, 8, none⟩ = some (.int .i64 N.elapsed) := (hb2.cell (p := ⟨w.heap.size, 8, none⟩) (by show w.heap.size < _; (try simp) <;> omega)).trans (q1_0_8)
        have q2_0_9 : x2.cell? ⟨w.heap.size, 9, none⟩ = some (.int .i64 N.wait) := (hb2.cell (p := ⟨w.heap.size, 9, none⟩) (by show w.heap.size < _; (try simp) <;> omega)).trans (q1_0_9)
        have q2_0_10 : x2.cell? ⟨w.heap.size, 10, none⟩ = some (.slice av N.votes.length cv) := (hb2.cell (p := ⟨w.heap.size, 10, none⟩) (by show w.heap.size < _; (try simp) <;> omega)).trans (q1_0_10)
        have q2_0_11 : x2.cell? ⟨w.heap.size, 11, none⟩ = some (.slice an N.next.length cn) := (hb2.cell (p := ⟨w.heap.size, 11, none⟩) (by show w.heap.size < _; (try simp) <;> omega)).trans (q1_0_11)
        have q2_0_12 : x2.cell? ⟨w.heap.size, 12, none⟩ = some (.slice am N.mtch.length cm) := (hb2.cell (p := ⟨w.heap.size, 12, none⟩) (by show w.heap.size < _; (try simp) <;> omega)).trans (q1_0_12)
        have q2_1_0 : x2.cell? ⟨w.heap.size + 1, 0, none⟩ = some (.int .i64 0) := (hb2.cell (p := ⟨w.heap.size + 1, 0, none⟩) (by show w.heap.size + 1 < _; (try simp) <;> omega)).trans (q1_1_0)
        have q2_1_1 : x2.cell? ⟨w.heap.size + 1, 1, none⟩ = some (.int .i64 0) := (hb2.cell (p := ⟨w.heap.size + 1, 1, none⟩) (by show w.heap.size + 1 < _; (try simp) <;> omega)).trans (q1_1_1)
        have q2_1_2 : x2.cell? ⟨w.heap.size + 1, 2, none⟩ = some (.int .i64 0) := (hb2.cell (p := ⟨w.heap.size + 1, 2, none⟩) (by show w.heap.size + 1 < _; (try simp) <;> omega)).trans (q1_1_2)
        have q2_1_3 : x2.cell? ⟨w.heap.size + 1, 3, none⟩ = some (.int .i64 0) := (hb2.cell (p := ⟨w.heap.size + 1, 3, none⟩) (by show w.heap.size + 1 < _; (try simp) <;> omega)).trans (q1_1_3)
        have q2_1_4 : x2.cell? ⟨w.heap.size + 1, 4, none⟩ = some (.int .i64 0) := (hb2.cell (p := ⟨w.heap.size + 1, 4, none⟩) (by show w.heap.size + 1 < _; (try simp) <;> omega)).trans (q1_1_4)
        have q2_1_5 : x2.cell? ⟨w.heap.size + 1, 5, none⟩ = some (.bool false) := (hb2.cell (p := ⟨w.heap.size + 1, 5, none⟩) (by show w.heap.size + 1 < _; (try simp) <;> omega)).trans (q1_1_5)
        have q2_1_6 : x2.cell? ⟨w.heap.size + 1, 6, none⟩ = some (.slice none 0 0) := (hb2.cell (p := ⟨w.heap.size + 1, 6, none⟩) (by show w.heap.size + 1 < _; (try simp) <;> omega)).trans (q1_1_6)
        have q2_1_7 : x2.cell? ⟨w.heap.size + 1, 7, none⟩ = some (.int .i64 0) := (hb2.cell (p := ⟨w.heap.size + 1, 7, none⟩) (by show w.heap.size + 1 < _; (try simp) <;> omega)).trans (q1_1_7)
        have q2_1_8 : x2.cell? ⟨w.heap.size + 1, 8, none⟩ = some (.int .i64 0) := (hb2.cell (p := ⟨w.heap.size + 1, 8, none⟩) (by show w.heap.size + 1 < _; (try simp) <;> omega)).trans (q1_1_8)
        have q2_1_9 : x2.cell? ⟨w.heap.size + 1, 9, none⟩ = some (.int .i64 0) := (hb2.cell (p := ⟨w.heap.size + 1, 9, none⟩) (by show w.heap.size + 1 < _; (try simp) <;> omega)).trans (q1_1_9)
        have q2_1_10 : x2.cell? ⟨w.heap.size + 1, 10, none⟩ = some (.slice none 0 0) := (hb2.cell (p := ⟨w.heap.size + 1, 10, none⟩) (by show w.heap.size + 1 < _; (try simp) <;> omega)).trans (q1_1_10)
        have q2_1_11 : x2.cell? ⟨w.heap.size + 1, 11, none⟩ = some (.slice none 0 0) := (hb2.cell (p := ⟨w.heap.size + 1, 11, none⟩) (by show w.heap.size + 1 < _; (try simp) <;> omega)).trans (q1_1_11)
        have q2_1_12 : x2.cell? ⟨w.heap.size + 1, 12, none⟩ = some (.slice none 0 0) := (hb2.cell (p := ⟨w.heap.size + 1, 12, none⟩) (by show w.heap.size + 1 < _; (try simp) <;> omega)).trans (q1_1_12)
        have f2 : ∀ o, x2.frozen? ⟨w.heap.size + 1, o, none⟩ = false := fun o => (hb2.frozen (p := ⟨w.heap.size + 1, o, none⟩) (by show w.heap.size + 1 < _; (try simp) <;> omega)).trans (f1 o)
        have hl2 : w.heap.size < x2.heap.size := by omega
        have hk2 : w.heap.size + 1 < x2.heap.size := by omega
        clear q1_0_0 q1_0_1 q1_0_2 q1_0_3 q1_0_4 q1_0_5 q1_0_6 q1_0_7 q1_0_8 q1_0_9 q1_0_10 q1_0_11 q1_0_12 q1_1_0 q1_1_1 q1_1_2 q1_1_3 q1_1_4 q1_1_5 q1_1_6 q1_1_7 q1_1_8 q1_1_9 q1_1_10 q1_1_11 q1_1_12 f1
        clear hb2 hf2 HB1
        have HB3 : Hid (Below w.heap.size w (x2.alloc (.cells #[.int .i64 N.id, .int .i64 N.nodes, .int .i64 N.term, .int .i64 N.vote, .int .i64 N.role, .bool N.up, .slice al2 N.log.length cl2, .int .i64 N.commit, .int .i64 N.elapsed, .int .i64 N.wait, .slice av2 N.votes.length cv2, .slice an2 N.next.length cn2, .slice am2 N.mtch.length cm2] 29))) := Lib.hid (HB2.out.alloc (by omega) _)
        obtain ⟨u, hu⟩ : ∃ u, N.up = u := ⟨_, rfl⟩
        replace q2_0_5 : x2.cell? ⟨w.heap.size, 5, none⟩ = some (.bool u) := q2_0_5.trans (by rw [hu])
        have HU := Lib.hid hu
        clear hu
        cases u
        case false =>
          have HR := Lib.hid (propR_down HL.out HO.out HI.out HU.out)
          go_wp2_with fail
          refine bodyPost_ret (v := .tuple #[.agg #[.int .i64 N.id, .int .i64 N.nodes, .int .i64 N.term, .int .i64 N.vote, .int .i64 N.role, .bool N.up, .slice al2 N.log.length cl2, .int .i64 N.commit, .int .i64 N.elapsed, .int .i64 N.wait, .slice av2 N.votes.length cv2, .slice an2 N.next.length cn2, .slice am2 N.mtch.length cm2], .slice none 0 0, .int .i64 13]) (by simp [results, Try.results7, go_sem, q2_1_0, q2_1_1, q2_1_2, q2_1_3, q2_1_4, q2_1_5, q2_1_6, q2_1_7, q2_1_8, q2_1_9, q2_1_10, q2_1_11, q2_1_12, f2, hk2, hl2]) rfl ?_
          rw [HR.out]
          refine ⟨al2, cl2, av2, cv2, an2, cn2, am2, cm2, [], none, 0, x2.heap.size, rfl, rfl, FreshNodeX.wide (lo := x1.heap.size) (hi := x2.heap.size) ?_ (by omega) (Nat.le_refl _), ?_, SaI.nil _ _, ?_⟩
          · repeat (first | (with_reducible exact HF2.out) | (with_reducible refine FreshNodeX.alloc ?_ _) | (with_reducible refine FreshNodeX.set ?_ ?_ _; rotate_left; (left; show w.heap.size + 1 < x1.heap.size; omega)))
          · simp [World.setCell]
          · repeat (first | (with_reducible exact HB2.out) | (with_reducible refine Below.alloc ?_ ?_ _; rotate_left; (simp [World.setCell]; omega)) | (with_reducible refine Below.setCell ?_ ?_ _; rotate_left; (first | (show w.heap.size ≤ w.heap.size + 1; omega))))
        case true =>
          by_cases hro : N.role = 2
          · skip
            have HRO := Lib.hid hro
            have gro : (N.role != 2) = false := by simp [hro]
            clear hro
            by_cases hlg : N.log.length = 60
            · have HR := Lib.hid (propR_full HL.out HO.out HI.out HU.out HRO.out hlg)
              have glg : ((N.log.length : Int) == 60) = true := by simp [hlg]
              have HLG := Lib.hid hlg
              clear hlg
              go_wp2_with fail
              refine bodyPost_ret (v := .tuple #[.agg #[.int .i64 N.id, .int .i64 N.nodes, .int .i64 N.term, .int .i64 N.vote, .int .i64 N.role, .bool N.up, .slice al2 N.log.length cl2, .int .i64 N.commit, .int .i64 N.elapsed, .int .i64 N.wait, .slice av2 N.votes.length cv2, .slice an2 N.next.length cn2, .slice am2 N.mtch.length cm2], .slice none 0 0, .int .i64 7]) (by simp [results, Try.results7, go_sem, q2_1_0, q2_1_1, q2_1_2, q2_1_3, q2_1_4, q2_1_5, q2_1_6, q2_1_7, q2_1_8, q2_1_9, q2_1_10, q2_1_11, q2_1_12, f2, hk2, hl2]) rfl ?_
              rw [HR.out]
              refine ⟨al2, cl2, av2, cv2, an2, cn2, am2, cm2, [], none, 0, x2.heap.size, rfl, rfl, FreshNodeX.wide (lo := x1.heap.size) (hi := x2.heap.size) ?_ (by omega) (Nat.le_refl _), ?_, SaI.nil _ _, ?_⟩
              · repeat (first | (with_reducible exact HF2.out) | (with_reducible refine FreshNodeX.alloc ?_ _) | (with_reducible refine FreshNodeX.set ?_ ?_ _; rotate_left; (left; show w.heap.size + 1 < x1.heap.size; omega)))
              · simp [World.setCell]
              · repeat (first | (with_reducible exact HB2.out) | (with_reducible refine Below.alloc ?_ ?_ _; rotate_left; (simp [World.setCell]; omega)) | (with_reducible refine Below.setCell ?_ ?_ _; rotate_left; (first | (show w.heap.size ≤ w.heap.size + 1; omega))))
            · have HR := Lib.hid (propR_yes HL.out HO.out HI.out HU.out HRO.out hlg)
              have glg : ((N.log.length : Int) == 60) = false := by simp; omega
              have HLG := Lib.hid hlg
              clear hlg
              obtain ⟨m, hF⟩ := nodeOK_f HO.out
              have HF := Lib.hid hF
              have hl60 := hF.log
              have hm5 := hF.m5
              clear hF
              obtain ⟨iE, hE, hE0, hE1, hE2⟩ := info_parts Try.infoEntry
              obtain ⟨l1, b1, v1, b2, n1, n2, m1, m2, h1, h2, k1, k2, k3, k4⟩ := HF2.out
              have K1 := Lib.hid ((k1.alloc (.cells #[.int .i64 N.id, .int .i64 N.nodes, .int .i64 N.term, .int .i64 N.vote, .int .i64 N.role, .bool N.up, .slice al2 N.log.length cl2, .int .i64 N.commit, .int .i64 N.elapsed, .int .i64 N.wait, .slice av2 N.votes.length cv2, .slice an2 N.next.length cn2, .slice am2 N.mtch.length cm2] 29)).alloc (.cells #[.int .i64 N.term, .string d] 48))
              have K2 := Lib.hid ((k2.alloc (.cells #[.int .i64 N.id, .int .i64 N.nodes, .int .i64 N.term, .int .i64 N.vote, .int .i64 N.role, .bool N.up, .slice al2 N.log.length cl2, .int .i64 N.commit, .int .i64 N.elapsed, .int .i64 N.wait, .slice av2 N.votes.length cv2, .slice an2 N.next.length cn2, .slice am2 N.mtch.length cm2] 29)).alloc (.cells #[.int .i64 N.term, .string d] 48))
              have K3 := Lib.hid ((k3.alloc (.cells #[.int .i64 N.id, .int .i64 N.nodes, .int .i64 N.term, .int .i64 N.vote, .int .i64 N.role, .bool N.up, .slice al2 N.log.length cl2, .int .i64 N.commit, .int .i64 N.elapsed, .int .i64 N.wait, .slice av2 N.votes.length cv2, .slice an2 N.next.length cn2, .slice am2 N.mtch.length cm2] 29)).alloc (.cells #[.int .i64 N.term, .string d] 48))
              have K4 := Lib.hid ((k4.alloc (.cells #[.int .i64 N.id, .int .i64 N.nodes, .int .i64 N.term, .int .i64 N.vote, .int .i64 N.role, .bool N.up, .slice al2 N.log.length cl2, .int .i64 N.commit, .int .i64 N.elapsed, .int .i64 N.wait, .slice av2 N.votes.length cv2, .slice an2 N.next.length cn2, .slice am2 N.mtch.length cm2] 29)).alloc (.cells #[.int .i64 N.term, .string d] 48))
              have HH1 := Lib.hid h1
              have HH2 := Lib.hid h2
              have hsrc : Src Try.prog 2 27 (.slice (some ⟨x2.heap.size + 1, 0, none⟩) 1 1) [((N.term, d) : Ent)].length ([((N.term, d) : Ent)].flatMap entE) ((x2.alloc (.cells #[.int .i64 N.id, .int .i64 N.nodes, .int .i64 N.term, .int .i64 N.vote, .int .i64 N.role, .bool N.up, .slice al2 N.log.length cl2, .int .i64 N.commit, .int .i64 N.elapsed, .int .i64 N.wait, .slice av2 N.votes.length cv2, .slice an2 N.next.length cn2, .slice am2 N.mtch.length cm2] 29)).alloc (.cells #[.int .i64 N.term, .string d] 48)) :=
                Src.ofBox (enc := entE) Try.underlying27 (fun _ => rfl) entOne ((N.term, d) : Ent) _ _ (by simp [entE]) _ (by simp)
              have HSRC := Lib.hid hsrc
              clear k1 k2 k3 k4 hsrc
              go_wp2_with (at_builtin; refine wpList_append_freshG rfl (.tmp 45) (.tmp 50) 27 27 rfl l1 b1 48 iE (.agg #[.int .i64 0, .string ⟨#[]⟩]) 2 24 Try.underlying27 hE hE0 hE1 hE2 rfl (by decide) al2 N.log.length cl2 N.log rfl K1.out (.slice (some ⟨x2.heap.size + 1, 0, none⟩) 1 1) [((N.term, d) : Ent)] rfl HSRC.out (by simp; omega) (by simp; omega) ?_)
              intro a4 c4 x4 us hus hf4 hm4 hk4
              have HUS := hus
              have HF4 := Lib.hid hf4
              have HM4 := Lib.hid hm4
              have HK4 := Lib.hid hk4
              have hz4 := hm4.size
              simp only [World.size_alloc] at hz4
              clear hus hf4 hm4 hk4
              have hul : us.length = N.log.length + 1 := by rw [HUS.out]; simp
              obtain ⟨g, rfl, hg1, hg2, hg3, ho⟩ := HF4.out.block (by omega)
              have F4 := Lib.hid (FreshIn.one HF4.out)
              have h11 := HH1.out
              have hgB : l1 ≤ g ∧ g < b1 ∨ x2.heap.size < g := by
                rcases HK4.out g (by simp [blkOf]) with h | h
                · have := FreshIn.blks K1.out g h
                  omega
                · right
                  omega
              clear ho
              have HUL := Lib.hid hul
              clear hul
              have HB4 : Hid (Below w.heap.size w x4) := Lib.hid ((HB3.out.alloc (by (try simp) <;> (try omega)) _).trans (HM4.out.below (by omega) (by (try simp) <;> (try omega))))
              have s_0 : x4.cell? ⟨x2.heap.size, 0, none⟩ = some (.int .i64 N.id) := (HM4.out.cell (p := ⟨x2.heap.size, 0, none⟩) (by show x2.heap.size < _; (try simp) <;> (try omega)) (.inr (by show b1 ≤ x2.heap.size; omega))).trans (by simp [go_sem])
              have z_0 : x4.cell? ⟨w.heap.size + 1, 0, none⟩ = some (.int .i64 0) := (HM4.out.cell (p := ⟨w.heap.size + 1, 0, none⟩) (by show w.heap.size + 1 < _; (try simp) <;> (try omega)) (.inl (by show w.heap.size + 1 < l1; omega))).trans (((World.cell?_alloc_lt _ _ _ (by show w.heap.size + 1 < _; simp; omega)).trans (World.cell?_alloc_lt _ _ _ hk2)).trans q2_1_0)
              have s_1 : x4.cell? ⟨x2.heap.size, 1, none⟩ = some (.int .i64 N.nodes) := (HM4.out.cell (p := ⟨x2.heap.size, 1, none⟩) (by show x2.heap.size < _; (try simp) <;> (try omega)) (.inr (by show b1 ≤ x2.heap.size; omega))).trans (by simp [go_sem])
              have z_1 : x4.cell? ⟨w.heap.size + 1, 1, none⟩ = some (.int .i64 0) := (HM4.out.cell (p := ⟨w.heap.size + 1, 1, none⟩) (by show w.heap.size + 1 < _; (try simp) <;> (try omega)) (.inl (by show w.heap.size + 1 < l1; omega))).trans (((World.cell?_alloc_lt _ _ _ (by show w.heap.size + 1 < _; simp; omega)).trans (World.cell?_alloc_lt _ _ _ hk2)).trans q2_1_1)
              have s_2 : x4.cell? ⟨x2.heap.size, 2, none⟩ = some (.int .i64 N.term) := (HM4.out.cell (p := ⟨x2.heap.size, 2, none⟩) (by show x2.heap.size < _; (try simp) <;> (try omega)) (.inr (by show b1 ≤ x2.heap.size; omega))).trans (by simp [go_sem])
              have z_2 : x4.cell? ⟨w.heap.size + 1, 2, none⟩ = some (.int .i64 0) := (HM4.out.cell (p := ⟨w.heap.size + 1, 2, none⟩) (by show w.heap.size + 1 < _; (try simp) <;> (try omega)) (.inl (by show w.heap.size + 1 < l1; omega))).trans (((World.cell?_alloc_lt _ _ _ (by show w.heap.size + 1 < _; simp; omega)).trans (World.cell?_alloc_lt _ _ _ hk2)).trans q2_1_2)
              have s_3 : x4.cell? ⟨x2.heap.size, 3, none⟩ = some (.int .i64 N.vote) := (HM4.out.cell (p := ⟨x2.heap.size, 3, none⟩) (by show x2.heap.size < _; (try simp) <;> (try omega)) (.inr (by show b1 ≤ x2.heap.size; omega))).trans (by simp [go_sem])
              have z_3 : x4.cell? ⟨w.heap.size + 1, 3, none⟩ = some (.int .i64 0) := (HM4.out.cell (p := ⟨w.heap.size + 1, 3, none⟩) (by show w.heap.size + 1 < _; (try simp) <;> (try omega)) (.inl (by show w.heap.size + 1 < l1; omega))).trans (((World.cell?_alloc_lt _ _ _ (by show w.heap.size + 1 < _; simp; omega)).trans (World.cell?_alloc_lt _ _ _ hk2)).trans q2_1_3)
              have s_4 : x4.cell? ⟨x2.heap.size, 4, none⟩ = some (.int .i64 N.role) := (HM4.out.cell (p := ⟨x2.heap.size, 4, none⟩) (by show x2.heap.size < _; (try simp) <;> (try omega)) (.inr (by show b1 ≤ x2.heap.size; omega))).trans (by simp [go_sem])
              have z_4 : x4.cell? ⟨w.heap.size + 1, 4, none⟩ = some (.int .i64 0) := (HM4.out.cell (p := ⟨w.heap.size + 1, 4, none⟩) (by show w.heap.size + 1 < _; (try simp) <;> (try omega)) (.inl (by show w.heap.size + 1 < l1; omega))).trans (((World.cell?_alloc_lt _ _ _ (by show w.heap.size + 1 < _; simp; omega)).trans (World.cell?_alloc_lt _ _ _ hk2)).trans q2_1_4)
              have s_5 : x4.cell? ⟨x2.heap.size, 5, none⟩ = some (.bool N.up) := (HM4.out.cell (p := ⟨x2.heap.size, 5, none⟩) (by show x2.heap.size < _; (try simp) <;> (try omega)) (.inr (by show b1 ≤ x2.heap.size; omega))).trans (by simp [go_sem])
              have z_5 : x4.cell? ⟨w.heap.size + 1, 5, none⟩ = some (.bool false) := (HM4.out.cell (p := ⟨w.heap.size + 1, 5, none⟩) (by show w.heap.size + 1 < _; (try simp) <;> (try omega)) (.inl (by show w.heap.size + 1 < l1; omega))).trans (((World.cell?_alloc_lt _ _ _ (by show w.heap.size + 1 < _; simp; omega)).trans (World.cell?_alloc_lt _ _ _ hk2)).trans q2_1_5)
              have s_6 : x4.cell? ⟨x2.heap.size, 6, none⟩ = some (.slice al2 N.log.length cl2) := (HM4.out.cell (p := ⟨x2.heap.size, 6, none⟩) (by show x2.heap.size < _; (try simp) <;> (try omega)) (.inr (by show b1 ≤ x2.heap.size; omega))).trans (by simp [go_sem])
              have z_6 : x4.cell? ⟨w.heap.size + 1, 6, none⟩ = some (.slice none 0 0) := (HM4.out.cell (p := ⟨w.heap.size + 1, 6, none⟩) (by show w.heap.size + 1 < _; (try simp) <;> (try omega)) (.inl (by show w.heap.size + 1 < l1; omega))).trans (((World.cell?_alloc_lt _ _ _ (by show w.heap.size + 1 < _; simp; omega)).trans (World.cell?_alloc_lt _ _ _ hk2)).trans q2_1_6)
              have s_7 : x4.cell? ⟨x2.heap.size, 7, none⟩ = some (.int .i64 N.commit) := (HM4.out.cell (p := ⟨x2.heap.size, 7, none⟩) (by show x2.heap.size < _; (try simp) <;> (try omega)) (.inr (by show b1 ≤ x2.heap.size; omega))).trans (by simp [go_sem])
              have z_7 : x4.cell? ⟨w.heap.size + 1, 7, none⟩ = some (.int .i64 0) := (HM4.out.cell (p := ⟨w.heap.size + 1, 7, none⟩) (by show w.heap.size + 1 < _; (try simp) <;> (try omega)) (.inl (by show w.heap.size + 1 < l1; omega))).trans (((World.cell?_alloc_lt _ _ _ (by show w.heap.size + 1 < _; simp; omega)).trans (World.cell?_alloc_lt _ _ _ hk2)).trans q2_1_7)
              have s_8 : x4.cell? ⟨x2.heap.size, 8, none⟩ = some (.int .i64 N.elapsed) := (HM4.out.cell (p := ⟨x2.heap.size, 8, none⟩) (by show x2.heap.size < _; (try simp) <;> (try omega)) (.inr (by show b1 ≤ x2.heap.size; omega))).trans (by simp [go_sem])
              have z_8 : x4.cell? ⟨w.heap.size + 1, 8, none⟩ = some (.int .i64 0) := (HM4.out.cell (p := ⟨w.heap.size + 1, 8, none⟩) (by show w.heap.size + 1 < _; (try simp) <;> (try omega)) (.inl (by show w.heap.size + 1 < l1; omega))).trans (((World.cell?_alloc_lt _ _ _ (by show w.heap.size + 1 < _; simp; omega)).trans (World.cell?_alloc_lt _ _ _ hk2)).trans q2_1_8)
              have s_9 : x4.cell? ⟨x2.heap.size, 9, none⟩ = some (.int .i64 N.wait) := (HM4.out.cell (p := ⟨x2.heap.size, 9, none⟩) (by show x2.heap.size < _; (try simp) <;> (try omega)) (.inr (by show b1 ≤ x2.heap.size; omega))).trans (by simp [go_sem])
              have z_9 : x4.cell? ⟨w.heap.size + 1, 9, none⟩ = some (.int .i64 0) := (HM4.out.cell (p := ⟨w.heap.size + 1, 9, none⟩) (by show w.heap.size + 1 < _; (try simp) <;> (try omega)) (.inl (by show w.heap.size + 1 < l1; omega))).trans (((World.cell?_alloc_lt _ _ _ (by show w.heap.size + 1 < _; simp; omega)).trans (World.cell?_alloc_lt _ _ _ hk2)).trans q2_1_9)
              have s_10 : x4.cell? ⟨x2.heap.size, 10, none⟩ = some (.slice av2 N.votes.length cv2) := (HM4.out.cell (p := ⟨x2.heap.size, 10, none⟩) (by show x2.heap.size < _; (try simp) <;> (try omega)) (.inr (by show b1 ≤ x2.heap.size; omega))).trans (by simp [go_sem])
              have z_10 : x4.cell? ⟨w.heap.size + 1, 10, none⟩ = some (.slice none 0 0) := (HM4.out.cell (p := ⟨w.heap.size + 1, 10, none⟩) (by show w.heap.size + 1 < _; (try simp) <;> (try omega)) (.inl (by show w.heap.size + 1 < l1; omega))).trans (((World.cell?_alloc_lt _ _ _ (by show w.heap.size + 1 < _; simp; omega)).trans (World.cell?_alloc_lt _ _ _ hk2)).trans q2_1_10)
              have s_11 : x4.cell? ⟨x2.heap.size, 11, none⟩ = some (.slice an2 N.next.length cn2) := (HM4.out.cell (p := ⟨x2.heap.size, 11, none⟩) (by show x2.heap.size < _; (try simp) <;> (try omega)) (.inr (by show b1 ≤ x2.heap.size; omega))).trans (by simp [go_sem])
              have z_11 : x4.cell? ⟨w.heap.size + 1, 11, none⟩ = some (.slice none 0 0) := (HM4.out.cell (p := ⟨w.heap.size + 1, 11, none⟩) (by show w.heap.size + 1 < _; (try simp) <;> (try omega)) (.inl (by show w.heap.size + 1 < l1; omega))).trans (((World.cell?_alloc_lt _ _ _ (by show w.heap.size + 1 < _; simp; omega)).trans (World.cell?_alloc_lt _ _ _ hk2)).trans q2_1_11)
              have s_12 : x4.cell? ⟨x2.heap.size, 12, none⟩ = some (.slice am2 N.mtch.length cm2) := (HM4.out.cell (p := ⟨x2.heap.size, 12, none⟩) (by show x2.heap.size < _; (try simp) <;> (try omega)) (.inr (by show b1 ≤ x2.heap.size; omega))).trans (by simp [go_sem])
              have z_12 : x4.cell? ⟨w.heap.size + 1, 12, none⟩ = some (.slice none 0 0) := (HM4.out.cell (p := ⟨w.heap.size + 1, 12, none⟩) (by show w.heap.size + 1 < _; (try simp) <;> (try omega)) (.inl (by show w.heap.size + 1 < l1; omega))).trans (((World.cell?_alloc_lt _ _ _ (by show w.heap.size + 1 < _; simp; omega)).trans (World.cell?_alloc_lt _ _ _ hk2)).trans q2_1_12)
              have sf : ∀ o, x4.frozen? ⟨x2.heap.size, o, none⟩ = false := fun o => (HM4.out.frozen (p := ⟨x2.heap.size, o, none⟩) (by show x2.heap.size < _; (try simp) <;> (try omega)) (.inr (by show b1 ≤ x2.heap.size; omega))).trans (by simp [go_sem])
              have zf : ∀ o, x4.frozen? ⟨w.heap.size + 1, o, none⟩ = false := fun o => (HM4.out.frozen (p := ⟨w.heap.size + 1, o, none⟩) (by show w.heap.size + 1 < _; (try simp) <;> (try omega)) (.inl (by show w.heap.size + 1 < l1; omega))).trans (((World.frozen?_alloc_past _ _ _ (by show w.heap.size + 1 < _; simp; omega)).trans (World.frozen?_alloc_past _ _ _ hk2)).trans (f2 o))
              have L4 := Lib.hid (F4.out.mid (Mid.setCell (Mid.refl x2.heap.size (x2.heap.size + 1) x4) (p := ⟨x2.heap.size, 6, none⟩) (Nat.le_refl _) (Nat.lt_succ_self _) (.slice (some ⟨g, 0, none⟩) us.length c4)) (by omega))
              have K4m := Lib.hid ((K4.out.mid HM4.out (by omega)).mid (Mid.setCell (Mid.refl x2.heap.size (x2.heap.size + 1) x4) (p := ⟨x2.heap.size, 6, none⟩) (Nat.le_refl _) (Nat.lt_succ_self _) (.slice (some ⟨g, 0, none⟩) us.length c4)) (by omega))
              have K3m := Lib.hid ((K3.out.mid HM4.out (by omega)).mid (Mid.setCell (Mid.refl x2.heap.size (x2.heap.size + 1) x4) (p := ⟨x2.heap.size, 6, none⟩) (Nat.le_refl _) (Nat.lt_succ_self _) (.slice (some ⟨g, 0, none⟩) us.length c4)) (by omega))
              have K2m := Lib.hid ((K2.out.mid HM4.out (by omega)).mid (Mid.setCell (Mid.refl x2.heap.size (x2.heap.size + 1) x4) (p := ⟨x2.heap.size, 6, none⟩) (Nat.le_refl _) (Nat.lt_succ_self _) (.slice (some ⟨g, 0, none⟩) us.length c4)) (by omega))
              have hl4 : x2.heap.size < x4.heap.size := by omega
              have hk4 : w.heap.size + 1 < x4.heap.size := by omega
              have hne : ¬ w.heap.size + 1 = x2.heap.size := by omega
              have hcc : us.length ≤ c4 := fit_of_own F4.out
              clear q2_0_0 q2_0_1 q2_0_2 q2_0_3 q2_0_4 q2_0_5 q2_0_6 q2_0_7 q2_0_8 q2_0_9 q2_0_10 q2_0_11 q2_0_12 q2_1_0 q2_1_1 q2_1_2 q2_1_3 q2_1_4 q2_1_5 q2_1_6 q2_1_7 q2_1_8 q2_1_9 q2_1_10 q2_1_11 q2_1_12 f2 h11
              go_wp2_with fail
              obtain ⟨x5, hx5⟩ : ∃ x5, x4.setCell ⟨x2.heap.size, 6, none⟩ (.slice (some ⟨g, 0, none⟩) us.length c4) = x5 := ⟨_, rfl⟩
              have hz5 : x5.heap.size = x4.heap.size := by rw [← hx5]; simp [World.setCell]
              rw [hx5] at L4 K2m K3m K4m ⊢
              have t_0 : x5.cell? ⟨x2.heap.size, 0, none⟩ = some (.int .i64 N.id) := by rw [← hx5]; simp [go_sem, s_0]
              have y_0 : x5.cell? ⟨w.heap.size + 1, 0, none⟩ = some (.int .i64 0) := by rw [← hx5]; simp [go_sem, z_0, hne]
              have t_1 : x5.cell? ⟨x2.heap.size, 1, none⟩ = some (.int .i64 N.nodes) := by rw [← hx5]; simp [go_sem, s_1]
              have y_1 : x5.cell? ⟨w.heap.size + 1, 1, none⟩ = some (.int .i64 0) := by rw [← hx5]; simp [go_sem, z_1, hne]
              have t_2 : x5.cell? ⟨x2.heap.size, 2, none⟩ = some (.int .i64 N.term) := by rw [← hx5]; simp [go_sem, s_2]
              have y_2 : x5.cell? ⟨w.heap.size + 1, 2, none⟩ = some (.int .i64 0) := by rw [← hx5]; simp [go_sem, z_2, hne]
              have t_3 : x5.cell? ⟨x2.heap.size, 3, none⟩ = some (.int .i64 N.vote) := by rw [← hx5]; simp [go_sem, s_3]
              have y_3 : x5.cell? ⟨w.heap.size + 1, 3, none⟩ = some (.int .i64 0) := by rw [← hx5]; simp [go_sem, z_3, hne]
              have t_4 : x5.cell? ⟨x2.heap.size, 4, none⟩ = some (.int .i64 N.role) := by rw [← hx5]; simp [go_sem, s_4]
              have y_4 : x5.cell? ⟨w.heap.size + 1, 4, none⟩ = some (.int .i64 0) := by rw [← hx5]; simp [go_sem, z_4, hne]
              have t_5 : x5.cell? ⟨x2.heap.size, 5, none⟩ = some (.bool N.up) := by rw [← hx5]; simp [go_sem, s_5]
              have y_5 : x5.cell? ⟨w.heap.size + 1, 5, none⟩ = some (.bool false) := by rw [← hx5]; simp [go_sem, z_5, hne]
              have t_6 : x5.cell? ⟨x2.heap.size, 6, none⟩ = some (.slice (some ⟨g, 0, none⟩) us.length c4) := by rw [← hx5]; simp [go_sem, s_6]
              have y_6 : x5.cell? ⟨w.heap.size + 1, 6, none⟩ = some (.slice none 0 0) := by rw [← hx5]; simp [go_sem, z_6, hne]
              have t_7 : x5.cell? ⟨x2.heap.size, 7, none⟩ = some (.int .i64 N.commit) := by rw [← hx5]; simp [go_sem, s_7]
              have y_7 : x5.cell? ⟨w.heap.size + 1, 7, none⟩ = some (.int .i64 0) := by rw [← hx5]; simp [go_sem, z_7, hne]
              have t_8 : x5.cell? ⟨x2.heap.size, 8, none⟩ = some (.int .i64 N.elapsed) := by rw [← hx5]; simp [go_sem, s_8]
              have y_8 : x5.cell? ⟨w.heap.size + 1, 8, none⟩ = some (.int .i64 0) := by rw [← hx5]; simp [go_sem, z_8, hne]
              have t_9 : x5.cell? ⟨x2.heap.size, 9, none⟩ = some (.int .i64 N.wait) := by rw [← hx5]; simp [go_sem, s_9]
              have y_9 : x5.cell? ⟨w.heap.size + 1, 9, none⟩ = some (.int .i64 0) := by rw [← hx5]; simp [go_sem, z_9, hne]
              have t_10 : x5.cell? ⟨x2.heap.size, 10, none⟩ = some (.slice av2 N.votes.length cv2) := by rw [← hx5]; simp [go_sem, s_10]
              have y_10 : x5.cell? ⟨w.heap.size + 1, 10, none⟩ = some (.slice none 0 0) := by rw [← hx5]; simp [go_sem, z_10, hne]
              have t_11 : x5.cell? ⟨x2.heap.size, 11, none⟩ = some (.slice an2 N.next.length cn2) := by rw [← hx5]; simp [go_sem, s_11]
              have y_11 : x5.cell? ⟨w.heap.size + 1, 11, none⟩ = some (.slice none 0 0) := by rw [← hx5]; simp [go_sem, z_11, hne]
              have t_12 : x5.cell? ⟨x2.heap.size, 12, none⟩ = some (.slice am2 N.mtch.length cm2) := by rw [← hx5]; simp [go_sem, s_12]
              have y_12 : x5.cell? ⟨w.heap.size + 1, 12, none⟩ = some (.slice none 0 0) := by rw [← hx5]; simp [go_sem, z_12, hne]
              have tf : ∀ o, x5.frozen? ⟨x2.heap.size, o, none⟩ = false := fun o => by rw [← hx5]; simp [go_sem, sf]
              have yf : ∀ o, x5.frozen? ⟨w.heap.size + 1, o, none⟩ = false := fun o => by rw [← hx5]; simp [go_sem, zf]
              have HB5 : Hid (Below w.heap.size w x5) := Lib.hid (by rw [← hx5]; exact HB4.out.setCell (by show w.heap.size ≤ x2.heap.size; omega) _)
              clear s_0 z_0 s_1 z_1 s_2 z_2 s_3 z_3 s_4 z_4 s_5 z_5 s_6 z_6 s_7 z_7 s_8 z_8 s_9 z_9 s_10 z_10 s_11 z_11 s_12 z_12 sf zf hx5
              refine (advance_c x2.heap.size (addN N d) (some ⟨g, 0, none⟩) am2 c4 cm2 _ (by omega) t_0 t_1 t_2 (t_6.trans (by rw [HUS.out]; rfl)) t_7 t_12 tf ?_ (K4m.out.sl fun _ => rfl) (by show (N.log ++ [(N.term, d)]).length ≤ _; simp; omega) (by show N.mtch.length ≤ 5; rw [HF.out.ml]; exact hm5) HF.out.commit).mono ?_
              · have h : Sl entE 2 x5 (some ⟨g, 0, none⟩) us := L4.out.sl (fun _ => rfl)
                rw [HUS.out] at h
                exact h
              rintro e x6 ⟨rfl, ha⟩
              obtain ⟨V, hV⟩ : ∃ V, advI (addN N d) (addN N d).log.length = V := ⟨_, rfl⟩
              rw [hV] at ha
              have HV := Lib.hid hV
              have HM6 := Lib.hid ha.mid
              have hz6 := ha.mid.size
              have HB6 : Hid (Below w.heap.size w x6) := Lib.hid (HB5.out.trans (HM6.out.below (by omega) (by omega)))
              have s_0 : x6.cell? ⟨x2.heap.size, 0, none⟩ = some (.int .i64 N.id) := (ha.cell 0 (by decide)).trans t_0
              have z_0 : x6.cell? ⟨w.heap.size + 1, 0, none⟩ = some (.int .i64 0) := (HM6.out.cell (p := ⟨w.heap.size + 1, 0, none⟩) (by show w.heap.size + 1 < _; omega) (.inl (by show w.heap.size + 1 < x2.heap.size; omega))).trans y_0
              have s_1 : x6.cell? ⟨x2.heap.size, 1, none⟩ = some (.int .i64 N.nodes) := (ha.cell 1 (by decide)).trans t_1
              have z_1 : x6.cell? ⟨w.heap.size + 1, 1, none⟩ = some (.int .i64 0) := (HM6.out.cell (p := ⟨w.heap.size + 1, 1, none⟩) (by show w.heap.size + 1 < _; omega) (.inl (by show w.heap.size + 1 < x2.heap.size; omega))).trans y_1
              have s_2 : x6.cell? ⟨x2.heap.size, 2, none⟩ = some (.int .i64 N.term) := (ha.cell 2 (by decide)).trans t_2
              have z_2 : x6.cell? ⟨w.heap.size + 1, 2, none⟩ = some (.int .i64 0) := (HM6.out.cell (p := ⟨w.heap.size + 1, 2, none⟩) (by show w.heap.size + 1 < _; omega) (.inl (by show w.heap.size + 1 < x2.heap.size; omega))).trans y_2
              have s_3 : x6.cell? ⟨x2.heap.size, 3, none⟩ = some (.int .i64 N.vote) := (ha.cell 3 (by decide)).trans t_3
              have z_3 : x6.cell? ⟨w.heap.size + 1, 3, none⟩ = some (.int .i64 0) := (HM6.out.cell (p := ⟨w.heap.size + 1, 3, none⟩) (by show w.heap.size + 1 < _; omega) (.inl (by show w.heap.size + 1 < x2.heap.size; omega))).trans y_3
              have s_4 : x6.cell? ⟨x2.heap.size, 4, none⟩ = some (.int .i64 N.role) := (ha.cell 4 (by decide)).trans t_4
              have z_4 : x6.cell? ⟨w.heap.size + 1, 4, none⟩ = some (.int .i64 0) := (HM6.out.cell (p := ⟨w.heap.size + 1, 4, none⟩) (by show w.heap.size + 1 < _; omega) (.inl (by show w.heap.size + 1 < x2.heap.size; omega))).trans y_4
              have s_5 : x6.cell? ⟨x2.heap.size, 5, none⟩ = some (.bool N.up) := (ha.cell 5 (by decide)).trans t_5
              have z_5 : x6.cell? ⟨w.heap.size + 1, 5, none⟩ = some (.bool false) := (HM6.out.cell (p := ⟨w.heap.size + 1, 5, none⟩) (by show w.heap.size + 1 < _; omega) (.inl (by show w.heap.size + 1 < x2.heap.size; omega))).trans y_5
              have s_6 : x6.cell? ⟨x2.heap.size, 6, none⟩ = some (.slice (some ⟨g, 0, none⟩) us.length c4) := (ha.cell 6 (by decide)).trans t_6
              have z_6 : x6.cell? ⟨w.heap.size + 1, 6, none⟩ = some (.slice none 0 0) := (HM6.out.cell (p := ⟨w.heap.size + 1, 6, none⟩) (by show w.heap.size + 1 < _; omega) (.inl (by show w.heap.size + 1 < x2.heap.size; omega))).trans y_6
              have s_7 : x6.cell? ⟨x2.heap.size, 7, none⟩ = some (.int .i64 V) := ha.c7
              have z_7 : x6.cell? ⟨w.heap.size + 1, 7, none⟩ = some (.int .i64 0) := (HM6.out.cell (p := ⟨w.heap.size + 1, 7, none⟩) (by show w.heap.size + 1 < _; omega) (.inl (by show w.heap.size + 1 < x2.heap.size; omega))).trans y_7
              have s_8 : x6.cell? ⟨x2.heap.size, 8, none⟩ = some (.int .i64 N.elapsed) := (ha.cell 8 (by decide)).trans t_8
              have z_8 : x6.cell? ⟨w.heap.size + 1, 8, none⟩ = some (.int .i64 0) := (HM6.out.cell (p := ⟨w.heap.size + 1, 8, none⟩) (by show w.heap.size + 1 < _; omega) (.inl (by show w.heap.size + 1 < x2.heap.size; omega))).trans y_8
              have s_9 : x6.cell? ⟨x2.heap.size, 9, none⟩ = some (.int .i64 N.wait) := (ha.cell 9 (by decide)).trans t_9
              have z_9 : x6.cell? ⟨w.heap.size + 1, 9, none⟩ = some (.int .i64 0) := (HM6.out.cell (p := ⟨w.heap.size + 1, 9, none⟩) (by show w.heap.size + 1 < _; omega) (.inl (by show w.heap.size + 1 < x2.heap.size; omega))).trans y_9
              have s_10 : x6.cell? ⟨x2.heap.size, 10, none⟩ = some (.slice av2 N.votes.length cv2) := (ha.cell 10 (by decide)).trans t_10
              have z_10 : x6.cell? ⟨w.heap.size + 1, 10, none⟩ = some (.slice none 0 0) := (HM6.out.cell (p := ⟨w.heap.size + 1, 10, none⟩) (by show w.heap.size + 1 < _; omega) (.inl (by show w.heap.size + 1 < x2.heap.size; omega))).trans y_10
              have s_11 : x6.cell? ⟨x2.heap.size, 11, none⟩ = some (.slice an2 N.next.length cn2) := (ha.cell 11 (by decide)).trans t_11
              have z_11 : x6.cell? ⟨w.heap.size + 1, 11, none⟩ = some (.slice none 0 0) := (HM6.out.cell (p := ⟨w.heap.size + 1, 11, none⟩) (by show w.heap.size + 1 < _; omega) (.inl (by show w.heap.size + 1 < x2.heap.size; omega))).trans y_11
              have s_12 : x6.cell? ⟨x2.heap.size, 12, none⟩ = some (.slice am2 N.mtch.length cm2) := (ha.cell 12 (by decide)).trans t_12
              have z_12 : x6.cell? ⟨w.heap.size + 1, 12, none⟩ = some (.slice none 0 0) := (HM6.out.cell (p := ⟨w.heap.size + 1, 12, none⟩) (by show w.heap.size + 1 < _; omega) (.inl (by show w.heap.size + 1 < x2.heap.size; omega))).trans y_12
              have zf : ∀ o, x6.frozen? ⟨w.heap.size + 1, o, none⟩ = false := fun o => (HM6.out.frozen (p := ⟨w.heap.size + 1, o, none⟩) (by show w.heap.size + 1 < _; omega) (.inl (by show w.heap.size + 1 < x2.heap.size; omega))).trans (yf o)
              have L6 := Lib.hid (L4.out.mid HM6.out (by omega))
              have K26 := Lib.hid (K2m.out.mid HM6.out (by omega))
              have K36 := Lib.hid (K3m.out.mid HM6.out (by omega))
              have K46 := Lib.hid (K4m.out.mid HM6.out (by omega))
              clear t_0 y_0 t_1 y_1 t_2 y_2 t_3 y_3 t_4 y_4 t_5 y_5 t_6 y_6 t_7 y_7 t_8 y_8 t_9 y_9 t_10 y_10 t_11 y_11 t_12 y_12 tf yf ha hV
              go_wp2_with fail
              refine (replicateAll_c x2.heap.size g (propN N d) an2 c4 cn2 m _ (by omega) s_0 s_1 s_2 (s_6.trans (by rw [HUS.out]; rfl)) (s_7.trans (by rw [← HV.out]; rfl)) s_11 ?_ (K36.out.sl fun _ => rfl) (by show (N.log ++ [(N.term, d)]).length ≤ _; simp; omega) HF.out.nodes hm5 HF.out.nl ?_ (by have := HUS.out ▸ hcc; exact this)).mono ?_
              · have h : Sl entE 2 x6 (some ⟨g, 0, none⟩) us := L6.out.sl (fun _ => rfl)
                rw [HUS.out] at h
                exact h
              · intro k hk
                have h := HF.out.nx k hk
                refine ⟨h.1, ?_⟩
                show N.next[k] ≤ ((N.log ++ [(N.term, d)]).length : Int)
                simp
                exact h.2
              rintro e x7 ⟨rs, ar, cr, rfl, hrs, hsa, hb7⟩
              have hz7 := hb7.size
              have HB7 : Hid (Below w.heap.size w x7) := Lib.hid (HB6.out.trans (hb7.mono (by omega)))
              have HSA := Lib.hid hsa
              have HRS := Lib.hid hrs
              have t_0 : x7.cell? ⟨x2.heap.size, 0, none⟩ = some (.int .i64 N.id) := (hb7.cell (p := ⟨x2.heap.size, 0, none⟩) (by show x2.heap.size < _; omega)).trans s_0
              have y_0 : x7.cell? ⟨w.heap.size + 1, 0, none⟩ = some (.int .i64 0) := (hb7.cell (p := ⟨w.heap.size + 1, 0, none⟩) (by show w.heap.size + 1 < _; omega)).trans z_0
              have t_1 : x7.cell? ⟨x2.heap.size, 1, none⟩ = some (.int .i64 N.nodes) := (hb7.cell (p := ⟨x2.heap.size, 1, none⟩) (by show x2.heap.size < _; omega)).trans s_1
              have y_1 : x7.cell? ⟨w.heap.size + 1, 1, none⟩ = some (.int .i64 0) := (hb7.cell (p := ⟨w.heap.size + 1, 1, none⟩) (by show w.heap.size + 1 < _; omega)).trans z_1
              have t_2 : x7.cell? ⟨x2.heap.size, 2, none⟩ = some (.int .i64 N.term) := (hb7.cell (p := ⟨x2.heap.size, 2, none⟩) (by show x2.heap.size < _; omega)).trans s_2
              have y_2 : x7.cell? ⟨w.heap.size + 1, 2, none⟩ = some (.int .i64 0) := (hb7.cell (p := ⟨w.heap.size + 1, 2, none⟩) (by show w.heap.size + 1 < _; omega)).trans z_2
              have t_3 : x7.cell? ⟨x2.heap.size, 3, none⟩ = some (.int .i64 N.vote) := (hb7.cell (p := ⟨x2.heap.size, 3, none⟩) (by show x2.heap.size < _; omega)).trans s_3
              have y_3 : x7.cell? ⟨w.heap.size + 1, 3, none⟩ = some (.int .i64 0) := (hb7.cell (p := ⟨w.heap.size + 1, 3, none⟩) (by show w.heap.size + 1 < _; omega)).trans z_3
              have t_4 : x7.cell? ⟨x2.heap.size, 4, none⟩ = some (.int .i64 N.role) := (hb7.cell (p := ⟨x2.heap.size, 4, none⟩) (by show x2.heap.size < _; omega)).trans s_4
              have y_4 : x7.cell? ⟨w.heap.size + 1, 4, none⟩ = some (.int .i64 0) := (hb7.cell (p := ⟨w.heap.size + 1, 4, none⟩) (by show w.heap.size + 1 < _; omega)).trans z_4
              have t_5 : x7.cell? ⟨x2.heap.size, 5, none⟩ = some (.bool N.up) := (hb7.cell (p := ⟨x2.heap.size, 5, none⟩) (by show x2.heap.size < _; omega)).trans s_5
              have y_5 : x7.cell? ⟨w.heap.size + 1, 5, none⟩ = some (.bool false) := (hb7.cell (p := ⟨w.heap.size + 1, 5, none⟩) (by show w.heap.size + 1 < _; omega)).trans z_5
              have t_6 : x7.cell? ⟨x2.heap.size, 6, none⟩ = some (.slice (some ⟨g, 0, none⟩) us.length c4) := (hb7.cell (p := ⟨x2.heap.size, 6, none⟩) (by show x2.heap.size < _; omega)).trans s_6
              have y_6 : x7.cell? ⟨w.heap.size + 1, 6, none⟩ = some (.slice none 0 0) := (hb7.cell (p := ⟨w.heap.size + 1, 6, none⟩) (by show w.heap.size + 1 < _; omega)).trans z_6
              have t_7 : x7.cell? ⟨x2.heap.size, 7, none⟩ = some (.int .i64 V) := (hb7.cell (p := ⟨x2.heap.size, 7, none⟩) (by show x2.heap.size < _; omega)).trans s_7
              have y_7 : x7.cell? ⟨w.heap.size + 1, 7, none⟩ = some (.int .i64 0) := (hb7.cell (p := ⟨w.heap.size + 1, 7, none⟩) (by show w.heap.size + 1 < _; omega)).trans z_7
              have t_8 : x7.cell? ⟨x2.heap.size, 8, none⟩ = some (.int .i64 N.elapsed) := (hb7.cell (p := ⟨x2.heap.size, 8, none⟩) (by show x2.heap.size < _; omega)).trans s_8
              have y_8 : x7.cell? ⟨w.heap.size + 1, 8, none⟩ = some (.int .i64 0) := (hb7.cell (p := ⟨w.heap.size + 1, 8, none⟩) (by show w.heap.size + 1 < _; omega)).trans z_8
              have t_9 : x7.cell? ⟨x2.heap.size, 9, none⟩ = some (.int .i64 N.wait) := (hb7.cell (p := ⟨x2.heap.size, 9, none⟩) (by show x2.heap.size < _; omega)).trans s_9
              have y_9 : x7.cell? ⟨w.heap.size + 1, 9, none⟩ = some (.int .i64 0) := (hb7.cell (p := ⟨w.heap.size + 1, 9, none⟩) (by show w.heap.size + 1 < _; omega)).trans z_9
              have t_10 : x7.cell? ⟨x2.heap.size, 10, none⟩ = some (.slice av2 N.votes.length cv2) := (hb7.cell (p := ⟨x2.heap.size, 10, none⟩) (by show x2.heap.size < _; omega)).trans s_10
              have y_10 : x7.cell? ⟨w.heap.size + 1, 10, none⟩ = some (.slice none 0 0) := (hb7.cell (p := ⟨w.heap.size + 1, 10, none⟩) (by show w.heap.size + 1 < _; omega)).trans z_10
              have t_11 : x7.cell? ⟨x2.heap.size, 11, none⟩ = some (.slice an2 N.next.length cn2) := (hb7.cell (p := ⟨x2.heap.size, 11, none⟩) (by show x2.heap.size < _; omega)).trans s_11
              have y_11 : x7.cell? ⟨w.heap.size + 1, 11, none⟩ = some (.slice none 0 0) := (hb7.cell (p := ⟨w.heap.size + 1, 11, none⟩) (by show w.heap.size + 1 < _; omega)).trans z_11
              have t_12 : x7.cell? ⟨x2.heap.size, 12, none⟩ = some (.slice am2 N.mtch.length cm2) := (hb7.cell (p := ⟨x2.heap.size, 12, none⟩) (by show x2.heap.size < _; omega)).trans s_12
              have y_12 : x7.cell? ⟨w.heap.size + 1, 12, none⟩ = some (.slice none 0 0) := (hb7.cell (p := ⟨w.heap.size + 1, 12, none⟩) (by show w.heap.size + 1 < _; omega)).trans z_12
              have yf : ∀ o, x7.frozen? ⟨w.heap.size + 1, o, none⟩ = false := fun o => (hb7.frozen (p := ⟨w.heap.size + 1, o, none⟩) (by show w.heap.size + 1 < _; omega)).trans (zf o)
              have L7 := Lib.hid (L6.out.below hb7)
              have K27 := Lib.hid (K26.out.below hb7)
              have K37 := Lib.hid (K36.out.below hb7)
              have K47 := Lib.hid (K46.out.below hb7)
              have hk7 : w.heap.size + 1 < x7.heap.size := by omega
              clear s_0 z_0 s_1 z_1 s_2 z_2 s_3 z_3 s_4 z_4 s_5 z_5 s_6 z_6 s_7 z_7 s_8 z_8 s_9 z_9 s_10 z_10 s_11 z_11 s_12 z_12 zf hb7 hsa hrs
              go_wp2_with fail
              refine bodyPost_ret (v := .tuple #[.agg #[.int .i64 N.id, .int .i64 N.nodes, .int .i64 N.term, .int .i64 N.vote, .int .i64 N.role, .bool N.up, .slice (some ⟨g, 0, none⟩) us.length c4, .int .i64 V, .int .i64 N.elapsed, .int .i64 N.wait, .slice av2 N.votes.length cv2, .slice an2 N.next.length cn2, .slice am2 N.mtch.length cm2], .slice ar rs.length cr, .int .i64 0]) (by simp [results, Try.results7, go_sem, y_0, y_1, y_2, y_3, y_4, y_5, y_6, y_7, y_8, y_9, y_10, y_11, y_12, yf, hk7]) rfl ?_
              rw [HR.out]
              have hm : N.nodes.toNat = m := by have := HF.out.nodes; omega
              have h11 := HH1.out
              have h22 := HH2.out
              refine ⟨some ⟨g, 0, none⟩, c4, av2, cv2, an2, cn2, am2, cm2, rs, ar, cr, x6.heap.size, by rw [HUS.out, ← HV.out]; rfl, by rw [HRS.out, hm], ?_, ?_, ?_, ?_⟩
              · have hlog := HUS.out
                have hv := HV.out
                have h := fun w' k2 k3 k4 k1 => FreshNodeX.log (N := N) (w := w') (us := us) (c := V) (mid := x6.heap.size) (lo := w.heap.size) (hi := x2.heap.size) (g := g) (c' := c4) (av := av2) (an := an2) (am := am2) (cv := cv2) (cn := cn2) (cm := cm2) (by omega) h22 k2 k3 k4 k1 (by omega) (by omega) (by omega)
                have hp : propN N d = { N with log := us, commit := V } := by rw [hlog, ← hv]; rfl
                rw [hp]
                apply h
                · repeat (first | (with_reducible exact K27.out) | (with_reducible refine FreshIn.setCell ?_ ?_ _; rotate_left; (show w.heap.size + 1 < v1; omega)))
                · repeat (first | (with_reducible exact K37.out) | (with_reducible refine FreshIn.setCell ?_ ?_ _; rotate_left; (show w.heap.size + 1 < n1; omega)))
                · repeat (first | (with_reducible exact K47.out) | (with_reducible refine FreshIn.setCell ?_ ?_ _; rotate_left; (show w.heap.size + 1 < m1; omega)))
                · repeat (first | (with_reducible exact L7.out) | (with_reducible refine FreshIn.setCell ?_ ?_ _; rotate_left; (show w.heap.size + 1 < g; omega)))
              · simp [World.setCell]; omega
              · repeat (first | (with_reducible exact HSA.out) | (with_reducible refine SaI.setL ?_ ?_ _; rotate_left; (show w.heap.size + 1 < x6.heap.size; omega)))
              · repeat (first | (with_reducible exact HB7.out) | (with_reducible refine Below.setCell ?_ ?_ _; rotate_left; (show w.heap.size ≤ w.heap.size + 1; omega)))
          · have HR := Lib.hid (propR_leader HL.out HO.out HI.out HU.out hro)
            have gro : (N.role != 2) = true := by simpa using hro
            clear hro
            go_wp2_with fail
            refine bodyPost_ret (v := .tuple #[.agg #[.int .i64 N.id, .int .i64 N.nodes, .int .i64 N.term, .int .i64 N.vote, .int .i64 N.role, .bool N.up, .slice al2 N.log.length cl2, .int .i64 N.commit, .int .i64 N.elapsed, .int .i64 N.wait, .slice av2 N.votes.length cv2, .slice an2 N.next.length cn2, .slice am2 N.mtch.length cm2], .slice none 0 0, .int .i64 12]) (by simp [results, Try.results7, go_sem, q2_1_0, q2_1_1, q2_1_2, q2_1_3, q2_1_4, q2_1_5, q2_1_6, q2_1_7, q2_1_8, q2_1_9, q2_1_10, q2_1_11, q2_1_12, f2, hk2, hl2]) rfl ?_
            rw [HR.out]
            refine ⟨al2, cl2, av2, cv2, an2, cn2, am2, cm2, [], none, 0, x2.heap.size, rfl, rfl, FreshNodeX.wide (lo := x1.heap.size) (hi := x2.heap.size) ?_ (by omega) (Nat.le_refl _), ?_, SaI.nil _ _, ?_⟩
            · repeat (first | (with_reducible exact HF2.out) | (with_reducible refine FreshNodeX.alloc ?_ _) | (with_reducible refine FreshNodeX.set ?_ ?_ _; rotate_left; (left; show w.heap.size + 1 < x1.heap.size; omega)))
            · simp [World.setCell]
            · repeat (first | (with_reducible exact HB2.out) | (with_reducible refine Below.alloc ?_ ?_ _; rotate_left; (simp [World.setCell]; omega)) | (with_reducible refine Below.setCell ?_ ?_ _; rotate_left; (first | (show w.heap.size ≤ w.heap.size + 1; omega))))
end
section
open Go.RowKit
section
variable {α : Type} {enc : α → List Value} {w : World}
theorem step_append_freshG {P : Program} {ops : Array Oper} {o : Oper} {a : Act} {K : Act → World → Prop} {Q : Exit → Act → World → Prop} {E : Prop} (hgd : o.guard = none) (s x : Operand) (t tx : TypeId)
    (ho : o.op = .call { callee := .builtin .append, args := #[s, x], argTypes := #[t, tx] })
    (lo hi : Nat) (e : TypeId) (i : TypeInfo) (z : Value) (size bytes : Nat) (ht : P.underlying t = some (.slice e)) (hinfo : P.info? e = some i) (hz : i.zero = some z)
    (hsize : i.size = size) (hby : i.bytes = bytes) (hzs : z.cells.size = size) (hbp : 0 < bytes)
    (ad : Option Addr) (n c : Nat) (zs : List α) (hs : a.eval s = .slice ad n c) (hF : FreshIn enc e size lo hi (.slice ad n c) zs w)
    (xv : Value) (ys : List α) (hx : a.eval x = xv) (hsrc : Src P size tx xv ys.length (ys.flatMap enc) w)
    (hbytes : (zs.length + ys.length) * bytes ≤ 140737488355328) (hlo : lo ≤ w.heap.size)
    (h : ∀ a' c' w' us, Hid (us = zs ++ ys) → FreshIn enc e size lo w'.heap.size (.slice a' us.length c') us w' → Mid lo hi w w' → (∀ k ∈ blkOf a', k ∈ blkOf ad ∨ k = w.heap.size) → K (a.put o.dst (.slice a' us.length c')) w') :
    if Region.wanted o (yielded ops a.tmps) = true then Oper.wp P o a w K Q else E := by
  have hw : Region.wanted o (yielded ops a.tmps) = true := by simp [Region.wanted, hgd]
  rw [if_pos hw]
  have hrow := hF.row
  obtain ⟨⟨a', cap', hv, h1, h2⟩, h3⟩ := hF
  cases hv
  have h63 : zs.length + ys.length ≤ maxLen := by
    have : zs.length + ys.length ≤ (zs.length + ys.length) * bytes := Nat.le_mul_of_pos_right _ hbp
    unfold maxLen; omega
  obtain ⟨v', w', hr, k1, k2, k3⟩ := run_append_own_src (P := P) w lo t tx o.type e i z size bytes ht hinfo hz hsize hby hzs _ zs.length (zs.flatMap enc) h2 xv ys.length (ys.flatMap enc) hsrc h63 hbytes hlo
  have hf : Fresh enc e size lo v' (zs ++ ys) w' := Fresh.of_own k1 (by simp) (by simp)
  obtain ⟨a1, c1, rfl, _⟩ := id hf
  unfold Oper.wp execOp
  simp only [ho, resolve, invoke, builtin, Sem.run_bind, Sem.run_pure, Result.andThen_ok, List.map_toArray, List.map_cons, List.map_nil, hs, hx, hr]
  refine h a1 c1 w' _ rfl hf.here (Mid.of_grown k2 hrow) (fun k hk => ?_)
  have hk' := (blkOf_own (n := (zs ++ ys).length) (c := c1)).1 hk
  rcases k3 with k3 | k3
  · exact .inl ((blkOf_own (n := zs.length) (c := c)).2 (k3 ▸ hk'))
  · rw [k3] at hk'
    exact .inr (Option.some.inj hk').symm
end

theorem Upd.chain {g lo hi : Nat} {S T : Nat → Prop} {a w w' : World} (h : Upd g lo hi S a w) (k : Upd g lo hi T w w') (hT : ∀ i, T i → S i ∨ a.heap.size ≤ i) : Upd g lo hi S a w' :=
  ⟨k.os.trans h.os, k.tape.trans h.tape, k.output.trans h.output, Nat.le_trans h.size k.size, fun i h1 h2 h3 => (k.block i (Nat.lt_of_lt_of_le h1 h.size) h2 (fun t => by
    rcases hT i t with h4 | h4
    · exact h3 h4
    · omega)).trans (h.block i h1 h2 h3), fun o ho => (k.cell o ho).trans (h.cell o ho), fun o => (k.fz o).trans (h.fz o)⟩
theorem SaI.setB {lo B : Nat} {L : List MsgA} {am : Option Addr} {cm : Nat} {w : World} (h : SaI lo L am cm w) (hB : B ∉ blkOf am) (hm : ∀ r ∈ L, B ∉ messageBlk r) (o : Nat) (u : Value) : SaI lo L am cm (w.setCell ⟨B, o, none⟩ u) := by
  have hu : Upd B o (o + 1) (fun _ => False) w (w.setCell ⟨B, o, none⟩ u) := Upd.setCell Upd.refl o (Nat.le_refl _) (Nat.lt_succ_self _) u
  exact ⟨FreshIn.upd h.row hu (fun k hk => ⟨fun e => hB (e ▸ hk), id⟩), RowsG.toM h.gs (by simp [World.setCell]) (fun r hr k => messageOwn.upd k hu (fun b hb => ⟨fun e => hm r hr (e ▸ hb), id⟩)), h.sep⟩
theorem RowNew.drewG {lo : Nat} {w : World} {r : MsgA} (h : RowNew messageOwn messageBlk (fun _ => True) lo w r) : RowNew messageOwn messageBlk (fun _ => True) lo w.drew r :=
  ⟨messageOwn.keep h.ow ((Below.refl _ _).drew), h.nd, fun b hb => by simpa using h.bd b hb, h.sta⟩
/-- What one message more leaves. -/
def RunR (B lo : Nat) (L : List MsgA) (am : Option Addr) (M : MsgV) (w : World) (e : Ending) (w' : World) : Prop :=
  e = .returned (.tuple #[]) ∧ ∃ (r : MsgA) (am' : Option Addr) (cm' : Nat), r.M = M ∧ w'.cell? ⟨B, 13, none⟩ = some (.slice am' (L ++ [r]).length cm') ∧ SaI lo (L ++ [r]) am' cm' w' ∧ Upd B 13 14 (· ∈ blkOf am) w w' ∧ (∀ k ∈ blkOf am', k ∈ blkOf am ∨ w.heap.size ≤ k) ∧ (∀ k ∈ messageBlk r, w.heap.size ≤ k)
set_option maxRecDepth 100000 in
set_option maxHeartbeats 8000000 in
theorem send_c (B lo : Nat) (id term f0 t0 : Int) (M : MsgV) (L : List MsgA) (am ae : Option Addr) (cm ce : Nat) (wS w : World) (hB : B < wS.heap.size)
    (h0 : w.cell? ⟨B, 0, none⟩ = some (.int .i64 id)) (h2 : w.cell? ⟨B, 2, none⟩ = some (.int .i64 term)) (h13 : w.cell? ⟨B, 13, none⟩ = some (.slice am L.length cm)) (hf : ∀ o, w.frozen? ⟨B, o, none⟩ = false)
    (hS : SaI lo L am cm wS) (hlo : lo ≤ wS.heap.size) (hbS : Below wS.heap.size wS w) (hx : RowNew messageOwn messageBlk (fun _ => True) wS.heap.size w ⟨M, ae, ce⟩) (hM : M.src = id ∧ M.term = term) (hne : 0 < M.ents.length)
    (hBa : B ∉ blkOf am) (hBm : ∀ r ∈ L, B ∉ messageBlk r) (hl : L.length ≤ 100) :
    Calls Try.prog 57 #[.pointer (some ⟨B, 0, none⟩), .agg #[.int .i64 M.kind, .int .i64 f0, .int .i64 M.dst, .int .i64 t0, .int .i64 M.index, .int .i64 M.lterm, .int .i64 M.commit, .bool M.ok, .slice ae M.ents.length ce]] w (RunR B lo L am M wS) := by
  have HS := Lib.hid hS
  have HBS := Lib.hid hbS
  have HX := Lib.hid hx
  have HMM := Lib.hid hM
  have HBA := Lib.hid hBa
  have HBM := Lib.hid hBm
  have hzS := hbS.size
  have hBw : B < w.heap.size := by omega
  have hn0 : ((M.ents.length : Int) == 0) = false := beq_eq_false_iff_ne.2 (by omega)
  obtain ⟨i1, hi', hz0', hz1', hz2'⟩ := info_parts Try.infoMessage
  clear hS hbS hx hM hBa hBm hne
  go_enter Try.func57, Try.ntmps57
  go_upto_region 5 with fail
  have hS0 : (w.alloc (.cells #[.int .i64 M.kind, .int .i64 id, .int .i64 M.dst, .int .i64 term, .int .i64 M.index, .int .i64 M.lterm, .int .i64 M.commit, .bool M.ok, .slice ae M.ents.length ce] 54)).cell? ⟨B, 13, none⟩ = some (.slice am L.length cm) ∧ (w.alloc (.cells #[.int .i64 M.kind, .int .i64 id, .int .i64 M.dst, .int .i64 term, .int .i64 M.index, .int .i64 M.lterm, .int .i64 M.commit, .bool M.ok, .slice ae M.ents.length ce] 54)).cell? ⟨w.heap.size, 0, none⟩ = some (.int .i64 M.kind) ∧ (w.alloc (.cells #[.int .i64 M.kind, .int .i64 id, .int .i64 M.dst, .int .i64 term, .int .i64 M.index, .int .i64 M.lterm, .int .i64 M.commit, .bool M.ok, .slice ae M.ents.length ce] 54)).cell? ⟨w.heap.size, 1, none⟩ = some (.int .i64 id) ∧ (w.alloc (.cells #[.int .i64 M.kind, .int .i64 id, .int .i64 M.dst, .int .i64 term, .int .i64 M.index, .int .i64 M.lterm, .int .i64 M.commit, .bool M.ok, .slice ae M.ents.length ce] 54)).cell? ⟨w.heap.size, 2, none⟩ = some (.int .i64 M.dst) ∧ (w.alloc (.cells #[.int .i64 M.kind, .int .i64 id, .int .i64 M.dst, .int .i64 term, .int .i64 M.index, .int .i64 M.lterm, .int .i64 M.commit, .bool M.ok, .slice ae M.ents.length ce] 54)).cell? ⟨w.heap.size, 3, none⟩ = some (.int .i64 term) ∧ (w.alloc (.cells #[.int .i64 M.kind, .int .i64 id, .int .i64 M.dst, .int .i64 term, .int .i64 M.index, .int .i64 M.lterm, .int .i64 M.commit, .bool M.ok, .slice ae M.ents.length ce] 54)).cell? ⟨w.heap.size, 4, none⟩ = some (.int .i64 M.index) ∧ (w.alloc (.cells #[.int .i64 M.kind, .int .i64 id, .int .i64 M.dst, .int .i64 term, .int .i64 M.index, .int .i64 M.lterm, .int .i64 M.commit, .bool M.ok, .slice ae M.ents.length ce] 54)).cell? ⟨w.heap.size, 5, none⟩ = some (.int .i64 M.lterm) ∧ (w.alloc (.cells #[.int .i64 M.kind, .int .i64 id, .int .i64 M.dst, .int .i64 term, .int .i64 M.index, .int .i64 M.lterm, .int .i64 M.commit, .bool M.ok, .slice ae M.ents.length ce] 54)).cell? ⟨w.heap.size, 6, none⟩ = some (.int .i64 M.commit) ∧ (w.alloc (.cells #[.int .i64 M.kind, .int .i64 id, .int .i64 M.dst, .int .i64 term, .int .i64 M.index, .int .i64 M.lterm, .int .i64 M.commit, .bool M.ok, .slice ae M.ents.length ce] 54)).cell? ⟨w.heap.size, 7, none⟩ = some (.bool M.ok) ∧ (w.alloc (.cells #[.int .i64 M.kind, .int .i64 id, .int .i64 M.dst, .int .i64 term, .int .i64 M.index, .int .i64 M.lterm, .int .i64 M.commit, .bool M.ok, .slice ae M.ents.length ce] 54)).cell? ⟨w.heap.size, 8, none⟩ = some (.slice ae M.ents.length ce) := ⟨(World.cell?_alloc_lt _ _ _ hBw).trans h13, by simp [go_sem], by simp [go_sem], by simp [go_sem], by simp [go_sem], by simp [go_sem], by simp [go_sem], by simp [go_sem], by simp [go_sem], by simp [go_sem]⟩
  have hf0 : ∀ o, (w.alloc (.cells #[.int .i64 M.kind, .int .i64 id, .int .i64 M.dst, .int .i64 term, .int .i64 M.index, .int .i64 M.lterm, .int .i64 M.commit, .bool M.ok, .slice ae M.ents.length ce] 54)).frozen? ⟨B, o, none⟩ = false := fun o => (World.frozen?_alloc_past _ _ _ hBw).trans (hf o)
  have HX1 : Hid (RowNew messageOwn messageBlk (fun _ => True) wS.heap.size (w.alloc (.cells #[.int .i64 M.kind, .int .i64 id, .int .i64 M.dst, .int .i64 term, .int .i64 M.index, .int .i64 M.lterm, .int .i64 M.commit, .bool M.ok, .slice ae M.ents.length ce] 54)) ⟨M, ae, ce⟩) := Lib.hid ⟨messageOwn.keep HX.out.ow ((Below.refl _ _).alloc (Nat.le_refl _) _), HX.out.nd, fun b hb => ⟨(HX.out.bd b hb).1, by have := (HX.out.bd b hb).2; simp; omega⟩, trivial⟩
  have HB1 : Hid (Below wS.heap.size wS (w.alloc (.cells #[.int .i64 M.kind, .int .i64 id, .int .i64 M.dst, .int .i64 term, .int .i64 M.index, .int .i64 M.lterm, .int .i64 M.commit, .bool M.ok, .slice ae M.ents.length ce] 54))) := Lib.hid (HBS.out.alloc hzS _)
  have hz1 : w.heap.size < (w.alloc (.cells #[.int .i64 M.kind, .int .i64 id, .int .i64 M.dst, .int .i64 term, .int .i64 M.index, .int .i64 M.lterm, .int .i64 M.commit, .bool M.ok, .slice ae M.ents.length ce] 54)).heap.size := by simp
  have hBX : ¬ B = w.heap.size := by omega
  obtain ⟨x1, hx1⟩ : ∃ x, (w.alloc (.cells #[.int .i64 M.kind, .int .i64 id, .int .i64 M.dst, .int .i64 term, .int .i64 M.index, .int .i64 M.lterm, .int .i64 M.commit, .bool M.ok, .slice ae M.ents.length ce] 54)) = x := ⟨_, rfl⟩
  rw [hx1] at hS0 hf0 HX1 HB1 hz1 ⊢
  clear hx1 HX HBS hf h0 h2 h13
  refine wp_region_G (fun w' => w'.cell? ⟨B, 13, none⟩ = some (.slice am L.length cm) ∧ w'.cell? ⟨w.heap.size, 0, none⟩ = some (.int .i64 M.kind) ∧ w'.cell? ⟨w.heap.size, 1, none⟩ = some (.int .i64 id) ∧ w'.cell? ⟨w.heap.size, 2, none⟩ = some (.int .i64 M.dst) ∧ w'.cell? ⟨w.heap.size, 3, none⟩ = some (.int .i64 term) ∧ w'.cell? ⟨w.heap.size, 4, none⟩ = some (.int .i64 M.index) ∧ w'.cell? ⟨w.heap.size, 5, none⟩ = some (.int .i64 M.lterm) ∧ w'.cell? ⟨w.heap.size, 6, none⟩ = some (.int .i64 M.commit) ∧ w'.cell? ⟨w.heap.size, 7, none⟩ = some (.bool M.ok) ∧ w'.cell? ⟨w.heap.size, 8, none⟩ = some (.slice ae M.ents.length ce)) (fun i => i == 10) (by kernel_rfl) hS0 ?_
  refine wpAnyG_takeW (i := 0) (v := ?_) rfl (by kernel_rfl) (by kernel_rfl) (by kernel_rfl) (fun _ _ _ h => h) (Or.inl ⟨by rfl, ?_⟩) ?_
  rotate_left
  · intro w' hSw
    go_simp
    try (with_reducible rfl)
  try simp only [Act.put, List.getElem_toArray, List.getElem_cons_zero, List.getElem_cons_succ, List.setIfInBounds_toArray, List.set_cons_zero, List.set_cons_succ]
  refine wpAnyG_takeW (i := 1) (v := ?_) rfl (by kernel_rfl) (by kernel_rfl) (by kernel_rfl) (fun _ _ _ h => h) (Or.inl ⟨by rfl, ?_⟩) ?_
  rotate_left
  · intro w' hSw
    go_simp
    try (with_reducible rfl)
  try simp only [Act.put, List.getElem_toArray, List.getElem_cons_zero, List.getElem_cons_succ, List.setIfInBounds_toArray, List.set_cons_zero, List.set_cons_succ]
  refine wpAnyG_takeW (i := 2) (v := ?_) rfl (by kernel_rfl) (by kernel_rfl) (by kernel_rfl) (fun _ _ _ h => h) (Or.inl ⟨by rfl, ?_⟩) ?_
  rotate_left
  · intro w' hSw
    go_simp
    try (with_reducible rfl)
  try simp only [Act.put, List.getElem_toArray, List.getElem_cons_zero, List.getElem_cons_succ, List.setIfInBounds_toArray, List.set_cons_zero, List.set_cons_succ]
  refine wpAnyG_takeW (i := 3) (v := ?_) rfl (by kernel_rfl) (by kernel_rfl) (by kernel_rfl) (fun _ _ _ h => h) (Or.inl ⟨by rfl, ?_⟩) ?_
  rotate_left
  · intro w' hSw
    go_simp
    try (with_reducible rfl)
  try simp only [Act.put, List.getElem_toArray, List.getElem_cons_zero, List.getElem_cons_succ, List.setIfInBounds_toArray, List.set_cons_zero, List.set_cons_succ]
  refine wpAnyG_take (i := 4) (v := ?_) rfl (by kernel_rfl) (by kernel_rfl) (by kernel_rfl) (by kernel_rfl) (fun _ _ _ h => h) hS0 (Or.inl ⟨by rfl, ?_⟩) ?_
  rotate_left
  · intro w' hSw
    obtain ⟨s0, s1, s2, s3, s4, s5, s6, s7, s8, s9⟩ := hSw
    go_simp
    try (with_reducible rfl)
  try simp only [Act.put, List.getElem_toArray, List.getElem_cons_zero, List.getElem_cons_succ, List.setIfInBounds_toArray, List.set_cons_zero, List.set_cons_succ]
  refine wpAnyG_take (i := 5) (v := ?_) rfl (by kernel_rfl) (by kernel_rfl) (by kernel_rfl) (by kernel_rfl) (fun _ _ _ h => h) hS0 (Or.inl ⟨by rfl, ?_⟩) ?_
  rotate_left
  · intro w' hSw
    obtain ⟨s0, s1, s2, s3, s4, s5, s6, s7, s8, s9⟩ := hSw
    go_simp
    try (with_reducible rfl)
  try simp only [Act.put, List.getElem_toArray, List.getElem_cons_zero, List.getElem_cons_succ, List.setIfInBounds_toArray, List.set_cons_zero, List.set_cons_succ]
  refine wpAnyG_one (i := 6) (by kernel_rfl) rfl hS0 (fun K' hK => ?_)
  simp only [List.getElem_toArray, List.getElem_cons_zero, List.getElem_cons_succ]
  go_simp
  have hS1 : ∀ x, (x1.drew.alloc x).cell? ⟨B, 13, none⟩ = some (.slice am L.length cm) ∧ (x1.drew.alloc x).cell? ⟨w.heap.size, 0, none⟩ = some (.int .i64 M.kind) ∧ (x1.drew.alloc x).cell? ⟨w.heap.size, 1, none⟩ = some (.int .i64 id) ∧ (x1.drew.alloc x).cell? ⟨w.heap.size, 2, none⟩ = some (.int .i64 M.dst) ∧ (x1.drew.alloc x).cell? ⟨w.heap.size, 3, none⟩ = some (.int .i64 term) ∧ (x1.drew.alloc x).cell? ⟨w.heap.size, 4, none⟩ = some (.int .i64 M.index) ∧ (x1.drew.alloc x).cell? ⟨w.heap.size, 5, none⟩ = some (.int .i64 M.lterm) ∧ (x1.drew.alloc x).cell? ⟨w.heap.size, 6, none⟩ = some (.int .i64 M.commit) ∧ (x1.drew.alloc x).cell? ⟨w.heap.size, 7, none⟩ = some (.bool M.ok) ∧ (x1.drew.alloc x).cell? ⟨w.heap.size, 8, none⟩ = some (.slice ae M.ents.length ce) := fun x => ⟨(World.cell?_alloc_lt _ _ _ (by show B < x1.heap.size; omega)).trans hS0.1, (World.cell?_alloc_lt _ _ _ hz1).trans hS0.2.1, (World.cell?_alloc_lt _ _ _ hz1).trans hS0.2.2.1, (World.cell?_alloc_lt _ _ _ hz1).trans hS0.2.2.2.1, (World.cell?_alloc_lt _ _ _ hz1).trans hS0.2.2.2.2.1, (World.cell?_alloc_lt _ _ _ hz1).trans hS0.2.2.2.2.2.1, (World.cell?_alloc_lt _ _ _ hz1).trans hS0.2.2.2.2.2.2.1, (World.cell?_alloc_lt _ _ _ hz1).trans hS0.2.2.2.2.2.2.2.1, (World.cell?_alloc_lt _ _ _ hz1).trans hS0.2.2.2.2.2.2.2.2.1, (World.cell?_alloc_lt _ _ _ hz1).trans hS0.2.2.2.2.2.2.2.2.2⟩
  refine hK.out _ _ (Or.inr (hS1 _)) ?_
  clear hK K'
  try simp only [Act.put, List.getElem_toArray, List.getElem_cons_zero, List.getElem_cons_succ, List.setIfInBounds_toArray, List.set_cons_zero, List.set_cons_succ]
  obtain ⟨OB, hOB⟩ : ∃ o : Obj, o = (.cells #[.int .i64 M.kind, .int .i64 id, .int .i64 M.dst, .int .i64 term, .int .i64 M.index, .int .i64 M.lterm, .int .i64 M.commit, .bool M.ok, .slice ae M.ents.length ce] 54) := ⟨_, rfl⟩
  have hsrc : Src Try.prog 9 30 (.slice (some ⟨x1.heap.size, 0, none⟩) 1 1) [(⟨M, ae, ce⟩ : MsgA)].length ([(⟨M, ae, ce⟩ : MsgA)].flatMap msgE) (x1.drew.alloc OB) := by
    subst hOB
    exact Src.ofBox (enc := msgE) Try.underlying30 (fun _ => rfl) msgOne (⟨M, ae, ce⟩ : MsgA) _ _ (by simp [msgE, HMM.out.1, HMM.out.2]) _ (by simp)
  have hS2 := HS.out.keep ((HB1.out.drew).alloc (by simp; omega) OB)
  obtain ⟨b, t2, t3, t4, t5⟩ := hS2.row.tight
  simp only [World.size_alloc, World.size_drew] at t3
  have HSRC := Lib.hid hsrc
  have HT2 := Lib.hid t2
  have HT4 := Lib.hid t4
  have HT5 := Lib.hid t5
  have HS1 := Lib.hid (hS1 OB)
  rw [← hOB]
  clear t2 t4 t5 hsrc hS2 hOB hS1
  have hbL : lo ≤ b ∨ x1.heap.size + 1 ≤ b := by
    rcases Nat.lt_or_ge b (x1.heap.size + 1) with h | h
    · exact .inl (HT5.out (by simpa using h)).2
    · exact .inr h
  refine wpAnyG_one (i := 7) (by kernel_rfl) rfl HS1.out (fun K' hK => ?_)
  refine step_append_freshG (by rfl) (.tmp 26) (.tmp 28) 30 30 (by rfl) b (b + 1) 54 i1 (.agg #[.int .i64 0, .int .i64 0, .int .i64 0, .int .i64 0, .int .i64 0, .int .i64 0, .int .i64 0, .bool false, .slice none 0 0]) 9 88 Try.underlying30 hi' hz0' hz1' hz2' rfl (by decide) am L.length cm L (by rfl) HT2.out (.slice (some ⟨x1.heap.size, 0, none⟩) 1 1) [(⟨M, ae, ce⟩ : MsgA)] (by rfl) HSRC.out (by simp; omega) (by simp; omega) ?_
  intro a3 c3 w4 us hus hf4 hm4 hk4
  have HUS := hus
  have HF4 := Lib.hid hf4
  have HM4 := Lib.hid hm4
  have HK4 := Lib.hid hk4
  have hz4 := hm4.size
  simp only [World.size_alloc, World.size_drew] at hz4
  have hBb : B < b ∨ b + 1 ≤ B := by
    rcases Nat.lt_or_ge B b with h | h
    · exact .inl h
    · rcases Nat.lt_or_ge B (b + 1) with h1 | h1
      · exact absurd (HT4.out B h h1 (by simp; omega)) HBA.out
      · exact .inr h1
  have e_0 : w4.cell? ⟨B, 13, none⟩ = some (.slice am L.length cm) := (HM4.out.cell (p := ⟨B, 13, none⟩) (by show B < _; simp; omega) hBb).trans HS1.out.1
  have e_f : ∀ o, w4.frozen? ⟨B, o, none⟩ = false := fun o => (HM4.out.frozen (p := ⟨B, o, none⟩) (by show B < _; simp; omega) hBb).trans ((World.frozen?_alloc_past _ _ _ (by show B < x1.heap.size; omega)).trans (hf0 o))
  have hbx : w.heap.size < b ∨ b + 1 ≤ w.heap.size := by
    rcases Nat.lt_or_ge b w.heap.size with h | h
    · exact .inr h
    · refine .inl ?_
      rcases Nat.lt_or_ge w.heap.size b with h1 | h1
      · exact h1
      · have hh := (HT5.out (by simp; omega)).1
        have := (HS.out.row.blks b hh).2
        omega
  have hS4 : w4.cell? ⟨B, 13, none⟩ = some (.slice am L.length cm) ∧ w4.cell? ⟨w.heap.size, 0, none⟩ = some (.int .i64 M.kind) ∧ w4.cell? ⟨w.heap.size, 1, none⟩ = some (.int .i64 id) ∧ w4.cell? ⟨w.heap.size, 2, none⟩ = some (.int .i64 M.dst) ∧ w4.cell? ⟨w.heap.size, 3, none⟩ = some (.int .i64 term) ∧ w4.cell? ⟨w.heap.size, 4, none⟩ = some (.int .i64 M.index) ∧ w4.cell? ⟨w.heap.size, 5, none⟩ = some (.int .i64 M.lterm) ∧ w4.cell? ⟨w.heap.size, 6, none⟩ = some (.int .i64 M.commit) ∧ w4.cell? ⟨w.heap.size, 7, none⟩ = some (.bool M.ok) ∧ w4.cell? ⟨w.heap.size, 8, none⟩ = some (.slice ae M.ents.length ce) := ⟨e_0, (HM4.out.cell (p := ⟨w.heap.size, 0, none⟩) (by show w.heap.size < _; simp; omega) hbx).trans HS1.out.2.1, (HM4.out.cell (p := ⟨w.heap.size, 1, none⟩) (by show w.heap.size < _; simp; omega) hbx).trans HS1.out.2.2.1, (HM4.out.cell (p := ⟨w.heap.size, 2, none⟩) (by show w.heap.size < _; simp; omega) hbx).trans HS1.out.2.2.2.1, (HM4.out.cell (p := ⟨w.heap.size, 3, none⟩) (by show w.heap.size < _; simp; omega) hbx).trans HS1.out.2.2.2.2.1, (HM4.out.cell (p := ⟨w.heap.size, 4, none⟩) (by show w.heap.size < _; simp; omega) hbx).trans HS1.out.2.2.2.2.2.1, (HM4.out.cell (p := ⟨w.heap.size, 5, none⟩) (by show w.heap.size < _; simp; omega) hbx).trans HS1.out.2.2.2.2.2.2.1, (HM4.out.cell (p := ⟨w.heap.size, 6, none⟩) (by show w.heap.size < _; simp; omega) hbx).trans HS1.out.2.2.2.2.2.2.2.1, (HM4.out.cell (p := ⟨w.heap.size, 7, none⟩) (by show w.heap.size < _; simp; omega) hbx).trans HS1.out.2.2.2.2.2.2.2.2.1, (HM4.out.cell (p := ⟨w.heap.size, 8, none⟩) (by show w.heap.size < _; simp; omega) hbx).trans HS1.out.2.2.2.2.2.2.2.2.2⟩
  clear hus hf4 hm4 hk4
  refine hK.out _ _ (Or.inr hS4) ?_
  clear hK K'
  try simp only [Act.put, List.getElem_toArray, List.getElem_cons_zero, List.getElem_cons_succ, List.setIfInBounds_toArray, List.set_cons_zero, List.set_cons_succ]
  refine wpAnyG_takeW (i := 8) (v := ?_) rfl (by kernel_rfl) (by kernel_rfl) (by kernel_rfl) (fun _ _ _ h => h) (Or.inl ⟨by rfl, ?_⟩) ?_
  rotate_left
  · intro w' hSw
    go_simp
    try (with_reducible rfl)
  try simp only [Act.put, List.getElem_toArray, List.getElem_cons_zero, List.getElem_cons_succ, List.setIfInBounds_toArray, List.set_cons_zero, List.set_cons_succ]
  refine wpAnyG_takeW (i := 9) (v := ?_) rfl (by kernel_rfl) (by kernel_rfl) (by kernel_rfl) (fun _ _ _ h => h) (Or.inl ⟨by rfl, ?_⟩) ?_
  rotate_left
  · intro w' hSw
    go_simp
    try (with_reducible rfl)
  try simp only [Act.put, List.getElem_toArray, List.getElem_cons_zero, List.getElem_cons_succ, List.setIfInBounds_toArray, List.set_cons_zero, List.set_cons_succ]
  refine wpAnyG_one (i := 10) (by kernel_rfl) rfl hS4 (fun K' hK => ?_)
  simp only [List.getElem_toArray, List.getElem_cons_zero, List.getElem_cons_succ]
  go_simp
  refine hK.out _ _ (Or.inl rfl) ?_
  clear hK K'
  try simp only [Act.put, List.getElem_toArray, List.getElem_cons_zero, List.getElem_cons_succ, List.setIfInBounds_toArray, List.set_cons_zero, List.set_cons_succ]
  refine wpAnyG_done (by kernel_rfl) ?_ _
  go_wp2_with fail
  refine bodyPost_end (v := .tuple #[]) (by simp [results, Try.results57]) rfl ?_
  have hUS := HUS.out
  subst hUS
  have hI : SaI lo (L ++ [(⟨M, ae, ce⟩ : MsgA)]) a3 c3 w4 := SaI.step HS.out hlo (HB1.out.drew) (by simpa using HX1.out.drewG) HT4.out (by rcases hbL with h | h <;> omega) rfl HF4.out HM4.out HK4.out
  have hk3 : ∀ k ∈ blkOf a3, k ∈ blkOf am ∨ wS.heap.size ≤ k := fun k hk => by
    rcases HK4.out k hk with h | h
    · exact .inl h
    · right; simp at h; omega
  have hB3 : B ∉ blkOf a3 := fun h => by
    rcases HK4.out B h with h | h
    · exact HBA.out h
    · simp at h; omega
  have hm3 : ∀ r ∈ L ++ [(⟨M, ae, ce⟩ : MsgA)], B ∉ messageBlk r := fun r hr hb => by
    rcases List.mem_append.1 hr with h | h
    · exact HBM.out r h hb
    · simp at h; subst h
      have := (HX1.out.bd B hb).1
      omega
  refine ⟨rfl, ⟨M, ae, ce⟩, a3, c3, rfl, by simp [go_sem, e_0], hI.setB hB3 hm3 13 _, ?_, hk3, fun k hk => (HX1.out.bd k hk).1⟩
  have hu0 : Upd B 13 14 (· ∈ blkOf am) wS (x1.drew.alloc OB) := Upd.below Upd.refl ((HB1.out.drew).alloc (by simp; omega) OB) hB
  exact Upd.setCell (Upd.mid hu0 HM4.out (by simp; omega) hBb HT4.out) 13 (Nat.le_refl _) (by decide) _
end
section
open Go.RowKit
section
variable {P : Program} {md : Region.Mode} {ops : Array Oper} {Q : Exit → Act → World → Prop} {S : World → Prop} {ex : Nat → Bool}
theorem stepG {i : Nat} {o : Oper} {fuel : Nat} {listed : Array Bool} {a : Act} {w : World} (ho : ops[i]? = some o)
    (h : ∀ K' : Act → World → Prop, Shut (∀ a w, (ex i = true ∨ S w) → wpAnyG P md ops Q S ex fuel (listed.setIfInBounds i true) a w → K' a w) → if Region.wanted o (yielded ops a.tmps) = true then Oper.wp P o a w K' Q else K' (a.put o.dst undef) w) :
    wpOp P ops Q i (fun a' w' => (ex i = true ∨ (S w → S w')) ∧ wpAnyG P md ops Q S ex fuel (listed.setIfInBounds i true) a' w') a w :=
  wpOp_step ho (fun K' hK => h K' (fun a w h1 h2 => hK a w ⟨h1.imp id (fun h3 _ => h3), h2⟩))
theorem wpAnyG_br {rs : List Nat} {fuel : Nat} {listed : Array Bool} {a : Act} {w : World} (hr : Region.ready md ops listed = rs) (hne : rs ≠ [])
    (h : ∀ j ∈ rs, ∃ o, ops[j]? = some o ∧ ∀ K' : Act → World → Prop, Shut (∀ a w, (ex j = true ∨ S w) → wpAnyG P md ops Q S ex fuel (listed.setIfInBounds j true) a w → K' a w) → if Region.wanted o (yielded ops a.tmps) = true then Oper.wp P o a w K' Q else K' (a.put o.dst undef) w) : wpAnyG P md ops Q S ex (fuel + 1) listed a w :=
  ⟨fun h0 => absurd (hr.symm.trans h0) hne, fun j hj => by
    rw [hr] at hj
    obtain ⟨o, ho, h1⟩ := h j hj
    exact stepG ho h1⟩
end
section
variable {α : Type} {enc : α → List Value} {w : World}
theorem step_append_wp {P : Program} {o : Oper} {a : Act} {K : Act → World → Prop} {Q : Exit → Act → World → Prop} (s x : Operand) (t tx : TypeId)
    (ho : o.op = .call { callee := .builtin .append, args := #[s, x], argTypes := #[t, tx] })
    (lo hi : Nat) (e : TypeId) (i : TypeInfo) (z : Value) (size bytes : Nat) (ht : P.underlying t = some (.slice e)) (hinfo : P.info? e = some i) (hz : i.zero = some z)
    (hsize : i.size = size) (hby : i.bytes = bytes) (hzs : z.cells.size = size) (hbp : 0 < bytes)
    (ad : Option Addr) (n c : Nat) (zs : List α) (hs : a.eval s = .slice ad n c) (hF : FreshIn enc e size lo hi (.slice ad n c) zs w)
    (xv : Value) (ys : List α) (hx : a.eval x = xv) (hsrc : Src P size tx xv ys.length (ys.flatMap enc) w)
    (hbytes : (zs.length + ys.length) * bytes ≤ 140737488355328) (hlo : lo ≤ w.heap.size)
    (h : ∀ a' c' w' us, Hid (us = zs ++ ys) → FreshIn enc e size lo w'.heap.size (.slice a' us.length c') us w' → Mid lo hi w w' → (∀ k ∈ blkOf a', k ∈ blkOf ad ∨ k = w.heap.size) → K (a.put o.dst (.slice a' us.length c')) w') :
    Oper.wp P o a w K Q := by
  have hrow := hF.row
  obtain ⟨⟨a', cap', hv, h1, h2⟩, h3⟩ := hF
  cases hv
  have h63 : zs.length + ys.length ≤ maxLen := by
    have : zs.length + ys.length ≤ (zs.length + ys.length) * bytes := Nat.le_mul_of_pos_right _ hbp
    unfold maxLen; omega
  obtain ⟨v', w', hr, k1, k2, k3⟩ := run_append_own_src (P := P) w lo t tx o.type e i z size bytes ht hinfo hz hsize hby hzs _ zs.length (zs.flatMap enc) h2 xv ys.length (ys.flatMap enc) hsrc h63 hbytes hlo
  have hf : Fresh enc e size lo v' (zs ++ ys) w' := Fresh.of_own k1 (by simp) (by simp)
  obtain ⟨a1, c1, rfl, _⟩ := id hf
  unfold Oper.wp execOp
  simp only [ho, resolve, invoke, builtin, Sem.run_bind, Sem.run_pure, Result.andThen_ok, List.map_toArray, List.map_cons, List.map_nil, hs, hx, hr]
  refine h a1 c1 w' _ rfl hf.here (Mid.of_grown k2 hrow) (fun k hk => ?_)
  have hk' := (blkOf_own (n := (zs ++ ys).length) (c := c1)).1 hk
  rcases k3 with k3 | k3
  · exact .inl ((blkOf_own (n := zs.length) (c := c)).2 (k3 ▸ hk'))
  · rw [k3] at hk'
    exact .inr (Option.some.inj hk').symm
end

theorem Sl.upd {α : Type} {enc : α → List Value} {sz g lo hi : Nat} {S : Nat → Prop} {w w' : World} {a : Option Addr} {xs : List α} (h : Sl enc sz w a xs) (hu : Upd g lo hi S w w') (hd : ∀ k ∈ blkOf a, k ≠ g ∧ ¬ S k) : Sl enc sz w' a xs := by
  rcases h with h1 | ⟨b, off, rfl, hlt, hc⟩
  · exact .inl h1
  · have hb := hd b (by simp [blkOf])
    exact .inr ⟨b, off, rfl, Nat.lt_of_lt_of_le hlt hu.size, fun i hi j hj => by
      rw [World.cell?_of_block (w := w) (a := ⟨b, _, none⟩) (hu.block b hlt hb.1 hb.2)]; exact hc i hi j hj⟩
set_option maxRecDepth 100000 in
set_option maxHeartbeats 8000000 in
theorem tell_c (B lo g : Nat) (N : NodeV) (av an am ar : Option Addr) (cl cv cn cm cr q p : Nat) (L : List MsgA) (w : World) (hB : B < w.heap.size)
    (h0 : w.cell? ⟨B, 0, none⟩ = some (.int .i64 N.id)) (h1 : w.cell? ⟨B, 1, none⟩ = some (.int .i64 N.nodes)) (h2 : w.cell? ⟨B, 2, none⟩ = some (.int .i64 N.term)) (h3 : w.cell? ⟨B, 3, none⟩ = some (.int .i64 N.vote)) (h4 : w.cell? ⟨B, 4, none⟩ = some (.int .i64 N.role)) (h5 : w.cell? ⟨B, 5, none⟩ = some (.bool N.up)) (h6 : w.cell? ⟨B, 6, none⟩ = some (.slice (some ⟨g, 0, none⟩) N.log.length cl)) (h7 : w.cell? ⟨B, 7, none⟩ = some (.int .i64 N.commit)) (h8 : w.cell? ⟨B, 8, none⟩ = some (.int .i64 N.elapsed)) (h9 : w.cell? ⟨B, 9, none⟩ = some (.int .i64 N.wait)) (h10 : w.cell? ⟨B, 10, none⟩ = some (.slice av N.votes.length cv)) (h11 : w.cell? ⟨B, 11, none⟩ = some (.slice an N.next.length cn)) (h12 : w.cell? ⟨B, 12, none⟩ = some (.slice am N.mtch.length cm)) (h13 : w.cell? ⟨B, 13, none⟩ = some (.slice ar L.length cr)) (hf : ∀ o, w.frozen? ⟨B, o, none⟩ = false)
    (hN : NodeSl w (some ⟨g, 0, none⟩) av an am N) (hZ : N.log.length ≤ 1048576) (hS : SaI lo L ar cr w) (hlo : lo ≤ w.heap.size)
    (hBa : B ∉ blkOf ar) (hBm : ∀ r ∈ L, B ∉ messageBlk r) (hl : L.length ≤ 100) (hto : q < N.next.length) (hnx : N.next[q] = (p : Int) + 1) (hp : p < N.log.length) (hcl : N.log.length ≤ cl) :
    Calls Try.prog 53 #[.pointer (some ⟨B, 0, none⟩), .int .i64 q] w (RunR B lo L ar (replM N q p) w) := by
  obtain ⟨b1, o1, hae, hb1, hc1⟩ := hN.next.at hto
  obtain ⟨iE, hE, hE0, hE1, hE2⟩ := info_parts Try.infoEntry
  subst hae
  have x0 := hc1 q hto 0 (by omega)
  simp only [intE, Nat.mul_one, Nat.add_zero, List.getElem?_cons_zero, hnx] at x0
  have HN := Lib.hid hN
  have HS := Lib.hid hS
  have HBA := Lib.hid hBa
  have HBM := Lib.hid hBm
  clear hN hS hBa hBm hc1 hnx
  have hp6 : p ≤ 1048576 := by omega
  have hne : ¬ cl = p := by omega
  have hple : p ≤ N.log.length := Nat.le_of_lt hp
  go_enter Try.func53, Try.ntmps53
  go_upto_region 1 with fail
  have hS0 : w.cell? ⟨B, 0, none⟩ = some (.int .i64 N.id) ∧ w.cell? ⟨B, 1, none⟩ = some (.int .i64 N.nodes) ∧ w.cell? ⟨B, 2, none⟩ = some (.int .i64 N.term) ∧ w.cell? ⟨B, 3, none⟩ = some (.int .i64 N.vote) ∧ w.cell? ⟨B, 4, none⟩ = some (.int .i64 N.role) ∧ w.cell? ⟨B, 5, none⟩ = some (.bool N.up) ∧ w.cell? ⟨B, 6, none⟩ = some (.slice (some ⟨g, 0, none⟩) N.log.length cl) ∧ w.cell? ⟨B, 7, none⟩ = some (.int .i64 N.commit) ∧ w.cell? ⟨B, 8, none⟩ = some (.int .i64 N.elapsed) ∧ w.cell? ⟨B, 9, none⟩ = some (.int .i64 N.wait) ∧ w.cell? ⟨B, 10, none⟩ = some (.slice av N.votes.length cv) ∧ w.cell? ⟨B, 11, none⟩ = some (.slice (some ⟨b1, o1, none⟩) N.next.length cn) ∧ w.cell? ⟨B, 12, none⟩ = some (.slice am N.mtch.length cm) := ⟨h0, h1, h2, h3, h4, h5, h6, h7, h8, h9, h10, h11, h12⟩
  refine wp_region_G (fun w' => w'.cell? ⟨B, 0, none⟩ = some (.int .i64 N.id) ∧ w'.cell? ⟨B, 1, none⟩ = some (.int .i64 N.nodes) ∧ w'.cell? ⟨B, 2, none⟩ = some (.int .i64 N.term) ∧ w'.cell? ⟨B, 3, none⟩ = some (.int .i64 N.vote) ∧ w'.cell? ⟨B, 4, none⟩ = some (.int .i64 N.role) ∧ w'.cell? ⟨B, 5, none⟩ = some (.bool N.up) ∧ w'.cell? ⟨B, 6, none⟩ = some (.slice (some ⟨g, 0, none⟩) N.log.length cl) ∧ w'.cell? ⟨B, 7, none⟩ = some (.int .i64 N.commit) ∧ w'.cell? ⟨B, 8, none⟩ = some (.int .i64 N.elapsed) ∧ w'.cell? ⟨B, 9, none⟩ = some (.int .i64 N.wait) ∧ w'.cell? ⟨B, 10, none⟩ = some (.slice av N.votes.length cv) ∧ w'.cell? ⟨B, 11, none⟩ = some (.slice (some ⟨b1, o1, none⟩) N.next.length cn) ∧ w'.cell? ⟨B, 12, none⟩ = some (.slice am N.mtch.length cm)) (fun i => false) (by kernel_rfl) hS0 ?_
  refine wpAnyG_takeW (i := 0) (v := ?_) rfl (by kernel_rfl) (by kernel_rfl) (by kernel_rfl) (fun _ _ _ h => h) (Or.inl ⟨by rfl, ?_⟩) ?_
  rotate_left
  · intro w' hSw
    go_simp
    try (with_reducible rfl)
  try simp only [Act.put, List.getElem_toArray, List.getElem_cons_zero, List.getElem_cons_succ, List.setIfInBounds_toArray, List.set_cons_zero, List.set_cons_succ]
  refine wpAnyG_takeW (i := 1) (v := ?_) rfl (by kernel_rfl) (by kernel_rfl) (by kernel_rfl) (fun _ _ _ h => h) (Or.inl ⟨by rfl, ?_⟩) ?_
  rotate_left
  · intro w' hSw
    go_simp
    try (with_reducible rfl)
  try simp only [Act.put, List.getElem_toArray, List.getElem_cons_zero, List.getElem_cons_succ, List.setIfInBounds_toArray, List.set_cons_zero, List.set_cons_succ]
  refine wpAnyG_takeW (i := 2) (v := ?_) rfl (by kernel_rfl) (by kernel_rfl) (by kernel_rfl) (fun _ _ _ h => h) (Or.inl ⟨by rfl, ?_⟩) ?_
  rotate_left
  · intro w' hSw
    go_simp
    try (with_reducible rfl)
  try simp only [Act.put, List.getElem_toArray, List.getElem_cons_zero, List.getElem_cons_succ, List.setIfInBounds_toArray, List.set_cons_zero, List.set_cons_succ]
  refine wpAnyG_takeW (i := 3) (v := ?_) rfl (by kernel_rfl) (by kernel_rfl) (by kernel_rfl) (fun _ _ _ h => h) (Or.inl ⟨by rfl, ?_⟩) ?_
  rotate_left
  · intro w' hSw
    go_simp
    try (with_reducible rfl)
  try simp only [Act.put, List.getElem_toArray, List.getElem_cons_zero, List.getElem_cons_succ, List.setIfInBounds_toArray, List.set_cons_zero, List.set_cons_succ]
  refine wpAnyG_takeW (i := 4) (v := ?_) rfl (by kernel_rfl) (by kernel_rfl) (by kernel_rfl) (fun _ _ _ h => h) (Or.inl ⟨by rfl, ?_⟩) ?_
  rotate_left
  · intro w' hSw
    go_simp
    try (with_reducible rfl)
  try simp only [Act.put, List.getElem_toArray, List.getElem_cons_zero, List.getElem_cons_succ, List.setIfInBounds_toArray, List.set_cons_zero, List.set_cons_succ]
  refine wpAnyG_takeW (i := 5) (v := ?_) rfl (by kernel_rfl) (by kernel_rfl) (by kernel_rfl) (fun _ _ _ h => h) (Or.inl ⟨by rfl, ?_⟩) ?_
  rotate_left
  · intro w' hSw
    go_simp
    try (with_reducible rfl)
  try simp only [Act.put, List.getElem_toArray, List.getElem_cons_zero, List.getElem_cons_succ, List.setIfInBounds_toArray, List.set_cons_zero, List.set_cons_succ]
  refine wpAnyG_take (i := 6) (v := ?_) rfl (by kernel_rfl) (by kernel_rfl) (by kernel_rfl) (by kernel_rfl) (fun _ _ _ h => h) hS0 (Or.inl ⟨by rfl, ?_⟩) ?_
  rotate_left
  · intro w' hSw
    obtain ⟨s0, s1, s2, s3, s4, s5, s6, s7, s8, s9, s10, s11, s12⟩ := hSw
    go_simp
    try (with_reducible rfl)
  try simp only [Act.put, List.getElem_toArray, List.getElem_cons_zero, List.getElem_cons_succ, List.setIfInBounds_toArray, List.set_cons_zero, List.set_cons_succ]
  refine wpAnyG_takeW (i := 7) (v := ?_) rfl (by kernel_rfl) (by kernel_rfl) (by kernel_rfl) (fun _ _ _ h => h) (Or.inl ⟨by rfl, ?_⟩) ?_
  rotate_left
  · intro w' hSw
    go_simp
    try (with_reducible rfl)
  try simp only [Act.put, List.getElem_toArray, List.getElem_cons_zero, List.getElem_cons_succ, List.setIfInBounds_toArray, List.set_cons_zero, List.set_cons_succ]
  refine wpAnyG_takeW (i := 9) (v := ?_) rfl (by kernel_rfl) (by kernel_rfl) (by kernel_rfl) (fun _ _ _ h => h) (Or.inl ⟨by rfl, ?_⟩) ?_
  rotate_left
  · intro w' hSw
    go_simp
    try (with_reducible rfl)
  try simp only [Act.put, List.getElem_toArray, List.getElem_cons_zero, List.getElem_cons_succ, List.setIfInBounds_toArray, List.set_cons_zero, List.set_cons_succ]
  refine wpAnyG_takeW (i := 10) (v := ?_) rfl (by kernel_rfl) (by kernel_rfl) (by kernel_rfl) (fun _ _ _ h => h) (Or.inl ⟨by rfl, ?_⟩) ?_
  rotate_left
  · intro w' hSw
    go_simp
    try (with_reducible rfl)
  try simp only [Act.put, List.getElem_toArray, List.getElem_cons_zero, List.getElem_cons_succ, List.setIfInBounds_toArray, List.set_cons_zero, List.set_cons_succ]
  refine wpAnyG_takeW (i := 11) (v := ?_) rfl (by kernel_rfl) (by kernel_rfl) (by kernel_rfl) (fun _ _ _ h => h) (Or.inl ⟨by rfl, ?_⟩) ?_
  rotate_left
  · intro w' hSw
    go_simp
    try (with_reducible rfl)
  try simp only [Act.put, List.getElem_toArray, List.getElem_cons_zero, List.getElem_cons_succ, List.setIfInBounds_toArray, List.set_cons_zero, List.set_cons_succ]
  refine wpAnyG_takeW (i := 12) (v := ?_) rfl (by kernel_rfl) (by kernel_rfl) (by kernel_rfl) (fun _ _ _ h => h) (Or.inl ⟨by rfl, ?_⟩) ?_
  rotate_left
  · intro w' hSw
    go_simp
    try (with_reducible rfl)
  try simp only [Act.put, List.getElem_toArray, List.getElem_cons_zero, List.getElem_cons_succ, List.setIfInBounds_toArray, List.set_cons_zero, List.set_cons_succ]
  refine wpAnyG_take (i := 13) (v := ?_) rfl (by kernel_rfl) (by kernel_rfl) (by kernel_rfl) (by kernel_rfl) (fun _ _ _ h => h) hS0 (Or.inl ⟨by rfl, ?_⟩) ?_
  rotate_left
  · intro w' hSw
    obtain ⟨s0, s1, s2, s3, s4, s5, s6, s7, s8, s9, s10, s11, s12⟩ := hSw
    go_simp
    try (with_reducible rfl)
  try simp only [Act.put, List.getElem_toArray, List.getElem_cons_zero, List.getElem_cons_succ, List.setIfInBounds_toArray, List.set_cons_zero, List.set_cons_succ]
  refine wpAnyG_takeW (i := 15) (v := ?_) rfl (by kernel_rfl) (by kernel_rfl) (by kernel_rfl) (fun _ _ _ h => h) (Or.inl ⟨by rfl, ?_⟩) ?_
  rotate_left
  · intro w' hSw
    go_simp
    try (with_reducible rfl)
  try simp only [Act.put, List.getElem_toArray, List.getElem_cons_zero, List.getElem_cons_succ, List.setIfInBounds_toArray, List.set_cons_zero, List.set_cons_succ]
  refine wpAnyG_takeW (i := 16) (v := ?_) rfl (by kernel_rfl) (by kernel_rfl) (by kernel_rfl) (fun _ _ _ h => h) (Or.inl ⟨by rfl, ?_⟩) ?_
  rotate_left
  · intro w' hSw
    go_simp
    try (with_reducible rfl)
  try simp only [Act.put, List.getElem_toArray, List.getElem_cons_zero, List.getElem_cons_succ, List.setIfInBounds_toArray, List.set_cons_zero, List.set_cons_succ]
  refine wpAnyG_takeW (i := 17) (v := ?_) rfl (by kernel_rfl) (by kernel_rfl) (by kernel_rfl) (fun _ _ _ h => h) (Or.inl ⟨by rfl, ?_⟩) ?_
  rotate_left
  · intro w' hSw
    go_simp
    try (with_reducible rfl)
  try simp only [Act.put, List.getElem_toArray, List.getElem_cons_zero, List.getElem_cons_succ, List.setIfInBounds_toArray, List.set_cons_zero, List.set_cons_succ]
  refine wpAnyG_takeW (i := 18) (v := ?_) rfl (by kernel_rfl) (by kernel_rfl) (by kernel_rfl) (fun _ _ _ h => h) (Or.inl ⟨by rfl, ?_⟩) ?_
  rotate_left
  · intro w' hSw
    go_simp
    try (with_reducible rfl)
  try simp only [Act.put, List.getElem_toArray, List.getElem_cons_zero, List.getElem_cons_succ, List.setIfInBounds_toArray, List.set_cons_zero, List.set_cons_succ]
  refine wpAnyG_take (i := 19) (v := ?_) rfl (by kernel_rfl) (by kernel_rfl) (by kernel_rfl) (by kernel_rfl) (fun _ _ _ h => h) hS0 (Or.inl ⟨by rfl, ?_⟩) ?_
  rotate_left
  · intro w' hSw
    obtain ⟨s0, s1, s2, s3, s4, s5, s6, s7, s8, s9, s10, s11, s12⟩ := hSw
    go_simp
    try (with_reducible rfl)
  try simp only [Act.put, List.getElem_toArray, List.getElem_cons_zero, List.getElem_cons_succ, List.setIfInBounds_toArray, List.set_cons_zero, List.set_cons_succ]
  refine wpAnyG_takeW (i := 20) (v := ?_) rfl (by kernel_rfl) (by kernel_rfl) (by kernel_rfl) (fun _ _ _ h => h) (Or.inl ⟨by rfl, ?_⟩) ?_
  rotate_left
  · intro w' hSw
    go_simp
    try (with_reducible rfl)
  try simp only [Act.put, List.getElem_toArray, List.getElem_cons_zero, List.getElem_cons_succ, List.setIfInBounds_toArray, List.set_cons_zero, List.set_cons_succ]
  refine wpAnyG_takeW (i := 21) (v := ?_) rfl (by kernel_rfl) (by kernel_rfl) (by kernel_rfl) (fun _ _ _ h => h) (Or.inl ⟨by rfl, ?_⟩) ?_
  rotate_left
  · intro w' hSw
    go_simp
    try (with_reducible rfl)
  try simp only [Act.put, List.getElem_toArray, List.getElem_cons_zero, List.getElem_cons_succ, List.setIfInBounds_toArray, List.set_cons_zero, List.set_cons_succ]
  refine wpAnyG_br (rs := [8, 14]) (by kernel_rfl) (by simp) ?_
  intro j hj
  simp only [List.mem_cons, List.not_mem_nil, or_false] at hj
  rcases hj with rfl | rfl
  · skip
    refine ⟨_, rfl, fun K' hK => ?_⟩
    simp only [List.getElem_toArray, List.getElem_cons_zero, List.getElem_cons_succ]
    go_simp
    go_at_call 58
    refine (l08Term_c (some ⟨g, 0, none⟩) cl av cv (some ⟨b1, o1, none⟩) cn am cm N p _ (HN.out.keep ((Below.refl w.heap.size w).drew)) hZ (Nat.le_of_lt hp)).mono ?_
    rintro e x1 ⟨rfl, hb8⟩
    have hz8 := hb8.size
    try simp at hz8
    simp only []
    have HB1 : Hid (Below w.heap.size w x1) := Lib.hid (((Below.refl w.heap.size w).drew).trans (hb8.mono (by simp)))
    have hS1 : x1.cell? ⟨B, 0, none⟩ = some (.int .i64 N.id) ∧ x1.cell? ⟨B, 1, none⟩ = some (.int .i64 N.nodes) ∧ x1.cell? ⟨B, 2, none⟩ = some (.int .i64 N.term) ∧ x1.cell? ⟨B, 3, none⟩ = some (.int .i64 N.vote) ∧ x1.cell? ⟨B, 4, none⟩ = some (.int .i64 N.role) ∧ x1.cell? ⟨B, 5, none⟩ = some (.bool N.up) ∧ x1.cell? ⟨B, 6, none⟩ = some (.slice (some ⟨g, 0, none⟩) N.log.length cl) ∧ x1.cell? ⟨B, 7, none⟩ = some (.int .i64 N.commit) ∧ x1.cell? ⟨B, 8, none⟩ = some (.int .i64 N.elapsed) ∧ x1.cell? ⟨B, 9, none⟩ = some (.int .i64 N.wait) ∧ x1.cell? ⟨B, 10, none⟩ = some (.slice av N.votes.length cv) ∧ x1.cell? ⟨B, 11, none⟩ = some (.slice (some ⟨b1, o1, none⟩) N.next.length cn) ∧ x1.cell? ⟨B, 12, none⟩ = some (.slice am N.mtch.length cm) := ⟨(HB1.out.cell (p := ⟨B, 0, none⟩) hB).trans h0, (HB1.out.cell (p := ⟨B, 1, none⟩) hB).trans h1, (HB1.out.cell (p := ⟨B, 2, none⟩) hB).trans h2, (HB1.out.cell (p := ⟨B, 3, none⟩) hB).trans h3, (HB1.out.cell (p := ⟨B, 4, none⟩) hB).trans h4, (HB1.out.cell (p := ⟨B, 5, none⟩) hB).trans h5, (HB1.out.cell (p := ⟨B, 6, none⟩) hB).trans h6, (HB1.out.cell (p := ⟨B, 7, none⟩) hB).trans h7, (HB1.out.cell (p := ⟨B, 8, none⟩) hB).trans h8, (HB1.out.cell (p := ⟨B, 9, none⟩) hB).trans h9, (HB1.out.cell (p := ⟨B, 10, none⟩) hB).trans h10, (HB1.out.cell (p := ⟨B, 11, none⟩) hB).trans h11, (HB1.out.cell (p := ⟨B, 12, none⟩) hB).trans h12⟩
    refine hK.out _ _ (Or.inr hS1) ?_
    clear hK K'
    try simp only [Act.put, List.getElem_toArray, List.getElem_cons_zero, List.getElem_cons_succ, List.setIfInBounds_toArray, List.set_cons_zero, List.set_cons_succ]
    refine wpAnyG_one (i := 14) (by kernel_rfl) rfl hS1 (fun K' hK => ?_)
    simp only [List.getElem_toArray, List.getElem_cons_zero, List.getElem_cons_succ]
    go_simp
    obtain ⟨x2, hx2⟩ : ∃ x2, x1.alloc (.cells #[] 48) = x2 := ⟨_, rfl⟩
    obtain ⟨b, hbb⟩ : ∃ b, x1.heap.size = b := ⟨_, rfl⟩
    have hwb : w.heap.size ≤ b := by omega
    have HF2 : Hid (FreshIn entE 48 2 w.heap.size x2.heap.size (.slice (some ⟨b, 0, none⟩) 0 0) [] x2) := Lib.hid (by rw [← hx2, ← hbb]; exact (fresh_mdE x1 w.heap.size (by omega)).here)
    have HB2 : Hid (Below w.heap.size w x2) := Lib.hid (by rw [← hx2]; exact HB1.out.alloc (by omega) _)
    rw [hx2, hbb]
    clear hx2 hbb
    have hS2 : x2.cell? ⟨B, 0, none⟩ = some (.int .i64 N.id) ∧ x2.cell? ⟨B, 1, none⟩ = some (.int .i64 N.nodes) ∧ x2.cell? ⟨B, 2, none⟩ = some (.int .i64 N.term) ∧ x2.cell? ⟨B, 3, none⟩ = some (.int .i64 N.vote) ∧ x2.cell? ⟨B, 4, none⟩ = some (.int .i64 N.role) ∧ x2.cell? ⟨B, 5, none⟩ = some (.bool N.up) ∧ x2.cell? ⟨B, 6, none⟩ = some (.slice (some ⟨g, 0, none⟩) N.log.length cl) ∧ x2.cell? ⟨B, 7, none⟩ = some (.int .i64 N.commit) ∧ x2.cell? ⟨B, 8, none⟩ = some (.int .i64 N.elapsed) ∧ x2.cell? ⟨B, 9, none⟩ = some (.int .i64 N.wait) ∧ x2.cell? ⟨B, 10, none⟩ = some (.slice av N.votes.length cv) ∧ x2.cell? ⟨B, 11, none⟩ = some (.slice (some ⟨b1, o1, none⟩) N.next.length cn) ∧ x2.cell? ⟨B, 12, none⟩ = some (.slice am N.mtch.length cm) := ⟨(HB2.out.cell (p := ⟨B, 0, none⟩) hB).trans h0, (HB2.out.cell (p := ⟨B, 1, none⟩) hB).trans h1, (HB2.out.cell (p := ⟨B, 2, none⟩) hB).trans h2, (HB2.out.cell (p := ⟨B, 3, none⟩) hB).trans h3, (HB2.out.cell (p := ⟨B, 4, none⟩) hB).trans h4, (HB2.out.cell (p := ⟨B, 5, none⟩) hB).trans h5, (HB2.out.cell (p := ⟨B, 6, none⟩) hB).trans h6, (HB2.out.cell (p := ⟨B, 7, none⟩) hB).trans h7, (HB2.out.cell (p := ⟨B, 8, none⟩) hB).trans h8, (HB2.out.cell (p := ⟨B, 9, none⟩) hB).trans h9, (HB2.out.cell (p := ⟨B, 10, none⟩) hB).trans h10, (HB2.out.cell (p := ⟨B, 11, none⟩) hB).trans h11, (HB2.out.cell (p := ⟨B, 12, none⟩) hB).trans h12⟩
    refine hK.out _ _ (Or.inr hS2) ?_
    clear hK K'
    try simp only [Act.put, List.getElem_toArray, List.getElem_cons_zero, List.getElem_cons_succ, List.setIfInBounds_toArray, List.set_cons_zero, List.set_cons_succ]
    refine wpAnyG_one (i := 22) (by kernel_rfl) rfl hS2 (fun K' hK => ?_)
    simp only [List.getElem_toArray, List.getElem_cons_zero, List.getElem_cons_succ]
    have hLD := Lib.hid (Sl.dropE (n := p) (HN.out.log.keep HB2.out))
    have hld : (N.log.drop p).length = N.log.length - p := by simp
    have hsrc : Src Try.prog 2 27 (.slice (some ⟨g, p * 2, none⟩) (N.log.length - p) (cl - p)) (N.log.drop p).length ((N.log.drop p).flatMap entE) x2 := by
      have := Src.ofSl (enc := entE) (sz := 2) (xs := N.log.drop p) Try.underlying27 (fun _ => rfl) entOne hLD.out (cl - p)
      rw [hld] at this ⊢
      exact this
    have HSRC := Lib.hid hsrc
    clear hsrc hld
    rw [if_pos (by rfl)]
    refine step_append_wp (.tmp 28) (.tmp 35) 27 27 ?_ w.heap.size x2.heap.size 48 iE (.agg #[.int .i64 0, .string ⟨#[]⟩]) 2 24 Try.underlying27 hE hE0 hE1 hE2 rfl (by decide) (some ⟨b, 0, none⟩) 0 0 [] ?_ HF2.out (.slice (some ⟨g, p * 2, none⟩) (N.log.length - p) (cl - p)) (N.log.drop p) ?_ HSRC.out (by simp; omega) HB2.out.size ?_
    · rfl
    · rfl
    · rfl
    intro a3 c3 x3 us hus hf3 hm3 _
    have HUS : Hid (us = N.log.drop p) := Lib.hid (by simpa using hus.out)
    have HF3 := Lib.hid hf3
    have HB3 : Hid (Below w.heap.size w x3) := Lib.hid (HB2.out.trans (hm3.below (Nat.le_refl _) HB2.out.size))
    have hz3 := HB3.out.size
    have hul : 0 < us.length := by rw [HUS.out]; simp; omega
    have HX3 : Hid (RowNew messageOwn messageBlk (fun _ => True) w.heap.size x3 ⟨⟨3, N.id, q, N.term, p, termOf N.log p, N.commit, false, us⟩, a3, c3⟩) := Lib.hid ⟨HF3.out, blkOf_nodup _, fun k hk => FreshIn.blks HF3.out k hk, trivial⟩
    clear hus hf3 hm3
    have hS3 : x3.cell? ⟨B, 0, none⟩ = some (.int .i64 N.id) ∧ x3.cell? ⟨B, 1, none⟩ = some (.int .i64 N.nodes) ∧ x3.cell? ⟨B, 2, none⟩ = some (.int .i64 N.term) ∧ x3.cell? ⟨B, 3, none⟩ = some (.int .i64 N.vote) ∧ x3.cell? ⟨B, 4, none⟩ = some (.int .i64 N.role) ∧ x3.cell? ⟨B, 5, none⟩ = some (.bool N.up) ∧ x3.cell? ⟨B, 6, none⟩ = some (.slice (some ⟨g, 0, none⟩) N.log.length cl) ∧ x3.cell? ⟨B, 7, none⟩ = some (.int .i64 N.commit) ∧ x3.cell? ⟨B, 8, none⟩ = some (.int .i64 N.elapsed) ∧ x3.cell? ⟨B, 9, none⟩ = some (.int .i64 N.wait) ∧ x3.cell? ⟨B, 10, none⟩ = some (.slice av N.votes.length cv) ∧ x3.cell? ⟨B, 11, none⟩ = some (.slice (some ⟨b1, o1, none⟩) N.next.length cn) ∧ x3.cell? ⟨B, 12, none⟩ = some (.slice am N.mtch.length cm) := ⟨(HB3.out.cell (p := ⟨B, 0, none⟩) hB).trans h0, (HB3.out.cell (p := ⟨B, 1, none⟩) hB).trans h1, (HB3.out.cell (p := ⟨B, 2, none⟩) hB).trans h2, (HB3.out.cell (p := ⟨B, 3, none⟩) hB).trans h3, (HB3.out.cell (p := ⟨B, 4, none⟩) hB).trans h4, (HB3.out.cell (p := ⟨B, 5, none⟩) hB).trans h5, (HB3.out.cell (p := ⟨B, 6, none⟩) hB).trans h6, (HB3.out.cell (p := ⟨B, 7, none⟩) hB).trans h7, (HB3.out.cell (p := ⟨B, 8, none⟩) hB).trans h8, (HB3.out.cell (p := ⟨B, 9, none⟩) hB).trans h9, (HB3.out.cell (p := ⟨B, 10, none⟩) hB).trans h10, (HB3.out.cell (p := ⟨B, 11, none⟩) hB).trans h11, (HB3.out.cell (p := ⟨B, 12, none⟩) hB).trans h12⟩
    refine hK.out _ _ (Or.inr hS3) ?_
    clear hK K'
    try simp only [Act.put, List.getElem_toArray, List.getElem_cons_zero, List.getElem_cons_succ, List.setIfInBounds_toArray, List.set_cons_zero, List.set_cons_succ]
    refine wpAnyG_takeW (i := 23) (v := ?_) rfl (by kernel_rfl) (by kernel_rfl) (by kernel_rfl) (fun _ _ _ h => h) (Or.inl ⟨by rfl, ?_⟩) ?_
    rotate_left
    · intro w' hSw
      go_simp
      try (with_reducible rfl)
    try simp only [Act.put, List.getElem_toArray, List.getElem_cons_zero, List.getElem_cons_succ, List.setIfInBounds_toArray, List.set_cons_zero, List.set_cons_succ]
    refine wpAnyG_one (i := 24) (by kernel_rfl) rfl hS3 (fun K' hK => ?_)
    simp only [List.getElem_toArray, List.getElem_cons_zero, List.getElem_cons_succ]
    go_simp
    go_at_call 57
    refine (send_c B lo N.id N.term 0 0 ⟨3, N.id, q, N.term, p, termOf N.log p, N.commit, false, us⟩ L ar a3 cr c3 w _ hB hS3.1 hS3.2.2.1 ((HB3.out.cell (p := ⟨B, 13, none⟩) hB).trans h13) (fun o => (HB3.out.frozen (p := ⟨B, o, none⟩) hB).trans (hf o)) HS.out hlo HB3.out HX3.out ⟨rfl, rfl⟩ hul HBA.out HBM.out hl).mono ?_
    rintro e x4 ⟨rfl, hr⟩
    have HR := Lib.hid hr
    clear hr
    simp only []
    have hS4 : x4.cell? ⟨B, 0, none⟩ = some (.int .i64 N.id) ∧ x4.cell? ⟨B, 1, none⟩ = some (.int .i64 N.nodes) ∧ x4.cell? ⟨B, 2, none⟩ = some (.int .i64 N.term) ∧ x4.cell? ⟨B, 3, none⟩ = some (.int .i64 N.vote) ∧ x4.cell? ⟨B, 4, none⟩ = some (.int .i64 N.role) ∧ x4.cell? ⟨B, 5, none⟩ = some (.bool N.up) ∧ x4.cell? ⟨B, 6, none⟩ = some (.slice (some ⟨g, 0, none⟩) N.log.length cl) ∧ x4.cell? ⟨B, 7, none⟩ = some (.int .i64 N.commit) ∧ x4.cell? ⟨B, 8, none⟩ = some (.int .i64 N.elapsed) ∧ x4.cell? ⟨B, 9, none⟩ = some (.int .i64 N.wait) ∧ x4.cell? ⟨B, 10, none⟩ = some (.slice av N.votes.length cv) ∧ x4.cell? ⟨B, 11, none⟩ = some (.slice (some ⟨b1, o1, none⟩) N.next.length cn) ∧ x4.cell? ⟨B, 12, none⟩ = some (.slice am N.mtch.length cm) := by
      obtain ⟨_, _, _, _, _, _, hu, _⟩ := HR.out
      exact ⟨(hu.cell 0 (by omega)).trans h0, (hu.cell 1 (by omega)).trans h1, (hu.cell 2 (by omega)).trans h2, (hu.cell 3 (by omega)).trans h3, (hu.cell 4 (by omega)).trans h4, (hu.cell 5 (by omega)).trans h5, (hu.cell 6 (by omega)).trans h6, (hu.cell 7 (by omega)).trans h7, (hu.cell 8 (by omega)).trans h8, (hu.cell 9 (by omega)).trans h9, (hu.cell 10 (by omega)).trans h10, (hu.cell 11 (by omega)).trans h11, (hu.cell 12 (by omega)).trans h12⟩
    refine hK.out _ _ (Or.inr hS4) ?_
    clear hK K'
    try simp only [Act.put, List.getElem_toArray, List.getElem_cons_zero, List.getElem_cons_succ, List.setIfInBounds_toArray, List.set_cons_zero, List.set_cons_succ]
    refine wpAnyG_done (by kernel_rfl) ?_ _
    go_wp2_with fail
    refine bodyPost_end (v := .tuple #[]) (by simp [results, Try.results53]) rfl ?_
    have hR := HR.out
    have hM : replM N q p = ⟨3, N.id, q, N.term, p, termOf N.log p, N.commit, false, us⟩ := by rw [HUS.out]; rfl
    rw [hM]
    exact ⟨rfl, hR⟩
  · skip
    refine ⟨_, rfl, fun K' hK => ?_⟩
    simp only [List.getElem_toArray, List.getElem_cons_zero, List.getElem_cons_succ]
    go_simp
    obtain ⟨x1, hx1⟩ : ∃ x1, (w.alloc (.cells #[] 48)).drew = x1 := ⟨_, rfl⟩
    obtain ⟨b, hbb⟩ : ∃ b, w.heap.size = b := ⟨_, rfl⟩
    have HF1 : Hid (FreshIn entE 48 2 w.heap.size x1.heap.size (.slice (some ⟨b, 0, none⟩) 0 0) [] x1) := Lib.hid (by rw [← hx1, ← hbb]; simpa using ((fresh_mdE w w.heap.size (Nat.le_refl _)).here.below ((Below.refl _ _).drew)))
    have HB1 : Hid (Below w.heap.size w x1) := Lib.hid (by rw [← hx1]; exact ((Below.refl w.heap.size w).alloc (Nat.le_refl _) _).drew)
    have hz1 := HB1.out.size
    have hbb' : w.heap.size ≤ b := by omega
    rw [hx1]
    try simp only [hbb]
    have HBB := Lib.hid hbb
    clear hx1 hbb
    have hS1 : x1.cell? ⟨B, 0, none⟩ = some (.int .i64 N.id) ∧ x1.cell? ⟨B, 1, none⟩ = some (.int .i64 N.nodes) ∧ x1.cell? ⟨B, 2, none⟩ = some (.int .i64 N.term) ∧ x1.cell? ⟨B, 3, none⟩ = some (.int .i64 N.vote) ∧ x1.cell? ⟨B, 4, none⟩ = some (.int .i64 N.role) ∧ x1.cell? ⟨B, 5, none⟩ = some (.bool N.up) ∧ x1.cell? ⟨B, 6, none⟩ = some (.slice (some ⟨g, 0, none⟩) N.log.length cl) ∧ x1.cell? ⟨B, 7, none⟩ = some (.int .i64 N.commit) ∧ x1.cell? ⟨B, 8, none⟩ = some (.int .i64 N.elapsed) ∧ x1.cell? ⟨B, 9, none⟩ = some (.int .i64 N.wait) ∧ x1.cell? ⟨B, 10, none⟩ = some (.slice av N.votes.length cv) ∧ x1.cell? ⟨B, 11, none⟩ = some (.slice (some ⟨b1, o1, none⟩) N.next.length cn) ∧ x1.cell? ⟨B, 12, none⟩ = some (.slice am N.mtch.length cm) := ⟨(HB1.out.cell (p := ⟨B, 0, none⟩) hB).trans h0, (HB1.out.cell (p := ⟨B, 1, none⟩) hB).trans h1, (HB1.out.cell (p := ⟨B, 2, none⟩) hB).trans h2, (HB1.out.cell (p := ⟨B, 3, none⟩) hB).trans h3, (HB1.out.cell (p := ⟨B, 4, none⟩) hB).trans h4, (HB1.out.cell (p := ⟨B, 5, none⟩) hB).trans h5, (HB1.out.cell (p := ⟨B, 6, none⟩) hB).trans h6, (HB1.out.cell (p := ⟨B, 7, none⟩) hB).trans h7, (HB1.out.cell (p := ⟨B, 8, none⟩) hB).trans h8, (HB1.out.cell (p := ⟨B, 9, none⟩) hB).trans h9, (HB1.out.cell (p := ⟨B, 10, none⟩) hB).trans h10, (HB1.out.cell (p := ⟨B, 11, none⟩) hB).trans h11, (HB1.out.cell (p := ⟨B, 12, none⟩) hB).trans h12⟩
    refine hK.out _ _ (Or.inr hS1) ?_
    clear hK K'
    try simp only [Act.put, List.getElem_toArray, List.getElem_cons_zero, List.getElem_cons_succ, List.setIfInBounds_toArray, List.set_cons_zero, List.set_cons_succ]
    refine wpAnyG_one (i := 8) (by kernel_rfl) rfl hS1 (fun K' hK => ?_)
    simp only [List.getElem_toArray, List.getElem_cons_zero, List.getElem_cons_succ]
    go_simp
    go_at_call 58
    refine (l08Term_c (some ⟨g, 0, none⟩) cl av cv (some ⟨b1, o1, none⟩) cn am cm N p _ (HN.out.keep HB1.out) hZ (Nat.le_of_lt hp)).mono ?_
    rintro e x2 ⟨rfl, hb8⟩
    have hz8 := hb8.size
    try simp at hz8
    simp only []
    have HB2 : Hid (Below w.heap.size w x2) := Lib.hid (HB1.out.trans (hb8.mono (by omega)))
    have HF2 : Hid (FreshIn entE 48 2 w.heap.size x2.heap.size (.slice (some ⟨b, 0, none⟩) 0 0) [] x2) := Lib.hid ((HF1.out.below hb8).mono (Nat.le_refl _) hb8.size)
    have hS2 : x2.cell? ⟨B, 0, none⟩ = some (.int .i64 N.id) ∧ x2.cell? ⟨B, 1, none⟩ = some (.int .i64 N.nodes) ∧ x2.cell? ⟨B, 2, none⟩ = some (.int .i64 N.term) ∧ x2.cell? ⟨B, 3, none⟩ = some (.int .i64 N.vote) ∧ x2.cell? ⟨B, 4, none⟩ = some (.int .i64 N.role) ∧ x2.cell? ⟨B, 5, none⟩ = some (.bool N.up) ∧ x2.cell? ⟨B, 6, none⟩ = some (.slice (some ⟨g, 0, none⟩) N.log.length cl) ∧ x2.cell? ⟨B, 7, none⟩ = some (.int .i64 N.commit) ∧ x2.cell? ⟨B, 8, none⟩ = some (.int .i64 N.elapsed) ∧ x2.cell? ⟨B, 9, none⟩ = some (.int .i64 N.wait) ∧ x2.cell? ⟨B, 10, none⟩ = some (.slice av N.votes.length cv) ∧ x2.cell? ⟨B, 11, none⟩ = some (.slice (some ⟨b1, o1, none⟩) N.next.length cn) ∧ x2.cell? ⟨B, 12, none⟩ = some (.slice am N.mtch.length cm) := ⟨(HB2.out.cell (p := ⟨B, 0, none⟩) hB).trans h0, (HB2.out.cell (p := ⟨B, 1, none⟩) hB).trans h1, (HB2.out.cell (p := ⟨B, 2, none⟩) hB).trans h2, (HB2.out.cell (p := ⟨B, 3, none⟩) hB).trans h3, (HB2.out.cell (p := ⟨B, 4, none⟩) hB).trans h4, (HB2.out.cell (p := ⟨B, 5, none⟩) hB).trans h5, (HB2.out.cell (p := ⟨B, 6, none⟩) hB).trans h6, (HB2.out.cell (p := ⟨B, 7, none⟩) hB).trans h7, (HB2.out.cell (p := ⟨B, 8, none⟩) hB).trans h8, (HB2.out.cell (p := ⟨B, 9, none⟩) hB).trans h9, (HB2.out.cell (p := ⟨B, 10, none⟩) hB).trans h10, (HB2.out.cell (p := ⟨B, 11, none⟩) hB).trans h11, (HB2.out.cell (p := ⟨B, 12, none⟩) hB).trans h12⟩
    refine hK.out _ _ (Or.inr hS2) ?_
    clear hK K'
    try simp only [Act.put, List.getElem_toArray, List.getElem_cons_zero, List.getElem_cons_succ, List.setIfInBounds_toArray, List.set_cons_zero, List.set_cons_succ]
    refine wpAnyG_one (i := 22) (by kernel_rfl) rfl hS2 (fun K' hK => ?_)
    simp only [List.getElem_toArray, List.getElem_cons_zero, List.getElem_cons_succ]
    have hLD := Lib.hid (Sl.dropE (n := p) (HN.out.log.keep HB2.out))
    have hld : (N.log.drop p).length = N.log.length - p := by simp
    have hsrc : Src Try.prog 2 27 (.slice (some ⟨g, p * 2, none⟩) (N.log.length - p) (cl - p)) (N.log.drop p).length ((N.log.drop p).flatMap entE) x2 := by
      have := Src.ofSl (enc := entE) (sz := 2) (xs := N.log.drop p) Try.underlying27 (fun _ => rfl) entOne hLD.out (cl - p)
      rw [hld] at this ⊢
      exact this
    have HSRC := Lib.hid hsrc
    clear hsrc hld
    rw [if_pos (by rfl)]
    refine step_append_wp (.tmp 28) (.tmp 35) 27 27 ?_ w.heap.size x2.heap.size 48 iE (.agg #[.int .i64 0, .string ⟨#[]⟩]) 2 24 Try.underlying27 hE hE0 hE1 hE2 rfl (by decide) (some ⟨b, 0, none⟩) 0 0 [] ?_ HF2.out (.slice (some ⟨g, p * 2, none⟩) (N.log.length - p) (cl - p)) (N.log.drop p) ?_ HSRC.out (by simp; omega) HB2.out.size ?_
    · rfl
    · rfl
    · rfl
    intro a3 c3 x3 us hus hf3 hm3 _
    have HUS : Hid (us = N.log.drop p) := Lib.hid (by simpa using hus.out)
    have HF3 := Lib.hid hf3
    have HB3 : Hid (Below w.heap.size w x3) := Lib.hid (HB2.out.trans (hm3.below (Nat.le_refl _) HB2.out.size))
    have hz3 := HB3.out.size
    have hul : 0 < us.length := by rw [HUS.out]; simp; omega
    have HX3 : Hid (RowNew messageOwn messageBlk (fun _ => True) w.heap.size x3 ⟨⟨3, N.id, q, N.term, p, termOf N.log p, N.commit, false, us⟩, a3, c3⟩) := Lib.hid ⟨HF3.out, blkOf_nodup _, fun k hk => FreshIn.blks HF3.out k hk, trivial⟩
    clear hus hf3 hm3
    have hS3 : x3.cell? ⟨B, 0, none⟩ = some (.int .i64 N.id) ∧ x3.cell? ⟨B, 1, none⟩ = some (.int .i64 N.nodes) ∧ x3.cell? ⟨B, 2, none⟩ = some (.int .i64 N.term) ∧ x3.cell? ⟨B, 3, none⟩ = some (.int .i64 N.vote) ∧ x3.cell? ⟨B, 4, none⟩ = some (.int .i64 N.role) ∧ x3.cell? ⟨B, 5, none⟩ = some (.bool N.up) ∧ x3.cell? ⟨B, 6, none⟩ = some (.slice (some ⟨g, 0, none⟩) N.log.length cl) ∧ x3.cell? ⟨B, 7, none⟩ = some (.int .i64 N.commit) ∧ x3.cell? ⟨B, 8, none⟩ = some (.int .i64 N.elapsed) ∧ x3.cell? ⟨B, 9, none⟩ = some (.int .i64 N.wait) ∧ x3.cell? ⟨B, 10, none⟩ = some (.slice av N.votes.length cv) ∧ x3.cell? ⟨B, 11, none⟩ = some (.slice (some ⟨b1, o1, none⟩) N.next.length cn) ∧ x3.cell? ⟨B, 12, none⟩ = some (.slice am N.mtch.length cm) := ⟨(HB3.out.cell (p := ⟨B, 0, none⟩) hB).trans h0, (HB3.out.cell (p := ⟨B, 1, none⟩) hB).trans h1, (HB3.out.cell (p := ⟨B, 2, none⟩) hB).trans h2, (HB3.out.cell (p := ⟨B, 3, none⟩) hB).trans h3, (HB3.out.cell (p := ⟨B, 4, none⟩) hB).trans h4, (HB3.out.cell (p := ⟨B, 5, none⟩) hB).trans h5, (HB3.out.cell (p := ⟨B, 6, none⟩) hB).trans h6, (HB3.out.cell (p := ⟨B, 7, none⟩) hB).trans h7, (HB3.out.cell (p := ⟨B, 8, none⟩) hB).trans h8, (HB3.out.cell (p := ⟨B, 9, none⟩) hB).trans h9, (HB3.out.cell (p := ⟨B, 10, none⟩) hB).trans h10, (HB3.out.cell (p := ⟨B, 11, none⟩) hB).trans h11, (HB3.out.cell (p := ⟨B, 12, none⟩) hB).trans h12⟩
    refine hK.out _ _ (Or.inr hS3) ?_
    clear hK K'
    try simp only [Act.put, List.getElem_toArray, List.getElem_cons_zero, List.getElem_cons_succ, List.setIfInBounds_toArray, List.set_cons_zero, List.set_cons_succ]
    refine wpAnyG_takeW (i := 23) (v := ?_) rfl (by kernel_rfl) (by kernel_rfl) (by kernel_rfl) (fun _ _ _ h => h) (Or.inl ⟨by rfl, ?_⟩) ?_
    rotate_left
    · intro w' hSw
      go_simp
      try (with_reducible rfl)
    try simp only [Act.put, List.getElem_toArray, List.getElem_cons_zero, List.getElem_cons_succ, List.setIfInBounds_toArray, List.set_cons_zero, List.set_cons_succ]
    refine wpAnyG_one (i := 24) (by kernel_rfl) rfl hS3 (fun K' hK => ?_)
    simp only [List.getElem_toArray, List.getElem_cons_zero, List.getElem_cons_succ]
    go_simp
    go_at_call 57
    refine (send_c B lo N.id N.term 0 0 ⟨3, N.id, q, N.term, p, termOf N.log p, N.commit, false, us⟩ L ar a3 cr c3 w _ hB hS3.1 hS3.2.2.1 ((HB3.out.cell (p := ⟨B, 13, none⟩) hB).trans h13) (fun o => (HB3.out.frozen (p := ⟨B, o, none⟩) hB).trans (hf o)) HS.out hlo HB3.out HX3.out ⟨rfl, rfl⟩ hul HBA.out HBM.out hl).mono ?_
    rintro e x4 ⟨rfl, hr⟩
    have HR := Lib.hid hr
    clear hr
    simp only []
    have hS4 : x4.cell? ⟨B, 0, none⟩ = some (.int .i64 N.id) ∧ x4.cell? ⟨B, 1, none⟩ = some (.int .i64 N.nodes) ∧ x4.cell? ⟨B, 2, none⟩ = some (.int .i64 N.term) ∧ x4.cell? ⟨B, 3, none⟩ = some (.int .i64 N.vote) ∧ x4.cell? ⟨B, 4, none⟩ = some (.int .i64 N.role) ∧ x4.cell? ⟨B, 5, none⟩ = some (.bool N.up) ∧ x4.cell? ⟨B, 6, none⟩ = some (.slice (some ⟨g, 0, none⟩) N.log.length cl) ∧ x4.cell? ⟨B, 7, none⟩ = some (.int .i64 N.commit) ∧ x4.cell? ⟨B, 8, none⟩ = some (.int .i64 N.elapsed) ∧ x4.cell? ⟨B, 9, none⟩ = some (.int .i64 N.wait) ∧ x4.cell? ⟨B, 10, none⟩ = some (.slice av N.votes.length cv) ∧ x4.cell? ⟨B, 11, none⟩ = some (.slice (some ⟨b1, o1, none⟩) N.next.length cn) ∧ x4.cell? ⟨B, 12, none⟩ = some (.slice am N.mtch.length cm) := by
      obtain ⟨_, _, _, _, _, _, hu, _⟩ := HR.out
      exact ⟨(hu.cell 0 (by omega)).trans h0, (hu.cell 1 (by omega)).trans h1, (hu.cell 2 (by omega)).trans h2, (hu.cell 3 (by omega)).trans h3, (hu.cell 4 (by omega)).trans h4, (hu.cell 5 (by omega)).trans h5, (hu.cell 6 (by omega)).trans h6, (hu.cell 7 (by omega)).trans h7, (hu.cell 8 (by omega)).trans h8, (hu.cell 9 (by omega)).trans h9, (hu.cell 10 (by omega)).trans h10, (hu.cell 11 (by omega)).trans h11, (hu.cell 12 (by omega)).trans h12⟩
    refine hK.out _ _ (Or.inr hS4) ?_
    clear hK K'
    try simp only [Act.put, List.getElem_toArray, List.getElem_cons_zero, List.getElem_cons_succ, List.setIfInBounds_toArray, List.set_cons_zero, List.set_cons_succ]
    refine wpAnyG_done (by kernel_rfl) ?_ _
    go_wp2_with fail
    refine bodyPost_end (v := .tuple #[]) (by simp [results, Try.results53]) rfl ?_
    have hR := HR.out
    have hM : replM N q p = ⟨3, N.id, q, N.term, p, termOf N.log p, N.commit, false, us⟩ := by rw [HUS.out]; rfl
    rw [hM]
    exact ⟨rfl, hR⟩
end
section
open Go.RowKit
def AllR (B lo : Nat) (N : NodeV) (ar : Option Addr) (m : Nat) (w : World) (w' : World) : Prop :=
  ∃ (L : List MsgA) (am' : Option Addr) (cm' : Nat), L.map (·.M) = sentL N m ∧ w'.cell? ⟨B, 13, none⟩ = some (.slice am' L.length cm') ∧ SaI lo L am' cm' w' ∧ Upd B 13 14 (· ∈ blkOf ar) w w' ∧ (∀ k ∈ blkOf am', k ∈ blkOf ar ∨ w.heap.size ≤ k) ∧ (∀ r ∈ L, ∀ k ∈ messageBlk r, w.heap.size ≤ k)
set_option maxRecDepth 100000 in
set_option maxHeartbeats 8000000 in
theorem allS_c (B lo g : Nat) (N : NodeV) (av an am ar : Option Addr) (cl cv cn cm cr m : Nat) (w : World) (hB : B < w.heap.size)
    (h0 : w.cell? ⟨B, 0, none⟩ = some (.int .i64 N.id)) (h1 : w.cell? ⟨B, 1, none⟩ = some (.int .i64 N.nodes)) (h2 : w.cell? ⟨B, 2, none⟩ = some (.int .i64 N.term)) (h3 : w.cell? ⟨B, 3, none⟩ = some (.int .i64 N.vote)) (h4 : w.cell? ⟨B, 4, none⟩ = some (.int .i64 N.role)) (h5 : w.cell? ⟨B, 5, none⟩ = some (.bool N.up)) (h6 : w.cell? ⟨B, 6, none⟩ = some (.slice (some ⟨g, 0, none⟩) N.log.length cl)) (h7 : w.cell? ⟨B, 7, none⟩ = some (.int .i64 N.commit)) (h8 : w.cell? ⟨B, 8, none⟩ = some (.int .i64 N.elapsed)) (h9 : w.cell? ⟨B, 9, none⟩ = some (.int .i64 N.wait)) (h10 : w.cell? ⟨B, 10, none⟩ = some (.slice av N.votes.length cv)) (h11 : w.cell? ⟨B, 11, none⟩ = some (.slice an N.next.length cn)) (h12 : w.cell? ⟨B, 12, none⟩ = some (.slice am N.mtch.length cm)) (h13 : w.cell? ⟨B, 13, none⟩ = some (.slice ar 0 cr)) (hf : ∀ o, w.frozen? ⟨B, o, none⟩ = false)
    (hN : NodeSl w (some ⟨g, 0, none⟩) av an am N) (hZ : N.log.length ≤ 1048576) (hS : SaI lo [] ar cr w) (hlo : lo ≤ w.heap.size)
    (hBa : B ∉ blkOf ar) (hD : ∀ k ∈ g :: (blkOf av ++ blkOf an ++ blkOf am), k ≠ B ∧ k ∉ blkOf ar) (hm : N.nodes = (m : Int)) (hm5 : m ≤ 5) (hml : N.next.length = m) (hnx : ∀ k (h : k < N.next.length), 1 ≤ N.next[k] ∧ N.next[k] ≤ N.log.length) (hcl : N.log.length ≤ cl) :
    Calls Try.prog 40 #[.pointer (some ⟨B, 0, none⟩)] w fun e w' => e = .returned (.tuple #[]) ∧ AllR B lo N ar m w w' := by
  have HN := Lib.hid hN
  have HS := Lib.hid hS
  have HBA := Lib.hid hBa
  have HD := Lib.hid hD
  have HNX := Lib.hid hnx
  have HML := Lib.hid hml
  have HF := Lib.hid hf
  clear hN hS hBa hD hnx hml hf
  go_enter Try.func40, Try.ntmps40
  go_wp2_with fail
  go_loopw [2] (fun i wr => ∃ (k : Nat) (L : List MsgA) (a1 : Option Addr) (c1 : Nat), k ≤ m ∧ i = .int .i64 k ∧ Hid (L.map (·.M) = sentL N k) ∧ Hid (wr.cell? ⟨B, 13, none⟩ = some (.slice a1 L.length c1)) ∧ Hid (SaI lo L a1 c1 wr) ∧ Hid (Upd B 13 14 (· ∈ blkOf ar) w wr) ∧ Hid (∀ k ∈ blkOf a1, k ∈ blkOf ar ∨ w.heap.size ≤ k) ∧ Hid (∀ r ∈ L, ∀ k ∈ messageBlk r, w.heap.size ≤ k)) (fun i _ => m - (intOf i).toNat)
  case atStart => exact ⟨0, [], ar, cr, Nat.zero_le _, rfl, rfl, h13, HS.out, Lib.hid Upd.refl, Lib.hid (fun k hk => .inl hk), Lib.hid (by simp)⟩
  case round =>
    obtain ⟨k, L, a1, c1, hk, rfl, HM, HC, HI, HU, HA, HR⟩ := hrel
    have hzr := HU.out.size
    have hBr : B < wr.heap.size := by omega
    have c0 : wr.cell? ⟨B, 0, none⟩ = some (.int .i64 N.id) := (HU.out.cell 0 (by omega)).trans h0
    have c1' : wr.cell? ⟨B, 1, none⟩ = some (.int .i64 N.nodes) := (HU.out.cell 1 (by omega)).trans h1
    have c2 : wr.cell? ⟨B, 2, none⟩ = some (.int .i64 N.term) := (HU.out.cell 2 (by omega)).trans h2
    have c3 : wr.cell? ⟨B, 3, none⟩ = some (.int .i64 N.vote) := (HU.out.cell 3 (by omega)).trans h3
    have c4 : wr.cell? ⟨B, 4, none⟩ = some (.int .i64 N.role) := (HU.out.cell 4 (by omega)).trans h4
    have c5 : wr.cell? ⟨B, 5, none⟩ = some (.bool N.up) := (HU.out.cell 5 (by omega)).trans h5
    have c6 : wr.cell? ⟨B, 6, none⟩ = some (.slice (some ⟨g, 0, none⟩) N.log.length cl) := (HU.out.cell 6 (by omega)).trans h6
    have c7 : wr.cell? ⟨B, 7, none⟩ = some (.int .i64 N.commit) := (HU.out.cell 7 (by omega)).trans h7
    have c8 : wr.cell? ⟨B, 8, none⟩ = some (.int .i64 N.elapsed) := (HU.out.cell 8 (by omega)).trans h8
    have c9 : wr.cell? ⟨B, 9, none⟩ = some (.int .i64 N.wait) := (HU.out.cell 9 (by omega)).trans h9
    have c10 : wr.cell? ⟨B, 10, none⟩ = some (.slice av N.votes.length cv) := (HU.out.cell 10 (by omega)).trans h10
    have c11 : wr.cell? ⟨B, 11, none⟩ = some (.slice an N.next.length cn) := (HU.out.cell 11 (by omega)).trans h11
    have c12 : wr.cell? ⟨B, 12, none⟩ = some (.slice am N.mtch.length cm) := (HU.out.cell 12 (by omega)).trans h12
    by_cases hlt : k < m
    · have hgt : (k : Int) < N.nodes := by omega
      have hsu : sentL N (k + 1) = sentL N k ++ (if (k : Int) = N.id then [] else [replM N k (N.next.getD k 0 - 1).toNat]) := rfl
      have HSU := Lib.hid hsu
      clear hsu
      by_cases e1 : (k : Int) = N.id
      · have g1 : ((k : Int) != N.id) = false := by simp [e1]
        have HE1 := Lib.hid e1
        clear e1
        go_wp2_with fail
        go_roundw
        case rel => exact ⟨k + 1, L, a1, c1, by omega, by simp, Lib.hid (by rw [HSU.out, if_pos HE1.out, HM.out]; simp), HC, HI, HU, HA, HR⟩
        case measure => simp [intOf]; omega
      · have g1 : ((k : Int) != N.id) = true := by simpa using e1
        have HE1 := Lib.hid e1
        clear e1
        have hkl : k < N.next.length := by rw [HML.out]; exact hlt
        have hn1 := HNX.out k hkl
        obtain ⟨p, hp⟩ : ∃ p : Nat, N.next[k] = (p : Int) + 1 := ⟨(N.next[k] - 1).toNat, by omega⟩
        have hpl : p < N.log.length := by omega
        have hgp : (N.next.getD k 0 - 1).toNat = p := by simp [List.getD, hkl, hp]
        have hLl : L.length ≤ 100 := by
          have h1 := congrArg List.length HM.out
          have h2 := sentL_len N k
          simp at h1
          omega
        have HGP := Lib.hid hgp
        have HP := Lib.hid hp
        clear hgp hp hn1
        go_wp2_with fail
        refine (tell_c B lo g N av an am a1 cl cv cn cm c1 k p L _ hBr c0 c1' c2 c3 c4 c5 c6 c7 c8 c9 c10 c11 c12 HC.out (fun o => (HU.out.fz o).trans (HF.out o)) ?_ hZ HI.out (by omega) ?_ ?_ hLl hkl HP.out hpl hcl).mono ?_
        · have hd := HD.out
          have hu := HU.out
          exact ⟨HN.out.log.upd hu (fun k hk => hd k (by simp [blkOf] at hk; simp [hk])), HN.out.votes.upd hu (fun k hk => hd k (by simp [hk])), HN.out.next.upd hu (fun k hk => hd k (by simp [hk])), HN.out.mtch.upd hu (fun k hk => hd k (by simp [hk]))⟩
        · intro h
          rcases HA.out B h with h1 | h1
          · exact HBA.out h1
          · omega
        · intro r hr h
          have := HR.out r hr B h
          omega
        rintro e w2 ⟨rfl, r, a2, c2', hr, hc2, hi2, hu2, ha2, hr2⟩
        have HC2 := Lib.hid hc2
        have HI2 := Lib.hid hi2
        have HU2 := Lib.hid hu2
        have HA2 := Lib.hid ha2
        have HR2 := Lib.hid hr2
        have HRM := Lib.hid hr
        clear hc2 hi2 hu2 ha2 hr2 hr
        go_wp2_with fail
        go_roundw
        case rel =>
          refine ⟨k + 1, L ++ [r], a2, c2', by omega, by simp, Lib.hid ?_, HC2, HI2, Lib.hid (Upd.chain HU.out HU2.out HA.out), Lib.hid ?_, Lib.hid ?_⟩
          · rw [HSU.out, if_neg HE1.out, HGP.out, List.map_append, HM.out, ← HRM.out]; rfl
          · intro k hk
            rcases HA2.out k hk with h | h
            · exact HA.out k h
            · right; omega
          · intro s hs k hk
            rcases List.mem_append.1 hs with h | h
            · exact HR.out s h k hk
            · simp at h; subst h
              have := HR2.out k hk
              omega
        case measure => simp [intOf]; omega
    · have hkm : k = m := by omega
      have hgt : N.nodes ≤ (k : Int) := by omega
      have HKM := Lib.hid hkm
      clear hkm
      go_wp2_with fail
      refine bodyPost_end (v := .tuple #[]) (by simp [results, Try.results40]) rfl ?_
      have h1 := HM.out
      rw [HKM.out] at h1
      exact ⟨rfl, L, a1, c1, h1, HC.out, HI.out, HU.out, HA.out, HR.out⟩
end
section
open Go.RowKit
theorem SaI.read {lo : Nat} {L : List MsgA} {am : Option Addr} {cm : Nat} {w : World} (h : SaI lo L am cm w) : MsgS w am L :=
  ⟨h.row.sl (fun _ => rfl), fun r hr => FreshIn.sl (enc := entE) (fun _ => rfl) (h.gs.ow r hr)⟩
theorem fresh_mdM (w : World) (B : Nat) (hB : B ≤ w.heap.size) : Fresh msgE 54 9 B (.slice (some ⟨w.heap.size, 0, none⟩) 0 0) [] (w.alloc (.cells #[] 54)) :=
  Fresh.of_own (World.ownsRow_made (base := B) w #[] 0 hB (by decide) rfl) rfl rfl
/-- .. the messages in blocks that are new. -/
def PropT (R : NodeV × List MsgV × Int) (w : World) (e : Ending) (w' : World) : Prop :=
  ∃ (al : Option Addr) (cl : Nat) (av : Option Addr) (cv : Nat) (an : Option Addr) (cn : Nat) (am : Option Addr) (cm : Nat) (rs : List MsgA) (ar : Option Addr) (cr : Nat), e = .returned (.tuple #[.agg #[.int .i64 R.1.id, .int .i64 R.1.nodes, .int .i64 R.1.term, .int .i64 R.1.vote, .int .i64 R.1.role, .bool R.1.up, .slice al R.1.log.length cl, .int .i64 R.1.commit, .int .i64 R.1.elapsed, .int .i64 R.1.wait, .slice av R.1.votes.length cv, .slice an R.1.next.length cn, .slice am R.1.mtch.length cm], .slice ar rs.length cr, .int .i64 R.2.2]) ∧ rs.map (·.M) = R.2.1 ∧ NodeSl w' al av an am R.1 ∧ (∀ w2, Mid 0 w.heap.size w' w2 → MsgS w2 ar rs) ∧ Below w.heap.size w w'
theorem Mid.drew {l r : Nat} {a w : World} (h : Mid l r a w) : Mid l r a w.drew := h.trans (Mid.of_below _ _ ((Below.refl _ _).drew))
theorem NodeSl.midR {N : NodeV} {al av an am : Option Addr} {w w' : World} (h : NodeSl w al av an am N) {l r : Nat} (hm : Mid l r w w') (hd : ∀ k ∈ blkOf al ++ blkOf av ++ blkOf an ++ blkOf am, k < l ∨ r ≤ k) : NodeSl w' al av an am N :=
  ⟨h.log.midB hm (fun k hk => hd k (by simp [hk])), h.votes.midB hm (fun k hk => hd k (by simp [hk])), h.next.midB hm (fun k hk => hd k (by simp [hk])), h.mtch.midB hm (fun k hk => hd k (by simp [hk]))⟩
theorem SaI.midS {lo : Nat} {L : List MsgA} {am : Option Addr} {cm : Nat} {w w' : World} (h : SaI lo L am cm w) {l r : Nat} (hm : Mid l r w w') (hr : r ≤ lo) : MsgS w' am L :=
  ⟨(FreshIn.mid h.row hm (.inr hr)).sl (fun _ => rfl), fun x hx => FreshIn.sl (enc := entE) (fun _ => rfl) (FreshIn.mid (h.gs.ow x hx) hm (.inr hr))⟩
set_option maxRecDepth 100000 in
set_option maxHeartbeats 16000000 in
theorem l08Propose_c (al : Option Addr) (cl : Nat) (av : Option Addr) (cv : Nat) (an : Option Addr) (cn : Nat) (am : Option Addr) (cm : Nat) (N : NodeV) (d : ByteArray) (w : World) (hN : NodeSl w al av an am N) (hZ : NodeSz N 1048576) (hd : d.size ≤ 1048576)
    (hL : longP (d.size : Int) = false) (hO : nodeOK N = true) (hI : inB (d.size : Int) 1 400 = true) :
    Calls Try.prog 18 #[.agg #[.int .i64 N.id, .int .i64 N.nodes, .int .i64 N.term, .int .i64 N.vote, .int .i64 N.role, .bool N.up, .slice al N.log.length cl, .int .i64 N.commit, .int .i64 N.elapsed, .int .i64 N.wait, .slice av N.votes.length cv, .slice an N.next.length cn, .slice am N.mtch.length cm], .string d] w (PropT (propR N d) w) := by
  have HN := Lib.hid hN
  have HZ := Lib.hid hZ
  have HL := Lib.hid hL
  have HO := Lib.hid hO
  have HI := Lib.hid hI
  clear hN hZ hL hO hI
  obtain ⟨u, hu⟩ : ∃ u, N.up = u := ⟨_, rfl⟩
  have HB0 : Hid (Below w.heap.size w ((w.alloc (.cells #[.int .i64 N.id, .int .i64 N.nodes, .int .i64 N.term, .int .i64 N.vote, .int .i64 N.role, .bool N.up, .slice al N.log.length cl, .int .i64 N.commit, .int .i64 N.elapsed, .int .i64 N.wait, .slice av N.votes.length cv, .slice an N.next.length cn, .slice am N.mtch.length cm] 29)).alloc (.cells #[.int .i64 0, .int .i64 0, .int .i64 0, .int .i64 0, .int .i64 0, .bool false, .slice none 0 0, .int .i64 0, .int .i64 0, .int .i64 0, .slice none 0 0, .slice none 0 0, .slice none 0 0] 29))) := Lib.hid (((Below.refl w.heap.size w).alloc (Nat.le_refl _) _).alloc (by simp) _)
  have q5 : ((w.alloc (.cells #[.int .i64 N.id, .int .i64 N.nodes, .int .i64 N.term, .int .i64 N.vote, .int .i64 N.role, .bool N.up, .slice al N.log.length cl, .int .i64 N.commit, .int .i64 N.elapsed, .int .i64 N.wait, .slice av N.votes.length cv, .slice an N.next.length cn, .slice am N.mtch.length cm] 29)).alloc (.cells #[.int .i64 0, .int .i64 0, .int .i64 0, .int .i64 0, .int .i64 0, .bool false, .slice none 0 0, .int .i64 0, .int .i64 0, .int .i64 0, .slice none 0 0, .slice none 0 0, .slice none 0 0] 29)).cell? ⟨w.heap.size, 5, none⟩ = some (.bool u) := by rw [← hu]; simp [go_sem]
  have HU := Lib.hid hu
  clear hu
  go_enter Try.func18, Try.ntmps18
  cases u
  case false =>
    go_upto_region 2 with fail
    clear q5
    go_wp2_with fail
    refine bodyPost_ret (v := .tuple #[.agg #[.int .i64 N.id, .int .i64 N.nodes, .int .i64 N.term, .int .i64 N.vote, .int .i64 N.role, .bool N.up, .slice al N.log.length cl, .int .i64 N.commit, .int .i64 N.elapsed, .int .i64 N.wait, .slice av N.votes.length cv, .slice an N.next.length cn, .slice am N.mtch.length cm], .slice (some ⟨w.heap.size + 1 + 1, 0, none⟩) 0 0, .int .i64 13]) (by simp [results, Try.results18, go_sem]) rfl ?_
    rw [propR_down HL.out HO.out HI.out HU.out]
    refine ⟨al, cl, av, cv, an, cn, am, cm, [], some ⟨w.heap.size + 1 + 1, 0, none⟩, 0, rfl, rfl, HN.out.keep ?_, fun _ _ => ⟨.inl rfl, by simp⟩, ?_⟩
    all_goals repeat (first | (with_reducible exact Below.refl _ _) | (with_reducible refine Below.alloc ?_ ?_ _; rotate_left; ((try simp [World.setCell]) <;> (try omega))) | (with_reducible refine Below.setCell ?_ ?_ _; rotate_left; (first | (show w.heap.size ≤ w.heap.size + 1; omega))))
  case true =>
    go_upto_region 3 with fail
    clear q5
    by_cases hro : N.role = 2
    case neg =>
      have gro : (N.role != 2) = true := by simpa using hro
      have HRO := Lib.hid hro
      clear hro
      go_wp2_with fail
      refine bodyPost_ret (v := .tuple #[.agg #[.int .i64 N.id, .int .i64 N.nodes, .int .i64 N.term, .int .i64 N.vote, .int .i64 N.role, .bool N.up, .slice al N.log.length cl, .int .i64 N.commit, .int .i64 N.elapsed, .int .i64 N.wait, .slice av N.votes.length cv, .slice an N.next.length cn, .slice am N.mtch.length cm], .slice (some ⟨w.heap.size + 1 + 1, 0, none⟩) 0 0, .int .i64 12]) (by simp [results, Try.results18, go_sem]) rfl ?_
      rw [propR_leader HL.out HO.out HI.out HU.out HRO.out]
      refine ⟨al, cl, av, cv, an, cn, am, cm, [], some ⟨w.heap.size + 1 + 1, 0, none⟩, 0, rfl, rfl, HN.out.keep ?_, fun _ _ => ⟨.inl rfl, by simp⟩, ?_⟩
      all_goals repeat (first | (with_reducible exact Below.refl _ _) | (with_reducible refine Below.alloc ?_ ?_ _; rotate_left; ((try simp [World.setCell]) <;> (try omega))) | (with_reducible refine Below.setCell ?_ ?_ _; rotate_left; (first | (show w.heap.size ≤ w.heap.size + 1; omega))))
    have gro : (N.role != 2) = false := by simp [hro]
    have HRO := Lib.hid hro
    clear hro
    by_cases hlg : N.log.length = 60
    case pos =>
      have glg : ((N.log.length : Int) == 60) = true := by simp [hlg]
      have HLG := Lib.hid hlg
      clear hlg
      go_wp2_with fail
      refine bodyPost_ret (v := .tuple #[.agg #[.int .i64 N.id, .int .i64 N.nodes, .int .i64 N.term, .int .i64 N.vote, .int .i64 N.role, .bool N.up, .slice al N.log.length cl, .int .i64 N.commit, .int .i64 N.elapsed, .int .i64 N.wait, .slice av N.votes.length cv, .slice an N.next.length cn, .slice am N.mtch.length cm], .slice (some ⟨w.heap.size + 1 + 1, 0, none⟩) 0 0, .int .i64 7]) (by simp [results, Try.results18, go_sem]) rfl ?_
      rw [propR_full HL.out HO.out HI.out HU.out HRO.out HLG.out]
      refine ⟨al, cl, av, cv, an, cn, am, cm, [], some ⟨w.heap.size + 1 + 1, 0, none⟩, 0, rfl, rfl, HN.out.keep ?_, fun _ _ => ⟨.inl rfl, by simp⟩, ?_⟩
      all_goals repeat (first | (with_reducible exact Below.refl _ _) | (with_reducible refine Below.alloc ?_ ?_ _; rotate_left; ((try simp [World.setCell]) <;> (try omega))) | (with_reducible refine Below.setCell ?_ ?_ _; rotate_left; (first | (show w.heap.size ≤ w.heap.size + 1; omega))))
    have HR := Lib.hid (propR_yes HL.out HO.out HI.out HU.out HRO.out hlg)
    have glg : ((N.log.length : Int) == 60) = false := beq_eq_false_iff_ne.2 (by omega)
    clear hlg
    obtain ⟨m, hF⟩ := nodeOK_f HO.out
    have HF := Lib.hid hF
    have hl60 := hF.log
    have hm5 := hF.m5
    clear hF
    obtain ⟨iE, hE, hE0, hE1, hE2⟩ := info_parts Try.infoEntry
    go_wp2_with fail
    refine (l08Own_c al cl av cv an cn am cm N _ (HN.out.keep HB0.out) HZ.out).mono ?_
    rintro e x1 ⟨al2, cl2, av2, cv2, an2, cn2, am2, cm2, rfl, hf2, hb2⟩
    have hz2 := hb2.size
    simp only [World.size_alloc] at hz2
    have HB2 : Hid (Below w.heap.size w x1) := Lib.hid (HB0.out.trans (hb2.mono (by simp; omega)))
    have HF2 := Lib.hid hf2
    have a_0 : x1.cell? ⟨w.heap.size, 0, none⟩ = some (.int .i64 N.id) := (hb2.cell (p := ⟨w.heap.size, 0, none⟩) (by show w.heap.size < _; simp; try omega)).trans (by simp [go_sem])
    have a_1 : x1.cell? ⟨w.heap.size, 1, none⟩ = some (.int .i64 N.nodes) := (hb2.cell (p := ⟨w.heap.size, 1, none⟩) (by show w.heap.size < _; simp; try omega)).trans (by simp [go_sem])
    have a_2 : x1.cell? ⟨w.heap.size, 2, none⟩ = some (.int .i64 N.term) := (hb2.cell (p := ⟨w.heap.size, 2, none⟩) (by show w.heap.size < _; simp; try omega)).trans (by simp [go_sem])
    have a_3 : x1.cell? ⟨w.heap.size, 3, none⟩ = some (.int .i64 N.vote) := (hb2.cell (p := ⟨w.heap.size, 3, none⟩) (by show w.heap.size < _; simp; try omega)).trans (by simp [go_sem])
    have a_4 : x1.cell? ⟨w.heap.size, 4, none⟩ = some (.int .i64 N.role) := (hb2.cell (p := ⟨w.heap.size, 4, none⟩) (by show w.heap.size < _; simp; try omega)).trans (by simp [go_sem])
    have a_5 : x1.cell? ⟨w.heap.size, 5, none⟩ = some (.bool N.up) := (hb2.cell (p := ⟨w.heap.size, 5, none⟩) (by show w.heap.size < _; simp; try omega)).trans (by simp [go_sem])
    have a_6 : x1.cell? ⟨w.heap.size, 6, none⟩ = some (.slice al N.log.length cl) := (hb2.cell (p := ⟨w.heap.size, 6, none⟩) (by show w.heap.size < _; simp; try omega)).trans (by simp [go_sem])
    have a_7 : x1.cell? ⟨w.heap.size, 7, none⟩ = some (.int .i64 N.commit) := (hb2.cell (p := ⟨w.heap.size, 7, none⟩) (by show w.heap.size < _; simp; try omega)).trans (by simp [go_sem])
    have a_8 : x1.cell? ⟨w.heap.size, 8, none⟩ = some (.int .i64 N.elapsed) := (hb2.cell (p := ⟨w.heap.size, 8, none⟩) (by show w.heap.size < _; simp; try omega)).trans (by simp [go_sem])
    have a_9 : x1.cell? ⟨w.heap.size, 9, none⟩ = some (.int .i64 N.wait) := (hb2.cell (p := ⟨w.heap.size, 9, none⟩) (by show w.heap.size < _; simp; try omega)).trans (by simp [go_sem])
    have a_10 : x1.cell? ⟨w.heap.size, 10, none⟩ = some (.slice av N.votes.length cv) := (hb2.cell (p := ⟨w.heap.size, 10, none⟩) (by show w.heap.size < _; simp; try omega)).trans (by simp [go_sem])
    have a_11 : x1.cell? ⟨w.heap.size, 11, none⟩ = some (.slice an N.next.length cn) := (hb2.cell (p := ⟨w.heap.size, 11, none⟩) (by show w.heap.size < _; simp; try omega)).trans (by simp [go_sem])
    have a_12 : x1.cell? ⟨w.heap.size, 12, none⟩ = some (.slice am N.mtch.length cm) := (hb2.cell (p := ⟨w.heap.size, 12, none⟩) (by show w.heap.size < _; simp; try omega)).trans (by simp [go_sem])
    have z_0 : x1.cell? ⟨w.heap.size + 1, 0, none⟩ = some (.int .i64 0) := (hb2.cell (p := ⟨w.heap.size + 1, 0, none⟩) (by show w.heap.size + 1 < _; simp; try omega)).trans (by simp [go_sem])
    have z_1 : x1.cell? ⟨w.heap.size + 1, 1, none⟩ = some (.int .i64 0) := (hb2.cell (p := ⟨w.heap.size + 1, 1, none⟩) (by show w.heap.size + 1 < _; simp; try omega)).trans (by simp [go_sem])
    have z_2 : x1.cell? ⟨w.heap.size + 1, 2, none⟩ = some (.int .i64 0) := (hb2.cell (p := ⟨w.heap.size + 1, 2, none⟩) (by show w.heap.size + 1 < _; simp; try omega)).trans (by simp [go_sem])
    have z_3 : x1.cell? ⟨w.heap.size + 1, 3, none⟩ = some (.int .i64 0) := (hb2.cell (p := ⟨w.heap.size + 1, 3, none⟩) (by show w.heap.size + 1 < _; simp; try omega)).trans (by simp [go_sem])
    have z_4 : x1.cell? ⟨w.heap.size + 1, 4, none⟩ = some (.int .i64 0) := (hb2.cell (p := ⟨w.heap.size + 1, 4, none⟩) (by show w.heap.size + 1 < _; simp; try omega)).trans (by simp [go_sem])
    have z_5 : x1.cell? ⟨w.heap.size + 1, 5, none⟩ = some (.bool false) := (hb2.cell (p := ⟨w.heap.size + 1, 5, none⟩) (by show w.heap.size + 1 < _; simp; try omega)).trans (by simp [go_sem])
    have z_6 : x1.cell? ⟨w.heap.size + 1, 6, none⟩ = some (.slice none 0 0) := (hb2.cell (p := ⟨w.heap.size + 1, 6, none⟩) (by show w.heap.size + 1 < _; simp; try omega)).trans (by simp [go_sem])
    have z_7 : x1.cell? ⟨w.heap.size + 1, 7, none⟩ = some (.int .i64 0) := (hb2.cell (p := ⟨w.heap.size + 1, 7, none⟩) (by show w.heap.size + 1 < _; simp; try omega)).trans (by simp [go_sem])
    have z_8 : x1.cell? ⟨w.heap.size + 1, 8, none⟩ = some (.int .i64 0) := (hb2.cell (p := ⟨w.heap.size + 1, 8, none⟩) (by show w.heap.size + 1 < _; simp; try omega)).trans (by simp [go_sem])
    have z_9 : x1.cell? ⟨w.heap.size + 1, 9, none⟩ = some (.int .i64 0) := (hb2.cell (p := ⟨w.heap.size + 1, 9, none⟩) (by show w.heap.size + 1 < _; simp; try omega)).trans (by simp [go_sem])
    have z_10 : x1.cell? ⟨w.heap.size + 1, 10, none⟩ = some (.slice none 0 0) := (hb2.cell (p := ⟨w.heap.size + 1, 10, none⟩) (by show w.heap.size + 1 < _; simp; try omega)).trans (by simp [go_sem])
    have z_11 : x1.cell? ⟨w.heap.size + 1, 11, none⟩ = some (.slice none 0 0) := (hb2.cell (p := ⟨w.heap.size + 1, 11, none⟩) (by show w.heap.size + 1 < _; simp; try omega)).trans (by simp [go_sem])
    have z_12 : x1.cell? ⟨w.heap.size + 1, 12, none⟩ = some (.slice none 0 0) := (hb2.cell (p := ⟨w.heap.size + 1, 12, none⟩) (by show w.heap.size + 1 < _; simp; try omega)).trans (by simp [go_sem])
    have zf : ∀ o, x1.frozen? ⟨w.heap.size + 1, o, none⟩ = false := fun o => (hb2.frozen (p := ⟨w.heap.size + 1, o, none⟩) (by show w.heap.size + 1 < _; simp)).trans (by simp [go_sem])
    have hl1 : w.heap.size < x1.heap.size := by omega
    have hk1 : w.heap.size + 1 < x1.heap.size := by omega
    clear hb2 hf2
    go_upto_region 8 with fail
    obtain ⟨x2, hx2⟩ : ∃ x, ((x1.alloc (.cells #[] 54)).alloc (.cells #[.int .i64 N.id, .int .i64 N.nodes, .int .i64 N.term, .int .i64 N.vote, .int .i64 N.role, .bool N.up, .slice al2 N.log.length cl2, .int .i64 N.commit, .int .i64 N.elapsed, .int .i64 N.wait, .slice av2 N.votes.length cv2, .slice an2 N.next.length cn2, .slice am2 N.mtch.length cm2, .slice (some ⟨x1.heap.size, 0, none⟩) 0 0] 65)) = x := ⟨_, rfl⟩
    have hz3 : x2.heap.size = x1.heap.size + 2 := by rw [← hx2]; simp
    have HB3 : Hid (Below w.heap.size w x2) := Lib.hid (by rw [← hx2]; exact (HB2.out.alloc (by omega) _).alloc (by simp; omega) _)
    have hb12 : Below x1.heap.size x1 x2 := by rw [← hx2]; exact ((Below.refl _ _).alloc (Nat.le_refl _) _).alloc (by simp) _
    have y_0 : x2.cell? ⟨w.heap.size + 1, 0, none⟩ = some (.int .i64 0) := (hb12.cell (p := ⟨w.heap.size + 1, 0, none⟩) hk1).trans z_0
    have y_1 : x2.cell? ⟨w.heap.size + 1, 1, none⟩ = some (.int .i64 0) := (hb12.cell (p := ⟨w.heap.size + 1, 1, none⟩) hk1).trans z_1
    have y_2 : x2.cell? ⟨w.heap.size + 1, 2, none⟩ = some (.int .i64 0) := (hb12.cell (p := ⟨w.heap.size + 1, 2, none⟩) hk1).trans z_2
    have y_3 : x2.cell? ⟨w.heap.size + 1, 3, none⟩ = some (.int .i64 0) := (hb12.cell (p := ⟨w.heap.size + 1, 3, none⟩) hk1).trans z_3
    have y_4 : x2.cell? ⟨w.heap.size + 1, 4, none⟩ = some (.int .i64 0) := (hb12.cell (p := ⟨w.heap.size + 1, 4, none⟩) hk1).trans z_4
    have y_5 : x2.cell? ⟨w.heap.size + 1, 5, none⟩ = some (.bool false) := (hb12.cell (p := ⟨w.heap.size + 1, 5, none⟩) hk1).trans z_5
    have y_6 : x2.cell? ⟨w.heap.size + 1, 6, none⟩ = some (.slice none 0 0) := (hb12.cell (p := ⟨w.heap.size + 1, 6, none⟩) hk1).trans z_6
    have y_7 : x2.cell? ⟨w.heap.size + 1, 7, none⟩ = some (.int .i64 0) := (hb12.cell (p := ⟨w.heap.size + 1, 7, none⟩) hk1).trans z_7
    have y_8 : x2.cell? ⟨w.heap.size + 1, 8, none⟩ = some (.int .i64 0) := (hb12.cell (p := ⟨w.heap.size + 1, 8, none⟩) hk1).trans z_8
    have y_9 : x2.cell? ⟨w.heap.size + 1, 9, none⟩ = some (.int .i64 0) := (hb12.cell (p := ⟨w.heap.size + 1, 9, none⟩) hk1).trans z_9
    have y_10 : x2.cell? ⟨w.heap.size + 1, 10, none⟩ = some (.slice none 0 0) := (hb12.cell (p := ⟨w.heap.size + 1, 10, none⟩) hk1).trans z_10
    have y_11 : x2.cell? ⟨w.heap.size + 1, 11, none⟩ = some (.slice none 0 0) := (hb12.cell (p := ⟨w.heap.size + 1, 11, none⟩) hk1).trans z_11
    have y_12 : x2.cell? ⟨w.heap.size + 1, 12, none⟩ = some (.slice none 0 0) := (hb12.cell (p := ⟨w.heap.size + 1, 12, none⟩) hk1).trans z_12
    have yf : ∀ o, x2.frozen? ⟨w.heap.size + 1, o, none⟩ = false := fun o => (hb12.frozen (p := ⟨w.heap.size + 1, o, none⟩) hk1).trans (zf o)
    have b_2 : x2.cell? ⟨w.heap.size, 2, none⟩ = some (.int .i64 N.term) := (hb12.cell (p := ⟨w.heap.size, 2, none⟩) hl1).trans a_2
    have s_0 : x2.cell? ⟨x1.heap.size + 1, 0, none⟩ = some (.int .i64 N.id) := by rw [← hx2]; simp [go_sem]
    have s_1 : x2.cell? ⟨x1.heap.size + 1, 1, none⟩ = some (.int .i64 N.nodes) := by rw [← hx2]; simp [go_sem]
    have s_2 : x2.cell? ⟨x1.heap.size + 1, 2, none⟩ = some (.int .i64 N.term) := by rw [← hx2]; simp [go_sem]
    have s_3 : x2.cell? ⟨x1.heap.size + 1, 3, none⟩ = some (.int .i64 N.vote) := by rw [← hx2]; simp [go_sem]
    have s_4 : x2.cell? ⟨x1.heap.size + 1, 4, none⟩ = some (.int .i64 N.role) := by rw [← hx2]; simp [go_sem]
    have s_5 : x2.cell? ⟨x1.heap.size + 1, 5, none⟩ = some (.bool N.up) := by rw [← hx2]; simp [go_sem]
    have s_6 : x2.cell? ⟨x1.heap.size + 1, 6, none⟩ = some (.slice al2 N.log.length cl2) := by rw [← hx2]; simp [go_sem]
    have s_7 : x2.cell? ⟨x1.heap.size + 1, 7, none⟩ = some (.int .i64 N.commit) := by rw [← hx2]; simp [go_sem]
    have s_8 : x2.cell? ⟨x1.heap.size + 1, 8, none⟩ = some (.int .i64 N.elapsed) := by rw [← hx2]; simp [go_sem]
    have s_9 : x2.cell? ⟨x1.heap.size + 1, 9, none⟩ = some (.int .i64 N.wait) := by rw [← hx2]; simp [go_sem]
    have s_10 : x2.cell? ⟨x1.heap.size + 1, 10, none⟩ = some (.slice av2 N.votes.length cv2) := by rw [← hx2]; simp [go_sem]
    have s_11 : x2.cell? ⟨x1.heap.size + 1, 11, none⟩ = some (.slice an2 N.next.length cn2) := by rw [← hx2]; simp [go_sem]
    have s_12 : x2.cell? ⟨x1.heap.size + 1, 12, none⟩ = some (.slice am2 N.mtch.length cm2) := by rw [← hx2]; simp [go_sem]
    have s_13 : x2.cell? ⟨x1.heap.size + 1, 13, none⟩ = some (.slice (some ⟨x1.heap.size, 0, none⟩) 0 0) := by rw [← hx2]; simp [go_sem]
    have sf : ∀ o, x2.frozen? ⟨x1.heap.size + 1, o, none⟩ = false := fun o => by rw [← hx2]; simp [go_sem]
    have HE : Hid (FreshIn msgE 54 9 x1.heap.size (x1.heap.size + 1) (.slice (some ⟨x1.heap.size, 0, none⟩) 0 0) [] x2) := Lib.hid (by rw [← hx2]; exact (FreshIn.mono (fresh_mdM x1 x1.heap.size (Nat.le_refl _)).here (Nat.le_refl _) (by simp)).below ((Below.refl _ _).alloc (Nat.le_refl _) _))
    have HF3 : Hid (FreshNodeX x1.heap.size x1.heap.size N x1 al2 cl2 av2 cv2 an2 cn2 am2 cm2 → True) := Lib.hid (fun _ => trivial)
    obtain ⟨l1, b1, v1, b2, n1, n2, m1, m2, h1, h2, k1, k2, k3, k4⟩ := HF2.out
    simp only [World.size_alloc] at h1
    have K1 := Lib.hid (k1.below hb12)
    have K2 := Lib.hid (k2.below hb12)
    have K3 := Lib.hid (k3.below hb12)
    have K4 := Lib.hid (k4.below hb12)
    have HH1 := Lib.hid h1
    have HH2 := Lib.hid h2
    clear k1 k2 k3 k4 h2 HF3 HF2
    have hzl : x1.heap.size + 1 < x2.heap.size := by omega
    rw [hx2]
    have HZ3 := Lib.hid hz3
    obtain ⟨B, hBB⟩ : ∃ B, x1.heap.size + 1 = B := ⟨_, rfl⟩
    obtain ⟨E, hEE⟩ : ∃ E, x1.heap.size = E := ⟨_, rfl⟩
    have hBE : E < B ∧ B < x2.heap.size ∧ w.heap.size + 1 < E ∧ b1 ≤ E ∧ b2 ≤ E ∧ n2 ≤ E ∧ m2 ≤ E ∧ w.heap.size + 1 < l1 ∧ l1 ≤ b1 := by omega
    obtain ⟨g0, g1, g2, g3, g4, g5, g6, g7, g8⟩ := hBE
    rw [hBB] at s_0 s_1 s_2 s_3 s_4 s_5 s_6 s_7 s_8 s_9 s_10 s_11 s_12 s_13 sf ⊢
    rw [hEE] at HE s_13 ⊢
    clear a_0 z_0 a_1 z_1 a_2 z_2 a_3 z_3 a_4 z_4 a_5 z_5 a_6 z_6 a_7 z_7 a_8 z_8 a_9 z_9 a_10 z_10 a_11 z_11 a_12 z_12 zf hx2 hb12 hz3 h1 hl1 hk1 hz2 HZ3 hzl hBB hEE
    have hS0 : x2.cell? ⟨B, 6, none⟩ = some (.slice al2 N.log.length cl2) ∧ x2.cell? ⟨w.heap.size, 2, none⟩ = some (.int .i64 N.term) := ⟨s_6, b_2⟩
    refine wp_region_G (fun w' => w'.cell? ⟨B, 6, none⟩ = some (.slice al2 N.log.length cl2) ∧ w'.cell? ⟨w.heap.size, 2, none⟩ = some (.int .i64 N.term)) (fun i => i == 15) (by kernel_rfl) hS0 ?_
    refine wpAnyG_takeW (i := 0) (v := ?_) rfl (by kernel_rfl) (by kernel_rfl) (by kernel_rfl) (fun _ _ _ h => h) (Or.inl ⟨by rfl, ?_⟩) ?_
    rotate_left
    · intro w' hSw
      go_simp
      try (with_reducible rfl)
    try simp only [Act.put, List.getElem_toArray, List.getElem_cons_zero, List.getElem_cons_succ, List.setIfInBounds_toArray, List.set_cons_zero, List.set_cons_succ]
    refine wpAnyG_takeW (i := 1) (v := ?_) rfl (by kernel_rfl) (by kernel_rfl) (by kernel_rfl) (fun _ _ _ h => h) (Or.inl ⟨by rfl, ?_⟩) ?_
    rotate_left
    · intro w' hSw
      go_simp
      try (with_reducible rfl)
    try simp only [Act.put, List.getElem_toArray, List.getElem_cons_zero, List.getElem_cons_succ, List.setIfInBounds_toArray, List.set_cons_zero, List.set_cons_succ]
    refine wpAnyG_takeW (i := 2) (v := ?_) rfl (by kernel_rfl) (by kernel_rfl) (by kernel_rfl) (fun _ _ _ h => h) (Or.inl ⟨by rfl, ?_⟩) ?_
    rotate_left
    · intro w' hSw
      go_simp
      try (with_reducible rfl)
    try simp only [Act.put, List.getElem_toArray, List.getElem_cons_zero, List.getElem_cons_succ, List.setIfInBounds_toArray, List.set_cons_zero, List.set_cons_succ]
    refine wpAnyG_takeW (i := 3) (v := ?_) rfl (by kernel_rfl) (by kernel_rfl) (by kernel_rfl) (fun _ _ _ h => h) (Or.inl ⟨by rfl, ?_⟩) ?_
    rotate_left
    · intro w' hSw
      go_simp
      try (with_reducible rfl)
    try simp only [Act.put, List.getElem_toArray, List.getElem_cons_zero, List.getElem_cons_succ, List.setIfInBounds_toArray, List.set_cons_zero, List.set_cons_succ]
    refine wpAnyG_takeW (i := 4) (v := ?_) rfl (by kernel_rfl) (by kernel_rfl) (by kernel_rfl) (fun _ _ _ h => h) (Or.inl ⟨by rfl, ?_⟩) ?_
    rotate_left
    · intro w' hSw
      go_simp
      try (with_reducible rfl)
    try simp only [Act.put, List.getElem_toArray, List.getElem_cons_zero, List.getElem_cons_succ, List.setIfInBounds_toArray, List.set_cons_zero, List.set_cons_succ]
    refine wpAnyG_take (i := 5) (v := ?_) rfl (by kernel_rfl) (by kernel_rfl) (by kernel_rfl) (by kernel_rfl) (fun _ _ _ h => h) hS0 (Or.inl ⟨by rfl, ?_⟩) ?_
    rotate_left
    · intro w' hSw
      obtain ⟨s0, s1⟩ := hSw
      go_simp
      try (with_reducible rfl)
    try simp only [Act.put, List.getElem_toArray, List.getElem_cons_zero, List.getElem_cons_succ, List.setIfInBounds_toArray, List.set_cons_zero, List.set_cons_succ]
    refine wpAnyG_takeW (i := 6) (v := ?_) rfl (by kernel_rfl) (by kernel_rfl) (by kernel_rfl) (fun _ _ _ h => h) (Or.inl ⟨by rfl, ?_⟩) ?_
    rotate_left
    · intro w' hSw
      go_simp
      try (with_reducible rfl)
    try simp only [Act.put, List.getElem_toArray, List.getElem_cons_zero, List.getElem_cons_succ, List.setIfInBounds_toArray, List.set_cons_zero, List.set_cons_succ]
    refine wpAnyG_take (i := 7) (v := ?_) rfl (by kernel_rfl) (by kernel_rfl) (by kernel_rfl) (by kernel_rfl) (fun _ _ _ h => h) hS0 (Or.inl ⟨by rfl, ?_⟩) ?_
    rotate_left
    · intro w' hSw
      obtain ⟨s0, s1⟩ := hSw
      go_simp
      try (with_reducible rfl)
    try simp only [Act.put, List.getElem_toArray, List.getElem_cons_zero, List.getElem_cons_succ, List.setIfInBounds_toArray, List.set_cons_zero, List.set_cons_succ]
    refine wpAnyG_takeW (i := 8) (v := ?_) rfl (by kernel_rfl) (by kernel_rfl) (by kernel_rfl) (fun _ _ _ h => h) (Or.inl ⟨by rfl, ?_⟩) ?_
    rotate_left
    · intro w' hSw
      go_simp
      try (with_reducible rfl)
    try simp only [Act.put, List.getElem_toArray, List.getElem_cons_zero, List.getElem_cons_succ, List.setIfInBounds_toArray, List.set_cons_zero, List.set_cons_succ]
    refine wpAnyG_takeW (i := 9) (v := ?_) rfl (by kernel_rfl) (by kernel_rfl) (by kernel_rfl) (fun _ _ _ h => h) (Or.inl ⟨by rfl, ?_⟩) ?_
    rotate_left
    · intro w' hSw
      go_simp
      try (with_reducible rfl)
    try simp only [Act.put, List.getElem_toArray, List.getElem_cons_zero, List.getElem_cons_succ, List.setIfInBounds_toArray, List.set_cons_zero, List.set_cons_succ]
    refine wpAnyG_one (i := 10) (by kernel_rfl) rfl hS0 (fun K' hK => ?_)
    simp only [List.getElem_toArray, List.getElem_cons_zero, List.getElem_cons_succ]
    go_simp
    obtain ⟨x3, hx3⟩ : ∃ x, (x2.alloc (.cells #[.int .i64 N.term, .string d] 48)).drew = x := ⟨_, rfl⟩
    have hsrc : Src Try.prog 2 27 (.slice (some ⟨x2.heap.size, 0, none⟩) 1 1) [((N.term, d) : Ent)].length ([((N.term, d) : Ent)].flatMap entE) (x2.drew.alloc (.cells #[.int .i64 N.term, .string d] 48)) :=
      Src.ofBox (enc := entE) Try.underlying27 (fun _ => rfl) entOne ((N.term, d) : Ent) _ _ (by simp [entE]) _ (by simp)
    have hx3' : x2.drew.alloc (.cells #[.int .i64 N.term, .string d] 48) = x3 := by rw [← hx3]; rfl
    have hb23 : Below x2.heap.size x2 x3 := by rw [← hx3']; exact ((Below.refl _ _).drew).alloc (by simp) _
    have hz3 : x3.heap.size = x2.heap.size + 1 := by rw [← hx3]; simp
    have hS1 : x3.cell? ⟨B, 6, none⟩ = some (.slice al2 N.log.length cl2) ∧ x3.cell? ⟨w.heap.size, 2, none⟩ = some (.int .i64 N.term) := ⟨(hb23.cell (p := ⟨B, 6, none⟩) g1).trans s_6, (hb23.cell (p := ⟨w.heap.size, 2, none⟩) (by show w.heap.size < _; omega)).trans b_2⟩
    rw [hx3'] at hsrc
    have HSRC := Lib.hid hsrc
    have HB23 := Lib.hid hb23
    have K13 := Lib.hid (K1.out.below hb23)
    have hz3' : x2.heap.size < x3.heap.size := by omega
    have HZ3 := Lib.hid hz3
    clear hsrc hb23 hz3
    first | rw [hx3] | rw [hx3']
    clear hx3 hx3'
    refine hK.out _ _ (Or.inr hS1) ?_
    clear hK K'
    try simp only [Act.put, List.getElem_toArray, List.getElem_cons_zero, List.getElem_cons_succ, List.setIfInBounds_toArray, List.set_cons_zero, List.set_cons_succ]
    refine wpAnyG_one (i := 11) (by kernel_rfl) rfl hS1 (fun K' hK => ?_)
    simp only [List.getElem_toArray, List.getElem_cons_zero, List.getElem_cons_succ]
    rw [if_pos (by rfl)]
    refine step_append_wp (.tmp 37) (.tmp 42) 27 27 ?_ l1 b1 48 iE (.agg #[.int .i64 0, .string ⟨#[]⟩]) 2 24 Try.underlying27 hE hE0 hE1 hE2 rfl (by decide) al2 N.log.length cl2 N.log ?_ K13.out (.slice (some ⟨x2.heap.size, 0, none⟩) 1 1) [((N.term, d) : Ent)] ?_ HSRC.out (by simp; omega) (by omega) ?_
    · rfl
    · rfl
    · rfl
    intro a4 c4 x4 us hus hf4 hm4 hk4
    have HUS := hus
    have HF4 := Lib.hid hf4
    have HM4 := Lib.hid hm4
    have HK4 := Lib.hid hk4
    have hz4 := hm4.size
    have hul : us.length = N.log.length + 1 := by rw [HUS.out]; simp
    obtain ⟨g, rfl, hg1, hg2, hg3, ho⟩ := HF4.out.block (by omega)
    have F4 := Lib.hid (FreshIn.one HF4.out)
    have hgB : l1 ≤ g ∧ g < b1 ∨ B < g := by
      rcases HK4.out g (by simp [blkOf]) with h | h
      · have := FreshIn.blks K13.out g h
        omega
      · right
        omega
    have HM24 : Hid (Mid l1 b1 x2 x4) := Lib.hid ((Mid.of_below _ _ HB23.out).trans HM4.out)
    have hS4 : x4.cell? ⟨B, 6, none⟩ = some (.slice al2 N.log.length cl2) ∧ x4.cell? ⟨w.heap.size, 2, none⟩ = some (.int .i64 N.term) := ⟨(HM24.out.cell (p := ⟨B, 6, none⟩) g1 (.inr (by show b1 ≤ B; omega))).trans s_6, (HM24.out.cell (p := ⟨w.heap.size, 2, none⟩) (by show w.heap.size < _; omega) (.inl (by show w.heap.size < l1; omega))).trans b_2⟩
    have sf4 : ∀ o, x4.frozen? ⟨B, o, none⟩ = false := fun o => (HM24.out.frozen (p := ⟨B, o, none⟩) g1 (.inr (by show b1 ≤ B; omega))).trans (sf o)
    have hBx4 : B < x4.heap.size := by omega
    have HUL := Lib.hid hul
    clear ho hul hus hf4 hm4 hk4
    refine hK.out _ _ (Or.inr hS4) ?_
    clear hK K'
    try simp only [Act.put, List.getElem_toArray, List.getElem_cons_zero, List.getElem_cons_succ, List.setIfInBounds_toArray, List.set_cons_zero, List.set_cons_succ]
    refine wpAnyG_takeW (i := 12) (v := ?_) rfl (by kernel_rfl) (by kernel_rfl) (by kernel_rfl) (fun _ _ _ h => h) (Or.inl ⟨by rfl, ?_⟩) ?_
    rotate_left
    · intro w' hSw
      go_simp
      try (with_reducible rfl)
    try simp only [Act.put, List.getElem_toArray, List.getElem_cons_zero, List.getElem_cons_succ, List.setIfInBounds_toArray, List.set_cons_zero, List.set_cons_succ]
    refine wpAnyG_takeW (i := 13) (v := ?_) rfl (by kernel_rfl) (by kernel_rfl) (by kernel_rfl) (fun _ _ _ h => h) (Or.inl ⟨by rfl, ?_⟩) ?_
    rotate_left
    · intro w' hSw
      go_simp
      try (with_reducible rfl)
    try simp only [Act.put, List.getElem_toArray, List.getElem_cons_zero, List.getElem_cons_succ, List.setIfInBounds_toArray, List.set_cons_zero, List.set_cons_succ]
    refine wpAnyG_takeW (i := 14) (v := ?_) rfl (by kernel_rfl) (by kernel_rfl) (by kernel_rfl) (fun _ _ _ h => h) (Or.inl ⟨by rfl, ?_⟩) ?_
    rotate_left
    · intro w' hSw
      go_simp
      try (with_reducible rfl)
    try simp only [Act.put, List.getElem_toArray, List.getElem_cons_zero, List.getElem_cons_succ, List.setIfInBounds_toArray, List.set_cons_zero, List.set_cons_succ]
    refine wpAnyG_one (i := 15) (by kernel_rfl) rfl hS4 (fun K' hK => ?_)
    simp only [List.getElem_toArray, List.getElem_cons_zero, List.getElem_cons_succ]
    go_simp
    refine hK.out _ _ (Or.inl rfl) ?_
    clear hK K'
    try simp only [Act.put, List.getElem_toArray, List.getElem_cons_zero, List.getElem_cons_succ, List.setIfInBounds_toArray, List.set_cons_zero, List.set_cons_succ]
    refine wpAnyG_done (by kernel_rfl) ?_ _
    obtain ⟨x5, hx5⟩ : ∃ x5, x4.setCell ⟨B, 6, none⟩ (.slice (some ⟨g, 0, none⟩) us.length c4) = x5 := ⟨_, rfl⟩
    have hz5 : x5.heap.size = x4.heap.size := by rw [← hx5]; simp [World.setCell]
    have hm45 : Mid B (B + 1) x4 x5 := by rw [← hx5]; exact Mid.setCell (Mid.refl B (B + 1) x4) (p := ⟨B, 6, none⟩) (Nat.le_refl _) (Nat.lt_succ_self _) _
    have hcc : us.length ≤ c4 := fit_of_own F4.out
    have L5 := Lib.hid (F4.out.mid hm45 (by omega))
    have K25 := Lib.hid ((K2.out.mid HM24.out (by have := HH2.out; omega)).mid hm45 (by omega))
    have K35 := Lib.hid ((K3.out.mid HM24.out (by have := HH2.out; omega)).mid hm45 (by omega))
    have K45 := Lib.hid ((K4.out.mid HM24.out (by have := HH2.out; omega)).mid hm45 (by omega))
    have HE5 := Lib.hid ((HE.out.mid HM24.out (.inr g3)).mid hm45 (by omega))
    have HB5 : Hid (Below w.heap.size w x5) := Lib.hid ((HB3.out.trans (HM24.out.below (by omega) HB3.out.size)).trans (hm45.below (by omega) (by omega)))
    have hBx5 : B < x5.heap.size := by omega
    have t_0 : x5.cell? ⟨B, 0, none⟩ = some (.int .i64 N.id) := by rw [← hx5]; exact (World.cell?_setCell_other _ _ _ _ (by simp)).trans ((HM24.out.cell (p := ⟨B, 0, none⟩) g1 (.inr (by show b1 ≤ B; omega))).trans s_0)
    have t_1 : x5.cell? ⟨B, 1, none⟩ = some (.int .i64 N.nodes) := by rw [← hx5]; exact (World.cell?_setCell_other _ _ _ _ (by simp)).trans ((HM24.out.cell (p := ⟨B, 1, none⟩) g1 (.inr (by show b1 ≤ B; omega))).trans s_1)
    have t_2 : x5.cell? ⟨B, 2, none⟩ = some (.int .i64 N.term) := by rw [← hx5]; exact (World.cell?_setCell_other _ _ _ _ (by simp)).trans ((HM24.out.cell (p := ⟨B, 2, none⟩) g1 (.inr (by show b1 ≤ B; omega))).trans s_2)
    have t_3 : x5.cell? ⟨B, 3, none⟩ = some (.int .i64 N.vote) := by rw [← hx5]; exact (World.cell?_setCell_other _ _ _ _ (by simp)).trans ((HM24.out.cell (p := ⟨B, 3, none⟩) g1 (.inr (by show b1 ≤ B; omega))).trans s_3)
    have t_4 : x5.cell? ⟨B, 4, none⟩ = some (.int .i64 N.role) := by rw [← hx5]; exact (World.cell?_setCell_other _ _ _ _ (by simp)).trans ((HM24.out.cell (p := ⟨B, 4, none⟩) g1 (.inr (by show b1 ≤ B; omega))).trans s_4)
    have t_5 : x5.cell? ⟨B, 5, none⟩ = some (.bool N.up) := by rw [← hx5]; exact (World.cell?_setCell_other _ _ _ _ (by simp)).trans ((HM24.out.cell (p := ⟨B, 5, none⟩) g1 (.inr (by show b1 ≤ B; omega))).trans s_5)
    have t_6 : x5.cell? ⟨B, 6, none⟩ = some (.slice (some ⟨g, 0, none⟩) us.length c4) := by rw [← hx5]; simp [go_sem, hS4.1]
    have t_7 : x5.cell? ⟨B, 7, none⟩ = some (.int .i64 N.commit) := by rw [← hx5]; exact (World.cell?_setCell_other _ _ _ _ (by simp)).trans ((HM24.out.cell (p := ⟨B, 7, none⟩) g1 (.inr (by show b1 ≤ B; omega))).trans s_7)
    have t_8 : x5.cell? ⟨B, 8, none⟩ = some (.int .i64 N.elapsed) := by rw [← hx5]; exact (World.cell?_setCell_other _ _ _ _ (by simp)).trans ((HM24.out.cell (p := ⟨B, 8, none⟩) g1 (.inr (by show b1 ≤ B; omega))).trans s_8)
    have t_9 : x5.cell? ⟨B, 9, none⟩ = some (.int .i64 N.wait) := by rw [← hx5]; exact (World.cell?_setCell_other _ _ _ _ (by simp)).trans ((HM24.out.cell (p := ⟨B, 9, none⟩) g1 (.inr (by show b1 ≤ B; omega))).trans s_9)
    have t_10 : x5.cell? ⟨B, 10, none⟩ = some (.slice av2 N.votes.length cv2) := by rw [← hx5]; exact (World.cell?_setCell_other _ _ _ _ (by simp)).trans ((HM24.out.cell (p := ⟨B, 10, none⟩) g1 (.inr (by show b1 ≤ B; omega))).trans s_10)
    have t_11 : x5.cell? ⟨B, 11, none⟩ = some (.slice an2 N.next.length cn2) := by rw [← hx5]; exact (World.cell?_setCell_other _ _ _ _ (by simp)).trans ((HM24.out.cell (p := ⟨B, 11, none⟩) g1 (.inr (by show b1 ≤ B; omega))).trans s_11)
    have t_12 : x5.cell? ⟨B, 12, none⟩ = some (.slice am2 N.mtch.length cm2) := by rw [← hx5]; exact (World.cell?_setCell_other _ _ _ _ (by simp)).trans ((HM24.out.cell (p := ⟨B, 12, none⟩) g1 (.inr (by show b1 ≤ B; omega))).trans s_12)
    have t_13 : x5.cell? ⟨B, 13, none⟩ = some (.slice (some ⟨E, 0, none⟩) 0 0) := by rw [← hx5]; exact (World.cell?_setCell_other _ _ _ _ (by simp)).trans ((HM24.out.cell (p := ⟨B, 13, none⟩) g1 (.inr (by show b1 ≤ B; omega))).trans s_13)
    have z_0 : x5.cell? ⟨w.heap.size + 1, 0, none⟩ = some (.int .i64 0) := (hm45.cell (p := ⟨w.heap.size + 1, 0, none⟩) (by show w.heap.size + 1 < _; omega) (.inl (by show w.heap.size + 1 < B; omega))).trans ((HM24.out.cell (p := ⟨w.heap.size + 1, 0, none⟩) (by show w.heap.size + 1 < _; omega) (.inl (by show w.heap.size + 1 < l1; omega))).trans y_0)
    have z_1 : x5.cell? ⟨w.heap.size + 1, 1, none⟩ = some (.int .i64 0) := (hm45.cell (p := ⟨w.heap.size + 1, 1, none⟩) (by show w.heap.size + 1 < _; omega) (.inl (by show w.heap.size + 1 < B; omega))).trans ((HM24.out.cell (p := ⟨w.heap.size + 1, 1, none⟩) (by show w.heap.size + 1 < _; omega) (.inl (by show w.heap.size + 1 < l1; omega))).trans y_1)
    have z_2 : x5.cell? ⟨w.heap.size + 1, 2, none⟩ = some (.int .i64 0) := (hm45.cell (p := ⟨w.heap.size + 1, 2, none⟩) (by show w.heap.size + 1 < _; omega) (.inl (by show w.heap.size + 1 < B; omega))).trans ((HM24.out.cell (p := ⟨w.heap.size + 1, 2, none⟩) (by show w.heap.size + 1 < _; omega) (.inl (by show w.heap.size + 1 < l1; omega))).trans y_2)
    have z_3 : x5.cell? ⟨w.heap.size + 1, 3, none⟩ = some (.int .i64 0) := (hm45.cell (p := ⟨w.heap.size + 1, 3, none⟩) (by show w.heap.size + 1 < _; omega) (.inl (by show w.heap.size + 1 < B; omega))).trans ((HM24.out.cell (p := ⟨w.heap.size + 1, 3, none⟩) (by show w.heap.size + 1 < _; omega) (.inl (by show w.heap.size + 1 < l1; omega))).trans y_3)
    have z_4 : x5.cell? ⟨w.heap.size + 1, 4, none⟩ = some (.int .i64 0) := (hm45.cell (p := ⟨w.heap.size + 1, 4, none⟩) (by show w.heap.size + 1 < _; omega) (.inl (by show w.heap.size + 1 < B; omega))).trans ((HM24.out.cell (p := ⟨w.heap.size + 1, 4, none⟩) (by show w.heap.size + 1 < _; omega) (.inl (by show w.heap.size + 1 < l1; omega))).trans y_4)
    have z_5 : x5.cell? ⟨w.heap.size + 1, 5, none⟩ = some (.bool false) := (hm45.cell (p := ⟨w.heap.size + 1, 5, none⟩) (by show w.heap.size + 1 < _; omega) (.inl (by show w.heap.size + 1 < B; omega))).trans ((HM24.out.cell (p := ⟨w.heap.size + 1, 5, none⟩) (by show w.heap.size + 1 < _; omega) (.inl (by show w.heap.size + 1 < l1; omega))).trans y_5)
    have z_6 : x5.cell? ⟨w.heap.size + 1, 6, none⟩ = some (.slice none 0 0) := (hm45.cell (p := ⟨w.heap.size + 1, 6, none⟩) (by show w.heap.size + 1 < _; omega) (.inl (by show w.heap.size + 1 < B; omega))).trans ((HM24.out.cell (p := ⟨w.heap.size + 1, 6, none⟩) (by show w.heap.size + 1 < _; omega) (.inl (by show w.heap.size + 1 < l1; omega))).trans y_6)
    have z_7 : x5.cell? ⟨w.heap.size + 1, 7, none⟩ = some (.int .i64 0) := (hm45.cell (p := ⟨w.heap.size + 1, 7, none⟩) (by show w.heap.size + 1 < _; omega) (.inl (by show w.heap.size + 1 < B; omega))).trans ((HM24.out.cell (p := ⟨w.heap.size + 1, 7, none⟩) (by show w.heap.size + 1 < _; omega) (.inl (by show w.heap.size + 1 < l1; omega))).trans y_7)
    have z_8 : x5.cell? ⟨w.heap.size + 1, 8, none⟩ = some (.int .i64 0) := (hm45.cell (p := ⟨w.heap.size + 1, 8, none⟩) (by show w.heap.size + 1 < _; omega) (.inl (by show w.heap.size + 1 < B; omega))).trans ((HM24.out.cell (p := ⟨w.heap.size + 1, 8, none⟩) (by show w.heap.size + 1 < _; omega) (.inl (by show w.heap.size + 1 < l1; omega))).trans y_8)
    have z_9 : x5.cell? ⟨w.heap.size + 1, 9, none⟩ = some (.int .i64 0) := (hm45.cell (p := ⟨w.heap.size + 1, 9, none⟩) (by show w.heap.size + 1 < _; omega) (.inl (by show w.heap.size + 1 < B; omega))).trans ((HM24.out.cell (p := ⟨w.heap.size + 1, 9, none⟩) (by show w.heap.size + 1 < _; omega) (.inl (by show w.heap.size + 1 < l1; omega))).trans y_9)
    have z_10 : x5.cell? ⟨w.heap.size + 1, 10, none⟩ = some (.slice none 0 0) := (hm45.cell (p := ⟨w.heap.size + 1, 10, none⟩) (by show w.heap.size + 1 < _; omega) (.inl (by show w.heap.size + 1 < B; omega))).trans ((HM24.out.cell (p := ⟨w.heap.size + 1, 10, none⟩) (by show w.heap.size + 1 < _; omega) (.inl (by show w.heap.size + 1 < l1; omega))).trans y_10)
    have z_11 : x5.cell? ⟨w.heap.size + 1, 11, none⟩ = some (.slice none 0 0) := (hm45.cell (p := ⟨w.heap.size + 1, 11, none⟩) (by show w.heap.size + 1 < _; omega) (.inl (by show w.heap.size + 1 < B; omega))).trans ((HM24.out.cell (p := ⟨w.heap.size + 1, 11, none⟩) (by show w.heap.size + 1 < _; omega) (.inl (by show w.heap.size + 1 < l1; omega))).trans y_11)
    have z_12 : x5.cell? ⟨w.heap.size + 1, 12, none⟩ = some (.slice none 0 0) := (hm45.cell (p := ⟨w.heap.size + 1, 12, none⟩) (by show w.heap.size + 1 < _; omega) (.inl (by show w.heap.size + 1 < B; omega))).trans ((HM24.out.cell (p := ⟨w.heap.size + 1, 12, none⟩) (by show w.heap.size + 1 < _; omega) (.inl (by show w.heap.size + 1 < l1; omega))).trans y_12)
    have zf : ∀ o, x5.frozen? ⟨w.heap.size + 1, o, none⟩ = false := fun o => (hm45.frozen (p := ⟨w.heap.size + 1, o, none⟩) (by show w.heap.size + 1 < _; omega) (.inl (by show w.heap.size + 1 < B; omega))).trans ((HM24.out.frozen (p := ⟨w.heap.size + 1, o, none⟩) (by show w.heap.size + 1 < _; omega) (.inl (by show w.heap.size + 1 < l1; omega))).trans (yf o))
    have tf : ∀ o, x5.frozen? ⟨B, o, none⟩ = false := fun o => by rw [← hx5]; simp [go_sem, sf4]
    clear s_0 s_1 s_2 s_3 s_4 s_5 s_6 s_7 s_8 s_9 s_10 s_11 s_12 s_13 sf yf sf4 hS4 hS1 hS0 b_2
    rw [hx5]
    clear hx5 hm45
    go_wp2_with fail
    refine (advanceS_c B (addN N d) (some ⟨g, 0, none⟩) am2 c4 cm2 _ hBx5 t_0 t_1 t_2 (t_6.trans (by rw [HUS.out]; rfl)) t_7 t_12 tf ?_ (K45.out.sl fun _ => rfl) (by show (N.log ++ [(N.term, d)]).length ≤ _; simp; omega) (by show (N.mtch.length : Int) = N.nodes; rw [HF.out.ml, HF.out.nodes]) (by show N.nodes ≤ 5; rw [HF.out.nodes]; omega) HF.out.commit).mono ?_
    · have h : Sl entE 2 x5 (some ⟨g, 0, none⟩) us := L5.out.sl (fun _ => rfl)
      rw [HUS.out] at h
      exact h
    rintro e x6 ⟨rfl, ha⟩
    obtain ⟨V, hV⟩ : ∃ V, advS (addN N d) (addN N d).log.length = V := ⟨_, rfl⟩
    rw [hV] at ha
    have HV : Hid (advI (addN N d) (addN N d).log.length = V) := Lib.hid (by rw [← hV]; exact adv_same (mono_snoc HF.out.mono d) _ (Nat.le_refl _))
    have HM6 := Lib.hid ha.mid
    have hz6 := ha.mid.size
    have HB6 : Hid (Below w.heap.size w x6) := Lib.hid (HB5.out.trans (HM6.out.below (by omega) (by omega)))
    have hBx6 : B < x6.heap.size := by omega
    have s_0 : x6.cell? ⟨B, 0, none⟩ = some (.int .i64 N.id) := (ha.cell 0 (by decide)).trans t_0
    have s_1 : x6.cell? ⟨B, 1, none⟩ = some (.int .i64 N.nodes) := (ha.cell 1 (by decide)).trans t_1
    have s_2 : x6.cell? ⟨B, 2, none⟩ = some (.int .i64 N.term) := (ha.cell 2 (by decide)).trans t_2
    have s_3 : x6.cell? ⟨B, 3, none⟩ = some (.int .i64 N.vote) := (ha.cell 3 (by decide)).trans t_3
    have s_4 : x6.cell? ⟨B, 4, none⟩ = some (.int .i64 N.role) := (ha.cell 4 (by decide)).trans t_4
    have s_5 : x6.cell? ⟨B, 5, none⟩ = some (.bool N.up) := (ha.cell 5 (by decide)).trans t_5
    have s_6 : x6.cell? ⟨B, 6, none⟩ = some (.slice (some ⟨g, 0, none⟩) us.length c4) := (ha.cell 6 (by decide)).trans t_6
    have s_7 : x6.cell? ⟨B, 7, none⟩ = some (.int .i64 V) := ha.c7
    have s_8 : x6.cell? ⟨B, 8, none⟩ = some (.int .i64 N.elapsed) := (ha.cell 8 (by decide)).trans t_8
    have s_9 : x6.cell? ⟨B, 9, none⟩ = some (.int .i64 N.wait) := (ha.cell 9 (by decide)).trans t_9
    have s_10 : x6.cell? ⟨B, 10, none⟩ = some (.slice av2 N.votes.length cv2) := (ha.cell 10 (by decide)).trans t_10
    have s_11 : x6.cell? ⟨B, 11, none⟩ = some (.slice an2 N.next.length cn2) := (ha.cell 11 (by decide)).trans t_11
    have s_12 : x6.cell? ⟨B, 12, none⟩ = some (.slice am2 N.mtch.length cm2) := (ha.cell 12 (by decide)).trans t_12
    have s_13 : x6.cell? ⟨B, 13, none⟩ = some (.slice (some ⟨E, 0, none⟩) 0 0) := (ha.cell 13 (by decide)).trans t_13
    have y_0 : x6.cell? ⟨w.heap.size + 1, 0, none⟩ = some (.int .i64 0) := (HM6.out.cell (p := ⟨w.heap.size + 1, 0, none⟩) (by show w.heap.size + 1 < _; omega) (.inl (by show w.heap.size + 1 < B; omega))).trans z_0
    have y_1 : x6.cell? ⟨w.heap.size + 1, 1, none⟩ = some (.int .i64 0) := (HM6.out.cell (p := ⟨w.heap.size + 1, 1, none⟩) (by show w.heap.size + 1 < _; omega) (.inl (by show w.heap.size + 1 < B; omega))).trans z_1
    have y_2 : x6.cell? ⟨w.heap.size + 1, 2, none⟩ = some (.int .i64 0) := (HM6.out.cell (p := ⟨w.heap.size + 1, 2, none⟩) (by show w.heap.size + 1 < _; omega) (.inl (by show w.heap.size + 1 < B; omega))).trans z_2
    have y_3 : x6.cell? ⟨w.heap.size + 1, 3, none⟩ = some (.int .i64 0) := (HM6.out.cell (p := ⟨w.heap.size + 1, 3, none⟩) (by show w.heap.size + 1 < _; omega) (.inl (by show w.heap.size + 1 < B; omega))).trans z_3
    have y_4 : x6.cell? ⟨w.heap.size + 1, 4, none⟩ = some (.int .i64 0) := (HM6.out.cell (p := ⟨w.heap.size + 1, 4, none⟩) (by show w.heap.size + 1 < _; omega) (.inl (by show w.heap.size + 1 < B; omega))).trans z_4
    have y_5 : x6.cell? ⟨w.heap.size + 1, 5, none⟩ = some (.bool false) := (HM6.out.cell (p := ⟨w.heap.size + 1, 5, none⟩) (by show w.heap.size + 1 < _; omega) (.inl (by show w.heap.size + 1 < B; omega))).trans z_5
    have y_6 : x6.cell? ⟨w.heap.size + 1, 6, none⟩ = some (.slice none 0 0) := (HM6.out.cell (p := ⟨w.heap.size + 1, 6, none⟩) (by show w.heap.size + 1 < _; omega) (.inl (by show w.heap.size + 1 < B; omega))).trans z_6
    have y_7 : x6.cell? ⟨w.heap.size + 1, 7, none⟩ = some (.int .i64 0) := (HM6.out.cell (p := ⟨w.heap.size + 1, 7, none⟩) (by show w.heap.size + 1 < _; omega) (.inl (by show w.heap.size + 1 < B; omega))).trans z_7
    have y_8 : x6.cell? ⟨w.heap.size + 1, 8, none⟩ = some (.int .i64 0) := (HM6.out.cell (p := ⟨w.heap.size + 1, 8, none⟩) (by show w.heap.size + 1 < _; omega) (.inl (by show w.heap.size + 1 < B; omega))).trans z_8
    have y_9 : x6.cell? ⟨w.heap.size + 1, 9, none⟩ = some (.int .i64 0) := (HM6.out.cell (p := ⟨w.heap.size + 1, 9, none⟩) (by show w.heap.size + 1 < _; omega) (.inl (by show w.heap.size + 1 < B; omega))).trans z_9
    have y_10 : x6.cell? ⟨w.heap.size + 1, 10, none⟩ = some (.slice none 0 0) := (HM6.out.cell (p := ⟨w.heap.size + 1, 10, none⟩) (by show w.heap.size + 1 < _; omega) (.inl (by show w.heap.size + 1 < B; omega))).trans z_10
    have y_11 : x6.cell? ⟨w.heap.size + 1, 11, none⟩ = some (.slice none 0 0) := (HM6.out.cell (p := ⟨w.heap.size + 1, 11, none⟩) (by show w.heap.size + 1 < _; omega) (.inl (by show w.heap.size + 1 < B; omega))).trans z_11
    have y_12 : x6.cell? ⟨w.heap.size + 1, 12, none⟩ = some (.slice none 0 0) := (HM6.out.cell (p := ⟨w.heap.size + 1, 12, none⟩) (by show w.heap.size + 1 < _; omega) (.inl (by show w.heap.size + 1 < B; omega))).trans z_12
    have yf : ∀ o, x6.frozen? ⟨w.heap.size + 1, o, none⟩ = false := fun o => (HM6.out.frozen (p := ⟨w.heap.size + 1, o, none⟩) (by show w.heap.size + 1 < _; omega) (.inl (by show w.heap.size + 1 < B; omega))).trans (zf o)
    have sf : ∀ o, x6.frozen? ⟨B, o, none⟩ = false := fun o => (ha.fz o).trans (tf o)
    have L6 := Lib.hid (L5.out.mid HM6.out (by omega))
    have K26 := Lib.hid (K25.out.mid HM6.out (by omega))
    have K36 := Lib.hid (K35.out.mid HM6.out (by omega))
    have K46 := Lib.hid (K45.out.mid HM6.out (by omega))
    have HE6 := Lib.hid (HE5.out.mid HM6.out (by omega))
    have hN6 : NodeSl x6 (some ⟨g, 0, none⟩) av2 an2 am2 (propN N d) := by
      refine ⟨?_, K26.out.sl fun _ => rfl, K36.out.sl fun _ => rfl, K46.out.sl fun _ => rfl⟩
      have h : Sl entE 2 x6 (some ⟨g, 0, none⟩) us := L6.out.sl (fun _ => rfl)
      rw [HUS.out] at h
      exact h
    have HN6 := Lib.hid hN6
    have HD : Hid (∀ k ∈ g :: (blkOf av2 ++ blkOf an2 ++ blkOf am2), k ≠ B ∧ k ∉ blkOf (some (⟨E, 0, none⟩ : Addr))) := Lib.hid (by
      intro k hk
      simp only [blkOf, List.mem_singleton]
      simp only [List.mem_cons, List.mem_append] at hk
      rcases hk with rfl | (hk | hk) | hk
      · omega
      · have := FreshIn.blks K26.out k hk; omega
      · have := FreshIn.blks K36.out k hk; omega
      · have := FreshIn.blks K46.out k hk; omega)
    clear t_0 z_0 t_1 z_1 t_2 z_2 t_3 z_3 t_4 z_4 t_5 z_5 t_6 z_6 t_7 z_7 t_8 z_8 t_9 z_9 t_10 z_10 t_11 z_11 t_12 z_12 t_13 tf zf ha hV hN6
    go_wp2_with fail
    refine (allS_c B E g (propN N d) av2 an2 am2 (some ⟨E, 0, none⟩) c4 cv2 cn2 cm2 0 m _ hBx6 s_0 s_1 s_2 s_3 s_4 s_5 (s_6.trans (by rw [HUS.out]; rfl)) (s_7.trans (by rw [← HV.out]; rfl)) s_8 s_9 s_10 s_11 s_12 s_13 sf HN6.out (by show (N.log ++ [(N.term, d)]).length ≤ _; simp; omega) ⟨HE6.out.mono (Nat.le_refl _) (by omega), RowsG.nil, by simp⟩ (by omega) (by simp [blkOf]; omega) HD.out HF.out.nodes hm5 HF.out.nl ?_ (by have := HUS.out ▸ hcc; exact this)).mono ?_
    · intro k hk
      have h := HF.out.nx k hk
      refine ⟨h.1, ?_⟩
      show N.next[k] ≤ ((N.log ++ [(N.term, d)]).length : Int)
      simp
      exact h.2
    rintro e x7 ⟨rfl, rs, ar, cr, hrs, hc7, hsa, hu, _, _⟩
    have hz7 := hu.size
    have HB7 : Hid (Below w.heap.size w x7) := Lib.hid (HB6.out.trans (hu.toBelow (by omega) (by omega) (fun k hk => by simp [blkOf] at hk; omega)))
    have HSA := Lib.hid hsa
    have HRS := Lib.hid hrs
    have hN7 : NodeSl x7 (some ⟨g, 0, none⟩) av2 an2 am2 (propN N d) := by
      have hd := HD.out
      exact ⟨HN6.out.log.upd hu (fun k hk => hd k (by simp [blkOf] at hk; simp [hk])), HN6.out.votes.upd hu (fun k hk => hd k (by simp [hk])), HN6.out.next.upd hu (fun k hk => hd k (by simp [hk])), HN6.out.mtch.upd hu (fun k hk => hd k (by simp [hk]))⟩
    have HN7 := Lib.hid hN7
    have t_0 : x7.cell? ⟨B, 0, none⟩ = some (.int .i64 N.id) := (hu.cell 0 (by omega)).trans s_0
    have t_1 : x7.cell? ⟨B, 1, none⟩ = some (.int .i64 N.nodes) := (hu.cell 1 (by omega)).trans s_1
    have t_2 : x7.cell? ⟨B, 2, none⟩ = some (.int .i64 N.term) := (hu.cell 2 (by omega)).trans s_2
    have t_3 : x7.cell? ⟨B, 3, none⟩ = some (.int .i64 N.vote) := (hu.cell 3 (by omega)).trans s_3
    have t_4 : x7.cell? ⟨B, 4, none⟩ = some (.int .i64 N.role) := (hu.cell 4 (by omega)).trans s_4
    have t_5 : x7.cell? ⟨B, 5, none⟩ = some (.bool N.up) := (hu.cell 5 (by omega)).trans s_5
    have t_6 : x7.cell? ⟨B, 6, none⟩ = some (.slice (some ⟨g, 0, none⟩) us.length c4) := (hu.cell 6 (by omega)).trans s_6
    have t_7 : x7.cell? ⟨B, 7, none⟩ = some (.int .i64 V) := (hu.cell 7 (by omega)).trans s_7
    have t_8 : x7.cell? ⟨B, 8, none⟩ = some (.int .i64 N.elapsed) := (hu.cell 8 (by omega)).trans s_8
    have t_9 : x7.cell? ⟨B, 9, none⟩ = some (.int .i64 N.wait) := (hu.cell 9 (by omega)).trans s_9
    have t_10 : x7.cell? ⟨B, 10, none⟩ = some (.slice av2 N.votes.length cv2) := (hu.cell 10 (by omega)).trans s_10
    have t_11 : x7.cell? ⟨B, 11, none⟩ = some (.slice an2 N.next.length cn2) := (hu.cell 11 (by omega)).trans s_11
    have t_12 : x7.cell? ⟨B, 12, none⟩ = some (.slice am2 N.mtch.length cm2) := (hu.cell 12 (by omega)).trans s_12
    have z_0 : x7.cell? ⟨w.heap.size + 1, 0, none⟩ = some (.int .i64 0) := (World.cell?_of_block (a := ⟨w.heap.size + 1, 0, none⟩) (hu.block (w.heap.size + 1) (by omega) (by omega) (by simp [blkOf]; omega))).trans y_0
    have z_1 : x7.cell? ⟨w.heap.size + 1, 1, none⟩ = some (.int .i64 0) := (World.cell?_of_block (a := ⟨w.heap.size + 1, 1, none⟩) (hu.block (w.heap.size + 1) (by omega) (by omega) (by simp [blkOf]; omega))).trans y_1
    have z_2 : x7.cell? ⟨w.heap.size + 1, 2, none⟩ = some (.int .i64 0) := (World.cell?_of_block (a := ⟨w.heap.size + 1, 2, none⟩) (hu.block (w.heap.size + 1) (by omega) (by omega) (by simp [blkOf]; omega))).trans y_2
    have z_3 : x7.cell? ⟨w.heap.size + 1, 3, none⟩ = some (.int .i64 0) := (World.cell?_of_block (a := ⟨w.heap.size + 1, 3, none⟩) (hu.block (w.heap.size + 1) (by omega) (by omega) (by simp [blkOf]; omega))).trans y_3
    have z_4 : x7.cell? ⟨w.heap.size + 1, 4, none⟩ = some (.int .i64 0) := (World.cell?_of_block (a := ⟨w.heap.size + 1, 4, none⟩) (hu.block (w.heap.size + 1) (by omega) (by omega) (by simp [blkOf]; omega))).trans y_4
    have z_5 : x7.cell? ⟨w.heap.size + 1, 5, none⟩ = some (.bool false) := (World.cell?_of_block (a := ⟨w.heap.size + 1, 5, none⟩) (hu.block (w.heap.size + 1) (by omega) (by omega) (by simp [blkOf]; omega))).trans y_5
    have z_6 : x7.cell? ⟨w.heap.size + 1, 6, none⟩ = some (.slice none 0 0) := (World.cell?_of_block (a := ⟨w.heap.size + 1, 6, none⟩) (hu.block (w.heap.size + 1) (by omega) (by omega) (by simp [blkOf]; omega))).trans y_6
    have z_7 : x7.cell? ⟨w.heap.size + 1, 7, none⟩ = some (.int .i64 0) := (World.cell?_of_block (a := ⟨w.heap.size + 1, 7, none⟩) (hu.block (w.heap.size + 1) (by omega) (by omega) (by simp [blkOf]; omega))).trans y_7
    have z_8 : x7.cell? ⟨w.heap.size + 1, 8, none⟩ = some (.int .i64 0) := (World.cell?_of_block (a := ⟨w.heap.size + 1, 8, none⟩) (hu.block (w.heap.size + 1) (by omega) (by omega) (by simp [blkOf]; omega))).trans y_8
    have z_9 : x7.cell? ⟨w.heap.size + 1, 9, none⟩ = some (.int .i64 0) := (World.cell?_of_block (a := ⟨w.heap.size + 1, 9, none⟩) (hu.block (w.heap.size + 1) (by omega) (by omega) (by simp [blkOf]; omega))).trans y_9
    have z_10 : x7.cell? ⟨w.heap.size + 1, 10, none⟩ = some (.slice none 0 0) := (World.cell?_of_block (a := ⟨w.heap.size + 1, 10, none⟩) (hu.block (w.heap.size + 1) (by omega) (by omega) (by simp [blkOf]; omega))).trans y_10
    have z_11 : x7.cell? ⟨w.heap.size + 1, 11, none⟩ = some (.slice none 0 0) := (World.cell?_of_block (a := ⟨w.heap.size + 1, 11, none⟩) (hu.block (w.heap.size + 1) (by omega) (by omega) (by simp [blkOf]; omega))).trans y_11
    have z_12 : x7.cell? ⟨w.heap.size + 1, 12, none⟩ = some (.slice none 0 0) := (World.cell?_of_block (a := ⟨w.heap.size + 1, 12, none⟩) (hu.block (w.heap.size + 1) (by omega) (by omega) (by simp [blkOf]; omega))).trans y_12
    have zf : ∀ o, x7.frozen? ⟨w.heap.size + 1, o, none⟩ = false := fun o => (World.frozen?_of_block (a := ⟨w.heap.size + 1, o, none⟩) (hu.block (w.heap.size + 1) (by omega) (by omega) (by simp [blkOf]; omega))).trans (yf o)
    have hkx : w.heap.size + 1 < x7.heap.size := by omega
    have hHB : ¬ w.heap.size + 1 = B := by omega
    have hBH : ¬ B = w.heap.size + 1 := by omega
    clear s_0 y_0 s_1 y_1 s_2 y_2 s_3 y_3 s_4 y_4 s_5 y_5 s_6 y_6 s_7 y_7 s_8 y_8 s_9 y_9 s_10 y_10 s_11 y_11 s_12 y_12 s_13 sf yf hu hsa hrs hN7
    go_upto_region 11 with fail
    have hS7 : x7.cell? ⟨B, 0, none⟩ = some (.int .i64 N.id) ∧ x7.cell? ⟨B, 1, none⟩ = some (.int .i64 N.nodes) ∧ x7.cell? ⟨B, 2, none⟩ = some (.int .i64 N.term) ∧ x7.cell? ⟨B, 3, none⟩ = some (.int .i64 N.vote) ∧ x7.cell? ⟨B, 4, none⟩ = some (.int .i64 N.role) ∧ x7.cell? ⟨B, 5, none⟩ = some (.bool N.up) ∧ x7.cell? ⟨B, 6, none⟩ = some (.slice (some ⟨g, 0, none⟩) us.length c4) ∧ x7.cell? ⟨B, 7, none⟩ = some (.int .i64 V) ∧ x7.cell? ⟨B, 8, none⟩ = some (.int .i64 N.elapsed) ∧ x7.cell? ⟨B, 9, none⟩ = some (.int .i64 N.wait) ∧ x7.cell? ⟨B, 10, none⟩ = some (.slice av2 N.votes.length cv2) ∧ x7.cell? ⟨B, 11, none⟩ = some (.slice an2 N.next.length cn2) ∧ x7.cell? ⟨B, 12, none⟩ = some (.slice am2 N.mtch.length cm2) ∧ x7.cell? ⟨B, 13, none⟩ = some (.slice ar rs.length cr) := ⟨t_0, t_1, t_2, t_3, t_4, t_5, t_6, t_7, t_8, t_9, t_10, t_11, t_12, hc7⟩
    refine wp_region_G (fun w' => w'.cell? ⟨B, 0, none⟩ = some (.int .i64 N.id) ∧ w'.cell? ⟨B, 1, none⟩ = some (.int .i64 N.nodes) ∧ w'.cell? ⟨B, 2, none⟩ = some (.int .i64 N.term) ∧ w'.cell? ⟨B, 3, none⟩ = some (.int .i64 N.vote) ∧ w'.cell? ⟨B, 4, none⟩ = some (.int .i64 N.role) ∧ w'.cell? ⟨B, 5, none⟩ = some (.bool N.up) ∧ w'.cell? ⟨B, 6, none⟩ = some (.slice (some ⟨g, 0, none⟩) us.length c4) ∧ w'.cell? ⟨B, 7, none⟩ = some (.int .i64 V) ∧ w'.cell? ⟨B, 8, none⟩ = some (.int .i64 N.elapsed) ∧ w'.cell? ⟨B, 9, none⟩ = some (.int .i64 N.wait) ∧ w'.cell? ⟨B, 10, none⟩ = some (.slice av2 N.votes.length cv2) ∧ w'.cell? ⟨B, 11, none⟩ = some (.slice an2 N.next.length cn2) ∧ w'.cell? ⟨B, 12, none⟩ = some (.slice am2 N.mtch.length cm2) ∧ w'.cell? ⟨B, 13, none⟩ = some (.slice ar rs.length cr)) (fun i => false) (by kernel_rfl) hS7 ?_
    refine wpAnyG_takeW (i := 0) (v := ?_) rfl (by kernel_rfl) (by kernel_rfl) (by kernel_rfl) (fun _ _ _ h => h) (Or.inl ⟨by rfl, ?_⟩) ?_
    rotate_left
    · intro w' hSw
      go_simp
      try (with_reducible rfl)
    try simp only [Act.put, List.getElem_toArray, List.getElem_cons_zero, List.getElem_cons_succ, List.setIfInBounds_toArray, List.set_cons_zero, List.set_cons_succ]
    refine wpAnyG_takeW (i := 1) (v := ?_) rfl (by kernel_rfl) (by kernel_rfl) (by kernel_rfl) (fun _ _ _ h => h) (Or.inl ⟨by rfl, ?_⟩) ?_
    rotate_left
    · intro w' hSw
      go_simp
      try (with_reducible rfl)
    try simp only [Act.put, List.getElem_toArray, List.getElem_cons_zero, List.getElem_cons_succ, List.setIfInBounds_toArray, List.set_cons_zero, List.set_cons_succ]
    refine wpAnyG_takeW (i := 2) (v := ?_) rfl (by kernel_rfl) (by kernel_rfl) (by kernel_rfl) (fun _ _ _ h => h) (Or.inl ⟨by rfl, ?_⟩) ?_
    rotate_left
    · intro w' hSw
      go_simp
      try (with_reducible rfl)
    try simp only [Act.put, List.getElem_toArray, List.getElem_cons_zero, List.getElem_cons_succ, List.setIfInBounds_toArray, List.set_cons_zero, List.set_cons_succ]
    refine wpAnyG_take (i := 3) (v := ?_) rfl (by kernel_rfl) (by kernel_rfl) (by kernel_rfl) (by kernel_rfl) (fun _ _ _ h => h) hS7 (Or.inl ⟨by rfl, ?_⟩) ?_
    rotate_left
    · intro w' hSw
      obtain ⟨s0, s1, s2, s3, s4, s5, s6, s7, s8, s9, s10, s11, s12, s13⟩ := hSw
      go_simp
      try (with_reducible rfl)
    try simp only [Act.put, List.getElem_toArray, List.getElem_cons_zero, List.getElem_cons_succ, List.setIfInBounds_toArray, List.set_cons_zero, List.set_cons_succ]
    refine wpAnyG_takeW (i := 4) (v := ?_) rfl (by kernel_rfl) (by kernel_rfl) (by kernel_rfl) (fun _ _ _ h => h) (Or.inl ⟨by rfl, ?_⟩) ?_
    rotate_left
    · intro w' hSw
      go_simp
      try (with_reducible rfl)
    try simp only [Act.put, List.getElem_toArray, List.getElem_cons_zero, List.getElem_cons_succ, List.setIfInBounds_toArray, List.set_cons_zero, List.set_cons_succ]
    refine wpAnyG_takeW (i := 5) (v := ?_) rfl (by kernel_rfl) (by kernel_rfl) (by kernel_rfl) (fun _ _ _ h => h) (Or.inl ⟨by rfl, ?_⟩) ?_
    rotate_left
    · intro w' hSw
      go_simp
      try (with_reducible rfl)
    try simp only [Act.put, List.getElem_toArray, List.getElem_cons_zero, List.getElem_cons_succ, List.setIfInBounds_toArray, List.set_cons_zero, List.set_cons_succ]
    refine wpAnyG_takeW (i := 6) (v := ?_) rfl (by kernel_rfl) (by kernel_rfl) (by kernel_rfl) (fun _ _ _ h => h) (Or.inl ⟨by rfl, ?_⟩) ?_
    rotate_left
    · intro w' hSw
      go_simp
      try (with_reducible rfl)
    try simp only [Act.put, List.getElem_toArray, List.getElem_cons_zero, List.getElem_cons_succ, List.setIfInBounds_toArray, List.set_cons_zero, List.set_cons_succ]
    refine wpAnyG_take (i := 7) (v := ?_) rfl (by kernel_rfl) (by kernel_rfl) (by kernel_rfl) (by kernel_rfl) (fun _ _ _ h => h) hS7 (Or.inl ⟨by rfl, ?_⟩) ?_
    rotate_left
    · intro w' hSw
      obtain ⟨s0, s1, s2, s3, s4, s5, s6, s7, s8, s9, s10, s11, s12, s13⟩ := hSw
      go_simp
      try (with_reducible rfl)
    try simp only [Act.put, List.getElem_toArray, List.getElem_cons_zero, List.getElem_cons_succ, List.setIfInBounds_toArray, List.set_cons_zero, List.set_cons_succ]
    refine wpAnyG_one (i := 8) (by kernel_rfl) rfl hS7 (fun K' hK => ?_)
    simp only [List.getElem_toArray, List.getElem_cons_zero, List.getElem_cons_succ]
    go_simp
    refine hK.out _ _ (Or.inr ?_) ?_
    · refine ⟨?_, ?_, ?_, ?_, ?_, ?_, ?_, ?_, ?_, ?_, ?_, ?_, ?_, ?_⟩
      · simp [go_sem, hBH, hHB, t_0]
      · simp [go_sem, hBH, hHB, t_1]
      · simp [go_sem, hBH, hHB, t_2]
      · simp [go_sem, hBH, hHB, t_3]
      · simp [go_sem, hBH, hHB, t_4]
      · simp [go_sem, hBH, hHB, t_5]
      · simp [go_sem, hBH, hHB, t_6]
      · simp [go_sem, hBH, hHB, t_7]
      · simp [go_sem, hBH, hHB, t_8]
      · simp [go_sem, hBH, hHB, t_9]
      · simp [go_sem, hBH, hHB, t_10]
      · simp [go_sem, hBH, hHB, t_11]
      · simp [go_sem, hBH, hHB, t_12]
      · simp [go_sem, hBH, hHB, hc7]
    clear hK K'
    try simp only [Act.put, List.getElem_toArray, List.getElem_cons_zero, List.getElem_cons_succ, List.setIfInBounds_toArray, List.set_cons_zero, List.set_cons_succ]
    refine wpAnyG_takeW (i := 9) (v := ?_) rfl (by kernel_rfl) (by kernel_rfl) (by kernel_rfl) (fun _ _ _ h => h) (Or.inl ⟨by rfl, ?_⟩) ?_
    rotate_left
    · intro w' hSw
      go_simp
      try (with_reducible rfl)
    try simp only [Act.put, List.getElem_toArray, List.getElem_cons_zero, List.getElem_cons_succ, List.setIfInBounds_toArray, List.set_cons_zero, List.set_cons_succ]
    refine wpAnyG_takeW (i := 10) (v := ?_) rfl (by kernel_rfl) (by kernel_rfl) (by kernel_rfl) (fun _ _ _ h => h) (Or.inl ⟨by rfl, ?_⟩) ?_
    rotate_left
    · intro w' hSw
      go_simp
      try (with_reducible rfl)
    try simp only [Act.put, List.getElem_toArray, List.getElem_cons_zero, List.getElem_cons_succ, List.setIfInBounds_toArray, List.set_cons_zero, List.set_cons_succ]
    refine wpAnyG_done (by kernel_rfl) ?_ _
    go_wp2_with fail
    refine bodyPost_ret (v := .tuple #[.agg #[.int .i64 N.id, .int .i64 N.nodes, .int .i64 N.term, .int .i64 N.vote, .int .i64 N.role, .bool N.up, .slice (some ⟨g, 0, none⟩) us.length c4, .int .i64 V, .int .i64 N.elapsed, .int .i64 N.wait, .slice av2 N.votes.length cv2, .slice an2 N.next.length cn2, .slice am2 N.mtch.length cm2], .slice ar rs.length cr, .int .i64 0]) (by simp [results, Try.results18, go_sem, z_0, z_1, z_2, z_3, z_4, z_5, z_6, z_7, z_8, z_9, z_10, z_11, z_12, zf, hkx]) rfl ?_
    rw [HR.out]
    have hm : N.nodes.toNat = m := by have := HF.out.nodes; omega
    refine ⟨some ⟨g, 0, none⟩, c4, av2, cv2, an2, cn2, am2, cm2, rs, ar, cr, by rw [HUS.out, ← HV.out]; rfl, by rw [HRS.out, hm], ?_, ?_, ?_⟩
    · refine NodeSl.midR HN7.out (l := w.heap.size + 1) (r := w.heap.size + 2) ?_ ?_
      rotate_left
      · intro k hk
        simp only [blkOf, List.mem_append, List.mem_singleton] at hk
        right
        rcases hk with ((rfl | hk) | hk) | hk
        · omega
        · have := (FreshIn.blks K26.out k hk).1; have := HH1.out; omega
        · have := (FreshIn.blks K36.out k hk).1; have := HH1.out; omega
        · have := (FreshIn.blks K46.out k hk).1; have := HH1.out; omega
      repeat (first | (with_reducible exact Mid.refl _ _ _) | (with_reducible refine Mid.drew ?_) | (with_reducible refine Mid.setCell ?_ ?_ ?_ _; rotate_left; (show w.heap.size + 1 ≤ w.heap.size + 1; omega); (show w.heap.size + 1 < w.heap.size + 2; omega)))
    · intro w9 h9
      refine SaI.midS HSA.out (l := 0) (r := w.heap.size + 2) (Mid.trans (Mid.mono (lo := w.heap.size + 1) (hi := w.heap.size + 2) ?_ (by omega) (by omega)) (h9.mono (by omega) (by omega))) (by omega)
      repeat (first | (with_reducible exact Mid.refl _ _ _) | (with_reducible refine Mid.drew ?_) | (with_reducible refine Mid.setCell ?_ ?_ ?_ _; rotate_left; (show w.heap.size + 1 ≤ w.heap.size + 1; omega); (show w.heap.size + 1 < w.heap.size + 2; omega)))
    · refine HB7.out.trans (Mid.below (lo := w.heap.size + 1) (hi := w.heap.size + 2) ?_ (by omega) (by omega))
      repeat (first | (with_reducible exact Mid.refl _ _ _) | (with_reducible refine Mid.drew ?_) | (with_reducible refine Mid.setCell ?_ ?_ ?_ _; rotate_left; (show w.heap.size + 1 ≤ w.heap.size + 1; omega); (show w.heap.size + 1 < w.heap.size + 2; omega)))
end
section
open Go.RowKit
set_option maxRecDepth 100000 in
set_option maxHeartbeats 16000000 in
theorem specProp_c (al : Option Addr) (cl : Nat) (av : Option Addr) (cv : Nat) (an : Option Addr) (cn : Nat) (am : Option Addr) (cm : Nat) (N : NodeV) (d : ByteArray) (w : World) (hN : NodeSl w al av an am N) (hZ : NodeSz N 1048576) (hd : d.size ≤ 1048576) :
    Calls Try.prog 5 #[.agg #[.int .i64 N.id, .int .i64 N.nodes, .int .i64 N.term, .int .i64 N.vote, .int .i64 N.role, .bool N.up, .slice al N.log.length cl, .int .i64 N.commit, .int .i64 N.elapsed, .int .i64 N.wait, .slice av N.votes.length cv, .slice an N.next.length cn, .slice am N.mtch.length cm], .string d] w (PropS (propR N d) w) := by
  have HN := Lib.hid hN
  have HZ := Lib.hid hZ
  clear hN hZ
  have HSZ := Lib.hid (propR_sz HZ.out hd)
  cases hl : longP (d.size : Int)
  case true =>
    have HR := Lib.hid (propR_long (N := N) hl)
    have h1 : (65536 : Int) < (d.size : Int) := by simpa [longP] using hl
    clear hl HSZ
    go_enter Try.func5, Try.ntmps5
    go_wp2_with fail
    refine bodyPost_ret (v := .tuple #[.agg #[.int .i64 0, .int .i64 0, .int .i64 0, .int .i64 0, .int .i64 0, .bool false, .slice none 0 0, .int .i64 0, .int .i64 0, .int .i64 0, .slice none 0 0, .slice none 0 0, .slice none 0 0], .slice (some ⟨w.heap.size + 1 + 1, 0, none⟩) 0 0, .int .i64 2]) (by simp [results, Try.results5, go_sem]) rfl ?_
    rw [HR.out]
    refine ⟨none, 0, none, 0, none, 0, none, 0, [], some ⟨w.heap.size + 1 + 1, 0, none⟩, 0, rfl, rfl, ⟨.inl rfl, .inl rfl, .inl rfl, .inl rfl⟩, ⟨.inl rfl, by simp⟩, ?_⟩
    repeat (first | (with_reducible exact Below.refl _ _) | (with_reducible refine Below.alloc ?_ ?_ _; rotate_left; ((try simp [World.setCell]) <;> (try omega))) | (with_reducible refine Below.setCell ?_ ?_ _; rotate_left; (first | (show w.heap.size ≤ w.heap.size + 1; omega))))
  case false =>
    have HL := Lib.hid hl
    have h1 : (d.size : Int) ≤ 65536 := by simp [longP] at hl; omega
    clear hl
    have HB0 : Hid (Below w.heap.size w ((w.alloc (.cells #[.int .i64 N.id, .int .i64 N.nodes, .int .i64 N.term, .int .i64 N.vote, .int .i64 N.role, .bool N.up, .slice al N.log.length cl, .int .i64 N.commit, .int .i64 N.elapsed, .int .i64 N.wait, .slice av N.votes.length cv, .slice an N.next.length cn, .slice am N.mtch.length cm] 29)).alloc (.cells #[.int .i64 0, .int .i64 0, .int .i64 0, .int .i64 0, .int .i64 0, .bool false, .slice none 0 0, .int .i64 0, .int .i64 0, .int .i64 0, .slice none 0 0, .slice none 0 0, .slice none 0 0] 29))) := Lib.hid (((Below.refl w.heap.size w).alloc (Nat.le_refl _) _).alloc (by simp) _)
    go_enter Try.func5, Try.ntmps5
    go_wp2_with fail
    refine (specNodeOK_c al cl av cv an cn am cm N _ (HN.out.keep HB0.out) HZ.out).mono ?_
    rintro e x1 ⟨rfl, hb1⟩
    have hz1 := hb1.size
    simp only [World.size_alloc] at hz1
    have HB1 : Hid (Below w.heap.size w x1) := Lib.hid (HB0.out.trans (hb1.mono (by simp; omega)))
    have q1_0_0 : x1.cell? ⟨w.heap.size, 0, none⟩ = some (.int .i64 N.id) := (hb1.cell (p := ⟨w.heap.size, 0, none⟩) (by show w.heap.size < _; (try simp) <;> omega)).trans (by simp [go_sem])
    have q1_0_1 : x1.cell? ⟨w.heap.size, 1, none⟩ = some (.int .i64 N.nodes) := (hb1.cell (p := ⟨w.heap.size, 1, none⟩) (by show w.heap.size < _; (try simp) <;> omega)).trans (by simp [go_sem])
    have q1_0_2 : x1.cell? ⟨w.heap.size, 2, none⟩ = some (.int .i64 N.term) := (hb1.cell (p := ⟨w.heap.size, 2, none⟩) (by show w.heap.size < _; (try simp) <;> omega)).trans (by simp [go_sem])
    have q1_0_3 : x1.cell? ⟨w.heap.size, 3, none⟩ = some (.int .i64 N.vote) := (hb1.cell (p := ⟨w.heap.size, 3, none⟩) (by show w.heap.size < _; (try simp) <;> omega)).trans (by simp [go_sem])
    have q1_0_4 : x1.cell? ⟨w.heap.size, 4, none⟩ = some (.int .i64 N.role) := (hb1.cell (p := ⟨w.heap.size, 4, none⟩) (by show w.heap.size < _; (try simp) <;> omega)).trans (by simp [go_sem])
    have q1_0_5 : x1.cell? ⟨w.heap.size, 5, none⟩ = some (.bool N.up) := (hb1.cell (p := ⟨w.heap.size, 5, none⟩) (by show w.heap.size < _; (try simp) <;> omega)).trans (by simp [go_sem])
    have q1_0_6 : x1.cell? ⟨w.heap.size, 6, none⟩ = some (.slice al N.log.length cl) := (hb1.cell (p := ⟨w.heap.size, 6, none⟩) (by show w.heap.size < _; (try simp) <;> omega)).trans (by simp [go_sem])
    have q1_0_7 : x1.cell? ⟨w.heap.size, 7, none⟩ = some (.int .i64 N.commit) := (hb1.cell (p := ⟨w.heap.size, 7, none⟩) (by show w.heap.size < _; (try simp) <;> omega)).trans (by simp [go_sem])
    have q1_0_8 : x1.cell? ⟨w.heap.size, 8, none⟩ = some (.int .i64 N.elapsed) := (hb1.cell (p := ⟨w.heap.size, 8, none⟩) (by show w.heap.size < _; (try simp) <;> omega)).trans (by simp [go_sem])
    have q1_0_9 : x1.cell? ⟨w.heap.size, 9, none⟩ = some (.int .i64 N.wait) := (hb1.cell (p := ⟨w.heap.size, 9, none⟩) (by show w.heap.size < _; (try simp) <;> omega)).trans (by simp [go_sem])
    have q1_0_10 : x1.cell? ⟨w.heap.size, 10, none⟩ = some (.slice av N.votes.length cv) := (hb1.cell (p := ⟨w.heap.size, 10, none⟩) (by show w.heap.size < _; (try simp) <;> omega)).trans (by simp [go_sem])
    have q1_0_11 : x1.cell? ⟨w.heap.size, 11, none⟩ = some (.slice an N.next.length cn) := (hb1.cell (p := ⟨w.heap.size, 11, none⟩) (by show w.heap.size < _; (try simp) <;> omega)).trans (by simp [go_sem])
    have q1_0_12 : x1.cell? ⟨w.heap.size, 12, none⟩ = some (.slice am N.mtch.length cm) := (hb1.cell (p := ⟨w.heap.size, 12, none⟩) (by show w.heap.size < _; (try simp) <;> omega)).trans (by simp [go_sem])
    have q1_1_0 : x1.cell? ⟨w.heap.size + 1, 0, none⟩ = some (.int .i64 0) := (hb1.cell (p := ⟨w.heap.size + 1, 0, none⟩) (by show w.heap.size + 1 < _; (try simp) <;> omega)).trans (by simp [go_sem])
    have q1_1_1 : x1.cell? ⟨w.heap.size + 1, 1, none⟩ = some (.int .i64 0) := (hb1.cell (p := ⟨w.heap.size + 1, 1, none⟩) (by show w.heap.size + 1 < _; (try simp) <;> omega)).trans (by simp [go_sem])
    have q1_1_2 : x1.cell? ⟨w.heap.size + 1, 2, none⟩ = some (.int .i64 0) := (hb1.cell (p := ⟨w.heap.size + 1, 2, none⟩) (by show w.heap.size + 1 < _; (try simp) <;> omega)).trans (by simp [go_sem])
    have q1_1_3 : x1.cell? ⟨w.heap.size + 1, 3, none⟩ = some (.int .i64 0) := (hb1.cell (p := ⟨w.heap.size + 1, 3, none⟩) (by show w.heap.size + 1 < _; (try simp) <;> omega)).trans (by simp [go_sem])
    have q1_1_4 : x1.cell? ⟨w.heap.size + 1, 4, none⟩ = some (.int .i64 0) := (hb1.cell (p := ⟨w.heap.size + 1, 4, none⟩) (by show w.heap.size + 1 < _; (try simp) <;> omega)).trans (by simp [go_sem])
    have q1_1_5 : x1.cell? ⟨w.heap.size + 1, 5, none⟩ = some (.bool false) := (hb1.cell (p := ⟨w.heap.size + 1, 5, none⟩) (by show w.heap.size + 1 < _; (try simp) <;> omega)).trans (by simp [go_sem])
    have q1_1_6 : x1.cell? ⟨w.heap.size + 1, 6, none⟩ = some (.slice none 0 0) := (hb1.cell (p := ⟨w.heap.size + 1, 6, none⟩) (by show w.heap.size + 1 < _; (try simp) <;> omega)).trans (by simp [go_sem])
    have q1_1_7 : x1.cell? ⟨w.heap.size + 1, 7, none⟩ = some (.int .i64 0) := (hb1.cell (p := ⟨w.heap.size + 1, 7, none⟩) (by show w.heap.size + 1 < _; (try simp) <;> omega)).trans (by simp [go_sem])
    have q1_1_8 : x1.cell? ⟨w.heap.size + 1, 8, none⟩ = some (.int .i64 0) := (hb1.cell (p := ⟨w.heap.size + 1, 8, none⟩) (by show w.heap.size + 1 < _; (try simp) <;> omega)).trans (by simp [go_sem])
    have q1_1_9 : x1.cell? ⟨w.heap.size + 1, 9, none⟩ = some (.int .i64 0) := (hb1.cell (p := ⟨w.heap.size + 1, 9, none⟩) (by show w.heap.size + 1 < _; (try simp) <;> omega)).trans (by simp [go_sem])
    have q1_1_10 : x1.cell? ⟨w.heap.size + 1, 10, none⟩ = some (.slice none 0 0) := (hb1.cell (p := ⟨w.heap.size + 1, 10, none⟩) (by show w.heap.size + 1 < _; (try simp) <;> omega)).trans (by simp [go_sem])
    have q1_1_11 : x1.cell? ⟨w.heap.size + 1, 11, none⟩ = some (.slice none 0 0) := (hb1.cell (p := ⟨w.heap.size + 1, 11, none⟩) (by show w.heap.size + 1 < _; (try simp) <;> omega)).trans (by simp [go_sem])
    have q1_1_12 : x1.cell? ⟨w.heap.size + 1, 12, none⟩ = some (.slice none 0 0) := (hb1.cell (p := ⟨w.heap.size + 1, 12, none⟩) (by show w.heap.size + 1 < _; (try simp) <;> omega)).trans (by simp [go_sem])
    have f1 : ∀ o, x1.frozen? ⟨w.heap.size + 1, o, none⟩ = false := fun o => (hb1.frozen (p := ⟨w.heap.size + 1, o, none⟩) (by show w.heap.size + 1 < _; (try simp) <;> omega)).trans (by simp [go_sem])
    have hl1 : w.heap.size < x1.heap.size := by omega
    have hk1 : w.heap.size + 1 < x1.heap.size := by omega
    clear hb1 HB0
    cases ho : nodeOK N
    case false =>
      have HR := Lib.hid (propR_bad HL.out ho)
      clear ho HSZ
      go_wp2_with fail
      refine bodyPost_ret (v := .tuple #[.agg #[.int .i64 0, .int .i64 0, .int .i64 0, .int .i64 0, .int .i64 0, .bool false, .slice none 0 0, .int .i64 0, .int .i64 0, .int .i64 0, .slice none 0 0, .slice none 0 0, .slice none 0 0], .slice (some ⟨x1.heap.size, 0, none⟩) 0 0, .int .i64 1]) (by simp [results, Try.results5, go_sem, q1_1_0, q1_1_1, q1_1_2, q1_1_3, q1_1_4, q1_1_5, q1_1_6, q1_1_7, q1_1_8, q1_1_9, q1_1_10, q1_1_11, q1_1_12, f1, hk1]) rfl ?_
      rw [HR.out]
      refine ⟨none, 0, none, 0, none, 0, none, 0, [], some ⟨x1.heap.size, 0, none⟩, 0, rfl, rfl, ⟨.inl rfl, .inl rfl, .inl rfl, .inl rfl⟩, ⟨.inl rfl, by simp⟩, ?_⟩
      repeat (first | (with_reducible exact HB1.out) | (with_reducible refine Below.alloc ?_ ?_ _; rotate_left; ((try simp [World.setCell]) <;> (try omega))) | (with_reducible refine Below.setCell ?_ ?_ _; rotate_left; (first | (show w.heap.size ≤ w.heap.size + 1; omega))))
    case true =>
      have HO := Lib.hid ho
      clear ho
      cases hr : inB (d.size : Int) 1 400
      case false =>
        have HR := Lib.hid (propR_range HL.out HO.out hr)
        have HI := Lib.hid hr
        clear hr HSZ
        go_wp2_with (go_at_call 17; refine (l01In_c _ _ _ _).mono ?_; rw [HI.out]; rintro e w' ⟨rfl, rfl⟩)
        refine bodyPost_ret (v := .tuple #[.agg #[.int .i64 0, .int .i64 0, .int .i64 0, .int .i64 0, .int .i64 0, .bool false, .slice none 0 0, .int .i64 0, .int .i64 0, .int .i64 0, .slice none 0 0, .slice none 0 0, .slice none 0 0], .slice (some ⟨x1.heap.size, 0, none⟩) 0 0, .int .i64 4]) (by simp [results, Try.results5, go_sem, q1_1_0, q1_1_1, q1_1_2, q1_1_3, q1_1_4, q1_1_5, q1_1_6, q1_1_7, q1_1_8, q1_1_9, q1_1_10, q1_1_11, q1_1_12, f1, hk1]) rfl ?_
        rw [HR.out]
        refine ⟨none, 0, none, 0, none, 0, none, 0, [], some ⟨x1.heap.size, 0, none⟩, 0, rfl, rfl, ⟨.inl rfl, .inl rfl, .inl rfl, .inl rfl⟩, ⟨.inl rfl, by simp⟩, ?_⟩
        repeat (first | (with_reducible exact HB1.out) | (with_reducible refine Below.alloc ?_ ?_ _; rotate_left; ((try simp [World.setCell]) <;> (try omega))) | (with_reducible refine Below.setCell ?_ ?_ _; rotate_left; (first | (show w.heap.size ≤ w.heap.size + 1; omega))))
      case true =>
        have HI := Lib.hid hr
        clear hr
        go_wp2_with (go_at_call 17; refine (l01In_c _ _ _ _).mono ?_; rw [HI.out]; rintro e w' ⟨rfl, rfl⟩)
        refine (l08Propose_c al cl av cv an cn am cm N d _ (HN.out.keep HB1.out) HZ.out hd HL.out HO.out HI.out).mono ?_
        obtain ⟨M, L, c, hR⟩ : ∃ M L c, propR N d = (M, L, c) := ⟨_, _, _, rfl⟩
        have HR := Lib.hid hR
        rw [hR] at HSZ ⊢
        clear hR
        rintro e x2 ⟨al2, cl2, av2, cv2, an2, cn2, am2, cm2, rs, ar, cr, rfl, hrs, hn2, hs2, hb2⟩
        simp only at hrs hn2 HSZ ⊢
        have hz2 := hb2.size
        have HB2 : Hid (Below w.heap.size w x2) := Lib.hid (HB1.out.trans (hb2.mono (by omega)))
        have HN2 := Lib.hid hn2
        have HS2 := Lib.hid hs2
        have HRS := Lib.hid hrs
        have q2_1_0 : x2.cell? ⟨w.heap.size + 1, 0, none⟩ = some (.int .i64 0) := (hb2.cell (p := ⟨w.heap.size + 1, 0, none⟩) (by show w.heap.size + 1 < _; (try simp) <;> omega)).trans (q1_1_0)
        have q2_1_1 : x2.cell? ⟨w.heap.size + 1, 1, none⟩ = some (.int .i64 0) := (hb2.cell (p := ⟨w.heap.size + 1, 1, none⟩) (by show w.heap.size + 1 < _; (try simp) <;> omega)).trans (q1_1_1)
        have q2_1_2 : x2.cell? ⟨w.heap.size + 1, 2, none⟩ = some (.int .i64 0) := (hb2.cell (p := ⟨w.heap.size + 1, 2, none⟩) (by show w.heap.size + 1 < _; (try simp) <;> omega)).trans (q1_1_2)
        have q2_1_3 : x2.cell? ⟨w.heap.size + 1, 3, none⟩ = some (.int .i64 0) := (hb2.cell (p := ⟨w.heap.size + 1, 3, none⟩) (by show w.heap.size + 1 < _; (try simp) <;> omega)).trans (q1_1_3)
        have q2_1_4 : x2.cell? ⟨w.heap.size + 1, 4, none⟩ = some (.int .i64 0) := (hb2.cell (p := ⟨w.heap.size + 1, 4, none⟩) (by show w.heap.size + 1 < _; (try simp) <;> omega)).trans (q1_1_4)
        have q2_1_5 : x2.cell? ⟨w.heap.size + 1, 5, none⟩ = some (.bool false) := (hb2.cell (p := ⟨w.heap.size + 1, 5, none⟩) (by show w.heap.size + 1 < _; (try simp) <;> omega)).trans (q1_1_5)
        have q2_1_6 : x2.cell? ⟨w.heap.size + 1, 6, none⟩ = some (.slice none 0 0) := (hb2.cell (p := ⟨w.heap.size + 1, 6, none⟩) (by show w.heap.size + 1 < _; (try simp) <;> omega)).trans (q1_1_6)
        have q2_1_7 : x2.cell? ⟨w.heap.size + 1, 7, none⟩ = some (.int .i64 0) := (hb2.cell (p := ⟨w.heap.size + 1, 7, none⟩) (by show w.heap.size + 1 < _; (try simp) <;> omega)).trans (q1_1_7)
        have q2_1_8 : x2.cell? ⟨w.heap.size + 1, 8, none⟩ = some (.int .i64 0) := (hb2.cell (p := ⟨w.heap.size + 1, 8, none⟩) (by show w.heap.size + 1 < _; (try simp) <;> omega)).trans (q1_1_8)
        have q2_1_9 : x2.cell? ⟨w.heap.size + 1, 9, none⟩ = some (.int .i64 0) := (hb2.cell (p := ⟨w.heap.size + 1, 9, none⟩) (by show w.heap.size + 1 < _; (try simp) <;> omega)).trans (q1_1_9)
        have q2_1_10 : x2.cell? ⟨w.heap.size + 1, 10, none⟩ = some (.slice none 0 0) := (hb2.cell (p := ⟨w.heap.size + 1, 10, none⟩) (by show w.heap.size + 1 < _; (try simp) <;> omega)).trans (q1_1_10)
        have q2_1_11 : x2.cell? ⟨w.heap.size + 1, 11, none⟩ = some (.slice none 0 0) := (hb2.cell (p := ⟨w.heap.size + 1, 11, none⟩) (by show w.heap.size + 1 < _; (try simp) <;> omega)).trans (q1_1_11)
        have q2_1_12 : x2.cell? ⟨w.heap.size + 1, 12, none⟩ = some (.slice none 0 0) := (hb2.cell (p := ⟨w.heap.size + 1, 12, none⟩) (by show w.heap.size + 1 < _; (try simp) <;> omega)).trans (q1_1_12)
        have f2 : ∀ o, x2.frozen? ⟨w.heap.size + 1, o, none⟩ = false := fun o => (hb2.frozen (p := ⟨w.heap.size + 1, o, none⟩) (by show w.heap.size + 1 < _; (try simp) <;> omega)).trans (f1 o)
        have hl2 : w.heap.size < x2.heap.size := by omega
        have hk2 : w.heap.size + 1 < x2.heap.size := by omega
        clear q1_0_0 q1_0_1 q1_0_2 q1_0_3 q1_0_4 q1_0_5 q1_0_6 q1_0_7 q1_0_8 q1_0_9 q1_0_10 q1_0_11 q1_0_12 q1_1_0 q1_1_1 q1_1_2 q1_1_3 q1_1_4 q1_1_5 q1_1_6 q1_1_7 q1_1_8 q1_1_9 q1_1_10 q1_1_11 q1_1_12 f1 hb2 hn2 hs2 hrs
        go_wp2_with fail
        refine (l08Own_c al2 cl2 av2 cv2 an2 cn2 am2 cm2 M _ (HN2.out.alloc _) HSZ.out.1).mono ?_
        rintro e x3 ⟨al3, cl3, av3, cv3, an3, cn3, am3, cm3, rfl, hf3, hb3⟩
        have hz3 := hb3.size
        simp only [World.size_alloc] at hz3
        have hb23 : Below x2.heap.size x2 x3 := ((Below.refl x2.heap.size x2).alloc (Nat.le_refl _) _).trans (hb3.mono (by simp))
        have HB23 := Lib.hid hb23
        have HB3 : Hid (Below w.heap.size w x3) := Lib.hid (HB2.out.trans (hb23.mono (by omega)))
        have HF3 := Lib.hid hf3
        have q3_1_0 : x3.cell? ⟨w.heap.size + 1, 0, none⟩ = some (.int .i64 0) := (hb23.cell (p := ⟨w.heap.size + 1, 0, none⟩) (by show w.heap.size + 1 < _; (try simp) <;> omega)).trans (q2_1_0)
        have q3_1_1 : x3.cell? ⟨w.heap.size + 1, 1, none⟩ = some (.int .i64 0) := (hb23.cell (p := ⟨w.heap.size + 1, 1, none⟩) (by show w.heap.size + 1 < _; (try simp) <;> omega)).trans (q2_1_1)
        have q3_1_2 : x3.cell? ⟨w.heap.size + 1, 2, none⟩ = some (.int .i64 0) := (hb23.cell (p := ⟨w.heap.size + 1, 2, none⟩) (by show w.heap.size + 1 < _; (try simp) <;> omega)).trans (q2_1_2)
        have q3_1_3 : x3.cell? ⟨w.heap.size + 1, 3, none⟩ = some (.int .i64 0) := (hb23.cell (p := ⟨w.heap.size + 1, 3, none⟩) (by show w.heap.size + 1 < _; (try simp) <;> omega)).trans (q2_1_3)
        have q3_1_4 : x3.cell? ⟨w.heap.size + 1, 4, none⟩ = some (.int .i64 0) := (hb23.cell (p := ⟨w.heap.size + 1, 4, none⟩) (by show w.heap.size + 1 < _; (try simp) <;> omega)).trans (q2_1_4)
        have q3_1_5 : x3.cell? ⟨w.heap.size + 1, 5, none⟩ = some (.bool false) := (hb23.cell (p := ⟨w.heap.size + 1, 5, none⟩) (by show w.heap.size + 1 < _; (try simp) <;> omega)).trans (q2_1_5)
        have q3_1_6 : x3.cell? ⟨w.heap.size + 1, 6, none⟩ = some (.slice none 0 0) := (hb23.cell (p := ⟨w.heap.size + 1, 6, none⟩) (by show w.heap.size + 1 < _; (try simp) <;> omega)).trans (q2_1_6)
        have q3_1_7 : x3.cell? ⟨w.heap.size + 1, 7, none⟩ = some (.int .i64 0) := (hb23.cell (p := ⟨w.heap.size + 1, 7, none⟩) (by show w.heap.size + 1 < _; (try simp) <;> omega)).trans (q2_1_7)
        have q3_1_8 : x3.cell? ⟨w.heap.size + 1, 8, none⟩ = some (.int .i64 0) := (hb23.cell (p := ⟨w.heap.size + 1, 8, none⟩) (by show w.heap.size + 1 < _; (try simp) <;> omega)).trans (q2_1_8)
        have q3_1_9 : x3.cell? ⟨w.heap.size + 1, 9, none⟩ = some (.int .i64 0) := (hb23.cell (p := ⟨w.heap.size + 1, 9, none⟩) (by show w.heap.size + 1 < _; (try simp) <;> omega)).trans (q2_1_9)
        have q3_1_10 : x3.cell? ⟨w.heap.size + 1, 10, none⟩ = some (.slice none 0 0) := (hb23.cell (p := ⟨w.heap.size + 1, 10, none⟩) (by show w.heap.size + 1 < _; (try simp) <;> omega)).trans (q2_1_10)
        have q3_1_11 : x3.cell? ⟨w.heap.size + 1, 11, none⟩ = some (.slice none 0 0) := (hb23.cell (p := ⟨w.heap.size + 1, 11, none⟩) (by show w.heap.size + 1 < _; (try simp) <;> omega)).trans (q2_1_11)
        have q3_1_12 : x3.cell? ⟨w.heap.size + 1, 12, none⟩ = some (.slice none 0 0) := (hb23.cell (p := ⟨w.heap.size + 1, 12, none⟩) (by show w.heap.size + 1 < _; (try simp) <;> omega)).trans (q2_1_12)
        have f3 : ∀ o, x3.frozen? ⟨w.heap.size + 1, o, none⟩ = false := fun o => (hb23.frozen (p := ⟨w.heap.size + 1, o, none⟩) (by show w.heap.size + 1 < _; (try simp) <;> omega)).trans (f2 o)
        have hl3 : w.heap.size < x3.heap.size := by omega
        have hk3 : w.heap.size + 1 < x3.heap.size := by omega
        clear q2_1_0 q2_1_1 q2_1_2 q2_1_3 q2_1_4 q2_1_5 q2_1_6 q2_1_7 q2_1_8 q2_1_9 q2_1_10 q2_1_11 q2_1_12 f2 hb3 hf3 hb23
        go_wp2_with fail
        refine bodyPost_ret (v := .tuple #[.agg #[.int .i64 M.id, .int .i64 M.nodes, .int .i64 M.term, .int .i64 M.vote, .int .i64 M.role, .bool M.up, .slice al3 M.log.length cl3, .int .i64 M.commit, .int .i64 M.elapsed, .int .i64 M.wait, .slice av3 M.votes.length cv3, .slice an3 M.next.length cn3, .slice am3 M.mtch.length cm3], .slice ar rs.length cr, .int .i64 c]) (by simp [results, Try.results5, go_sem, q3_1_0, q3_1_1, q3_1_2, q3_1_3, q3_1_4, q3_1_5, q3_1_6, q3_1_7, q3_1_8, q3_1_9, q3_1_10, q3_1_11, q3_1_12, f3, hk3]) rfl ?_
        rw [HR.out]
        refine ⟨al3, cl3, av3, cv3, an3, cn3, am3, cm3, rs, ar, cr, rfl, HRS.out, ?_, ?_, ?_⟩
        · refine FreshNodeX.sl (lo := x2.heap.size) (hi := x3.heap.size) (cl := cl3) (cv := cv3) (cn := cn3) (cm := cm3) ?_
          have hfr : FreshNodeX x2.heap.size x3.heap.size M x3 al3 cl3 av3 cv3 an3 cn3 am3 cm3 := HF3.out.wide (by simp) (Nat.le_refl _)
          repeat (first | (with_reducible exact hfr) | (with_reducible refine FreshNodeX.set ?_ ?_ _; rotate_left; (left; show w.heap.size + 1 < x2.heap.size; omega)))
        · refine HS2.out _ ?_
          have hm : Mid 0 x1.heap.size x2 x3 := Mid.of_below _ _ HB23.out
          repeat (first | (with_reducible exact hm) | (with_reducible refine Mid.setCell ?_ ?_ ?_ _; rotate_left; (exact Nat.zero_le _); (show w.heap.size + 1 < x1.heap.size; omega)))
        · repeat (first | (with_reducible exact HB3.out) | (with_reducible refine Below.alloc ?_ ?_ _; rotate_left; ((try simp [World.setCell]) <;> (try omega))) | (with_reducible refine Below.setCell ?_ ?_ _; rotate_left; (first | (show w.heap.size ≤ w.heap.size + 1; omega))))
end
section
open Go.RowKit
set_option maxRecDepth 100000 in
set_option maxHeartbeats 1000000 in
theorem markMessageS_0 (a : Option Addr) (c : Nat) (n : Int) (w : World) : Calls Try.prog 11 #[.slice a 0 c, .int .i64 n] w fun e w' => e = .returned (.int .i64 n) ∧ w = w' := by
  go_enter Try.func11, Try.ntmps11
  go_wp2_with fail
  go_loop [1, 5] (fun m i => ∃ k : Nat, k ≤ 0 ∧ i = .int .i64 k ∧ m = .int .i64 n) (fun _ i => 0)
  case atStart => exact ⟨0, Nat.le_refl _, rfl, rfl⟩
  case round =>
    obtain ⟨k, hk, rfl, rfl⟩ := hrel
    obtain rfl : k = 0 := by omega
    go_wp2_with fail
    go_ret
    exact ⟨rfl, rfl⟩
set_option maxRecDepth 100000 in
set_option maxHeartbeats 1000000 in
theorem heldMessageS_0 (a : Option Addr) (c : Nat) (n : Int) (w : World) : Calls Try.prog 13 #[.slice a 0 c, .int .i64 n] w fun e w' => e = .returned (.int .i64 n) ∧ w = w' := by
  go_enter Try.func13, Try.ntmps13
  go_wp2_with fail
  go_loop [1, 5] (fun m i => ∃ k : Nat, k ≤ 0 ∧ i = .int .i64 k ∧ m = .int .i64 n) (fun _ i => 0)
  case atStart => exact ⟨0, Nat.le_refl _, rfl, rfl⟩
  case round =>
    obtain ⟨k, hk, rfl, rfl⟩ := hrel
    obtain rfl : k = 0 := by omega
    go_wp2_with fail
    go_ret
    exact ⟨rfl, rfl⟩
def MsgPE (lo hi : Nat) (w : World) (a : Option Addr) (rs : List MsgA) : Prop := rs = [] ∨ MsgP lo hi w a rs
section
variable {lo hi l r : Nat} {w w' : World} {a : Option Addr} {rs : List MsgA}
theorem MsgPE.below (h : MsgPE lo hi w a rs) (hb : Below w.heap.size w w') : MsgPE lo hi w' a rs := h.imp id (fun h => MsgP.keep h hb)
theorem MsgPE.mid (h : MsgPE lo hi w a rs) (hm : Mid l r w w') (hd : hi ≤ l ∨ r ≤ lo) : MsgPE lo hi w' a rs := h.imp id (fun h => MsgP.mid h hm hd)
theorem MsgPE.alloc (h : MsgPE lo hi w a rs) (o : Obj) : MsgPE lo hi (w.alloc o) a rs := h.below ((Below.refl _ _).alloc (Nat.le_refl _) _)
theorem MsgPE.drew (h : MsgPE lo hi w a rs) : MsgPE lo hi w.drew a rs := h.below ((Below.refl _ _).drew)
theorem MsgPE.s (h : MsgPE lo hi w a rs) : MsgS w a rs := by
  rcases h with rfl | h
  · exact ⟨.inl rfl, by simp⟩
  · exact MsgP.s h
theorem SaI.part {cm : Nat} (h : SaI lo rs a cm w) : MsgPE lo w.heap.size w a rs := by
  rcases Nat.eq_zero_or_pos rs.length with h0 | h0
  · exact .inl (List.eq_nil_of_length_eq_zero h0)
  · obtain ⟨g, rfl, hg1, _, hg3, ho⟩ := h.row.block h0
    have hs : Sl msgE 9 w (some ⟨g, 0, none⟩) rs := h.row.sl (fun _ => rfl)
    refine .inr ⟨⟨g, rfl, hg3, ⟨hg1, hg3, hs, fun o => ho.frozenAt o, fun i hi => h.gs.ow _ (List.getElem_mem hi), ⟨fun i hi => ?_, fun i j hi hj hij b hb => ?_⟩⟩⟩, fun r hr b hb => h.gs.bd r hr b hb⟩
    · have hi' : i < rs.length := by simpa using hi
      rw [List.getElem_map]
      exact ⟨fun hb => h.sep _ (List.getElem_mem hi') g hb (by simp [blkOf]), h.gs.nd _ (List.getElem_mem hi')⟩
    · have hi' : i < rs.length := by simpa using hi
      have hj' : j < rs.length := by simpa using hj
      rw [List.getElem_map] at hb ⊢
      have hp := List.pairwise_iff_getElem.1 h.gs.ap
      rcases Nat.lt_or_gt_of_ne hij with hlt | hlt
      · exact hp i j hi' hj' hlt b hb
      · exact fun hbj => hp j i hj' hi' hlt b hbj hb
end
theorem markMsgPE_c (lo hi ca K : Nat) (a : Option Addr) (rs : List MsgA) (w : World) (h : MsgPE lo hi w a rs) (hK : messageNum K rs ≤ 17592186044416) :
    Calls Try.prog 11 #[.slice a rs.length ca, .int .i64 K] w fun e w' => e = .returned (.int .i64 ((messageNum K rs : Nat))) ∧ MsgPE lo hi w' a (wireMk rs K) ∧ Mid lo hi w w' := by
  rcases h with rfl | h
  · refine (markMessageS_0 a ca K w).mono ?_
    rintro e w' ⟨rfl, rfl⟩
    exact ⟨rfl, .inl rfl, Mid.refl _ _ _⟩
  · refine (markMsgP_c lo hi ca K a rs w h hK).mono ?_
    rintro e w' ⟨rfl, h1, h2⟩
    exact ⟨rfl, .inr h1, h2⟩
theorem heldMsgPE_c (lo hi ca K : Nat) (a : Option Addr) (rs : List MsgA) (w : World) (h : MsgPE lo hi w a (wireMk rs K)) (hK : messageNum K rs ≤ 17592186044416) :
    Calls Try.prog 13 #[.slice a rs.length ca, .int .i64 K] w fun e w' => e = .returned (.int .i64 ((messageNum K rs : Nat))) ∧ Below w.heap.size w w' := by
  rcases h with h | h
  · have h0 : rs = [] := by
      have := congrArg List.length h
      simp [wireMk] at this
      exact this
    subst h0
    refine (heldMessageS_0 a ca K w).mono ?_
    rintro e w' ⟨rfl, rfl⟩
    exact ⟨rfl, Below.refl _ _⟩
  · exact heldMsgP_c lo hi ca K a rs w h hK
theorem messageNum_bd (K C : Nat) (rs : List MsgA) (h : ∀ r ∈ rs, messageCnt r ≤ C) : messageNum K rs ≤ K + rs.length * C := by
  induction rs generalizing K with
  | nil => simp [messageNum]
  | cons r rs ih =>
    have h1 := ih (K + messageCnt r) (fun s hs => h s (by simp [hs]))
    have h2 := h r (by simp)
    simp only [messageNum, List.length_cons, Nat.add_mul]
    omega
/-- The reference's results, which lie below block b. -/
def SpD (b : Nat) (w : World) (M : NodeV) (al : Option Addr) (cl : Nat) (av : Option Addr) (cv : Nat) (an : Option Addr) (cn : Nat) (am : Option Addr) (cm : Nat) (ar : Option Addr) (rs : List MsgA) : Prop := ∃ w0 : World, w0.heap.size = b ∧ NodeSl w0 al av an am M ∧ MsgS w0 ar rs ∧ Below b w0 w
section
variable {b l r : Nat} {w w' : World} {M : NodeV} {al av an am ar : Option Addr} {cl cv cn cm : Nat} {rs : List MsgA}
theorem SpD.start (h : NodeSl w al av an am M) (k : MsgS w ar rs) : SpD w.heap.size w M al cl av cv an cn am cm ar rs := ⟨w, rfl, h, k, Below.refl _ _⟩
theorem SpD.below (h : SpD b w M al cl av cv an cn am cm ar rs) (hb : Below w.heap.size w w') : SpD b w' M al cl av cv an cn am cm ar rs := by
  obtain ⟨w0, rfl, h1, h2, h3⟩ := h
  exact ⟨w0, rfl, h1, h2, h3.trans (hb.mono h3.size)⟩
theorem SpD.mid (h : SpD b w M al cl av cv an cn am cm ar rs) (hm : Mid l r w w') (hd : b ≤ l) : SpD b w' M al cl av cv an cn am cm ar rs := by
  obtain ⟨w0, rfl, h1, h2, h3⟩ := h
  exact ⟨w0, rfl, h1, h2, h3.trans (hm.below hd h3.size)⟩
theorem SpD.alloc (h : SpD b w M al cl av cv an cn am cm ar rs) (o : Obj) : SpD b (w.alloc o) M al cl av cv an cn am cm ar rs := h.below ((Below.refl _ _).alloc (Nat.le_refl _) _)
theorem SpD.drew (h : SpD b w M al cl av cv an cn am cm ar rs) : SpD b w.drew M al cl av cv an cn am cm ar rs := h.below ((Below.refl _ _).drew)
theorem SpD.node (h : SpD b w M al cl av cv an cn am cm ar rs) : NodeSl w al av an am M := by
  obtain ⟨w0, rfl, h1, h2, h3⟩ := h
  exact h1.keep h3
theorem SpD.msgs (h : SpD b w M al cl av cv an cn am cm ar rs) : MsgS w ar rs := by
  obtain ⟨w0, rfl, h1, h2, h3⟩ := h
  exact h2.keep h3
end
end
end Go.Proofs.Ytcakldgbhjkkfaa
