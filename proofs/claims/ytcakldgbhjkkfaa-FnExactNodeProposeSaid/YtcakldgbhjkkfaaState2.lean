/- spec.StateOK. -/
import Derived.Test.YtcakldgbhjkkfaaState
import Derived.Test.YtcakldgbhjkkfaaQuiet
namespace Go.Proofs.Ytcakldgbhjkkfaa
set_option linter.unusedVariables false
set_option linter.unusedSimpArgs false
open Go.RowKit
set_option maxRecDepth 100000 in
set_option maxHeartbeats 1000000 in
theorem specStateOK_c (a : Option Addr) (ca : Nat) (xs : List Ent) (t v : Int) (w : World) (ha : Sl entE 2 w a xs) (la : xs.length ≤ 1048576) (hsz : ∀ s ∈ xs, s.2.size ≤ 1048576) :
    Calls Try.prog 37 #[.agg #[.int .i64 t, .int .i64 v, .slice a xs.length ca]] w fun e w' => e = .returned (.bool (stOK t v xs)) ∧ Below w.heap.size w w' := by
  have HS := Lib.hid hsz
  clear hsz
  have hw1 := l01In_c t 0 1000
  have hw2 := l01In_c v (-1) 4
  by_cases h1 : inB t 0 1000 = true
  · rw [h1] at hw1
    by_cases h2 : inB v (-1) 4 = true
    · rw [h2] at hw2
      rw [stOK_ents h1 h2]
      have ht : t ≤ 1000 := by simp [inB] at h1; omega
      have H1 := Lib.hid hw1
      have H2 := Lib.hid hw2
      clear hw1 hw2 h1 h2
      by_cases h60 : xs.length ≤ 60
      · go_enter Try.func37, Try.ntmps37
        go_wp2_with fail
        refine (H1.out _).mono ?_
        rintro e w1 ⟨rfl, rfl⟩
        go_wp2_with fail
        refine (H2.out _).mono ?_
        rintro e w1 ⟨rfl, rfl⟩
        go_wp2_with fail
        go_loopw [3] (fun i wr => ∃ k : Nat, k ≤ xs.length ∧ i = .int .i64 k ∧ (∀ j, j < k → EntAt xs t j) ∧ Below (w.heap.size + 1) (w.alloc (.cells #[.int .i64 t, .int .i64 v, .slice a xs.length ca] 61)) wr) (fun i _ => xs.length - (intOf i).toNat)
        case atStart => exact ⟨0, Nat.zero_le _, rfl, fun j hj => absurd hj (Nat.not_lt_zero _), Below.refl _ _⟩
        case round =>
          obtain ⟨k, hk, rfl, hp, hbel⟩ := hrel
          have HP := Lib.hid hp
          clear hp
          have bx0 : wr.cell? ⟨w.heap.size, 0, none⟩ = some (.int .i64 t) := by rw [hbel.cell (p := ⟨w.heap.size, 0, none⟩) (by simp)]; simp
          have bx1 : wr.cell? ⟨w.heap.size, 1, none⟩ = some (.int .i64 v) := by rw [hbel.cell (p := ⟨w.heap.size, 1, none⟩) (by simp)]; simp
          have bx2 : wr.cell? ⟨w.heap.size, 2, none⟩ = some (.slice a xs.length ca) := by rw [hbel.cell (p := ⟨w.heap.size, 2, none⟩) (by simp)]; simp
          have hbw : Below w.heap.size w wr := ((Below.refl _ _).alloc (Nat.le_refl _) _).trans (hbel.mono (by omega))
          by_cases hlt : k < xs.length
          · obtain ⟨b1, o1, rfl, hb1, hc1⟩ := (ha.keep hbw).at hlt
            have c1 := hc1 k hlt 0 (by omega)
            have d1 := hc1 k hlt 1 (by omega)
            simp only [entE, Nat.add_zero, List.getElem?_cons_zero, List.getElem?_cons_succ] at c1 d1
            have hs1 := HS.out xs[k] (List.getElem_mem _)
            have hee := l07Entry_c xs[k]
            have hlw := hbw.size
            have hlz := hbel.size
            simp at hlz
            by_cases q1 : inB xs[k].1 1 1000 = true ∧ xs[k].2.size ≤ 400
            · have htrue : (inB xs[k].1 1 1000 && decide (xs[k].2.size ≤ 400)) = true := by simp [q1]
              simp only [htrue] at hee
              have HE := Lib.hid hee
              have Q1 := Lib.hid q1
              clear hee htrue q1
              by_cases q2 : xs[k].1 ≤ t
              · have g2 : decide (t < xs[k].1) = false := by simp; omega
                by_cases q3 : k = 0
                · have g3 : decide (0 < k) = false := by simp; omega
                  have Q3 := Lib.hid q3
                  clear hc1 q3
                  go_wp2_with fail
                  have xq0 := extW_cell (w := wr) (b := w.heap.size) (by (try simp) <;> (try omega))
                  have xq1 := extW_cell (w := wr) (b := b1) (by (try simp) <;> (try omega))
                  refine wp_region_quietx (wr) rfl (by kernel_rfl) (by kernel_rfl) ?_
                  repeat (go_big_quiet_step ((go_at_call 51; exact Calls.quietx (HE.out _ hs1))))
                  refine wpQuiet_nil ?_
                  intro _ hw'
                  obtain ⟨xq, hw''⟩ := hw'
                  subst hw''
                  have hbq := extW_below (wr) xq
                  generalize extW (wr) xq = wq at hbq ⊢
                  clear xq0
                  clear xq1
                  go_wp2_with fail
                  go_roundw
                  case rel =>
                    refine ⟨k + 1, by omega, by go_num, fun j hj => ?_, hbel.trans (hbq.mono (by omega))⟩
                    rcases Nat.lt_succ_iff_lt_or_eq.1 hj with h | rfl
                    · exact HP.out j h
                    · exact ⟨hlt, Q1.out.2, (by have := Q1.out.1; simp [inB] at this; exact this.1), q2, fun h0 => absurd Q3.out (by omega)⟩
                  case measure => simp [intOf]; omega
                · have e1 := hc1 (k - 1) (by omega) 0 (by omega)
                  simp only [entE, Nat.add_zero, List.getElem?_cons_zero, List.getElem?_cons_succ] at e1
                  have g3 : decide (0 < k) = true := by simp; omega
                  have Q3 := Lib.hid q3
                  have q3' : 1 ≤ k := by omega
                  clear hc1 q3
                  by_cases q4 : xs[k - 1].1 ≤ xs[k].1
                  · have g4 : decide (xs[k].1 < xs[k - 1].1) = false := by simp; omega
                    go_wp2_with fail
                    have xq0 := extW_cell (w := wr) (b := w.heap.size) (by (try simp) <;> (try omega))
                    have xq1 := extW_cell (w := wr) (b := b1) (by (try simp) <;> (try omega))
                    refine wp_region_quietx (wr) rfl (by kernel_rfl) (by kernel_rfl) ?_
                    repeat (go_big_quiet_step ((go_at_call 51; exact Calls.quietx (HE.out _ hs1))))
                    refine wpQuiet_nil ?_
                    intro _ hw'
                    obtain ⟨xq, hw''⟩ := hw'
                    subst hw''
                    have hbq := extW_below (wr) xq
                    generalize extW (wr) xq = wq at hbq ⊢
                    clear xq0
                    clear xq1
                    go_wp2_with fail
                    go_roundw
                    case rel =>
                      refine ⟨k + 1, by omega, by go_num, fun j hj => ?_, hbel.trans (hbq.mono (by omega))⟩
                      rcases Nat.lt_succ_iff_lt_or_eq.1 hj with h | rfl
                      · exact HP.out j h
                      · exact ⟨hlt, Q1.out.2, (by have := Q1.out.1; simp [inB] at this; exact this.1), q2, fun h0 => q4⟩
                    case measure => simp [intOf]; omega
                  · have g4 : decide (xs[k].1 < xs[k - 1].1) = true := by simp; omega
                    have hneg : ¬ EntsOK xs t := by
                      rintro ⟨_, h⟩
                      obtain ⟨_, _, _, _, h⟩ := h k hlt
                      exact q4 (h (by omega))
                    have HN := Lib.hid hneg
                    clear hneg
                    go_wp2_with fail
                    have xq0 := extW_cell (w := wr) (b := w.heap.size) (by (try simp) <;> (try omega))
                    have xq1 := extW_cell (w := wr) (b := b1) (by (try simp) <;> (try omega))
                    refine wp_region_quietx (wr) rfl (by kernel_rfl) (by kernel_rfl) ?_
                    repeat (go_big_quiet_step ((go_at_call 51; exact Calls.quietx (HE.out _ hs1))))
                    refine wpQuiet_nil ?_
                    intro _ hw'
                    obtain ⟨xq, hw''⟩ := hw'
                    subst hw''
                    have hbq := extW_below (wr) xq
                    generalize extW (wr) xq = wq at hbq ⊢
                    clear xq0
                    clear xq1
                    go_wp2_with fail
                    go_ret
                    exact ⟨by rw [entsOK_false HN.out]; rfl, hbw.trans (hbq.mono hbw.size)⟩
              · have g2 : decide (t < xs[k].1) = true := by simp; omega
                have hneg : ¬ EntsOK xs t := by
                  rintro ⟨_, h⟩
                  obtain ⟨_, _, _, h, _⟩ := h k hlt
                  exact q2 h
                have HN := Lib.hid hneg
                clear hneg hc1
                go_wp2_with fail
                have xq0 := extW_cell (w := wr) (b := w.heap.size) (by (try simp) <;> (try omega))
                have xq1 := extW_cell (w := wr) (b := b1) (by (try simp) <;> (try omega))
                refine wp_region_quietx (wr) rfl (by kernel_rfl) (by kernel_rfl) ?_
                repeat (go_big_quiet_step ((go_at_call 51; exact Calls.quietx (HE.out _ hs1))))
                refine wpQuiet_nil ?_
                intro _ hw'
                obtain ⟨xq, hw''⟩ := hw'
                subst hw''
                have hbq := extW_below (wr) xq
                generalize extW (wr) xq = wq at hbq ⊢
                clear xq0
                clear xq1
                go_wp2_with fail
                go_ret
                exact ⟨by rw [entsOK_false HN.out]; rfl, hbw.trans (hbq.mono hbw.size)⟩
            · have hfalse : (inB xs[k].1 1 1000 && decide (xs[k].2.size ≤ 400)) = false := by
                rw [Bool.eq_false_iff]; intro h; simp at h; exact q1 h
              have hneg : ¬ EntsOK xs t := by
                rintro ⟨_, h⟩
                obtain ⟨_, h1, h2, h3, _⟩ := h k hlt
                exact q1 ⟨by simp [inB]; omega, h1⟩
              have HN := Lib.hid hneg
              simp only [hfalse] at hee
              have HE := Lib.hid hee
              clear hee hfalse q1 hc1 hneg
              go_wp2_with fail
              have xq0 := extW_cell (w := wr) (b := w.heap.size) (by (try simp) <;> (try omega))
              have xq1 := extW_cell (w := wr) (b := b1) (by (try simp) <;> (try omega))
              refine wp_region_quietx (wr) rfl (by kernel_rfl) (by kernel_rfl) ?_
              repeat (go_big_quiet_step ((go_at_call 51; exact Calls.quietx (HE.out _ hs1))))
              refine wpQuiet_nil ?_
              intro _ hw'
              obtain ⟨xq, hw''⟩ := hw'
              subst hw''
              have hbq := extW_below (wr) xq
              generalize extW (wr) xq = wq at hbq ⊢
              clear xq0
              clear xq1
              go_wp2_with fail
              go_ret
              exact ⟨by rw [entsOK_false HN.out]; rfl, hbw.trans (hbq.mono hbw.size)⟩
          · obtain rfl : k = xs.length := by omega
            go_wp2_with fail
            go_ret
            exact ⟨by rw [entsOK_true ⟨h60, HP.out⟩]; rfl, hbw⟩
      · rw [entsOK_false (fun h => h60 h.1)]
        go_enter Try.func37, Try.ntmps37
        go_wp2_with fail
        refine (H1.out _).mono ?_
        rintro e w1 ⟨rfl, rfl⟩
        go_wp2_with fail
        refine (H2.out _).mono ?_
        rintro e w1 ⟨rfl, rfl⟩
        go_wp2_with fail
        go_ret
        exact ⟨rfl, (by repeat (first | exact Below.refl _ _ | (refine Below.alloc ?_ (by (try simp) <;> (try omega)) _) | (refine Below.setCell ?_ (by (try simp) <;> (try omega)) _) | (refine Below.drew ?_) | (refine Below.trans ?_ (Below.mono (by assumption) (by (try simp) <;> (try omega))))))⟩
    · rw [Bool.eq_false_iff.2 h2] at hw2
      rw [stOK_false (fun k => h2 k.2.1)]
      have H1 := Lib.hid hw1
      have H2 := Lib.hid hw2
      clear hw1 hw2 h1 h2
      go_enter Try.func37, Try.ntmps37
      go_wp2_with fail
      refine (H1.out _).mono ?_
      rintro e w1 ⟨rfl, rfl⟩
      go_wp2_with fail
      refine (H2.out _).mono ?_
      rintro e w1 ⟨rfl, rfl⟩
      go_wp2_with fail
      go_ret
      exact ⟨rfl, (by repeat (first | exact Below.refl _ _ | (refine Below.alloc ?_ (by (try simp) <;> (try omega)) _) | (refine Below.setCell ?_ (by (try simp) <;> (try omega)) _) | (refine Below.drew ?_) | (refine Below.trans ?_ (Below.mono (by assumption) (by (try simp) <;> (try omega))))))⟩
  · rw [Bool.eq_false_iff.2 h1] at hw1
    rw [stOK_false (fun k => h1 k.1)]
    have H1 := Lib.hid hw1
    clear hw1 hw2 h1
    go_enter Try.func37, Try.ntmps37
    go_wp2_with fail
    refine (H1.out _).mono ?_
    rintro e w1 ⟨rfl, rfl⟩
    go_wp2_with fail
    go_ret
    exact ⟨rfl, (by repeat (first | exact Below.refl _ _ | (refine Below.alloc ?_ (by (try simp) <;> (try omega)) _) | (refine Below.setCell ?_ (by (try simp) <;> (try omega)) _) | (refine Below.drew ?_) | (refine Below.trans ?_ (Below.mono (by assumption) (by (try simp) <;> (try omega))))))⟩
end Go.Proofs.Ytcakldgbhjkkfaa
