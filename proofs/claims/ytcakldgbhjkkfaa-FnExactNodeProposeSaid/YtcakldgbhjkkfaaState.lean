/- The functions on states: validity. -/
import Derived.Test.YtcakldgbhjkkfaaEntry
import Derived.Test.YtcakldgbhjkkfaaScalar
namespace Go.Proofs.Ytcakldgbhjkkfaa
set_option linter.unusedVariables false
set_option linter.unusedSimpArgs false
open Go.RowKit
def EntAt (xs : List Ent) (t : Int) (k : Nat) : Prop := ∃ h : k < xs.length, xs[k].2.size ≤ 400 ∧ 1 ≤ xs[k].1 ∧ xs[k].1 ≤ t ∧ ∀ h0 : 0 < k, xs[k - 1].1 ≤ xs[k].1
def EntsOK (xs : List Ent) (t : Int) : Prop := xs.length ≤ 60 ∧ ∀ k, k < xs.length → EntAt xs t k
open Classical in
noncomputable def entsOK (xs : List Ent) (t : Int) : Bool := decide (EntsOK xs t)
theorem entsOK_true {xs : List Ent} {t : Int} (h : EntsOK xs t) : entsOK xs t = true := by simp [entsOK, h]
theorem entsOK_false {xs : List Ent} {t : Int} (h : ¬ EntsOK xs t) : entsOK xs t = false := by simp [entsOK, h]
set_option maxRecDepth 100000 in
set_option maxHeartbeats 1000000 in
theorem areEntries_c (a : Option Addr) (ca : Nat) (xs : List Ent) (t : Int) (w : World) (ha : Sl entE 2 w a xs) (la : xs.length ≤ 1048576) (hsz : ∀ s ∈ xs, s.2.size ≤ 1048576) :
    Calls Try.prog 55 #[.slice a xs.length ca, .int .i64 t] w fun e w' => e = .returned (.bool (entsOK xs t)) ∧ Below w.heap.size w w' := by
  have HS := Lib.hid hsz
  clear hsz
  go_enter Try.func55, Try.ntmps55
  go_wp2_with fail
  go_loopw [9] (fun i wr => ∃ k : Nat, k ≤ xs.length ∧ i = .int .i64 k ∧ (∀ j, j < k → EntAt xs t j) ∧ Below w.heap.size w wr) (fun i _ => xs.length - (intOf i).toNat)
  case atStart => exact ⟨0, Nat.zero_le _, rfl, fun j hj => absurd hj (Nat.not_lt_zero _), Below.refl _ _⟩
  case round =>
    obtain ⟨k, hk, rfl, hp, hbel⟩ := hrel
    have HP := Lib.hid hp
    clear hp
    by_cases hlt : k < xs.length
    · obtain ⟨b1, o1, rfl, hb1, hc1⟩ := (ha.keep hbel).at hlt
      have c1 := hc1 k hlt 0 (by omega)
      have d1 := hc1 k hlt 1 (by omega)
      simp only [entE, Nat.add_zero, List.getElem?_cons_zero, List.getElem?_cons_succ] at c1 d1
      have hs1 := HS.out xs[k] (List.getElem_mem _)
      by_cases q1 : xs[k].2.size ≤ 400
      · have g1 : decide (400 < (xs[k].2.size : Int)) = false := by simp; omega
        by_cases q2 : 1 ≤ xs[k].1 ∧ xs[k].1 ≤ t
        · have hin : inB xs[k].1 1 t = true := by simp [inB, q2]
          have hwi := within_c xs[k].1 1 t
          rw [hin] at hwi
          have HW := Lib.hid hwi
          have Q2 := Lib.hid q2
          clear hwi hin q2
          by_cases q3 : k = 0
          · have g2 : decide (0 < k) = false := by simp; omega
            have Q3 := Lib.hid q3
            clear hc1 q3
            go_wp2_with fail
            go_quiet ((go_at_call 24; exact Calls.quiet_of_same ((HW.out _).mono fun _ _ h => ⟨h.1, h.2.symm⟩)))
            go_wp2_with fail
            go_roundw
            case rel =>
              refine ⟨k + 1, by omega, by go_num, fun j hj => ?_, (hbel.alloc hbel.size _).trans (below_drewN _ _ _)⟩
              rcases Nat.lt_succ_iff_lt_or_eq.1 hj with h | rfl
              · exact HP.out j h
              · exact ⟨hlt, q1, Q2.out.1, Q2.out.2, fun h0 => absurd Q3.out (by omega)⟩
            case measure => simp [intOf]; omega
          · have e1 := hc1 (k - 1) (by omega) 0 (by omega)
            simp only [entE, Nat.add_zero, List.getElem?_cons_zero, List.getElem?_cons_succ] at e1
            have g2 : decide (0 < k) = true := by simp; omega
            have Q3 := Lib.hid q3
            have q3' : 1 ≤ k := by omega
            clear hc1 q3
            by_cases q4 : xs[k - 1].1 ≤ xs[k].1
            · have g3 : decide (xs[k].1 < xs[k - 1].1) = false := by simp; omega
              go_wp2_with fail
              go_quiet ((go_at_call 24; exact Calls.quiet_of_same ((HW.out _).mono fun _ _ h => ⟨h.1, h.2.symm⟩)))
              go_wp2_with fail
              go_roundw
              case rel =>
                refine ⟨k + 1, by omega, by go_num, fun j hj => ?_, (hbel.alloc hbel.size _).trans (below_drewN _ _ _)⟩
                rcases Nat.lt_succ_iff_lt_or_eq.1 hj with h | rfl
                · exact HP.out j h
                · exact ⟨hlt, q1, Q2.out.1, Q2.out.2, fun h0 => q4⟩
              case measure => simp [intOf]; omega
            · have g3 : decide (xs[k].1 < xs[k - 1].1) = true := by simp; omega
              go_wp2_with fail
              go_quiet ((go_at_call 24; exact Calls.quiet_of_same ((HW.out _).mono fun _ _ h => ⟨h.1, h.2.symm⟩)))
              go_wp2_with fail
              go_ret
              have hneg : ¬ EntsOK xs t := by
                rintro ⟨_, h⟩
                obtain ⟨_, _, _, _, h⟩ := h k hlt
                have := h (by omega)
                omega
              exact ⟨by rw [entsOK_false hneg]; rfl, (hbel.alloc hbel.size _).trans (below_drewN _ _ _)⟩
        · have hin : inB xs[k].1 1 t = false := by
            simp only [inB, Bool.and_eq_false_iff, decide_eq_false_iff_not]
            omega
          have hwi := within_c xs[k].1 1 t
          rw [hin] at hwi
          have HW := Lib.hid hwi
          have Q2 := Lib.hid q2
          clear hwi hin q2 hc1
          go_wp2_with fail
          go_quiet ((go_at_call 24; exact Calls.quiet_of_same ((HW.out _).mono fun _ _ h => ⟨h.1, h.2.symm⟩)))
          go_wp2_with fail
          go_ret
          have hneg : ¬ EntsOK xs t := by
            rintro ⟨_, h⟩
            obtain ⟨_, _, h1, h2, _⟩ := h k hlt
            exact Q2.out ⟨h1, h2⟩
          exact ⟨by rw [entsOK_false hneg]; rfl, (hbel.alloc hbel.size _).trans (below_drewN _ _ _)⟩
      · have g1 : decide (400 < (xs[k].2.size : Int)) = true := by simp; omega
        clear hc1
        go_wp2_with fail
        go_quiet (fail)
        go_wp2_with fail
        go_ret
        have hneg : ¬ EntsOK xs t := by
          rintro ⟨_, h⟩
          obtain ⟨_, h1, _⟩ := h k hlt
          exact q1 h1
        exact ⟨by rw [entsOK_false hneg]; rfl, (hbel.alloc hbel.size _).trans (below_drewN _ _ _)⟩
    · obtain rfl : k = xs.length := by omega
      go_wp2_with fail
      go_ret
      refine ⟨?_, hbel⟩
      have hd : decide ((xs.length : Int) ≤ 60) = entsOK xs t := by
        by_cases h60 : xs.length ≤ 60
        · rw [entsOK_true ⟨h60, HP.out⟩]; simp; omega
        · rw [entsOK_false (fun h => h60 h.1)]; simp; omega
      simp [hd]
def StOK (t v : Int) (xs : List Ent) : Prop := inB t 0 1000 = true ∧ inB v (-1) 4 = true ∧ EntsOK xs t
open Classical in
noncomputable def stOK (t v : Int) (xs : List Ent) : Bool := decide (StOK t v xs)
theorem stOK_true {t v : Int} {xs : List Ent} (h : StOK t v xs) : stOK t v xs = true := by simp [stOK, h]
theorem stOK_false {t v : Int} {xs : List Ent} (h : ¬ StOK t v xs) : stOK t v xs = false := by simp [stOK, h]
theorem stOK_ents {t v : Int} {xs : List Ent} (h1 : inB t 0 1000 = true) (h2 : inB v (-1) 4 = true) : stOK t v xs = entsOK xs t := by
  by_cases h : EntsOK xs t
  · rw [stOK_true ⟨h1, h2, h⟩, entsOK_true h]
  · rw [stOK_false (fun k => h k.2.2), entsOK_false h]
set_option maxHeartbeats 1000000 in
theorem isState_c (a : Option Addr) (ca : Nat) (xs : List Ent) (t v : Int) (w : World) (ha : Sl entE 2 w a xs) (la : xs.length ≤ 1048576) (hsz : ∀ s ∈ xs, s.2.size ≤ 1048576) :
    Calls Try.prog 44 #[.agg #[.int .i64 t, .int .i64 v, .slice a xs.length ca]] w fun e w' => e = .returned (.bool (stOK t v xs)) ∧ Below w.heap.size w w' := by
  have HS := Lib.hid hsz
  clear hsz
  have hw1 := within_c t 0 1000
  have hw2 := within_c v (-1) 4
  by_cases h1 : inB t 0 1000 = true
  · rw [h1] at hw1
    by_cases h2 : inB v (-1) 4 = true
    · rw [h2] at hw2
      rw [stOK_ents h1 h2]
      have H1 := Lib.hid hw1
      have H2 := Lib.hid hw2
      clear hw1 hw2 h1 h2
      go_enter Try.func44, Try.ntmps44
      go_wp2_with fail
      refine (H1.out _).mono ?_
      rintro e w1 ⟨rfl, rfl⟩
      go_wp2_with fail
      refine (H2.out _).mono ?_
      rintro e w1 ⟨rfl, rfl⟩
      go_wp2_with fail
      refine (areEntries_c a ca xs t _ (ha.alloc _) la HS.out).mono ?_
      rintro e w1 ⟨rfl, hb1⟩
      go_wp2_with fail
      go_ret
      exact ⟨rfl, (by repeat (first | exact Below.refl _ _ | (refine Below.alloc ?_ (by (try simp) <;> (try omega)) _) | (refine Below.setCell ?_ (by (try simp) <;> (try omega)) _) | (refine Below.drew ?_) | (refine Below.trans ?_ (Below.mono (by assumption) (by (try simp) <;> (try omega))))))⟩
    · rw [Bool.eq_false_iff.2 h2] at hw2
      rw [stOK_false (fun k => h2 k.2.1)]
      have H1 := Lib.hid hw1
      have H2 := Lib.hid hw2
      clear hw1 hw2 h1 h2
      go_enter Try.func44, Try.ntmps44
      go_wp2_with fail
      refine (H1.out _).mono ?_
      rintro e w1 ⟨rfl, rfl⟩
      go_wp2_with fail
      refine (H2.out _).mono ?_
      rintro e w1 ⟨rfl, rfl⟩
      go_wp2_with fail
      go_ret
      exact ⟨rfl, (by repeat (first | exact Below.refl _ _ | (refine Below.alloc ?_ (by (try simp) <;> (try omega)) _) | (refine Below.setCell ?_ (by (try simp) <;> (try omega)) _) | (refine Below.drew ?_) | (refine Below.trans ?_ (Below.mono (by assumption) (by (try simp) <;> (try omega))))))⟩
  · rw [Bool.eq_false_iff.2 h1] at hw1
    rw [stOK_false (fun k => h1 k.1)]
    have H1 := Lib.hid hw1
    clear hw1 hw2 h1
    go_enter Try.func44, Try.ntmps44
    go_wp2_with fail
    refine (H1.out _).mono ?_
    rintro e w1 ⟨rfl, rfl⟩
    go_wp2_with fail
    go_ret
    exact ⟨rfl, (by repeat (first | exact Below.refl _ _ | (refine Below.alloc ?_ (by (try simp) <;> (try omega)) _) | (refine Below.setCell ?_ (by (try simp) <;> (try omega)) _) | (refine Below.drew ?_) | (refine Below.trans ?_ (Below.mono (by assumption) (by (try simp) <;> (try omega))))))⟩
set_option maxHeartbeats 400000 in
theorem l07Entry_c (x : Ent) (w : World) (hsz : x.2.size ≤ 1048576) :
    Calls Try.prog 51 #[.agg #[.int .i64 x.1, .string x.2]] w fun e w' => e = .returned (.bool (inB x.1 1 1000 && decide (x.2.size ≤ 400))) ∧ Below w.heap.size w w' := by
  obtain ⟨n, d⟩ := x
  simp only at hsz ⊢
  have hw1 := l01In_c n 1 1000
  cases h1 : inB n 1 1000
  all_goals
    rw [h1] at hw1
    have H1 := Lib.hid hw1
    clear hw1 h1
    go_enter Try.func51, Try.ntmps51
    go_wp2_with fail
    refine (H1.out _).mono ?_
    rintro e w1 ⟨rfl, rfl⟩
    go_wp2_with fail
    go_ret
    exact ⟨by simp <;> omega, (by repeat (first | exact Below.refl _ _ | (refine Below.alloc ?_ (by (try simp) <;> (try omega)) _) | (refine Below.setCell ?_ (by (try simp) <;> (try omega)) _) | (refine Below.drew ?_) | (refine Below.trans ?_ (Below.mono (by assumption) (by (try simp) <;> (try omega))))))⟩
end Go.Proofs.Ytcakldgbhjkkfaa
