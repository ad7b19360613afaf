/- The functions of FnExactSameState. -/
import Derived.Test.YtckaccadgbcohaaState2
import Derived.Test.YtckaccadgbcohaaState3
import Derived.Laws.StructEq
namespace Go.Proofs.Ytckaccadgbcohaa
set_option linter.unusedVariables false
set_option linter.unusedSimpArgs false
open Go.RowKit
def commonN : List Ent → List Ent → Nat
  | x :: xs, y :: ys => if x = y then commonN xs ys + 1 else 0
  | _, _ => 0
theorem commonN_le (xs ys : List Ent) : commonN xs ys ≤ xs.length := by
  induction xs generalizing ys with
  | nil => simp [commonN]
  | cons x xs ih =>
    cases ys with
    | nil => simp [commonN]
    | cons y ys =>
      simp only [commonN]
      split
      · have := ih ys; simp; omega
      · simp
theorem commonN_at (xs ys : List Ent) (k : Nat) (h1 : k ≤ xs.length) (h2 : k ≤ ys.length) (ht : xs.take k = ys.take k)
    (he : k = xs.length ∨ k = ys.length ∨ ∃ (a : k < xs.length) (b : k < ys.length), xs[k] ≠ ys[k]) : commonN xs ys = k := by
  induction k generalizing xs ys with
  | zero =>
    cases xs with
    | nil => simp [commonN]
    | cons x xs =>
      cases ys with
      | nil => simp [commonN]
      | cons y ys =>
        rcases he with h | h | ⟨_, _, h⟩
        · simp at h
        · simp at h
        · simp at h; simp [commonN, h]
  | succ k ih =>
    cases xs with
    | nil => simp at h1
    | cons x xs =>
      cases ys with
      | nil => simp at h2
      | cons y ys =>
        simp only [List.take_succ_cons, List.cons.injEq] at ht
        obtain ⟨rfl, ht⟩ := ht
        simp only [commonN, if_true]
        rw [ih xs ys (by simpa using h1) (by simpa using h2) ht]
        rcases he with h | h | ⟨a, b, h⟩
        · exact .inl (by simpa using h)
        · exact .inr (.inl (by simpa using h))
        · exact .inr (.inr ⟨by simpa using a, by simpa using b, by simpa using h⟩)
theorem commonN_all (xs ys : List Ent) : (xs.length = ys.length ∧ commonN xs ys = xs.length) ↔ xs = ys := by
  constructor
  · rintro ⟨h1, h2⟩
    induction xs generalizing ys with
    | nil => exact (List.eq_nil_of_length_eq_zero h1.symm).symm
    | cons x xs ih =>
      cases ys with
      | nil => simp at h1
      | cons y ys =>
        simp only [commonN] at h2
        split at h2
        · rename_i h; subst h
          rw [ih ys (by simpa using h1) (by simpa using h2)]
        · simp at h2
  · rintro rfl
    exact ⟨rfl, commonN_at xs xs xs.length (Nat.le_refl _) (Nat.le_refl _) rfl (.inl rfl)⟩
set_option maxRecDepth 100000 in
set_option maxHeartbeats 1000000 in
theorem slicesEqual_c (a b : Option Addr) (ca cb : Nat) (xs ys : List Ent) (w : World) (ha : Sl entE 2 w a xs) (hb : Sl entE 2 w b ys) (la : xs.length ≤ 1048576) (lb : ys.length ≤ 1048576) :
    Calls Try.prog 74 #[.slice a xs.length ca, .slice b ys.length cb] w fun e w' => e = .returned (.bool (decide (xs = ys))) ∧ Below w.heap.size w w' := by
  by_cases hl : xs.length = ys.length
  · go_enter Try.func74, Try.ntmps74
    go_wp2_with fail
    go_loopw [13] (fun i wr => ∃ k : Nat, k ≤ xs.length ∧ i = .int .i64 k ∧ xs.take k = ys.take k ∧ Below w.heap.size w wr) (fun i _ => xs.length - (intOf i).toNat)
    case atStart => exact ⟨0, Nat.zero_le _, rfl, rfl, Below.refl _ _⟩
    case round =>
      obtain ⟨k, hk, rfl, ht, hbel⟩ := hrel
      have HT := Lib.hid ht
      clear ht
      by_cases hlt : k < xs.length
      · have hlt2 : k < ys.length := by omega
        obtain ⟨b1, o1, rfl, hb1, hc1⟩ := (ha.keep hbel).at hlt
        obtain ⟨b2, o2, rfl, hb2, hc2⟩ := (hb.keep hbel).at hlt2
        have c1 := hc1 k hlt 0 (by omega)
        have c2 := hc2 k hlt2 0 (by omega)
        have d1 := hc1 k hlt 1 (by omega)
        have d2 := hc2 k hlt2 1 (by omega)
        simp only [entE, Nat.add_zero, List.getElem?_cons_zero, List.getElem?_cons_succ] at c1 c2 d1 d2
        clear hc1 hc2
        have HL := Lib.hid hl
        clear hl
        by_cases e1 : xs[k].1 = ys[k].1
        · have f1 : (xs[k].1 == ys[k].1) = true := by rw [e1]; simp
          have E1 := Lib.hid e1
          clear e1
          by_cases e2 : xs[k].2 = ys[k].2
          · have f2 : (xs[k].2.toList == ys[k].2.toList) = true := by rw [e2]; simp
            have E2 := Lib.hid e2
            clear e2
            go_wp2_with fail
            go_quiet (fail)
            go_wp2_with fail
            go_roundw
            case rel =>
              refine ⟨k + 1, by omega, by go_num, ?_, hbel.trans (below_drewN _ _ _)⟩
              rw [List.take_succ_eq_append_getElem hlt, List.take_succ_eq_append_getElem hlt2, HT.out, Prod.ext E1.out E2.out]
            case measure => simp [intOf]; omega
          · have f2 : (xs[k].2.toList == ys[k].2.toList) = false := by simp [toList_eq, e2]
            have E2 := Lib.hid e2
            clear e2
            go_wp2_with fail
            go_quiet (fail)
            go_wp2_with fail
            go_ret
            refine ⟨?_, hbel.trans (below_drewN _ _ _)⟩
            have hne : xs ≠ ys := by rintro rfl; exact E2.out rfl
            simp [hne]
        · have f1 : (xs[k].1 == ys[k].1) = false := by simpa using e1
          have E1 := Lib.hid e1
          clear e1
          go_wp2_with fail
          go_quiet (fail)
          go_wp2_with fail
          go_ret
          refine ⟨?_, hbel.trans (below_drewN _ _ _)⟩
          have hne : xs ≠ ys := by rintro rfl; exact E1.out rfl
          simp [hne]
      · have hkn : k = xs.length := by omega
        go_wp2_with fail
        go_ret
        refine ⟨?_, hbel⟩
        have h1 := HT.out
        rw [List.take_of_length_le (by omega), List.take_of_length_le (by omega)] at h1
        simp [h1]
  · have hl' : ((xs.length : Int) == (ys.length : Int)) = false := by simp; omega
    have hd : decide (xs = ys) = false := by simp; intro h; exact hl (by rw [h])
    rw [hd]
    clear hd
    go_enter Try.func74, Try.ntmps74
    go_wp2_with fail
    go_ret
    exact ⟨rfl, (by repeat (first | exact Below.refl _ _ | (refine Below.alloc ?_ (by (try simp) <;> (try omega)) _) | (refine Below.setCell ?_ (by (try simp) <;> (try omega)) _) | (refine Below.drew ?_) | (refine Below.trans ?_ (Below.mono (by assumption) (by (try simp) <;> (try omega))))))⟩
set_option maxRecDepth 100000 in
set_option maxHeartbeats 1000000 in
theorem l07Common_c (a b : Option Addr) (ca cb : Nat) (xs ys : List Ent) (w : World) (ha : Sl entE 2 w a xs) (hb : Sl entE 2 w b ys) (la : xs.length ≤ 1048576) (lb : ys.length ≤ 1048576) :
    Calls Try.prog 67 #[.slice a xs.length ca, .slice b ys.length cb] w fun e w' => e = .returned (.int .i64 (commonN xs ys)) ∧ Below w.heap.size w w' := by
  go_enter Try.func67, Try.ntmps67
  go_wp2_with fail
  go_loopw [5] (fun i wr => ∃ k : Nat, k ≤ xs.length ∧ k ≤ ys.length ∧ i = .int .i64 k ∧ xs.take k = ys.take k ∧ Below w.heap.size w wr) (fun i _ => xs.length - (intOf i).toNat)
  case atStart => exact ⟨0, Nat.zero_le _, Nat.zero_le _, rfl, rfl, Below.refl _ _⟩
  case round =>
    obtain ⟨k, hk, hk2, rfl, ht, hbel⟩ := hrel
    have HT := Lib.hid ht
    clear ht
    by_cases hlt : k < xs.length
    · have g1 : decide (k < xs.length) = true := by simpa using hlt
      by_cases hlt2 : k < ys.length
      · have g2 : decide (k < ys.length) = true := by simpa using hlt2
        obtain ⟨b1, o1, rfl, hb1, hc1⟩ := (ha.keep hbel).at hlt
        obtain ⟨b2, o2, rfl, hb2, hc2⟩ := (hb.keep hbel).at hlt2
        have c1 := hc1 k hlt 0 (by omega)
        have c2 := hc2 k hlt2 0 (by omega)
        have d1 := hc1 k hlt 1 (by omega)
        have d2 := hc2 k hlt2 1 (by omega)
        simp only [entE, Nat.add_zero, List.getElem?_cons_zero, List.getElem?_cons_succ] at c1 c2 d1 d2
        clear hc1 hc2
        by_cases e1 : xs[k].1 = ys[k].1
        · have f1 : (xs[k].1 == ys[k].1) = true := by rw [e1]; simp
          have E1 := Lib.hid e1
          clear e1
          by_cases e2 : xs[k].2 = ys[k].2
          · have f2 : (xs[k].2.toList == ys[k].2.toList) = true := by rw [e2]; simp
            have E2 := Lib.hid e2
            clear e2
            go_wp2_with fail
            go_quiet (fail)
            go_wp2_with fail
            go_roundw
            case rel =>
              refine ⟨k + 1, by omega, by omega, by go_num, ?_, hbel.trans (below_drewN _ _ _)⟩
              rw [List.take_succ_eq_append_getElem hlt, List.take_succ_eq_append_getElem hlt2, HT.out, Prod.ext E1.out E2.out]
            case measure => simp [intOf]; omega
          · have f2 : (xs[k].2.toList == ys[k].2.toList) = false := by simp [toList_eq, e2]
            have E2 := Lib.hid e2
            clear e2
            go_wp2_with fail
            go_quiet (fail)
            go_wp2_with fail
            go_ret
            refine ⟨?_, hbel.trans (below_drewN _ _ _)⟩
            rw [commonN_at xs ys k hk hk2 HT.out (.inr (.inr ⟨hlt, hlt2, fun h => E2.out (by rw [h])⟩))]
            rfl
        · have f1 : (xs[k].1 == ys[k].1) = false := by simpa using e1
          have E1 := Lib.hid e1
          clear e1
          go_wp2_with fail
          go_quiet (fail)
          go_wp2_with fail
          go_ret
          refine ⟨?_, hbel.trans (below_drewN _ _ _)⟩
          rw [commonN_at xs ys k hk hk2 HT.out (.inr (.inr ⟨hlt, hlt2, fun h => E1.out (by rw [h])⟩))]
          rfl
      · have g2 : decide (k < ys.length) = false := by simpa using hlt2
        have hke : k = ys.length := by omega
        have HK := Lib.hid hke
        clear hke
        go_wp2_with fail
        go_quiet (fail)
        go_wp2_with fail
        go_ret
        refine ⟨?_, hbel.trans (below_drewN _ _ _)⟩
        rw [commonN_at xs ys k hk hk2 HT.out (.inr (.inl HK.out))]
        rfl
    · have g1 : decide (k < xs.length) = false := by simpa using hlt
      have hke : k = xs.length := by omega
      have HK := Lib.hid hke
      clear hke
      go_wp2_with fail
      go_quiet (fail)
      go_wp2_with fail
      go_ret
      refine ⟨?_, hbel.trans (below_drewN _ _ _)⟩
      rw [commonN_at xs ys k hk hk2 HT.out (.inl HK.out)]
      rfl
end Go.Proofs.Ytckaccadgbcohaa
