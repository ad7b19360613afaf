/- The law FnExactNewMux: both sides, and the law's walk. No conditions. -/
import Derived.Test.YtalldjcnmknhiaaScalar
import Derived.Test.YtalldjcnmknhiaaMid
import Derived.Lib.Hide
namespace Go.Proofs.Ytalldjcnmknhiaa
set_option linter.unusedVariables false
set_option linter.unusedSimpArgs false
open Go.RowKit
set_option maxRecDepth 100000 in
set_option maxHeartbeats 1000000 in
theorem eqWindowS_0 (a b : Option Addr) (c d : Nat) (w : World) : Calls Try.prog 12 #[.slice a 0 c, .slice b 0 d] w fun e w' => e = .returned (.bool true) ∧ w = w' := by
  go_enter Try.func12, Try.ntmps12
  go_wp2_with fail
  go_loop [5] (fun i => ∃ k : Nat, k ≤ 0 ∧ i = .int .i64 k) (fun i => 0)
  case atStart => exact ⟨0, Nat.le_refl _, rfl⟩
  case round =>
    obtain ⟨k, hk, rfl⟩ := hrel
    obtain rfl : k = 0 := by omega
    go_wp2_with fail
    go_ret
    exact ⟨rfl, rfl⟩
set_option maxRecDepth 100000 in
set_option maxHeartbeats 1000000 in
theorem markWindowS_0 (a : Option Addr) (c : Nat) (n : Int) (w : World) : Calls Try.prog 15 #[.slice a 0 c, .int .i64 n] w fun e w' => e = .returned (.int .i64 n) ∧ w = w' := by
  go_enter Try.func15, Try.ntmps15
  go_wp2_with fail
  go_loop [1, 5] (fun m i => ∃ k : Nat, k ≤ 0 ∧ i = .int .i64 k ∧ m = .int .i64 n) (fun _ i => 0)
  case atStart => exact ⟨0, Nat.le_refl _, rfl, rfl⟩
  case round =>
    obtain ⟨k, hk, rfl, rfl⟩ := hrel
    obtain rfl : k = 0 := by omega
    go_wp2_with fail
    go_ret
    exact ⟨rfl, rfl⟩
set_option maxRecDepth 100000 in
set_option maxHeartbeats 1000000 in
theorem heldWindowS_0 (a : Option Addr) (c : Nat) (n : Int) (w : World) : Calls Try.prog 18 #[.slice a 0 c, .int .i64 n] w fun e w' => e = .returned (.int .i64 n) ∧ w = w' := by
  go_enter Try.func18, Try.ntmps18
  go_wp2_with fail
  go_loop [1, 5] (fun m i => ∃ k : Nat, k ≤ 0 ∧ i = .int .i64 k ∧ m = .int .i64 n) (fun _ i => 0)
  case atStart => exact ⟨0, Nat.le_refl _, rfl, rfl⟩
  case round =>
    obtain ⟨k, hk, rfl, rfl⟩ := hrel
    obtain rfl : k = 0 := by omega
    go_wp2_with fail
    go_ret
    exact ⟨rfl, rfl⟩
set_option maxRecDepth 100000 in
set_option maxHeartbeats 1000000 in
theorem eqPaneS_0 (a b : Option Addr) (c d : Nat) (w : World) : Calls Try.prog 13 #[.slice a 0 c, .slice b 0 d] w fun e w' => e = .returned (.bool true) ∧ w = w' := by
  go_enter Try.func13, Try.ntmps13
  go_wp2_with fail
  go_loop [5] (fun i => ∃ k : Nat, k ≤ 0 ∧ i = .int .i64 k) (fun i => 0)
  case atStart => exact ⟨0, Nat.le_refl _, rfl⟩
  case round =>
    obtain ⟨k, hk, rfl⟩ := hrel
    obtain rfl : k = 0 := by omega
    go_wp2_with fail
    go_ret
    exact ⟨rfl, rfl⟩
set_option maxRecDepth 100000 in
set_option maxHeartbeats 1000000 in
theorem markPaneS_0 (a : Option Addr) (c : Nat) (n : Int) (w : World) : Calls Try.prog 16 #[.slice a 0 c, .int .i64 n] w fun e w' => e = .returned (.int .i64 n) ∧ w = w' := by
  go_enter Try.func16, Try.ntmps16
  go_wp2_with fail
  go_loop [1, 5] (fun m i => ∃ k : Nat, k ≤ 0 ∧ i = .int .i64 k ∧ m = .int .i64 n) (fun _ i => 0)
  case atStart => exact ⟨0, Nat.le_refl _, rfl, rfl⟩
  case round =>
    obtain ⟨k, hk, rfl, rfl⟩ := hrel
    obtain rfl : k = 0 := by omega
    go_wp2_with fail
    go_ret
    exact ⟨rfl, rfl⟩
set_option maxRecDepth 100000 in
set_option maxHeartbeats 1000000 in
theorem heldPaneS_0 (a : Option Addr) (c : Nat) (n : Int) (w : World) : Calls Try.prog 19 #[.slice a 0 c, .int .i64 n] w fun e w' => e = .returned (.int .i64 n) ∧ w = w' := by
  go_enter Try.func19, Try.ntmps19
  go_wp2_with fail
  go_loop [1, 5] (fun m i => ∃ k : Nat, k ≤ 0 ∧ i = .int .i64 k ∧ m = .int .i64 n) (fun _ i => 0)
  case atStart => exact ⟨0, Nat.le_refl _, rfl, rfl⟩
  case round =>
    obtain ⟨k, hk, rfl, rfl⟩ := hrel
    obtain rfl : k = 0 := by omega
    go_wp2_with fail
    go_ret
    exact ⟨rfl, rfl⟩
set_option maxRecDepth 100000 in
set_option maxHeartbeats 1000000 in
theorem eqSeenS_0 (a b : Option Addr) (c d : Nat) (w : World) : Calls Try.prog 14 #[.slice a 0 c, .slice b 0 d] w fun e w' => e = .returned (.bool true) ∧ w = w' := by
  go_enter Try.func14, Try.ntmps14
  go_wp2_with fail
  go_loop [5] (fun i => ∃ k : Nat, k ≤ 0 ∧ i = .int .i64 k) (fun i => 0)
  case atStart => exact ⟨0, Nat.le_refl _, rfl⟩
  case round =>
    obtain ⟨k, hk, rfl⟩ := hrel
    obtain rfl : k = 0 := by omega
    go_wp2_with fail
    go_ret
    exact ⟨rfl, rfl⟩
set_option maxRecDepth 100000 in
set_option maxHeartbeats 1000000 in
theorem markSeenS_0 (a : Option Addr) (c : Nat) (n : Int) (w : World) : Calls Try.prog 17 #[.slice a 0 c, .int .i64 n] w fun e w' => e = .returned (.int .i64 n) ∧ w = w' := by
  go_enter Try.func17, Try.ntmps17
  go_wp2_with fail
  go_loop [1, 5] (fun m i => ∃ k : Nat, k ≤ 0 ∧ i = .int .i64 k ∧ m = .int .i64 n) (fun _ i => 0)
  case atStart => exact ⟨0, Nat.le_refl _, rfl, rfl⟩
  case round =>
    obtain ⟨k, hk, rfl, rfl⟩ := hrel
    obtain rfl : k = 0 := by omega
    go_wp2_with fail
    go_ret
    exact ⟨rfl, rfl⟩
set_option maxRecDepth 100000 in
set_option maxHeartbeats 1000000 in
theorem heldSeenS_0 (a : Option Addr) (c : Nat) (n : Int) (w : World) : Calls Try.prog 20 #[.slice a 0 c, .int .i64 n] w fun e w' => e = .returned (.int .i64 n) ∧ w = w' := by
  go_enter Try.func20, Try.ntmps20
  go_wp2_with fail
  go_loop [1, 5] (fun m i => ∃ k : Nat, k ≤ 0 ∧ i = .int .i64 k ∧ m = .int .i64 n) (fun _ i => 0)
  case atStart => exact ⟨0, Nat.le_refl _, rfl, rfl⟩
  case round =>
    obtain ⟨k, hk, rfl, rfl⟩ := hrel
    obtain rfl : k = 0 := by omega
    go_wp2_with fail
    go_ret
    exact ⟨rfl, rfl⟩
set_option maxRecDepth 100000 in
set_option maxHeartbeats 2000000 in
theorem eqMux_0 (W H T : Int) (a1 : Option Addr) (c1 : Nat) (b1 : Option Addr) (d1 : Nat) (e1 : Option Addr) (f1 : Nat) (a2 : Option Addr) (c2 : Nat) (b2 : Option Addr) (d2 : Nat) (e2 : Option Addr) (f2 : Nat) (w : World) : Calls Try.prog 6 #[.agg #[.int .i64 W, .int .i64 H, .int .i64 T, .slice a1 0 c1, .slice b1 0 d1, .slice e1 0 f1], .agg #[.int .i64 W, .int .i64 H, .int .i64 T, .slice a2 0 c2, .slice b2 0 d2, .slice e2 0 f2]] w fun e w' => e = .returned (.bool true) ∧ Below w.heap.size w w' := by
  go_enter Try.func6, Try.ntmps6
  go_wp2_with (first | (go_at_call 12; refine (eqWindowS_0 _ _ _ _ _).mono ?_; rintro e w' ⟨rfl, rfl⟩) | (go_at_call 13; refine (eqPaneS_0 _ _ _ _ _).mono ?_; rintro e w' ⟨rfl, rfl⟩) | (go_at_call 14; refine (eqSeenS_0 _ _ _ _ _).mono ?_; rintro e w' ⟨rfl, rfl⟩))
  go_ret
  exact ⟨rfl, (by repeat (first | exact Below.refl _ _ | (refine Below.alloc ?_ (by (try simp) <;> (try omega)) _) | (refine Below.setCell ?_ (by (try simp) <;> (try omega)) _) | (refine Below.drew ?_) | (refine Below.trans ?_ (Below.mono (by assumption) (by (try simp) <;> (try omega))))))⟩
set_option maxRecDepth 100000 in
set_option maxHeartbeats 2000000 in
theorem markMux_0 (W H T : Int) (a1 : Option Addr) (c1 : Nat) (b1 : Option Addr) (d1 : Nat) (e1 : Option Addr) (f1 : Nat) (n : Int) (w : World) : Calls Try.prog 7 #[.agg #[.int .i64 W, .int .i64 H, .int .i64 T, .slice a1 0 c1, .slice b1 0 d1, .slice e1 0 f1], .int .i64 n] w fun e w' => e = .returned (.int .i64 n) ∧ Below w.heap.size w w' := by
  go_enter Try.func7, Try.ntmps7
  go_wp2_with (first | (go_at_call 15; refine (markWindowS_0 _ _ _ _).mono ?_; rintro e w' ⟨rfl, rfl⟩) | (go_at_call 16; refine (markPaneS_0 _ _ _ _).mono ?_; rintro e w' ⟨rfl, rfl⟩) | (go_at_call 17; refine (markSeenS_0 _ _ _ _).mono ?_; rintro e w' ⟨rfl, rfl⟩))
  go_ret
  exact ⟨rfl, (by repeat (first | exact Below.refl _ _ | (refine Below.alloc ?_ (by (try simp) <;> (try omega)) _) | (refine Below.setCell ?_ (by (try simp) <;> (try omega)) _) | (refine Below.drew ?_) | (refine Below.trans ?_ (Below.mono (by assumption) (by (try simp) <;> (try omega))))))⟩
set_option maxRecDepth 100000 in
set_option maxHeartbeats 2000000 in
theorem heldMux_0 (W H T : Int) (a1 : Option Addr) (c1 : Nat) (b1 : Option Addr) (d1 : Nat) (e1 : Option Addr) (f1 : Nat) (w : World) : Calls Try.prog 8 #[.agg #[.int .i64 W, .int .i64 H, .int .i64 T, .slice a1 0 c1, .slice b1 0 d1, .slice e1 0 f1], .int .i64 1] w fun e w' => e = .returned (.int .i64 1) ∧ Below w.heap.size w w' := by
  go_enter Try.func8, Try.ntmps8
  go_wp2_with (first | (go_at_call 18; refine (heldWindowS_0 _ _ _ _).mono ?_; rintro e w' ⟨rfl, rfl⟩) | (go_at_call 19; refine (heldPaneS_0 _ _ _ _).mono ?_; rintro e w' ⟨rfl, rfl⟩) | (go_at_call 20; refine (heldSeenS_0 _ _ _ _).mono ?_; rintro e w' ⟨rfl, rfl⟩))
  go_ret
  exact ⟨rfl, (by repeat (first | exact Below.refl _ _ | (refine Below.alloc ?_ (by (try simp) <;> (try omega)) _) | (refine Below.setCell ?_ (by (try simp) <;> (try omega)) _) | (refine Below.drew ?_) | (refine Below.trans ?_ (Below.mono (by assumption) (by (try simp) <;> (try omega))))))⟩
set_option maxRecDepth 100000 in
set_option maxHeartbeats 1000000 in
theorem implSize_c (x y : Int) (w : World) : Calls Try.prog 11 #[.int .i64 x, .int .i64 y] w fun e w' => e = .returned (.bool (inB x 2 24 && inB y 2 10)) ∧ w = w' := by
  obtain ⟨v1, h1⟩ : ∃ v, inB x 2 24 = v := ⟨_, rfl⟩
  obtain ⟨v2, h2⟩ : ∃ v, inB y 2 10 = v := ⟨_, rfl⟩
  have H1 := Lib.hid h1
  have H2 := Lib.hid h2
  rw [h1, h2]
  clear h1 h2
  cases v1
  · go_enter Try.func11, Try.ntmps11
    go_wp2_with (go_at_call 22; refine (within_c x _ _ _).mono ?_; rw [H1.out]; rintro e w' ⟨rfl, rfl⟩)
    go_ret
    exact ⟨rfl, rfl⟩
  · go_enter Try.func11, Try.ntmps11
    go_wp2_with (go_at_call 22; refine (within_c _ _ _ _).mono ?_; (first | rw [H1.out] | rw [H2.out]); rintro e w' ⟨rfl, rfl⟩)
    go_ret
    exact ⟨rfl, rfl⟩
set_option maxRecDepth 100000 in
set_option maxHeartbeats 1000000 in
theorem specSize_c (x y : Int) (w : World) : Calls Try.prog 9 #[.int .i64 x, .int .i64 y] w fun e w' => e = .returned (.bool (inB x 2 24 && inB y 2 10)) ∧ w = w' := by
  obtain ⟨v1, h1⟩ : ∃ v, inB x 2 24 = v := ⟨_, rfl⟩
  obtain ⟨v2, h2⟩ : ∃ v, inB y 2 10 = v := ⟨_, rfl⟩
  have H1 := Lib.hid h1
  have H2 := Lib.hid h2
  rw [h1, h2]
  clear h1 h2
  cases v1
  · go_enter Try.func9, Try.ntmps9
    go_wp2_with (go_at_call 21; refine (l01In_c x _ _ _).mono ?_; rw [H1.out]; rintro e w' ⟨rfl, rfl⟩)
    go_ret
    exact ⟨rfl, rfl⟩
  · go_enter Try.func9, Try.ntmps9
    go_wp2_with (go_at_call 21; refine (l01In_c _ _ _ _).mono ?_; (first | rw [H1.out] | rw [H2.out]); rintro e w' ⟨rfl, rfl⟩)
    go_ret
    exact ⟨rfl, rfl⟩
def nmW (x y : Int) : Int × Int × Int × Int := if (inB x 2 24 && inB y 2 10) = true then (x, y, 1, 0) else (0, 0, 0, 4)
def NmR (x y : Int) (w : World) (e : Ending) (w' : World) : Prop :=
  ∃ a c b d e' f, e = .returned (.tuple #[.agg #[.int .i64 (nmW x y).1, .int .i64 (nmW x y).2.1, .int .i64 (nmW x y).2.2.1, .slice a 0 c, .slice b 0 d, .slice e' 0 f], .int .i64 (nmW x y).2.2.2]) ∧ Below w.heap.size w w'
set_option maxRecDepth 100000 in
set_option maxHeartbeats 1000000 in
theorem l06New_c (x y : Int) (w : World) : Calls Try.prog 10 #[.int .i64 x, .int .i64 y] w fun e w' => (∃ a c b d e' f, e = .returned (.agg #[.int .i64 x, .int .i64 y, .int .i64 1, .slice a 0 c, .slice b 0 d, .slice e' 0 f])) ∧ Below w.heap.size w w' := by
  go_enter Try.func10, Try.ntmps10
  go_wp2_with fail
  refine bodyPost_ret (v := .agg #[.int .i64 x, .int .i64 y, .int .i64 1, .slice (some ⟨w.heap.size + 1, 0, none⟩) 0 0, .slice (some ⟨w.heap.size + 1 + 1, 0, none⟩) 0 0, .slice (some ⟨w.heap.size + 1 + 1 + 1, 0, none⟩) 0 0]) (by simp [results, Try.results10, go_sem]) rfl ?_
  exact ⟨⟨_, _, _, _, _, _, rfl⟩, (by repeat (first | exact Below.refl _ _ | (refine Below.alloc ?_ (by (try simp) <;> (try omega)) _) | (refine Below.setCell ?_ (by (try simp) <;> (try omega)) _) | (refine Below.drew ?_) | (refine Below.trans ?_ (Below.mono (by assumption) (by (try simp) <;> (try omega))))))⟩
set_option maxRecDepth 100000 in
set_option maxHeartbeats 1000000 in
theorem specNewMux_c (x y : Int) (w : World) : Calls Try.prog 4 #[.int .i64 x, .int .i64 y] w (NmR x y w) := by
  unfold NmR nmW
  obtain ⟨v, h⟩ : ∃ v, (inB x 2 24 && inB y 2 10) = v := ⟨_, rfl⟩
  have H := Lib.hid h
  rw [h]
  clear h
  cases v
  · simp only [Bool.false_eq_true, if_false]
    go_enter Try.func4, Try.ntmps4
    go_wp2_with (go_at_call 9; refine (specSize_c x y _).mono ?_; rw [H.out]; rintro e w' ⟨rfl, rfl⟩)
    refine bodyPost_ret (v := .tuple #[.agg #[.int .i64 0, .int .i64 0, .int .i64 0, .slice none 0 0, .slice none 0 0, .slice none 0 0], .int .i64 4]) (by simp [results, Try.results4, go_sem]) rfl ?_
    exact ⟨none, 0, none, 0, none, 0, rfl, (by repeat (first | exact Below.refl _ _ | (refine Below.alloc ?_ (by (try simp) <;> (try omega)) _) | (refine Below.setCell ?_ (by (try simp) <;> (try omega)) _) | (refine Below.drew ?_) | (refine Below.trans ?_ (Below.mono (by assumption) (by (try simp) <;> (try omega))))))⟩
  · simp only [if_true]
    go_enter Try.func4, Try.ntmps4
    go_wp2_with (go_at_call 9; refine (specSize_c x y _).mono ?_; rw [H.out]; rintro e w' ⟨rfl, rfl⟩)
    refine (l06New_c x y _).mono ?_
    rintro e w1 ⟨⟨a, c, b, d, e', f, rfl⟩, hb1⟩
    have hz1 := hb1.size
    simp only [World.size_alloc] at hz1
    have q_0 : w1.cell? ⟨w.heap.size, 0, none⟩ = some (.int .i64 0) := (hb1.cell (p := ⟨w.heap.size, 0, none⟩) (by show w.heap.size < _; simp)).trans (by simp [go_sem])
    have q_1 : w1.cell? ⟨w.heap.size, 1, none⟩ = some (.int .i64 0) := (hb1.cell (p := ⟨w.heap.size, 1, none⟩) (by show w.heap.size < _; simp)).trans (by simp [go_sem])
    have q_2 : w1.cell? ⟨w.heap.size, 2, none⟩ = some (.int .i64 0) := (hb1.cell (p := ⟨w.heap.size, 2, none⟩) (by show w.heap.size < _; simp)).trans (by simp [go_sem])
    have q_3 : w1.cell? ⟨w.heap.size, 3, none⟩ = some (.slice none 0 0) := (hb1.cell (p := ⟨w.heap.size, 3, none⟩) (by show w.heap.size < _; simp)).trans (by simp [go_sem])
    have q_4 : w1.cell? ⟨w.heap.size, 4, none⟩ = some (.slice none 0 0) := (hb1.cell (p := ⟨w.heap.size, 4, none⟩) (by show w.heap.size < _; simp)).trans (by simp [go_sem])
    have q_5 : w1.cell? ⟨w.heap.size, 5, none⟩ = some (.slice none 0 0) := (hb1.cell (p := ⟨w.heap.size, 5, none⟩) (by show w.heap.size < _; simp)).trans (by simp [go_sem])
    have qf : ∀ o, w1.frozen? ⟨w.heap.size, o, none⟩ = false := fun o => (hb1.frozen (p := ⟨w.heap.size, o, none⟩) (by show w.heap.size < _; simp)).trans (by simp [go_sem])
    have hl : w.heap.size < w1.heap.size := by omega
    have HB1 : Hid (Below w.heap.size w w1) := ((Below.refl _ _).alloc (Nat.le_refl _) _).trans (hb1.mono (by simp))
    clear hb1
    go_wp2_with fail
    refine bodyPost_ret (v := .tuple #[.agg #[.int .i64 x, .int .i64 y, .int .i64 1, .slice a 0 c, .slice b 0 d, .slice e' 0 f], .int .i64 0]) (by simp [results, Try.results4, go_sem, q_0, q_1, q_2, q_3, q_4, q_5, qf, hl]) rfl ?_
    refine ⟨_, _, _, _, _, _, rfl, ?_⟩
    repeat (first | (with_reducible exact HB1.out) | (with_reducible refine Below.setCell ?_ ?_ _; rotate_left; ((try simp) <;> (try omega))))
set_option maxRecDepth 100000 in
set_option maxHeartbeats 1000000 in
theorem implNewMux_c (x y : Int) (w : World) : Calls Try.prog 5 #[.int .i64 x, .int .i64 y] w (NmR x y w) := by
  unfold NmR nmW
  obtain ⟨v, h⟩ : ∃ v, (inB x 2 24 && inB y 2 10) = v := ⟨_, rfl⟩
  have H := Lib.hid h
  rw [h]
  clear h
  cases v
  · simp only [Bool.false_eq_true, if_false]
    go_enter Try.func5, Try.ntmps5
    go_wp2_with (go_at_call 11; refine (implSize_c x y _).mono ?_; rw [H.out]; rintro e w' ⟨rfl, rfl⟩)
    refine bodyPost_ret (v := .tuple #[.agg #[.int .i64 0, .int .i64 0, .int .i64 0, .slice none 0 0, .slice none 0 0, .slice none 0 0], .int .i64 4]) (by simp [results, Try.results5, go_sem]) rfl ?_
    exact ⟨none, 0, none, 0, none, 0, rfl, (by repeat (first | exact Below.refl _ _ | (refine Below.alloc ?_ (by (try simp) <;> (try omega)) _) | (refine Below.setCell ?_ (by (try simp) <;> (try omega)) _) | (refine Below.drew ?_) | (refine Below.trans ?_ (Below.mono (by assumption) (by (try simp) <;> (try omega))))))⟩
  · simp only [if_true]
    go_enter Try.func5, Try.ntmps5
    go_wp2_with (go_at_call 11; refine (implSize_c x y _).mono ?_; rw [H.out]; rintro e w' ⟨rfl, rfl⟩)
    refine bodyPost_ret (v := .tuple #[.agg #[.int .i64 x, .int .i64 y, .int .i64 1, .slice none 0 0, .slice none 0 0, .slice none 0 0], .int .i64 0]) (by simp [results, Try.results5, go_sem]) rfl ?_
    exact ⟨none, 0, none, 0, none, 0, rfl, (by repeat (first | exact Below.refl _ _ | (refine Below.alloc ?_ (by (try simp) <;> (try omega)) _) | (refine Below.setCell ?_ (by (try simp) <;> (try omega)) _) | (refine Below.drew ?_) | (refine Below.trans ?_ (Below.mono (by assumption) (by (try simp) <;> (try omega))))))⟩
set_option maxRecDepth 100000 in
set_option maxHeartbeats 16000000 in
theorem lawNmux_c (x y : Int) (w : World) :
    Calls Try.prog 3 #[.int .i64 x, .int .i64 y] w fun e w' => e = .returned (.bool true) ∧ Below w.heap.size w w' := by
  obtain ⟨W, H, T, r, hV⟩ : ∃ W H T r, nmW x y = (W, H, T, r) := ⟨_, _, _, _, rfl⟩
  have HV := Lib.hid hV
  clear hV
  go_enter Try.func3, Try.ntmps3
  go_wp2_with fail
  refine (specNewMux_c x y _).mono ?_
  unfold NmR
  rw [HV.out]
  dsimp only
  rintro e w1 ⟨a1, c1, b1, d1, e1, f1, rfl, hb1⟩
  have hz1 := hb1.size
  have HB1 := Lib.hid hb1
  clear hb1
  go_wp2_with fail
  refine (implNewMux_c x y _).mono ?_
  unfold NmR
  rw [HV.out]
  dsimp only
  rintro e w2 ⟨a2, c2, b2, d2, e2, f2, rfl, hb2⟩
  have hz2 := hb2.size
  simp only [World.size_alloc] at hz2
  have q2_0_0 : w2.cell? ⟨w1.heap.size, 0, none⟩ = some (.int .i64 W) := by
    rw [hb2.cell (p := ⟨w1.heap.size, 0, none⟩) (show w1.heap.size < _ by (try simp) <;> (try omega))]
    first | assumption | (simp [go_sem, *])
  have q2_0_1 : w2.cell? ⟨w1.heap.size, 1, none⟩ = some (.int .i64 H) := by
    rw [hb2.cell (p := ⟨w1.heap.size, 1, none⟩) (show w1.heap.size < _ by (try simp) <;> (try omega))]
    first | assumption | (simp [go_sem, *])
  have q2_0_2 : w2.cell? ⟨w1.heap.size, 2, none⟩ = some (.int .i64 T) := by
    rw [hb2.cell (p := ⟨w1.heap.size, 2, none⟩) (show w1.heap.size < _ by (try simp) <;> (try omega))]
    first | assumption | (simp [go_sem, *])
  have q2_0_3 : w2.cell? ⟨w1.heap.size, 3, none⟩ = some (.slice a1 0 c1) := by
    rw [hb2.cell (p := ⟨w1.heap.size, 3, none⟩) (show w1.heap.size < _ by (try simp) <;> (try omega))]
    first | assumption | (simp [go_sem, *])
  have q2_0_4 : w2.cell? ⟨w1.heap.size, 4, none⟩ = some (.slice b1 0 d1) := by
    rw [hb2.cell (p := ⟨w1.heap.size, 4, none⟩) (show w1.heap.size < _ by (try simp) <;> (try omega))]
    first | assumption | (simp [go_sem, *])
  have q2_0_5 : w2.cell? ⟨w1.heap.size, 5, none⟩ = some (.slice e1 0 f1) := by
    rw [hb2.cell (p := ⟨w1.heap.size, 5, none⟩) (show w1.heap.size < _ by (try simp) <;> (try omega))]
    first | assumption | (simp [go_sem, *])
  have hl2_0 : w1.heap.size < w2.heap.size := by omega
  have HB2 : Hid (Below w.heap.size w w2) := (HB1.out.alloc (by (try simp) <;> (try omega)) _).trans (hb2.mono (by (try simp) <;> (try omega)))
  clear hb2
  go_wp2_with fail
  refine (eqMux_0 W H T a2 c2 b2 d2 e2 f2 a1 c1 b1 d1 e1 f1 _).mono ?_
  rintro e w3 ⟨rfl, hb3⟩
  have hz3 := hb3.size
  simp only [World.size_alloc] at hz3
  have q3_0_0 : w3.cell? ⟨w1.heap.size, 0, none⟩ = some (.int .i64 W) := by
    rw [hb3.cell (p := ⟨w1.heap.size, 0, none⟩) (show w1.heap.size < _ by (try simp) <;> (try omega))]
    first | assumption | (simp [go_sem, *])
  have q3_0_1 : w3.cell? ⟨w1.heap.size, 1, none⟩ = some (.int .i64 H) := by
    rw [hb3.cell (p := ⟨w1.heap.size, 1, none⟩) (show w1.heap.size < _ by (try simp) <;> (try omega))]
    first | assumption | (simp [go_sem, *])
  have q3_0_2 : w3.cell? ⟨w1.heap.size, 2, none⟩ = some (.int .i64 T) := by
    rw [hb3.cell (p := ⟨w1.heap.size, 2, none⟩) (show w1.heap.size < _ by (try simp) <;> (try omega))]
    first | assumption | (simp [go_sem, *])
  have q3_0_3 : w3.cell? ⟨w1.heap.size, 3, none⟩ = some (.slice a1 0 c1) := by
    rw [hb3.cell (p := ⟨w1.heap.size, 3, none⟩) (show w1.heap.size < _ by (try simp) <;> (try omega))]
    first | assumption | (simp [go_sem, *])
  have q3_0_4 : w3.cell? ⟨w1.heap.size, 4, none⟩ = some (.slice b1 0 d1) := by
    rw [hb3.cell (p := ⟨w1.heap.size, 4, none⟩) (show w1.heap.size < _ by (try simp) <;> (try omega))]
    first | assumption | (simp [go_sem, *])
  have q3_0_5 : w3.cell? ⟨w1.heap.size, 5, none⟩ = some (.slice e1 0 f1) := by
    rw [hb3.cell (p := ⟨w1.heap.size, 5, none⟩) (show w1.heap.size < _ by (try simp) <;> (try omega))]
    first | assumption | (simp [go_sem, *])
  have hl3_0 : w1.heap.size < w3.heap.size := by omega
  clear q2_0_0 q2_0_1 q2_0_2 q2_0_3 q2_0_4 q2_0_5
  have q3_1_0 : w3.cell? ⟨w2.heap.size, 0, none⟩ = some (.int .i64 W) := by
    rw [hb3.cell (p := ⟨w2.heap.size, 0, none⟩) (show w2.heap.size < _ by (try simp) <;> (try omega))]
    first | assumption | (simp [go_sem, *])
  have q3_1_1 : w3.cell? ⟨w2.heap.size, 1, none⟩ = some (.int .i64 H) := by
    rw [hb3.cell (p := ⟨w2.heap.size, 1, none⟩) (show w2.heap.size < _ by (try simp) <;> (try omega))]
    first | assumption | (simp [go_sem, *])
  have q3_1_2 : w3.cell? ⟨w2.heap.size, 2, none⟩ = some (.int .i64 T) := by
    rw [hb3.cell (p := ⟨w2.heap.size, 2, none⟩) (show w2.heap.size < _ by (try simp) <;> (try omega))]
    first | assumption | (simp [go_sem, *])
  have q3_1_3 : w3.cell? ⟨w2.heap.size, 3, none⟩ = some (.slice a2 0 c2) := by
    rw [hb3.cell (p := ⟨w2.heap.size, 3, none⟩) (show w2.heap.size < _ by (try simp) <;> (try omega))]
    first | assumption | (simp [go_sem, *])
  have q3_1_4 : w3.cell? ⟨w2.heap.size, 4, none⟩ = some (.slice b2 0 d2) := by
    rw [hb3.cell (p := ⟨w2.heap.size, 4, none⟩) (show w2.heap.size < _ by (try simp) <;> (try omega))]
    first | assumption | (simp [go_sem, *])
  have q3_1_5 : w3.cell? ⟨w2.heap.size, 5, none⟩ = some (.slice e2 0 f2) := by
    rw [hb3.cell (p := ⟨w2.heap.size, 5, none⟩) (show w2.heap.size < _ by (try simp) <;> (try omega))]
    first | assumption | (simp [go_sem, *])
  have hl3_1 : w2.heap.size < w3.heap.size := by omega
  have HB3 : Hid (Below w.heap.size w w3) := (HB2.out.alloc (by (try simp) <;> (try omega)) _).trans (hb3.mono (by (try simp) <;> (try omega)))
  clear hb3
  go_wp2_with fail
  refine (markMux_0 W H T a2 c2 b2 d2 e2 f2 1 _).mono ?_
  rintro e w4 ⟨rfl, hb4⟩
  have hz4 := hb4.size
  have q4_0_0 : w4.cell? ⟨w1.heap.size, 0, none⟩ = some (.int .i64 W) := by
    rw [hb4.cell (p := ⟨w1.heap.size, 0, none⟩) (show w1.heap.size < _ by (try simp) <;> (try omega))]
    exact q3_0_0
  have q4_0_1 : w4.cell? ⟨w1.heap.size, 1, none⟩ = some (.int .i64 H) := by
    rw [hb4.cell (p := ⟨w1.heap.size, 1, none⟩) (show w1.heap.size < _ by (try simp) <;> (try omega))]
    exact q3_0_1
  have q4_0_2 : w4.cell? ⟨w1.heap.size, 2, none⟩ = some (.int .i64 T) := by
    rw [hb4.cell (p := ⟨w1.heap.size, 2, none⟩) (show w1.heap.size < _ by (try simp) <;> (try omega))]
    exact q3_0_2
  have q4_0_3 : w4.cell? ⟨w1.heap.size, 3, none⟩ = some (.slice a1 0 c1) := by
    rw [hb4.cell (p := ⟨w1.heap.size, 3, none⟩) (show w1.heap.size < _ by (try simp) <;> (try omega))]
    exact q3_0_3
  have q4_0_4 : w4.cell? ⟨w1.heap.size, 4, none⟩ = some (.slice b1 0 d1) := by
    rw [hb4.cell (p := ⟨w1.heap.size, 4, none⟩) (show w1.heap.size < _ by (try simp) <;> (try omega))]
    exact q3_0_4
  have q4_0_5 : w4.cell? ⟨w1.heap.size, 5, none⟩ = some (.slice e1 0 f1) := by
    rw [hb4.cell (p := ⟨w1.heap.size, 5, none⟩) (show w1.heap.size < _ by (try simp) <;> (try omega))]
    exact q3_0_5
  have hl4_0 : w1.heap.size < w4.heap.size := by omega
  clear q3_0_0 q3_0_1 q3_0_2 q3_0_3 q3_0_4 q3_0_5
  have q4_1_0 : w4.cell? ⟨w2.heap.size, 0, none⟩ = some (.int .i64 W) := by
    rw [hb4.cell (p := ⟨w2.heap.size, 0, none⟩) (show w2.heap.size < _ by (try simp) <;> (try omega))]
    exact q3_1_0
  have q4_1_1 : w4.cell? ⟨w2.heap.size, 1, none⟩ = some (.int .i64 H) := by
    rw [hb4.cell (p := ⟨w2.heap.size, 1, none⟩) (show w2.heap.size < _ by (try simp) <;> (try omega))]
    exact q3_1_1
  have q4_1_2 : w4.cell? ⟨w2.heap.size, 2, none⟩ = some (.int .i64 T) := by
    rw [hb4.cell (p := ⟨w2.heap.size, 2, none⟩) (show w2.heap.size < _ by (try simp) <;> (try omega))]
    exact q3_1_2
  have q4_1_3 : w4.cell? ⟨w2.heap.size, 3, none⟩ = some (.slice a2 0 c2) := by
    rw [hb4.cell (p := ⟨w2.heap.size, 3, none⟩) (show w2.heap.size < _ by (try simp) <;> (try omega))]
    exact q3_1_3
  have q4_1_4 : w4.cell? ⟨w2.heap.size, 4, none⟩ = some (.slice b2 0 d2) := by
    rw [hb4.cell (p := ⟨w2.heap.size, 4, none⟩) (show w2.heap.size < _ by (try simp) <;> (try omega))]
    exact q3_1_4
  have q4_1_5 : w4.cell? ⟨w2.heap.size, 5, none⟩ = some (.slice e2 0 f2) := by
    rw [hb4.cell (p := ⟨w2.heap.size, 5, none⟩) (show w2.heap.size < _ by (try simp) <;> (try omega))]
    exact q3_1_5
  have hl4_1 : w2.heap.size < w4.heap.size := by omega
  clear q3_1_0 q3_1_1 q3_1_2 q3_1_3 q3_1_4 q3_1_5
  have HB4 : Hid (Below w.heap.size w w4) := HB3.out.trans (hb4.mono (by (try simp) <;> (try omega)))
  clear hb4
  go_wp2_with fail
  refine (heldMux_0 W H T a2 c2 b2 d2 e2 f2 _).mono ?_
  rintro e w5 ⟨rfl, hb5⟩
  have hz5 := hb5.size
  have q5_0_0 : w5.cell? ⟨w1.heap.size, 0, none⟩ = some (.int .i64 W) := by
    rw [hb5.cell (p := ⟨w1.heap.size, 0, none⟩) (show w1.heap.size < _ by (try simp) <;> (try omega))]
    exact q4_0_0
  have q5_0_1 : w5.cell? ⟨w1.heap.size, 1, none⟩ = some (.int .i64 H) := by
    rw [hb5.cell (p := ⟨w1.heap.size, 1, none⟩) (show w1.heap.size < _ by (try simp) <;> (try omega))]
    exact q4_0_1
  have q5_0_2 : w5.cell? ⟨w1.heap.size, 2, none⟩ = some (.int .i64 T) := by
    rw [hb5.cell (p := ⟨w1.heap.size, 2, none⟩) (show w1.heap.size < _ by (try simp) <;> (try omega))]
    exact q4_0_2
  have q5_0_3 : w5.cell? ⟨w1.heap.size, 3, none⟩ = some (.slice a1 0 c1) := by
    rw [hb5.cell (p := ⟨w1.heap.size, 3, none⟩) (show w1.heap.size < _ by (try simp) <;> (try omega))]
    exact q4_0_3
  have q5_0_4 : w5.cell? ⟨w1.heap.size, 4, none⟩ = some (.slice b1 0 d1) := by
    rw [hb5.cell (p := ⟨w1.heap.size, 4, none⟩) (show w1.heap.size < _ by (try simp) <;> (try omega))]
    exact q4_0_4
  have q5_0_5 : w5.cell? ⟨w1.heap.size, 5, none⟩ = some (.slice e1 0 f1) := by
    rw [hb5.cell (p := ⟨w1.heap.size, 5, none⟩) (show w1.heap.size < _ by (try simp) <;> (try omega))]
    exact q4_0_5
  have hl5_0 : w1.heap.size < w5.heap.size := by omega
  clear q4_0_0 q4_0_1 q4_0_2 q4_0_3 q4_0_4 q4_0_5
  have q5_1_0 : w5.cell? ⟨w2.heap.size, 0, none⟩ = some (.int .i64 W) := by
    rw [hb5.cell (p := ⟨w2.heap.size, 0, none⟩) (show w2.heap.size < _ by (try simp) <;> (try omega))]
    exact q4_1_0
  have q5_1_1 : w5.cell? ⟨w2.heap.size, 1, none⟩ = some (.int .i64 H) := by
    rw [hb5.cell (p := ⟨w2.heap.size, 1, none⟩) (show w2.heap.size < _ by (try simp) <;> (try omega))]
    exact q4_1_1
  have q5_1_2 : w5.cell? ⟨w2.heap.size, 2, none⟩ = some (.int .i64 T) := by
    rw [hb5.cell (p := ⟨w2.heap.size, 2, none⟩) (show w2.heap.size < _ by (try simp) <;> (try omega))]
    exact q4_1_2
  have q5_1_3 : w5.cell? ⟨w2.heap.size, 3, none⟩ = some (.slice a2 0 c2) := by
    rw [hb5.cell (p := ⟨w2.heap.size, 3, none⟩) (show w2.heap.size < _ by (try simp) <;> (try omega))]
    exact q4_1_3
  have q5_1_4 : w5.cell? ⟨w2.heap.size, 4, none⟩ = some (.slice b2 0 d2) := by
    rw [hb5.cell (p := ⟨w2.heap.size, 4, none⟩) (show w2.heap.size < _ by (try simp) <;> (try omega))]
    exact q4_1_4
  have q5_1_5 : w5.cell? ⟨w2.heap.size, 5, none⟩ = some (.slice e2 0 f2) := by
    rw [hb5.cell (p := ⟨w2.heap.size, 5, none⟩) (show w2.heap.size < _ by (try simp) <;> (try omega))]
    exact q4_1_5
  have hl5_1 : w2.heap.size < w5.heap.size := by omega
  clear q4_1_0 q4_1_1 q4_1_2 q4_1_3 q4_1_4 q4_1_5
  have HB5 : Hid (Below w.heap.size w w5) := HB4.out.trans (hb5.mono (by (try simp) <;> (try omega)))
  clear hb5
  go_wp2_with fail
  refine (implNewMux_c x y _).mono ?_
  unfold NmR
  rw [HV.out]
  dsimp only
  rintro e w6 ⟨a6, c6, b6, d6, e6, f6, rfl, hb6⟩
  have hz6 := hb6.size
  have q6_0_0 : w6.cell? ⟨w1.heap.size, 0, none⟩ = some (.int .i64 W) := by
    rw [hb6.cell (p := ⟨w1.heap.size, 0, none⟩) (show w1.heap.size < _ by (try simp) <;> (try omega))]
    exact q5_0_0
  have q6_0_1 : w6.cell? ⟨w1.heap.size, 1, none⟩ = some (.int .i64 H) := by
    rw [hb6.cell (p := ⟨w1.heap.size, 1, none⟩) (show w1.heap.size < _ by (try simp) <;> (try omega))]
    exact q5_0_1
  have q6_0_2 : w6.cell? ⟨w1.heap.size, 2, none⟩ = some (.int .i64 T) := by
    rw [hb6.cell (p := ⟨w1.heap.size, 2, none⟩) (show w1.heap.size < _ by (try simp) <;> (try omega))]
    exact q5_0_2
  have q6_0_3 : w6.cell? ⟨w1.heap.size, 3, none⟩ = some (.slice a1 0 c1) := by
    rw [hb6.cell (p := ⟨w1.heap.size, 3, none⟩) (show w1.heap.size < _ by (try simp) <;> (try omega))]
    exact q5_0_3
  have q6_0_4 : w6.cell? ⟨w1.heap.size, 4, none⟩ = some (.slice b1 0 d1) := by
    rw [hb6.cell (p := ⟨w1.heap.size, 4, none⟩) (show w1.heap.size < _ by (try simp) <;> (try omega))]
    exact q5_0_4
  have q6_0_5 : w6.cell? ⟨w1.heap.size, 5, none⟩ = some (.slice e1 0 f1) := by
    rw [hb6.cell (p := ⟨w1.heap.size, 5, none⟩) (show w1.heap.size < _ by (try simp) <;> (try omega))]
    exact q5_0_5
  have hl6_0 : w1.heap.size < w6.heap.size := by omega
  clear q5_0_0 q5_0_1 q5_0_2 q5_0_3 q5_0_4 q5_0_5
  have q6_1_0 : w6.cell? ⟨w2.heap.size, 0, none⟩ = some (.int .i64 W) := by
    rw [hb6.cell (p := ⟨w2.heap.size, 0, none⟩) (show w2.heap.size < _ by (try simp) <;> (try omega))]
    exact q5_1_0
  have q6_1_1 : w6.cell? ⟨w2.heap.size, 1, none⟩ = some (.int .i64 H) := by
    rw [hb6.cell (p := ⟨w2.heap.size, 1, none⟩) (show w2.heap.size < _ by (try simp) <;> (try omega))]
    exact q5_1_1
  have q6_1_2 : w6.cell? ⟨w2.heap.size, 2, none⟩ = some (.int .i64 T) := by
    rw [hb6.cell (p := ⟨w2.heap.size, 2, none⟩) (show w2.heap.size < _ by (try simp) <;> (try omega))]
    exact q5_1_2
  have q6_1_3 : w6.cell? ⟨w2.heap.size, 3, none⟩ = some (.slice a2 0 c2) := by
    rw [hb6.cell (p := ⟨w2.heap.size, 3, none⟩) (show w2.heap.size < _ by (try simp) <;> (try omega))]
    exact q5_1_3
  have q6_1_4 : w6.cell? ⟨w2.heap.size, 4, none⟩ = some (.slice b2 0 d2) := by
    rw [hb6.cell (p := ⟨w2.heap.size, 4, none⟩) (show w2.heap.size < _ by (try simp) <;> (try omega))]
    exact q5_1_4
  have q6_1_5 : w6.cell? ⟨w2.heap.size, 5, none⟩ = some (.slice e2 0 f2) := by
    rw [hb6.cell (p := ⟨w2.heap.size, 5, none⟩) (show w2.heap.size < _ by (try simp) <;> (try omega))]
    exact q5_1_5
  have hl6_1 : w2.heap.size < w6.heap.size := by omega
  clear q5_1_0 q5_1_1 q5_1_2 q5_1_3 q5_1_4 q5_1_5
  have HB6 : Hid (Below w.heap.size w w6) := HB5.out.trans (hb6.mono (by (try simp) <;> (try omega)))
  clear hb6
  go_wp2_with fail
  refine (eqMux_0 W H T a6 c6 b6 d6 e6 f6 a1 c1 b1 d1 e1 f1 _).mono ?_
  rintro e w7 ⟨rfl, hb7⟩
  have hz7 := hb7.size
  simp only [World.size_alloc] at hz7
  have q7_0_0 : w7.cell? ⟨w1.heap.size, 0, none⟩ = some (.int .i64 W) := by
    rw [hb7.cell (p := ⟨w1.heap.size, 0, none⟩) (show w1.heap.size < _ by (try simp) <;> (try omega))]
    first | assumption | (simp [go_sem, *])
  have q7_0_1 : w7.cell? ⟨w1.heap.size, 1, none⟩ = some (.int .i64 H) := by
    rw [hb7.cell (p := ⟨w1.heap.size, 1, none⟩) (show w1.heap.size < _ by (try simp) <;> (try omega))]
    first | assumption | (simp [go_sem, *])
  have q7_0_2 : w7.cell? ⟨w1.heap.size, 2, none⟩ = some (.int .i64 T) := by
    rw [hb7.cell (p := ⟨w1.heap.size, 2, none⟩) (show w1.heap.size < _ by (try simp) <;> (try omega))]
    first | assumption | (simp [go_sem, *])
  have q7_0_3 : w7.cell? ⟨w1.heap.size, 3, none⟩ = some (.slice a1 0 c1) := by
    rw [hb7.cell (p := ⟨w1.heap.size, 3, none⟩) (show w1.heap.size < _ by (try simp) <;> (try omega))]
    first | assumption | (simp [go_sem, *])
  have q7_0_4 : w7.cell? ⟨w1.heap.size, 4, none⟩ = some (.slice b1 0 d1) := by
    rw [hb7.cell (p := ⟨w1.heap.size, 4, none⟩) (show w1.heap.size < _ by (try simp) <;> (try omega))]
    first | assumption | (simp [go_sem, *])
  have q7_0_5 : w7.cell? ⟨w1.heap.size, 5, none⟩ = some (.slice e1 0 f1) := by
    rw [hb7.cell (p := ⟨w1.heap.size, 5, none⟩) (show w1.heap.size < _ by (try simp) <;> (try omega))]
    first | assumption | (simp [go_sem, *])
  have hl7_0 : w1.heap.size < w7.heap.size := by omega
  clear q6_0_0 q6_0_1 q6_0_2 q6_0_3 q6_0_4 q6_0_5
  have q7_1_0 : w7.cell? ⟨w2.heap.size, 0, none⟩ = some (.int .i64 W) := by
    rw [hb7.cell (p := ⟨w2.heap.size, 0, none⟩) (show w2.heap.size < _ by (try simp) <;> (try omega))]
    first | assumption | (simp [go_sem, *])
  have q7_1_1 : w7.cell? ⟨w2.heap.size, 1, none⟩ = some (.int .i64 H) := by
    rw [hb7.cell (p := ⟨w2.heap.size, 1, none⟩) (show w2.heap.size < _ by (try simp) <;> (try omega))]
    first | assumption | (simp [go_sem, *])
  have q7_1_2 : w7.cell? ⟨w2.heap.size, 2, none⟩ = some (.int .i64 T) := by
    rw [hb7.cell (p := ⟨w2.heap.size, 2, none⟩) (show w2.heap.size < _ by (try simp) <;> (try omega))]
    first | assumption | (simp [go_sem, *])
  have q7_1_3 : w7.cell? ⟨w2.heap.size, 3, none⟩ = some (.slice a2 0 c2) := by
    rw [hb7.cell (p := ⟨w2.heap.size, 3, none⟩) (show w2.heap.size < _ by (try simp) <;> (try omega))]
    first | assumption | (simp [go_sem, *])
  have q7_1_4 : w7.cell? ⟨w2.heap.size, 4, none⟩ = some (.slice b2 0 d2) := by
    rw [hb7.cell (p := ⟨w2.heap.size, 4, none⟩) (show w2.heap.size < _ by (try simp) <;> (try omega))]
    first | assumption | (simp [go_sem, *])
  have q7_1_5 : w7.cell? ⟨w2.heap.size, 5, none⟩ = some (.slice e2 0 f2) := by
    rw [hb7.cell (p := ⟨w2.heap.size, 5, none⟩) (show w2.heap.size < _ by (try simp) <;> (try omega))]
    first | assumption | (simp [go_sem, *])
  have hl7_1 : w2.heap.size < w7.heap.size := by omega
  clear q6_1_0 q6_1_1 q6_1_2 q6_1_3 q6_1_4 q6_1_5
  have q7_2_0 : w7.cell? ⟨w6.heap.size, 0, none⟩ = some (.int .i64 W) := by
    rw [hb7.cell (p := ⟨w6.heap.size, 0, none⟩) (show w6.heap.size < _ by (try simp) <;> (try omega))]
    first | assumption | (simp [go_sem, *])
  have q7_2_1 : w7.cell? ⟨w6.heap.size, 1, none⟩ = some (.int .i64 H) := by
    rw [hb7.cell (p := ⟨w6.heap.size, 1, none⟩) (show w6.heap.size < _ by (try simp) <;> (try omega))]
    first | assumption | (simp [go_sem, *])
  have q7_2_2 : w7.cell? ⟨w6.heap.size, 2, none⟩ = some (.int .i64 T) := by
    rw [hb7.cell (p := ⟨w6.heap.size, 2, none⟩) (show w6.heap.size < _ by (try simp) <;> (try omega))]
    first | assumption | (simp [go_sem, *])
  have q7_2_3 : w7.cell? ⟨w6.heap.size, 3, none⟩ = some (.slice a6 0 c6) := by
    rw [hb7.cell (p := ⟨w6.heap.size, 3, none⟩) (show w6.heap.size < _ by (try simp) <;> (try omega))]
    first | assumption | (simp [go_sem, *])
  have q7_2_4 : w7.cell? ⟨w6.heap.size, 4, none⟩ = some (.slice b6 0 d6) := by
    rw [hb7.cell (p := ⟨w6.heap.size, 4, none⟩) (show w6.heap.size < _ by (try simp) <;> (try omega))]
    first | assumption | (simp [go_sem, *])
  have q7_2_5 : w7.cell? ⟨w6.heap.size, 5, none⟩ = some (.slice e6 0 f6) := by
    rw [hb7.cell (p := ⟨w6.heap.size, 5, none⟩) (show w6.heap.size < _ by (try simp) <;> (try omega))]
    first | assumption | (simp [go_sem, *])
  have hl7_2 : w6.heap.size < w7.heap.size := by omega
  have HB7 : Hid (Below w.heap.size w w7) := (HB6.out.alloc (by (try simp) <;> (try omega)) _).trans (hb7.mono (by (try simp) <;> (try omega)))
  clear hb7
  go_wp2_with fail
  refine (heldMux_0 W H T a2 c2 b2 d2 e2 f2 _).mono ?_
  rintro e w8 ⟨rfl, hb8⟩
  have hz8 := hb8.size
  have q8_0_0 : w8.cell? ⟨w1.heap.size, 0, none⟩ = some (.int .i64 W) := by
    rw [hb8.cell (p := ⟨w1.heap.size, 0, none⟩) (show w1.heap.size < _ by (try simp) <;> (try omega))]
    exact q7_0_0
  have q8_0_1 : w8.cell? ⟨w1.heap.size, 1, none⟩ = some (.int .i64 H) := by
    rw [hb8.cell (p := ⟨w1.heap.size, 1, none⟩) (show w1.heap.size < _ by (try simp) <;> (try omega))]
    exact q7_0_1
  have q8_0_2 : w8.cell? ⟨w1.heap.size, 2, none⟩ = some (.int .i64 T) := by
    rw [hb8.cell (p := ⟨w1.heap.size, 2, none⟩) (show w1.heap.size < _ by (try simp) <;> (try omega))]
    exact q7_0_2
  have q8_0_3 : w8.cell? ⟨w1.heap.size, 3, none⟩ = some (.slice a1 0 c1) := by
    rw [hb8.cell (p := ⟨w1.heap.size, 3, none⟩) (show w1.heap.size < _ by (try simp) <;> (try omega))]
    exact q7_0_3
  have q8_0_4 : w8.cell? ⟨w1.heap.size, 4, none⟩ = some (.slice b1 0 d1) := by
    rw [hb8.cell (p := ⟨w1.heap.size, 4, none⟩) (show w1.heap.size < _ by (try simp) <;> (try omega))]
    exact q7_0_4
  have q8_0_5 : w8.cell? ⟨w1.heap.size, 5, none⟩ = some (.slice e1 0 f1) := by
    rw [hb8.cell (p := ⟨w1.heap.size, 5, none⟩) (show w1.heap.size < _ by (try simp) <;> (try omega))]
    exact q7_0_5
  have hl8_0 : w1.heap.size < w8.heap.size := by omega
  clear q7_0_0 q7_0_1 q7_0_2 q7_0_3 q7_0_4 q7_0_5
  have q8_1_0 : w8.cell? ⟨w2.heap.size, 0, none⟩ = some (.int .i64 W) := by
    rw [hb8.cell (p := ⟨w2.heap.size, 0, none⟩) (show w2.heap.size < _ by (try simp) <;> (try omega))]
    exact q7_1_0
  have q8_1_1 : w8.cell? ⟨w2.heap.size, 1, none⟩ = some (.int .i64 H) := by
    rw [hb8.cell (p := ⟨w2.heap.size, 1, none⟩) (show w2.heap.size < _ by (try simp) <;> (try omega))]
    exact q7_1_1
  have q8_1_2 : w8.cell? ⟨w2.heap.size, 2, none⟩ = some (.int .i64 T) := by
    rw [hb8.cell (p := ⟨w2.heap.size, 2, none⟩) (show w2.heap.size < _ by (try simp) <;> (try omega))]
    exact q7_1_2
  have q8_1_3 : w8.cell? ⟨w2.heap.size, 3, none⟩ = some (.slice a2 0 c2) := by
    rw [hb8.cell (p := ⟨w2.heap.size, 3, none⟩) (show w2.heap.size < _ by (try simp) <;> (try omega))]
    exact q7_1_3
  have q8_1_4 : w8.cell? ⟨w2.heap.size, 4, none⟩ = some (.slice b2 0 d2) := by
    rw [hb8.cell (p := ⟨w2.heap.size, 4, none⟩) (show w2.heap.size < _ by (try simp) <;> (try omega))]
    exact q7_1_4
  have q8_1_5 : w8.cell? ⟨w2.heap.size, 5, none⟩ = some (.slice e2 0 f2) := by
    rw [hb8.cell (p := ⟨w2.heap.size, 5, none⟩) (show w2.heap.size < _ by (try simp) <;> (try omega))]
    exact q7_1_5
  have hl8_1 : w2.heap.size < w8.heap.size := by omega
  clear q7_1_0 q7_1_1 q7_1_2 q7_1_3 q7_1_4 q7_1_5
  have q8_2_0 : w8.cell? ⟨w6.heap.size, 0, none⟩ = some (.int .i64 W) := by
    rw [hb8.cell (p := ⟨w6.heap.size, 0, none⟩) (show w6.heap.size < _ by (try simp) <;> (try omega))]
    exact q7_2_0
  have q8_2_1 : w8.cell? ⟨w6.heap.size, 1, none⟩ = some (.int .i64 H) := by
    rw [hb8.cell (p := ⟨w6.heap.size, 1, none⟩) (show w6.heap.size < _ by (try simp) <;> (try omega))]
    exact q7_2_1
  have q8_2_2 : w8.cell? ⟨w6.heap.size, 2, none⟩ = some (.int .i64 T) := by
    rw [hb8.cell (p := ⟨w6.heap.size, 2, none⟩) (show w6.heap.size < _ by (try simp) <;> (try omega))]
    exact q7_2_2
  have q8_2_3 : w8.cell? ⟨w6.heap.size, 3, none⟩ = some (.slice a6 0 c6) := by
    rw [hb8.cell (p := ⟨w6.heap.size, 3, none⟩) (show w6.heap.size < _ by (try simp) <;> (try omega))]
    exact q7_2_3
  have q8_2_4 : w8.cell? ⟨w6.heap.size, 4, none⟩ = some (.slice b6 0 d6) := by
    rw [hb8.cell (p := ⟨w6.heap.size, 4, none⟩) (show w6.heap.size < _ by (try simp) <;> (try omega))]
    exact q7_2_4
  have q8_2_5 : w8.cell? ⟨w6.heap.size, 5, none⟩ = some (.slice e6 0 f6) := by
    rw [hb8.cell (p := ⟨w6.heap.size, 5, none⟩) (show w6.heap.size < _ by (try simp) <;> (try omega))]
    exact q7_2_5
  have hl8_2 : w6.heap.size < w8.heap.size := by omega
  clear q7_2_0 q7_2_1 q7_2_2 q7_2_3 q7_2_4 q7_2_5
  have HB8 : Hid (Below w.heap.size w w8) := HB7.out.trans (hb8.mono (by (try simp) <;> (try omega)))
  clear hb8
  go_wp2_with fail
  go_ret
  exact ⟨rfl, HB8.out⟩

end Go.Proofs.Ytalldjcnmknhiaa
