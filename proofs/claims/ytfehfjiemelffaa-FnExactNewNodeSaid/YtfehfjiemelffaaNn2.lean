/- impl.newNode, impl.NewNode. -/
import Derived.Test.YtfehfjiemelffaaNn
import Derived.Test.YtfehfjiemelffaaMarkNode2
namespace Go.Proofs.Ytfehfjiemelffaa
set_option linter.unusedVariables false
set_option linter.unusedSimpArgs false
open Go.RowKit
theorem follow_c (B c : Nat) (hc : (c : Int) = 1 ∨ (c : Int) = 2 ∨ (c : Int) = 3 ∨ (c : Int) = 4 ∨ (c : Int) = 5) (v4 v10 s11 s12 : Value) (w : World) (hB : B < w.heap.size) (h1 : w.cell? ⟨B, 1, none⟩ = some (.int .i64 c)) (h4 : w.cell? ⟨B, 4, none⟩ = some v4) (h10 : w.cell? ⟨B, 10, none⟩ = some v10) (h11 : w.cell? ⟨B, 11, none⟩ = some s11) (h12 : w.cell? ⟨B, 12, none⟩ = some s12) (hf : ∀ o, w.frozen? ⟨B, o, none⟩ = false) :
    Calls Try.prog 20 #[.pointer (some ⟨B, 0, none⟩)] w fun e w' => e = .returned (.tuple #[]) ∧ ResetR B c ((w.setCell ⟨B, 4, none⟩ (.int .i64 0)).setCell ⟨B, 10, none⟩ (.slice none 0 0)) w' := by
  have HR := Lib.hid (reset_c B c hc 0 s11 s12 ((w.setCell ⟨B, 4, none⟩ (.int .i64 0)).setCell ⟨B, 10, none⟩ (.slice none 0 0)) (by simpa using hB) (by simp [go_sem, h1]) (by simp [go_sem, h11]) (by simp [go_sem, h12]) (fun o => by simp [go_sem, hf]))
  clear hc
  go_enter Try.func20, Try.ntmps20
  go_wp2_with fail
  refine HR.out.mono ?_
  rintro e w1 ⟨rfl, hr⟩
  go_wp2_with fail
  refine bodyPost_end (v := .tuple #[]) (by simp [results, Try.results20]) rfl ?_
  exact ⟨rfl, hr⟩
/-- A new node: Next and Match in two new blocks. -/
def NewR (id : Int) (c : Nat) (w w' : World) (v : Value) : Prop :=
  ∃ g1 g2, v = .agg #[.int .i64 id, .int .i64 c, .int .i64 0, .int .i64 (-1), .int .i64 0, .bool true, .slice none 0 0, .int .i64 0, .int .i64 0, .int .i64 (5 + id), .slice none 0 0, .slice (some ⟨g1, 0, none⟩) c c, .slice (some ⟨g2, 0, none⟩) c c] ∧ w.heap.size ≤ g1 ∧ w.heap.size ≤ g2 ∧ g1 ≠ g2 ∧ g1 < w'.heap.size ∧ g2 < w'.heap.size ∧
    FreshIn intE 3 1 g1 (g1 + 1) (.slice (some ⟨g1, 0, none⟩) c c) (List.replicate c 1) w' ∧ FreshIn intE 3 1 g2 (g2 + 1) (.slice (some ⟨g2, 0, none⟩) c c) (List.replicate c 0) w' ∧ Below w.heap.size w w'
set_option maxRecDepth 100000 in
set_option maxHeartbeats 8000000 in
theorem newNode_c (id : Int) (c : Nat) (hc : (c : Int) = 1 ∨ (c : Int) = 2 ∨ (c : Int) = 3 ∨ (c : Int) = 4 ∨ (c : Int) = 5) (w : World) (h0 : 0 ≤ id) (h4 : id ≤ 4) :
    Calls Try.prog 13 #[.int .i64 id, .int .i64 c] w fun e w' => ∃ v, e = .returned v ∧ NewR id c w w' v := by
  have HC := Lib.hid hc
  clear hc
  have ew : IntKind.i64.wrap (5 + id) = 5 + id := IntWalk.i64_in _ ⟨by omega, by omega⟩
  go_enter Try.func13, Try.ntmps13
  go_wp2_with fail
  refine (follow_c (w.heap.size + 1) c HC.out (.int .i64 0) (.slice none 0 0) (.slice none 0 0) (.slice none 0 0) _ (by simp) (by simp [go_sem]) (by simp [go_sem]) (by simp [go_sem]) (by simp [go_sem]) (by simp [go_sem]) (fun o => by simp [go_sem])).mono ?_
  rintro e w1 ⟨rfl, g1, g2, hg1, hg2, hne, hlt1, hlt2, hf1, hf2, k11, k12, hk, hkf, hm⟩
  have hz := hm.size
  simp at hg1 hg2 hz
  have n_0 : w1.cell? ⟨w.heap.size + 1, 0, none⟩ = some (.int .i64 id) := (hk 0 (by omega)).trans (by simp [go_sem])
  have n_1 : w1.cell? ⟨w.heap.size + 1, 1, none⟩ = some (.int .i64 c) := (hk 1 (by omega)).trans (by simp [go_sem])
  have n_2 : w1.cell? ⟨w.heap.size + 1, 2, none⟩ = some (.int .i64 0) := (hk 2 (by omega)).trans (by simp [go_sem])
  have n_3 : w1.cell? ⟨w.heap.size + 1, 3, none⟩ = some (.int .i64 (-1)) := (hk 3 (by omega)).trans (by simp [go_sem])
  have n_4 : w1.cell? ⟨w.heap.size + 1, 4, none⟩ = some (.int .i64 0) := (hk 4 (by omega)).trans (by simp [go_sem])
  have n_5 : w1.cell? ⟨w.heap.size + 1, 5, none⟩ = some (.bool true) := (hk 5 (by omega)).trans (by simp [go_sem])
  have n_6 : w1.cell? ⟨w.heap.size + 1, 6, none⟩ = some (.slice none 0 0) := (hk 6 (by omega)).trans (by simp [go_sem])
  have n_7 : w1.cell? ⟨w.heap.size + 1, 7, none⟩ = some (.int .i64 0) := (hk 7 (by omega)).trans (by simp [go_sem])
  have n_8 : w1.cell? ⟨w.heap.size + 1, 8, none⟩ = some (.int .i64 0) := (hk 8 (by omega)).trans (by simp [go_sem])
  have n_9 : w1.cell? ⟨w.heap.size + 1, 9, none⟩ = some (.int .i64 (5 + id)) := (hk 9 (by omega)).trans (by simp [go_sem])
  have n_10 : w1.cell? ⟨w.heap.size + 1, 10, none⟩ = some (.slice none 0 0) := (hk 10 (by omega)).trans (by simp [go_sem])
  have z_0 : w1.cell? ⟨w.heap.size, 0, none⟩ = some (.int .i64 0) := (hm.cell (p := ⟨w.heap.size, 0, none⟩) (by simp; omega) (.inl (by show w.heap.size < w.heap.size + 1; omega))).trans (by simp [go_sem])
  have z_1 : w1.cell? ⟨w.heap.size, 1, none⟩ = some (.int .i64 0) := (hm.cell (p := ⟨w.heap.size, 1, none⟩) (by simp; omega) (.inl (by show w.heap.size < w.heap.size + 1; omega))).trans (by simp [go_sem])
  have z_2 : w1.cell? ⟨w.heap.size, 2, none⟩ = some (.int .i64 0) := (hm.cell (p := ⟨w.heap.size, 2, none⟩) (by simp; omega) (.inl (by show w.heap.size < w.heap.size + 1; omega))).trans (by simp [go_sem])
  have z_3 : w1.cell? ⟨w.heap.size, 3, none⟩ = some (.int .i64 0) := (hm.cell (p := ⟨w.heap.size, 3, none⟩) (by simp; omega) (.inl (by show w.heap.size < w.heap.size + 1; omega))).trans (by simp [go_sem])
  have z_4 : w1.cell? ⟨w.heap.size, 4, none⟩ = some (.int .i64 0) := (hm.cell (p := ⟨w.heap.size, 4, none⟩) (by simp; omega) (.inl (by show w.heap.size < w.heap.size + 1; omega))).trans (by simp [go_sem])
  have z_5 : w1.cell? ⟨w.heap.size, 5, none⟩ = some (.bool false) := (hm.cell (p := ⟨w.heap.size, 5, none⟩) (by simp; omega) (.inl (by show w.heap.size < w.heap.size + 1; omega))).trans (by simp [go_sem])
  have z_6 : w1.cell? ⟨w.heap.size, 6, none⟩ = some (.slice none 0 0) := (hm.cell (p := ⟨w.heap.size, 6, none⟩) (by simp; omega) (.inl (by show w.heap.size < w.heap.size + 1; omega))).trans (by simp [go_sem])
  have z_7 : w1.cell? ⟨w.heap.size, 7, none⟩ = some (.int .i64 0) := (hm.cell (p := ⟨w.heap.size, 7, none⟩) (by simp; omega) (.inl (by show w.heap.size < w.heap.size + 1; omega))).trans (by simp [go_sem])
  have z_8 : w1.cell? ⟨w.heap.size, 8, none⟩ = some (.int .i64 0) := (hm.cell (p := ⟨w.heap.size, 8, none⟩) (by simp; omega) (.inl (by show w.heap.size < w.heap.size + 1; omega))).trans (by simp [go_sem])
  have z_9 : w1.cell? ⟨w.heap.size, 9, none⟩ = some (.int .i64 0) := (hm.cell (p := ⟨w.heap.size, 9, none⟩) (by simp; omega) (.inl (by show w.heap.size < w.heap.size + 1; omega))).trans (by simp [go_sem])
  have z_10 : w1.cell? ⟨w.heap.size, 10, none⟩ = some (.slice none 0 0) := (hm.cell (p := ⟨w.heap.size, 10, none⟩) (by simp; omega) (.inl (by show w.heap.size < w.heap.size + 1; omega))).trans (by simp [go_sem])
  have z_11 : w1.cell? ⟨w.heap.size, 11, none⟩ = some (.slice none 0 0) := (hm.cell (p := ⟨w.heap.size, 11, none⟩) (by simp; omega) (.inl (by show w.heap.size < w.heap.size + 1; omega))).trans (by simp [go_sem])
  have z_12 : w1.cell? ⟨w.heap.size, 12, none⟩ = some (.slice none 0 0) := (hm.cell (p := ⟨w.heap.size, 12, none⟩) (by simp; omega) (.inl (by show w.heap.size < w.heap.size + 1; omega))).trans (by simp [go_sem])
  have zf : ∀ o, w1.frozen? ⟨w.heap.size, o, none⟩ = false := fun o => (hm.frozen (p := ⟨w.heap.size, o, none⟩) (by simp; omega) (.inl (by show w.heap.size < w.heap.size + 1; omega))).trans (by simp [go_sem])
  have HF1 := Lib.hid hf1
  have HF2 := Lib.hid hf2
  have HB1 : Hid (Below w.heap.size w w1) := by
    have h := hm.below (B := w.heap.size) (by omega) (by simp; try omega)
    refine Lib.hid (Below.trans ?_ h)
    repeat (first | (with_reducible exact Below.refl _ _) | (with_reducible refine Below.setCell ?_ ?_ _; rotate_left; (show w.heap.size ≤ w.heap.size + 1; omega)) | (with_reducible refine Below.alloc ?_ ?_ _; rotate_left; (simp)))
  clear hk hm hf1 hf2
  go_wp2_with fail
  refine bodyPost_ret (v := .agg #[.int .i64 id, .int .i64 c, .int .i64 0, .int .i64 (-1), .int .i64 0, .bool true, .slice none 0 0, .int .i64 0, .int .i64 0, .int .i64 (5 + id), .slice none 0 0, .slice (some ⟨g1, 0, none⟩) c c, .slice (some ⟨g2, 0, none⟩) c c]) (by simp [results, Try.results13, go_sem, n_0, n_1, n_2, n_3, n_4, n_5, n_6, n_7, n_8, n_9, n_10, k11, k12, z_0, z_1, z_2, z_3, z_4, z_5, z_6, z_7, z_8, z_9, z_10, z_11, z_12, zf]) rfl ?_
  refine ⟨_, rfl, g1, g2, rfl, by omega, by omega, hne, by simpa using hlt1, by simpa using hlt2, ?_, ?_, ?_⟩
  · repeat (first | (with_reducible exact HF1.out) | (with_reducible refine FreshIn.setCell ?_ ?_ _; rotate_left; (show w.heap.size < _; omega)))
  · repeat (first | (with_reducible exact HF2.out) | (with_reducible refine FreshIn.setCell ?_ ?_ _; rotate_left; (show w.heap.size < _; omega)))
  · repeat (first | (with_reducible exact HB1.out) | (with_reducible refine Below.setCell ?_ ?_ _; rotate_left; (show w.heap.size ≤ w.heap.size; omega)))
set_option maxRecDepth 100000 in
set_option maxHeartbeats 8000000 in
theorem implNewNode_no (id n : Int) (w : World) (h : inB n 1 5 = false ∨ inB id 0 (n - 1) = false) :
    Calls Try.prog 5 #[.int .i64 id, .int .i64 n] w fun e w' => e = .returned (.tuple #[.agg #[.int .i64 0, .int .i64 0, .int .i64 0, .int .i64 0, .int .i64 0, .bool false, .slice none 0 0, .int .i64 0, .int .i64 0, .int .i64 0, .slice none 0 0, .slice none 0 0, .slice none 0 0], .int .i64 4]) ∧ Below w.heap.size w w' := by
  obtain ⟨b, hb⟩ : ∃ b, inB n 1 5 = b := ⟨_, rfl⟩
  have E := Lib.hid hb
  have HH := Lib.hid h
  cases b
  case false =>
    clear h hb
    go_enter Try.func5, Try.ntmps5
    go_wp2_with (go_at_call 12; refine (within_c _ _ _ _).mono ?_; rw [E.out]; rintro e w' ⟨rfl, rfl⟩)
    refine bodyPost_ret (v := .tuple #[.agg #[.int .i64 0, .int .i64 0, .int .i64 0, .int .i64 0, .int .i64 0, .bool false, .slice none 0 0, .int .i64 0, .int .i64 0, .int .i64 0, .slice none 0 0, .slice none 0 0, .slice none 0 0], .int .i64 4]) (by simp [results, Try.results5, go_sem]) rfl ?_
    exact ⟨rfl, by repeat (first | (with_reducible exact Below.refl _ _) | (with_reducible refine Below.setCell ?_ ?_ _; rotate_left; (simp)) | (with_reducible refine Below.alloc ?_ ?_ _; rotate_left; (simp)))⟩
  case true =>
    have hn : 1 ≤ n ∧ n ≤ 5 := by simpa [inB] using hb
    have E2 : Hid (inB id 0 (n - 1) = false) := Lib.hid (by rcases h with h | h; rw [hb] at h; cases h; exact h)
    have ew : IntKind.i64.wrap (n - 1) = n - 1 := IntWalk.i64_in _ ⟨by omega, by omega⟩
    clear h hb
    go_enter Try.func5, Try.ntmps5
    go_wp2_with (go_at_call 12; refine (within_c _ _ _ _).mono ?_; (first | rw [E.out] | rw [E2.out]); rintro e w' ⟨rfl, rfl⟩)
    refine bodyPost_ret (v := .tuple #[.agg #[.int .i64 0, .int .i64 0, .int .i64 0, .int .i64 0, .int .i64 0, .bool false, .slice none 0 0, .int .i64 0, .int .i64 0, .int .i64 0, .slice none 0 0, .slice none 0 0, .slice none 0 0], .int .i64 4]) (by simp [results, Try.results5, go_sem]) rfl ?_
    exact ⟨rfl, by repeat (first | (with_reducible exact Below.refl _ _) | (with_reducible refine Below.setCell ?_ ?_ _; rotate_left; (simp)) | (with_reducible refine Below.alloc ?_ ?_ _; rotate_left; (simp)))⟩
set_option maxRecDepth 100000 in
set_option maxHeartbeats 8000000 in
theorem implNewNode_yes (id : Int) (c : Nat) (hc : (c : Int) = 1 ∨ (c : Int) = 2 ∨ (c : Int) = 3 ∨ (c : Int) = 4 ∨ (c : Int) = 5) (w : World) (hid : inB id 0 ((c : Int) - 1) = true) :
    Calls Try.prog 5 #[.int .i64 id, .int .i64 c] w fun e w' => ∃ v, e = .returned (.tuple #[v, .int .i64 0]) ∧ NewR id c w w' v := by
  have hi : 0 ≤ id ∧ id ≤ (c : Int) - 1 := by simpa [inB] using hid
  have E : Hid (inB (c : Int) 1 5 = true) := Lib.hid (by simp [inB]; omega)
  have E2 := Lib.hid hid
  have hc5 : c ≤ 5 := by omega
  have ew : IntKind.i64.wrap ((c : Int) - 1) = (c : Int) - 1 := IntWalk.i64_in _ ⟨by omega, by omega⟩
  have HN := Lib.hid (newNode_c id c hc (w.alloc (.cells #[.int .i64 0, .int .i64 0, .int .i64 0, .int .i64 0, .int .i64 0, .bool false, .slice none 0 0, .int .i64 0, .int .i64 0, .int .i64 0, .slice none 0 0, .slice none 0 0, .slice none 0 0] 25)) (by omega) (by omega))
  clear hc hid
  go_enter Try.func5, Try.ntmps5
  go_wp2_with (go_at_call 12; refine (within_c _ _ _ _).mono ?_; (first | rw [E.out] | rw [E2.out]); rintro e w' ⟨rfl, rfl⟩)
  refine HN.out.mono ?_
  rintro e w1 ⟨v, rfl, g1, g2, rfl, hg1, hg2, hne, hlt1, hlt2, hf1, hf2, hb1⟩
  have hz1 := hb1.size
  simp only [World.size_alloc] at hg1 hg2 hz1
  have HF1 := Lib.hid hf1
  have HF2 := Lib.hid hf2
  have z_0 : w1.cell? ⟨w.heap.size, 0, none⟩ = some (.int .i64 0) := (hb1.cell (p := ⟨w.heap.size, 0, none⟩) (by show w.heap.size < _; simp)).trans (by simp [go_sem])
  have z_1 : w1.cell? ⟨w.heap.size, 1, none⟩ = some (.int .i64 0) := (hb1.cell (p := ⟨w.heap.size, 1, none⟩) (by show w.heap.size < _; simp)).trans (by simp [go_sem])
  have z_2 : w1.cell? ⟨w.heap.size, 2, none⟩ = some (.int .i64 0) := (hb1.cell (p := ⟨w.heap.size, 2, none⟩) (by show w.heap.size < _; simp)).trans (by simp [go_sem])
  have z_3 : w1.cell? ⟨w.heap.size, 3, none⟩ = some (.int .i64 0) := (hb1.cell (p := ⟨w.heap.size, 3, none⟩) (by show w.heap.size < _; simp)).trans (by simp [go_sem])
  have z_4 : w1.cell? ⟨w.heap.size, 4, none⟩ = some (.int .i64 0) := (hb1.cell (p := ⟨w.heap.size, 4, none⟩) (by show w.heap.size < _; simp)).trans (by simp [go_sem])
  have z_5 : w1.cell? ⟨w.heap.size, 5, none⟩ = some (.bool false) := (hb1.cell (p := ⟨w.heap.size, 5, none⟩) (by show w.heap.size < _; simp)).trans (by simp [go_sem])
  have z_6 : w1.cell? ⟨w.heap.size, 6, none⟩ = some (.slice none 0 0) := (hb1.cell (p := ⟨w.heap.size, 6, none⟩) (by show w.heap.size < _; simp)).trans (by simp [go_sem])
  have z_7 : w1.cell? ⟨w.heap.size, 7, none⟩ = some (.int .i64 0) := (hb1.cell (p := ⟨w.heap.size, 7, none⟩) (by show w.heap.size < _; simp)).trans (by simp [go_sem])
  have z_8 : w1.cell? ⟨w.heap.size, 8, none⟩ = some (.int .i64 0) := (hb1.cell (p := ⟨w.heap.size, 8, none⟩) (by show w.heap.size < _; simp)).trans (by simp [go_sem])
  have z_9 : w1.cell? ⟨w.heap.size, 9, none⟩ = some (.int .i64 0) := (hb1.cell (p := ⟨w.heap.size, 9, none⟩) (by show w.heap.size < _; simp)).trans (by simp [go_sem])
  have z_10 : w1.cell? ⟨w.heap.size, 10, none⟩ = some (.slice none 0 0) := (hb1.cell (p := ⟨w.heap.size, 10, none⟩) (by show w.heap.size < _; simp)).trans (by simp [go_sem])
  have z_11 : w1.cell? ⟨w.heap.size, 11, none⟩ = some (.slice none 0 0) := (hb1.cell (p := ⟨w.heap.size, 11, none⟩) (by show w.heap.size < _; simp)).trans (by simp [go_sem])
  have z_12 : w1.cell? ⟨w.heap.size, 12, none⟩ = some (.slice none 0 0) := (hb1.cell (p := ⟨w.heap.size, 12, none⟩) (by show w.heap.size < _; simp)).trans (by simp [go_sem])
  have zf : ∀ o, w1.frozen? ⟨w.heap.size, o, none⟩ = false := fun o => (hb1.frozen (p := ⟨w.heap.size, o, none⟩) (by show w.heap.size < _; simp)).trans (by simp [go_sem])
  have HB1 : Hid (Below w.heap.size w w1) := ((Below.refl _ _).alloc (Nat.le_refl _) _).trans (hb1.mono (by simp))
  clear hf1 hf2 hb1
  go_wp2_with fail
  refine bodyPost_ret (v := .tuple #[.agg #[.int .i64 id, .int .i64 c, .int .i64 0, .int .i64 (-1), .int .i64 0, .bool true, .slice none 0 0, .int .i64 0, .int .i64 0, .int .i64 (5 + id), .slice none 0 0, .slice (some ⟨g1, 0, none⟩) c c, .slice (some ⟨g2, 0, none⟩) c c], .int .i64 0]) (by simp [results, Try.results5, go_sem, z_0, z_1, z_2, z_3, z_4, z_5, z_6, z_7, z_8, z_9, z_10, z_11, z_12, zf]) rfl ?_
  refine ⟨_, rfl, g1, g2, rfl, by omega, by omega, hne, by simpa using hlt1, by simpa using hlt2, ?_, ?_, ?_⟩
  · repeat (first | (with_reducible exact HF1.out) | (with_reducible refine FreshIn.setCell ?_ ?_ _; rotate_left; (show w.heap.size < _; omega)))
  · repeat (first | (with_reducible exact HF2.out) | (with_reducible refine FreshIn.setCell ?_ ?_ _; rotate_left; (show w.heap.size < _; omega)))
  · repeat (first | (with_reducible exact HB1.out) | (with_reducible refine Below.setCell ?_ ?_ _; rotate_left; (show w.heap.size ≤ w.heap.size; omega)))
end Go.Proofs.Ytfehfjiemelffaa
