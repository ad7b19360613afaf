/- Recover of both sides. No conditions but sizes. -/
import Derived.Test.YtmdjcoeijlnloaaRcv2
import Derived.Test.YtmdjcoeijlnloaaRcv3
namespace Go.Proofs.Ytmdjcoeijlnloaa
set_option linter.unusedVariables false
set_option linter.unusedSimpArgs false
open Go.RowKit
noncomputable def rcO (d : ByteArray) (s : Int) : RvT := if storeOK d s = true then rvAll d else ((0, 0, []), (⟨#[]⟩, 0), 1)
theorem rcO_length (d : ByteArray) (s : Int) : (rcO d s).1.2.2.length ≤ 60 := by
  unfold rcO
  split
  · exact rvX_length _ _
  · simp
theorem rvX_code (d : ByteArray) (x : List ByteArray × Nat × Int) (h : (rvX d x).2.2 ≠ 0) : rvX d x = ((0, 0, []), (⟨#[]⟩, 0), (rvX d x).2.2) := by
  unfold rvX at h ⊢
  split
  · simp
  · next h8 =>
    rw [if_neg h8] at h
    cases hr : rcL (0, -1, []) x.1 with
    | none => simp
    | some st =>
      rw [hr] at h
      exact absurd rfl h
set_option maxRecDepth 100000 in
set_option maxHeartbeats 8000000 in
theorem implRecover_c (d : ByteArray) (s : Int) (w : World) :
    Calls Try.prog 31 #[.agg #[.string d, .int .i64 s]] w (RvR (rcO d s) w) := by
  unfold rcO
  cases h1 : storeOK d s
  case false =>
    simp only [Bool.false_eq_true, if_false]
    have H1 := Lib.hid h1
    clear h1
    go_enter Try.func31, Try.ntmps31
    go_wp2_with fail
    refine (isStore_c d s _).mono ?_
    rw [H1.out]
    rintro e w1 ⟨rfl, hb1⟩
    have hz1 := hb1.size
    simp only [World.size_alloc] at hz1
    have HB1 : Hid (Below w.heap.size w w1) := (by repeat (first | exact Below.refl _ _ | (refine Below.alloc ?_ (by (try simp) <;> (try omega)) _) | (refine Below.setCell ?_ (by (try simp) <;> (try omega)) _) | (refine Below.drew ?_) | (refine Below.trans ?_ (Below.mono (by assumption) (by (try simp) <;> (try omega))))))
    have q1_0 : w1.cell? ⟨w.heap.size, 0, none⟩ = some (.string d) := by
      rw [hb1.cell (p := ⟨w.heap.size, 0, none⟩) (show w.heap.size < _ by (try simp) <;> (try omega))]
      first | assumption | (simp [go_sem, *])
    have q1_1 : w1.cell? ⟨w.heap.size, 1, none⟩ = some (.int .i64 s) := by
      rw [hb1.cell (p := ⟨w.heap.size, 1, none⟩) (show w.heap.size < _ by (try simp) <;> (try omega))]
      first | assumption | (simp [go_sem, *])
    have ql1 : w.heap.size < w1.heap.size := by omega
    have r1_0 : w1.cell? ⟨w.heap.size + 1, 0, none⟩ = some (.int .i64 0) := by
      rw [hb1.cell (p := ⟨w.heap.size + 1, 0, none⟩) (show w.heap.size + 1 < _ by (try simp) <;> (try omega))]
      first | assumption | (simp [go_sem, *])
    have r1_1 : w1.cell? ⟨w.heap.size + 1, 1, none⟩ = some (.int .i64 0) := by
      rw [hb1.cell (p := ⟨w.heap.size + 1, 1, none⟩) (show w.heap.size + 1 < _ by (try simp) <;> (try omega))]
      first | assumption | (simp [go_sem, *])
    have r1_2 : w1.cell? ⟨w.heap.size + 1, 2, none⟩ = some (.slice none 0 0) := by
      rw [hb1.cell (p := ⟨w.heap.size + 1, 2, none⟩) (show w.heap.size + 1 < _ by (try simp) <;> (try omega))]
      first | assumption | (simp [go_sem, *])
    have rf1 : ∀ o, w1.frozen? ⟨w.heap.size + 1, o, none⟩ = false := fun o => by
      rw [hb1.frozen (p := ⟨w.heap.size + 1, o, none⟩) (show w.heap.size + 1 < _ by (try simp) <;> (try omega))]
      simp [go_sem]
    have rl1 : w.heap.size + 1 < w1.heap.size := by omega
    have u1_0 : w1.cell? ⟨w.heap.size + 1 + 1, 0, none⟩ = some (.string ⟨#[]⟩) := by
      rw [hb1.cell (p := ⟨w.heap.size + 1 + 1, 0, none⟩) (show w.heap.size + 1 + 1 < _ by (try simp) <;> (try omega))]
      first | assumption | (simp [go_sem, *])
    have u1_1 : w1.cell? ⟨w.heap.size + 1 + 1, 1, none⟩ = some (.int .i64 0) := by
      rw [hb1.cell (p := ⟨w.heap.size + 1 + 1, 1, none⟩) (show w.heap.size + 1 + 1 < _ by (try simp) <;> (try omega))]
      first | assumption | (simp [go_sem, *])
    have uf1 : ∀ o, w1.frozen? ⟨w.heap.size + 1 + 1, o, none⟩ = false := fun o => by
      rw [hb1.frozen (p := ⟨w.heap.size + 1 + 1, o, none⟩) (show w.heap.size + 1 + 1 < _ by (try simp) <;> (try omega))]
      simp [go_sem]
    have ul1 : w.heap.size + 1 + 1 < w1.heap.size := by omega
    clear hb1
    go_wp2_with fail
    refine bodyPost_ret (v := .tuple #[.agg #[.int .i64 0, .int .i64 0, .slice none 0 0], .agg #[.string ⟨#[]⟩, .int .i64 0], .int .i64 1]) (by simp [results, Try.results31, go_sem, r1_0, r1_1, r1_2, u1_0, u1_1, rf1, uf1, rl1, ul1]) rfl ?_
    refine ⟨none, 0, rfl, (FreshIn.nil _ _ _ _ 0 _).1, ?_⟩
    repeat (first | (with_reducible exact HB1.out) | (with_reducible refine Below.setCell ?_ ?_ _; rotate_left; ((try simp) <;> (try omega))) | (with_reducible refine Below.alloc ?_ ?_ _; rotate_left; ((try simp) <;> (try omega))) | (with_reducible refine Below.drew ?_))
  case true =>
    simp only [if_true]
    have hd := (storeOK_range h1).1
    have H1 := Lib.hid h1
    clear h1
    obtain ⟨Y, hY⟩ : ∃ y, y = rvAll d := ⟨_, rfl⟩
    rw [← hY]
    have HRC : Hid (∀ w, Calls Try.prog 81 #[.agg #[.string d, .int .i64 s]] w (RvR Y w)) := Lib.hid (fun w => by
      rw [hY]
      exact implRecovered_c d s w hd)
    clear hY
    obtain ⟨⟨t1, v1, L⟩, ⟨d1, n1⟩, c⟩ := Y
    go_enter Try.func31, Try.ntmps31
    go_wp2_with fail
    refine (isStore_c d s _).mono ?_
    rw [H1.out]
    rintro e w1 ⟨rfl, hb1⟩
    have hz1 := hb1.size
    simp only [World.size_alloc] at hz1
    have HB1 : Hid (Below w.heap.size w w1) := (by repeat (first | exact Below.refl _ _ | (refine Below.alloc ?_ (by (try simp) <;> (try omega)) _) | (refine Below.setCell ?_ (by (try simp) <;> (try omega)) _) | (refine Below.drew ?_) | (refine Below.trans ?_ (Below.mono (by assumption) (by (try simp) <;> (try omega))))))
    have q1_0 : w1.cell? ⟨w.heap.size, 0, none⟩ = some (.string d) := by
      rw [hb1.cell (p := ⟨w.heap.size, 0, none⟩) (show w.heap.size < _ by (try simp) <;> (try omega))]
      first | assumption | (simp [go_sem, *])
    have q1_1 : w1.cell? ⟨w.heap.size, 1, none⟩ = some (.int .i64 s) := by
      rw [hb1.cell (p := ⟨w.heap.size, 1, none⟩) (show w.heap.size < _ by (try simp) <;> (try omega))]
      first | assumption | (simp [go_sem, *])
    have ql1 : w.heap.size < w1.heap.size := by omega
    have r1_0 : w1.cell? ⟨w.heap.size + 1, 0, none⟩ = some (.int .i64 0) := by
      rw [hb1.cell (p := ⟨w.heap.size + 1, 0, none⟩) (show w.heap.size + 1 < _ by (try simp) <;> (try omega))]
      first | assumption | (simp [go_sem, *])
    have r1_1 : w1.cell? ⟨w.heap.size + 1, 1, none⟩ = some (.int .i64 0) := by
      rw [hb1.cell (p := ⟨w.heap.size + 1, 1, none⟩) (show w.heap.size + 1 < _ by (try simp) <;> (try omega))]
      first | assumption | (simp [go_sem, *])
    have r1_2 : w1.cell? ⟨w.heap.size + 1, 2, none⟩ = some (.slice none 0 0) := by
      rw [hb1.cell (p := ⟨w.heap.size + 1, 2, none⟩) (show w.heap.size + 1 < _ by (try simp) <;> (try omega))]
      first | assumption | (simp [go_sem, *])
    have rf1 : ∀ o, w1.frozen? ⟨w.heap.size + 1, o, none⟩ = false := fun o => by
      rw [hb1.frozen (p := ⟨w.heap.size + 1, o, none⟩) (show w.heap.size + 1 < _ by (try simp) <;> (try omega))]
      simp [go_sem]
    have rl1 : w.heap.size + 1 < w1.heap.size := by omega
    have u1_0 : w1.cell? ⟨w.heap.size + 1 + 1, 0, none⟩ = some (.string ⟨#[]⟩) := by
      rw [hb1.cell (p := ⟨w.heap.size + 1 + 1, 0, none⟩) (show w.heap.size + 1 + 1 < _ by (try simp) <;> (try omega))]
      first | assumption | (simp [go_sem, *])
    have u1_1 : w1.cell? ⟨w.heap.size + 1 + 1, 1, none⟩ = some (.int .i64 0) := by
      rw [hb1.cell (p := ⟨w.heap.size + 1 + 1, 1, none⟩) (show w.heap.size + 1 + 1 < _ by (try simp) <;> (try omega))]
      first | assumption | (simp [go_sem, *])
    have uf1 : ∀ o, w1.frozen? ⟨w.heap.size + 1 + 1, o, none⟩ = false := fun o => by
      rw [hb1.frozen (p := ⟨w.heap.size + 1 + 1, o, none⟩) (show w.heap.size + 1 + 1 < _ by (try simp) <;> (try omega))]
      simp [go_sem]
    have ul1 : w.heap.size + 1 + 1 < w1.heap.size := by omega
    clear hb1
    go_wp2_with fail
    refine (HRC.out _).mono ?_
    rintro e w2 ⟨a2, c2, rfl, hf2, hb2⟩
    have hz2 := hb2.size
    have HB2 : Hid (Below w.heap.size w w2) := HB1.out.trans (hb2.mono (by omega))
    dsimp only at hf2 ⊢
    have r2_0 : w2.cell? ⟨w.heap.size + 1, 0, none⟩ = some (.int .i64 0) := by
      rw [hb2.cell (p := ⟨w.heap.size + 1, 0, none⟩) (show w.heap.size + 1 < _ by (try simp) <;> (try omega))]
      first | assumption | (simp [go_sem, *])
    have r2_1 : w2.cell? ⟨w.heap.size + 1, 1, none⟩ = some (.int .i64 0) := by
      rw [hb2.cell (p := ⟨w.heap.size + 1, 1, none⟩) (show w.heap.size + 1 < _ by (try simp) <;> (try omega))]
      first | assumption | (simp [go_sem, *])
    have r2_2 : w2.cell? ⟨w.heap.size + 1, 2, none⟩ = some (.slice none 0 0) := by
      rw [hb2.cell (p := ⟨w.heap.size + 1, 2, none⟩) (show w.heap.size + 1 < _ by (try simp) <;> (try omega))]
      first | assumption | (simp [go_sem, *])
    have rf2 : ∀ o, w2.frozen? ⟨w.heap.size + 1, o, none⟩ = false := fun o => by
      rw [hb2.frozen (p := ⟨w.heap.size + 1, o, none⟩) (show w.heap.size + 1 < _ by (try simp) <;> (try omega))]
      first | exact rf1 o | (simp [go_sem]; done) | (rw [((Below.refl _ _).alloc (Nat.le_refl _) _ : Below _ _ _).frozen (p := ⟨w.heap.size + 1, o, none⟩) (show w.heap.size + 1 < _ by omega)]; exact rf1 o)
    have rl2 : w.heap.size + 1 < w2.heap.size := by omega
    have u2_0 : w2.cell? ⟨w.heap.size + 1 + 1, 0, none⟩ = some (.string ⟨#[]⟩) := by
      rw [hb2.cell (p := ⟨w.heap.size + 1 + 1, 0, none⟩) (show w.heap.size + 1 + 1 < _ by (try simp) <;> (try omega))]
      first | assumption | (simp [go_sem, *])
    have u2_1 : w2.cell? ⟨w.heap.size + 1 + 1, 1, none⟩ = some (.int .i64 0) := by
      rw [hb2.cell (p := ⟨w.heap.size + 1 + 1, 1, none⟩) (show w.heap.size + 1 + 1 < _ by (try simp) <;> (try omega))]
      first | assumption | (simp [go_sem, *])
    have uf2 : ∀ o, w2.frozen? ⟨w.heap.size + 1 + 1, o, none⟩ = false := fun o => by
      rw [hb2.frozen (p := ⟨w.heap.size + 1 + 1, o, none⟩) (show w.heap.size + 1 + 1 < _ by (try simp) <;> (try omega))]
      first | exact uf1 o | (simp [go_sem]; done) | (rw [((Below.refl _ _).alloc (Nat.le_refl _) _ : Below _ _ _).frozen (p := ⟨w.heap.size + 1 + 1, o, none⟩) (show w.heap.size + 1 + 1 < _ by omega)]; exact uf1 o)
    have ul2 : w.heap.size + 1 + 1 < w2.heap.size := by omega
    have HF2 : Hid (Fresh entE 109 2 w1.heap.size (.slice a2 L.length c2) L w2) := hf2
    clear hb2 hf2
    go_wp2_with fail
    refine bodyPost_ret (v := .tuple #[.agg #[.int .i64 t1, .int .i64 v1, .slice a2 L.length c2], .agg #[.string d1, .int .i64 n1], .int .i64 c]) (by simp [results, Try.results31, go_sem, r2_0, r2_1, r2_2, u2_0, u2_1, rf2, uf2, rl2, ul2]) rfl ?_
    refine ⟨a2, c2, rfl, ?_, ?_⟩
    · refine Fresh.mono (B := w1.heap.size) ?_ (by omega)
      repeat (first | (with_reducible exact HF2.out) | (with_reducible refine Fresh.setCell ?_ ?_ _; rotate_left; ((try simp) <;> (try omega))))
    · repeat (first | (with_reducible exact HB2.out) | (with_reducible refine Below.setCell ?_ ?_ _; rotate_left; ((try simp) <;> (try omega))) | (with_reducible refine Below.alloc ?_ ?_ _; rotate_left; ((try simp) <;> (try omega))) | (with_reducible refine Below.drew ?_))
set_option maxRecDepth 100000 in
set_option maxHeartbeats 8000000 in
theorem specRecover_c (d : ByteArray) (s : Int) (w : World) :
    Calls Try.prog 29 #[.agg #[.string d, .int .i64 s]] w (RvR (rcO d s) w) := by
  unfold rcO
  cases h1 : storeOK d s
  case false =>
    simp only [Bool.false_eq_true, if_false]
    have H1 := Lib.hid h1
    clear h1
    go_enter Try.func29, Try.ntmps29
    go_wp2_with fail
    refine (specStoreOK_c d s _).mono ?_
    rw [H1.out]
    rintro e w1 ⟨rfl, hb1⟩
    have hz1 := hb1.size
    simp only [World.size_alloc] at hz1
    have HB1 : Hid (Below w.heap.size w w1) := (by repeat (first | exact Below.refl _ _ | (refine Below.alloc ?_ (by (try simp) <;> (try omega)) _) | (refine Below.setCell ?_ (by (try simp) <;> (try omega)) _) | (refine Below.drew ?_) | (refine Below.trans ?_ (Below.mono (by assumption) (by (try simp) <;> (try omega))))))
    have q1_0 : w1.cell? ⟨w.heap.size, 0, none⟩ = some (.string d) := by
      rw [hb1.cell (p := ⟨w.heap.size, 0, none⟩) (show w.heap.size < _ by (try simp) <;> (try omega))]
      first | assumption | (simp [go_sem, *])
    have q1_1 : w1.cell? ⟨w.heap.size, 1, none⟩ = some (.int .i64 s) := by
      rw [hb1.cell (p := ⟨w.heap.size, 1, none⟩) (show w.heap.size < _ by (try simp) <;> (try omega))]
      first | assumption | (simp [go_sem, *])
    have ql1 : w.heap.size < w1.heap.size := by omega
    have r1_0 : w1.cell? ⟨w.heap.size + 1, 0, none⟩ = some (.int .i64 0) := by
      rw [hb1.cell (p := ⟨w.heap.size + 1, 0, none⟩) (show w.heap.size + 1 < _ by (try simp) <;> (try omega))]
      first | assumption | (simp [go_sem, *])
    have r1_1 : w1.cell? ⟨w.heap.size + 1, 1, none⟩ = some (.int .i64 0) := by
      rw [hb1.cell (p := ⟨w.heap.size + 1, 1, none⟩) (show w.heap.size + 1 < _ by (try simp) <;> (try omega))]
      first | assumption | (simp [go_sem, *])
    have r1_2 : w1.cell? ⟨w.heap.size + 1, 2, none⟩ = some (.slice none 0 0) := by
      rw [hb1.cell (p := ⟨w.heap.size + 1, 2, none⟩) (show w.heap.size + 1 < _ by (try simp) <;> (try omega))]
      first | assumption | (simp [go_sem, *])
    have rf1 : ∀ o, w1.frozen? ⟨w.heap.size + 1, o, none⟩ = false := fun o => by
      rw [hb1.frozen (p := ⟨w.heap.size + 1, o, none⟩) (show w.heap.size + 1 < _ by (try simp) <;> (try omega))]
      simp [go_sem]
    have rl1 : w.heap.size + 1 < w1.heap.size := by omega
    have u1_0 : w1.cell? ⟨w.heap.size + 1 + 1, 0, none⟩ = some (.string ⟨#[]⟩) := by
      rw [hb1.cell (p := ⟨w.heap.size + 1 + 1, 0, none⟩) (show w.heap.size + 1 + 1 < _ by (try simp) <;> (try omega))]
      first | assumption | (simp [go_sem, *])
    have u1_1 : w1.cell? ⟨w.heap.size + 1 + 1, 1, none⟩ = some (.int .i64 0) := by
      rw [hb1.cell (p := ⟨w.heap.size + 1 + 1, 1, none⟩) (show w.heap.size + 1 + 1 < _ by (try simp) <;> (try omega))]
      first | assumption | (simp [go_sem, *])
    have uf1 : ∀ o, w1.frozen? ⟨w.heap.size + 1 + 1, o, none⟩ = false := fun o => by
      rw [hb1.frozen (p := ⟨w.heap.size + 1 + 1, o, none⟩) (show w.heap.size + 1 + 1 < _ by (try simp) <;> (try omega))]
      simp [go_sem]
    have ul1 : w.heap.size + 1 + 1 < w1.heap.size := by omega
    clear hb1
    go_wp2_with fail
    refine bodyPost_ret (v := .tuple #[.agg #[.int .i64 0, .int .i64 0, .slice none 0 0], .agg #[.string ⟨#[]⟩, .int .i64 0], .int .i64 1]) (by simp [results, Try.results29, go_sem, r1_0, r1_1, r1_2, u1_0, u1_1, rf1, uf1, rl1, ul1]) rfl ?_
    refine ⟨none, 0, rfl, (FreshIn.nil _ _ _ _ 0 _).1, ?_⟩
    repeat (first | (with_reducible exact HB1.out) | (with_reducible refine Below.setCell ?_ ?_ _; rotate_left; ((try simp) <;> (try omega))) | (with_reducible refine Below.alloc ?_ ?_ _; rotate_left; ((try simp) <;> (try omega))) | (with_reducible refine Below.drew ?_))
  case true =>
    simp only [if_true]
    have hd := (storeOK_range h1).1
    have H1 := Lib.hid h1
    clear h1
    obtain ⟨Y, hY⟩ : ∃ y, y = rvAll d := ⟨_, rfl⟩
    rw [← hY]
    have hcd : Y.2.2 ≠ 0 → Y = ((0, 0, []), (⟨#[]⟩, 0), Y.2.2) := fun h => by rw [hY] at h ⊢; exact rvX_code _ _ h
    have hln : Y.1.2.2.length ≤ 60 := by rw [hY]; exact rvX_length _ _
    have HRC : Hid (∀ w, Calls Try.prog 79 #[.agg #[.string d, .int .i64 s]] w (RvA Y w)) := Lib.hid (fun w => by
      rw [hY]
      exact specRecovered_c d s w hd)
    clear hY
    obtain ⟨⟨t1, v1, L⟩, ⟨d1, n1⟩, c⟩ := Y
    dsimp only at hcd hln
    by_cases h0 : c = 0
    · subst h0
      go_enter Try.func29, Try.ntmps29
      go_wp2_with fail
      refine (specStoreOK_c d s _).mono ?_
      rw [H1.out]
      rintro e w1 ⟨rfl, hb1⟩
      have hz1 := hb1.size
      simp only [World.size_alloc] at hz1
      have HB1 : Hid (Below w.heap.size w w1) := (by repeat (first | exact Below.refl _ _ | (refine Below.alloc ?_ (by (try simp) <;> (try omega)) _) | (refine Below.setCell ?_ (by (try simp) <;> (try omega)) _) | (refine Below.drew ?_) | (refine Below.trans ?_ (Below.mono (by assumption) (by (try simp) <;> (try omega))))))
      have q1_0 : w1.cell? ⟨w.heap.size, 0, none⟩ = some (.string d) := by
        rw [hb1.cell (p := ⟨w.heap.size, 0, none⟩) (show w.heap.size < _ by (try simp) <;> (try omega))]
        first | assumption | (simp [go_sem, *])
      have q1_1 : w1.cell? ⟨w.heap.size, 1, none⟩ = some (.int .i64 s) := by
        rw [hb1.cell (p := ⟨w.heap.size, 1, none⟩) (show w.heap.size < _ by (try simp) <;> (try omega))]
        first | assumption | (simp [go_sem, *])
      have ql1 : w.heap.size < w1.heap.size := by omega
      have r1_0 : w1.cell? ⟨w.heap.size + 1, 0, none⟩ = some (.int .i64 0) := by
        rw [hb1.cell (p := ⟨w.heap.size + 1, 0, none⟩) (show w.heap.size + 1 < _ by (try simp) <;> (try omega))]
        first | assumption | (simp [go_sem, *])
      have r1_1 : w1.cell? ⟨w.heap.size + 1, 1, none⟩ = some (.int .i64 0) := by
        rw [hb1.cell (p := ⟨w.heap.size + 1, 1, none⟩) (show w.heap.size + 1 < _ by (try simp) <;> (try omega))]
        first | assumption | (simp [go_sem, *])
      have r1_2 : w1.cell? ⟨w.heap.size + 1, 2, none⟩ = some (.slice none 0 0) := by
        rw [hb1.cell (p := ⟨w.heap.size + 1, 2, none⟩) (show w.heap.size + 1 < _ by (try simp) <;> (try omega))]
        first | assumption | (simp [go_sem, *])
      have rf1 : ∀ o, w1.frozen? ⟨w.heap.size + 1, o, none⟩ = false := fun o => by
        rw [hb1.frozen (p := ⟨w.heap.size + 1, o, none⟩) (show w.heap.size + 1 < _ by (try simp) <;> (try omega))]
        simp [go_sem]
      have rl1 : w.heap.size + 1 < w1.heap.size := by omega
      have u1_0 : w1.cell? ⟨w.heap.size + 1 + 1, 0, none⟩ = some (.string ⟨#[]⟩) := by
        rw [hb1.cell (p := ⟨w.heap.size + 1 + 1, 0, none⟩) (show w.heap.size + 1 + 1 < _ by (try simp) <;> (try omega))]
        first | assumption | (simp [go_sem, *])
      have u1_1 : w1.cell? ⟨w.heap.size + 1 + 1, 1, none⟩ = some (.int .i64 0) := by
        rw [hb1.cell (p := ⟨w.heap.size + 1 + 1, 1, none⟩) (show w.heap.size + 1 + 1 < _ by (try simp) <;> (try omega))]
        first | assumption | (simp [go_sem, *])
      have uf1 : ∀ o, w1.frozen? ⟨w.heap.size + 1 + 1, o, none⟩ = false := fun o => by
        rw [hb1.frozen (p := ⟨w.heap.size + 1 + 1, o, none⟩) (show w.heap.size + 1 + 1 < _ by (try simp) <;> (try omega))]
        simp [go_sem]
      have ul1 : w.heap.size + 1 + 1 < w1.heap.size := by omega
      clear hb1
      go_wp2_with fail
      refine (HRC.out _).mono ?_
      rintro e w2 ⟨t2, v2, a2, c2, L2, d2, n2, rfl, hx2, hb2⟩
      have hz2 := hb2.size
      have HB2 : Hid (Below w.heap.size w w2) := HB1.out.trans (hb2.mono (by omega))
      dsimp only at hx2 ⊢
      have r2_0 : w2.cell? ⟨w.heap.size + 1, 0, none⟩ = some (.int .i64 0) := by
        rw [hb2.cell (p := ⟨w.heap.size + 1, 0, none⟩) (show w.heap.size + 1 < _ by (try simp) <;> (try omega))]
        first | assumption | (simp [go_sem, *])
      have r2_1 : w2.cell? ⟨w.heap.size + 1, 1, none⟩ = some (.int .i64 0) := by
        rw [hb2.cell (p := ⟨w.heap.size + 1, 1, none⟩) (show w.heap.size + 1 < _ by (try simp) <;> (try omega))]
        first | assumption | (simp [go_sem, *])
      have r2_2 : w2.cell? ⟨w.heap.size + 1, 2, none⟩ = some (.slice none 0 0) := by
        rw [hb2.cell (p := ⟨w.heap.size + 1, 2, none⟩) (show w.heap.size + 1 < _ by (try simp) <;> (try omega))]
        first | assumption | (simp [go_sem, *])
      have rf2 : ∀ o, w2.frozen? ⟨w.heap.size + 1, o, none⟩ = false := fun o => by
        rw [hb2.frozen (p := ⟨w.heap.size + 1, o, none⟩) (show w.heap.size + 1 < _ by (try simp) <;> (try omega))]
        first | exact rf1 o | (simp [go_sem]; done) | (rw [((Below.refl _ _).alloc (Nat.le_refl _) _ : Below _ _ _).frozen (p := ⟨w.heap.size + 1, o, none⟩) (show w.heap.size + 1 < _ by omega)]; exact rf1 o)
      have rl2 : w.heap.size + 1 < w2.heap.size := by omega
      have u2_0 : w2.cell? ⟨w.heap.size + 1 + 1, 0, none⟩ = some (.string ⟨#[]⟩) := by
        rw [hb2.cell (p := ⟨w.heap.size + 1 + 1, 0, none⟩) (show w.heap.size + 1 + 1 < _ by (try simp) <;> (try omega))]
        first | assumption | (simp [go_sem, *])
      have u2_1 : w2.cell? ⟨w.heap.size + 1 + 1, 1, none⟩ = some (.int .i64 0) := by
        rw [hb2.cell (p := ⟨w.heap.size + 1 + 1, 1, none⟩) (show w.heap.size + 1 + 1 < _ by (try simp) <;> (try omega))]
        first | assumption | (simp [go_sem, *])
      have uf2 : ∀ o, w2.frozen? ⟨w.heap.size + 1 + 1, o, none⟩ = false := fun o => by
        rw [hb2.frozen (p := ⟨w.heap.size + 1 + 1, o, none⟩) (show w.heap.size + 1 + 1 < _ by (try simp) <;> (try omega))]
        first | exact uf1 o | (simp [go_sem]; done) | (rw [((Below.refl _ _).alloc (Nat.le_refl _) _ : Below _ _ _).frozen (p := ⟨w.heap.size + 1 + 1, o, none⟩) (show w.heap.size + 1 + 1 < _ by omega)]; exact uf1 o)
      have ul2 : w.heap.size + 1 + 1 < w2.heap.size := by omega
      have mr_0 : ∀ x y, ((w2.alloc x).alloc y).cell? ⟨w.heap.size + 1, 0, none⟩ = some (.int .i64 0) := fun x y => by
        rw [World.cell?_alloc_lt _ _ _ (by show w.heap.size + 1 < _; rw [World.size_alloc]; omega), World.cell?_alloc_lt _ _ _ (by show w.heap.size + 1 < _; omega)]
        exact r2_0
      have mr_1 : ∀ x y, ((w2.alloc x).alloc y).cell? ⟨w.heap.size + 1, 1, none⟩ = some (.int .i64 0) := fun x y => by
        rw [World.cell?_alloc_lt _ _ _ (by show w.heap.size + 1 < _; rw [World.size_alloc]; omega), World.cell?_alloc_lt _ _ _ (by show w.heap.size + 1 < _; omega)]
        exact r2_1
      have mr_2 : ∀ x y, ((w2.alloc x).alloc y).cell? ⟨w.heap.size + 1, 2, none⟩ = some (.slice none 0 0) := fun x y => by
        rw [World.cell?_alloc_lt _ _ _ (by show w.heap.size + 1 < _; rw [World.size_alloc]; omega), World.cell?_alloc_lt _ _ _ (by show w.heap.size + 1 < _; omega)]
        exact r2_2
      have mrf : ∀ x y o, ((w2.alloc x).alloc y).frozen? ⟨w.heap.size + 1, o, none⟩ = false := fun x y o => by
        rw [((Below.refl _ _).alloc (Nat.le_refl _) _ : Below _ _ _).frozen (p := ⟨w.heap.size + 1, o, none⟩) (by show w.heap.size + 1 < _; rw [World.size_alloc]; omega), ((Below.refl _ _).alloc (Nat.le_refl _) _ : Below _ _ _).frozen (p := ⟨w.heap.size + 1, o, none⟩) (by show w.heap.size + 1 < _; omega)]
        exact rf2 o
      have mu_0 : ∀ x y, ((w2.alloc x).alloc y).cell? ⟨w.heap.size + 1 + 1, 0, none⟩ = some (.string ⟨#[]⟩) := fun x y => by
        rw [World.cell?_alloc_lt _ _ _ (by show w.heap.size + 1 + 1 < _; rw [World.size_alloc]; omega), World.cell?_alloc_lt _ _ _ (by show w.heap.size + 1 + 1 < _; omega)]
        exact u2_0
      have mu_1 : ∀ x y, ((w2.alloc x).alloc y).cell? ⟨w.heap.size + 1 + 1, 1, none⟩ = some (.int .i64 0) := fun x y => by
        rw [World.cell?_alloc_lt _ _ _ (by show w.heap.size + 1 + 1 < _; rw [World.size_alloc]; omega), World.cell?_alloc_lt _ _ _ (by show w.heap.size + 1 + 1 < _; omega)]
        exact u2_1
      have muf : ∀ x y o, ((w2.alloc x).alloc y).frozen? ⟨w.heap.size + 1 + 1, o, none⟩ = false := fun x y o => by
        rw [((Below.refl _ _).alloc (Nat.le_refl _) _ : Below _ _ _).frozen (p := ⟨w.heap.size + 1 + 1, o, none⟩) (by show w.heap.size + 1 + 1 < _; rw [World.size_alloc]; omega), ((Below.refl _ _).alloc (Nat.le_refl _) _ : Below _ _ _).frozen (p := ⟨w.heap.size + 1 + 1, o, none⟩) (by show w.heap.size + 1 + 1 < _; omega)]
        exact uf2 o
      obtain ⟨hx3, hf2⟩ := hx2 rfl
      simp only [Prod.mk.injEq, and_true] at hx3
      obtain ⟨⟨rfl, rfl, rfl⟩, rfl, rfl⟩ := hx3
      have HF2 : Hid (Fresh entE 109 2 w1.heap.size (.slice a2 L.length c2) L w2) := hf2
      have HSL := Lib.hid (HF2.out.sl (enc := entE) (sz := 2) (xs := L) (fun _ => rfl))
      clear hx2 hf2 hb2
      go_wp2_with fail
      go_region_held3 (fun w' => w'.cell? ⟨w2.heap.size, 0, none⟩ = some (.int .i64 t1) ∧ w'.cell? ⟨w2.heap.size, 1, none⟩ = some (.int .i64 v1) ∧ w'.cell? ⟨w2.heap.size, 2, none⟩ = some (.slice a2 L.length c2) ∧ w'.cell? ⟨w2.heap.size + 1, 0, none⟩ = some (.string d1) ∧ w'.cell? ⟨w2.heap.size + 1, 1, none⟩ = some (.int .i64 n1))
        (first | ((repeat' apply And.intro) <;> (first | (simp [go_sem]; done) | (simp [go_sem, s3_0, s3_1, s3_2, x3_0, x3_1, hnA, hnB, hnC, hnD]; done))) | go_keep)
        (first
          | (go_at_call 69
             refine (l07Own_c a2 c2 L t1 v1 _ (((HSL.out.alloc _).alloc _).drew) (by omega)).mono ?_
             rintro e w3 ⟨a3, c3, rfl, hf3, hb3⟩
             have hz3 := hb3.size
             simp only [World.size_drew, World.size_alloc] at hz3
             have hnA : ¬ w2.heap.size = w.heap.size + 1 := by omega
             have hnB : ¬ w2.heap.size = w.heap.size + 1 + 1 := by omega
             have hnC : ¬ w.heap.size + 1 = w2.heap.size := by omega
             have hnD : ¬ w.heap.size + 1 + 1 = w2.heap.size := by omega
             have s3_0 : w3.cell? ⟨w2.heap.size, 0, none⟩ = some (.int .i64 t1) := (hb3.cell (p := ⟨w2.heap.size, 0, none⟩) (by show w2.heap.size < (World.drew (World.alloc (World.alloc w2 _) _)).heap.size; rw [World.size_drew, World.size_alloc, World.size_alloc]; omega)).trans (by simp [go_sem])
             have s3_1 : w3.cell? ⟨w2.heap.size, 1, none⟩ = some (.int .i64 v1) := (hb3.cell (p := ⟨w2.heap.size, 1, none⟩) (by show w2.heap.size < (World.drew (World.alloc (World.alloc w2 _) _)).heap.size; rw [World.size_drew, World.size_alloc, World.size_alloc]; omega)).trans (by simp [go_sem])
             have s3_2 : w3.cell? ⟨w2.heap.size, 2, none⟩ = some (.slice a2 L.length c2) := (hb3.cell (p := ⟨w2.heap.size, 2, none⟩) (by show w2.heap.size < (World.drew (World.alloc (World.alloc w2 _) _)).heap.size; rw [World.size_drew, World.size_alloc, World.size_alloc]; omega)).trans (by simp [go_sem])
             have x3_0 : w3.cell? ⟨w2.heap.size + 1, 0, none⟩ = some (.string d1) := (hb3.cell (p := ⟨w2.heap.size + 1, 0, none⟩) (by show w2.heap.size + 1 < (World.drew (World.alloc (World.alloc w2 _) _)).heap.size; rw [World.size_drew, World.size_alloc, World.size_alloc]; omega)).trans (by simp [go_sem])
             have x3_1 : w3.cell? ⟨w2.heap.size + 1, 1, none⟩ = some (.int .i64 n1) := (hb3.cell (p := ⟨w2.heap.size + 1, 1, none⟩) (by show w2.heap.size + 1 < (World.drew (World.alloc (World.alloc w2 _) _)).heap.size; rw [World.size_drew, World.size_alloc, World.size_alloc]; omega)).trans (by simp [go_sem])
             have r3_0 : w3.cell? ⟨w.heap.size + 1, 0, none⟩ = some (.int .i64 0) := (hb3.cell (p := ⟨w.heap.size + 1, 0, none⟩) (by show w.heap.size + 1 < (World.drew (World.alloc (World.alloc w2 _) _)).heap.size; rw [World.size_drew, World.size_alloc, World.size_alloc]; omega)).trans (mr_0 _ _)
             have r3_1 : w3.cell? ⟨w.heap.size + 1, 1, none⟩ = some (.int .i64 0) := (hb3.cell (p := ⟨w.heap.size + 1, 1, none⟩) (by show w.heap.size + 1 < (World.drew (World.alloc (World.alloc w2 _) _)).heap.size; rw [World.size_drew, World.size_alloc, World.size_alloc]; omega)).trans (mr_1 _ _)
             have r3_2 : w3.cell? ⟨w.heap.size + 1, 2, none⟩ = some (.slice none 0 0) := (hb3.cell (p := ⟨w.heap.size + 1, 2, none⟩) (by show w.heap.size + 1 < (World.drew (World.alloc (World.alloc w2 _) _)).heap.size; rw [World.size_drew, World.size_alloc, World.size_alloc]; omega)).trans (mr_2 _ _)
             have rf3 : ∀ o, w3.frozen? ⟨w.heap.size + 1, o, none⟩ = false := fun o => (hb3.frozen (p := ⟨w.heap.size + 1, o, none⟩) (by show w.heap.size + 1 < (World.drew (World.alloc (World.alloc w2 _) _)).heap.size; rw [World.size_drew, World.size_alloc, World.size_alloc]; omega)).trans (mrf _ _ o)
             have u3_0 : w3.cell? ⟨w.heap.size + 1 + 1, 0, none⟩ = some (.string ⟨#[]⟩) := (hb3.cell (p := ⟨w.heap.size + 1 + 1, 0, none⟩) (by show w.heap.size + 1 + 1 < (World.drew (World.alloc (World.alloc w2 _) _)).heap.size; rw [World.size_drew, World.size_alloc, World.size_alloc]; omega)).trans (mu_0 _ _)
             have u3_1 : w3.cell? ⟨w.heap.size + 1 + 1, 1, none⟩ = some (.int .i64 0) := (hb3.cell (p := ⟨w.heap.size + 1 + 1, 1, none⟩) (by show w.heap.size + 1 + 1 < (World.drew (World.alloc (World.alloc w2 _) _)).heap.size; rw [World.size_drew, World.size_alloc, World.size_alloc]; omega)).trans (mu_1 _ _)
             have uf3 : ∀ o, w3.frozen? ⟨w.heap.size + 1 + 1, o, none⟩ = false := fun o => (hb3.frozen (p := ⟨w.heap.size + 1 + 1, o, none⟩) (by show w.heap.size + 1 + 1 < (World.drew (World.alloc (World.alloc w2 _) _)).heap.size; rw [World.size_drew, World.size_alloc, World.size_alloc]; omega)).trans (muf _ _ o)
             skip))
      all_goals
        have HB3 : Hid (Below w.heap.size w w3) := ((HB2.out.alloc (by omega) _).alloc (by rw [World.size_alloc]; omega) _).drew.trans (hb3.mono (by rw [World.size_drew, World.size_alloc, World.size_alloc]; omega))
        have HF3 : Hid (Fresh entE 109 2 w1.heap.size (.slice a3 L.length c3) L w3) := Fresh.mono hf3 (by rw [World.size_drew, World.size_alloc, World.size_alloc]; omega)
        clear hf3 hb3
        go_wp2_with fail
        refine bodyPost_ret (v := .tuple #[.agg #[.int .i64 t1, .int .i64 v1, .slice a3 L.length c3], .agg #[.string d1, .int .i64 n1], .int .i64 0]) (by simp [results, Try.results29, go_sem, r3_0, r3_1, r3_2, u3_0, u3_1, rf3, uf3]) rfl ?_
        refine ⟨a3, c3, rfl, ?_, ?_⟩
        · refine Fresh.mono (B := w1.heap.size) ?_ (by omega)
          repeat (first | (with_reducible exact HF3.out) | (with_reducible refine Fresh.setCell ?_ ?_ _; rotate_left; ((try simp) <;> (try omega))) | (with_reducible refine Fresh.drew ?_))
        · repeat (first | (with_reducible exact HB3.out) | (with_reducible refine Below.setCell ?_ ?_ _; rotate_left; ((try simp) <;> (try omega))) | (with_reducible refine Below.alloc ?_ ?_ _; rotate_left; ((try simp) <;> (try omega))) | (with_reducible refine Below.drew ?_))
    · have hcd2 := Lib.hid (hcd h0)
      have h0b : decide (c = 0) = false := by simpa using h0
      have h0c : (c == 0) = false := by simpa using h0
      have h0d : (c != 0) = true := by simpa using h0
      go_enter Try.func29, Try.ntmps29
      go_wp2_with fail
      refine (specStoreOK_c d s _).mono ?_
      rw [H1.out]
      rintro e w1 ⟨rfl, hb1⟩
      have hz1 := hb1.size
      simp only [World.size_alloc] at hz1
      have HB1 : Hid (Below w.heap.size w w1) := (by repeat (first | exact Below.refl _ _ | (refine Below.alloc ?_ (by (try simp) <;> (try omega)) _) | (refine Below.setCell ?_ (by (try simp) <;> (try omega)) _) | (refine Below.drew ?_) | (refine Below.trans ?_ (Below.mono (by assumption) (by (try simp) <;> (try omega))))))
      have q1_0 : w1.cell? ⟨w.heap.size, 0, none⟩ = some (.string d) := by
        rw [hb1.cell (p := ⟨w.heap.size, 0, none⟩) (show w.heap.size < _ by (try simp) <;> (try omega))]
        first | assumption | (simp [go_sem, *])
      have q1_1 : w1.cell? ⟨w.heap.size, 1, none⟩ = some (.int .i64 s) := by
        rw [hb1.cell (p := ⟨w.heap.size, 1, none⟩) (show w.heap.size < _ by (try simp) <;> (try omega))]
        first | assumption | (simp [go_sem, *])
      have ql1 : w.heap.size < w1.heap.size := by omega
      have r1_0 : w1.cell? ⟨w.heap.size + 1, 0, none⟩ = some (.int .i64 0) := by
        rw [hb1.cell (p := ⟨w.heap.size + 1, 0, none⟩) (show w.heap.size + 1 < _ by (try simp) <;> (try omega))]
        first | assumption | (simp [go_sem, *])
      have r1_1 : w1.cell? ⟨w.heap.size + 1, 1, none⟩ = some (.int .i64 0) := by
        rw [hb1.cell (p := ⟨w.heap.size + 1, 1, none⟩) (show w.heap.size + 1 < _ by (try simp) <;> (try omega))]
        first | assumption | (simp [go_sem, *])
      have r1_2 : w1.cell? ⟨w.heap.size + 1, 2, none⟩ = some (.slice none 0 0) := by
        rw [hb1.cell (p := ⟨w.heap.size + 1, 2, none⟩) (show w.heap.size + 1 < _ by (try simp) <;> (try omega))]
        first | assumption | (simp [go_sem, *])
      have rf1 : ∀ o, w1.frozen? ⟨w.heap.size + 1, o, none⟩ = false := fun o => by
        rw [hb1.frozen (p := ⟨w.heap.size + 1, o, none⟩) (show w.heap.size + 1 < _ by (try simp) <;> (try omega))]
        simp [go_sem]
      have rl1 : w.heap.size + 1 < w1.heap.size := by omega
      have u1_0 : w1.cell? ⟨w.heap.size + 1 + 1, 0, none⟩ = some (.string ⟨#[]⟩) := by
        rw [hb1.cell (p := ⟨w.heap.size + 1 + 1, 0, none⟩) (show w.heap.size + 1 + 1 < _ by (try simp) <;> (try omega))]
        first | assumption | (simp [go_sem, *])
      have u1_1 : w1.cell? ⟨w.heap.size + 1 + 1, 1, none⟩ = some (.int .i64 0) := by
        rw [hb1.cell (p := ⟨w.heap.size + 1 + 1, 1, none⟩) (show w.heap.size + 1 + 1 < _ by (try simp) <;> (try omega))]
        first | assumption | (simp [go_sem, *])
      have uf1 : ∀ o, w1.frozen? ⟨w.heap.size + 1 + 1, o, none⟩ = false := fun o => by
        rw [hb1.frozen (p := ⟨w.heap.size + 1 + 1, o, none⟩) (show w.heap.size + 1 + 1 < _ by (try simp) <;> (try omega))]
        simp [go_sem]
      have ul1 : w.heap.size + 1 + 1 < w1.heap.size := by omega
      clear hb1
      go_wp2_with fail
      refine (HRC.out _).mono ?_
      rintro e w2 ⟨t2, v2, a2, c2, L2, d2, n2, rfl, hx2, hb2⟩
      have hz2 := hb2.size
      have HB2 : Hid (Below w.heap.size w w2) := HB1.out.trans (hb2.mono (by omega))
      dsimp only at hx2 ⊢
      have r2_0 : w2.cell? ⟨w.heap.size + 1, 0, none⟩ = some (.int .i64 0) := by
        rw [hb2.cell (p := ⟨w.heap.size + 1, 0, none⟩) (show w.heap.size + 1 < _ by (try simp) <;> (try omega))]
        first | assumption | (simp [go_sem, *])
      have r2_1 : w2.cell? ⟨w.heap.size + 1, 1, none⟩ = some (.int .i64 0) := by
        rw [hb2.cell (p := ⟨w.heap.size + 1, 1, none⟩) (show w.heap.size + 1 < _ by (try simp) <;> (try omega))]
        first | assumption | (simp [go_sem, *])
      have r2_2 : w2.cell? ⟨w.heap.size + 1, 2, none⟩ = some (.slice none 0 0) := by
        rw [hb2.cell (p := ⟨w.heap.size + 1, 2, none⟩) (show w.heap.size + 1 < _ by (try simp) <;> (try omega))]
        first | assumption | (simp [go_sem, *])
      have rf2 : ∀ o, w2.frozen? ⟨w.heap.size + 1, o, none⟩ = false := fun o => by
        rw [hb2.frozen (p := ⟨w.heap.size + 1, o, none⟩) (show w.heap.size + 1 < _ by (try simp) <;> (try omega))]
        first | exact rf1 o | (simp [go_sem]; done) | (rw [((Below.refl _ _).alloc (Nat.le_refl _) _ : Below _ _ _).frozen (p := ⟨w.heap.size + 1, o, none⟩) (show w.heap.size + 1 < _ by omega)]; exact rf1 o)
      have rl2 : w.heap.size + 1 < w2.heap.size := by omega
      have u2_0 : w2.cell? ⟨w.heap.size + 1 + 1, 0, none⟩ = some (.string ⟨#[]⟩) := by
        rw [hb2.cell (p := ⟨w.heap.size + 1 + 1, 0, none⟩) (show w.heap.size + 1 + 1 < _ by (try simp) <;> (try omega))]
        first | assumption | (simp [go_sem, *])
      have u2_1 : w2.cell? ⟨w.heap.size + 1 + 1, 1, none⟩ = some (.int .i64 0) := by
        rw [hb2.cell (p := ⟨w.heap.size + 1 + 1, 1, none⟩) (show w.heap.size + 1 + 1 < _ by (try simp) <;> (try omega))]
        first | assumption | (simp [go_sem, *])
      have uf2 : ∀ o, w2.frozen? ⟨w.heap.size + 1 + 1, o, none⟩ = false := fun o => by
        rw [hb2.frozen (p := ⟨w.heap.size + 1 + 1, o, none⟩) (show w.heap.size + 1 + 1 < _ by (try simp) <;> (try omega))]
        first | exact uf1 o | (simp [go_sem]; done) | (rw [((Below.refl _ _).alloc (Nat.le_refl _) _ : Below _ _ _).frozen (p := ⟨w.heap.size + 1 + 1, o, none⟩) (show w.heap.size + 1 + 1 < _ by omega)]; exact uf1 o)
      have ul2 : w.heap.size + 1 + 1 < w2.heap.size := by omega
      have mr_0 : ∀ x y, ((w2.alloc x).alloc y).cell? ⟨w.heap.size + 1, 0, none⟩ = some (.int .i64 0) := fun x y => by
        rw [World.cell?_alloc_lt _ _ _ (by show w.heap.size + 1 < _; rw [World.size_alloc]; omega), World.cell?_alloc_lt _ _ _ (by show w.heap.size + 1 < _; omega)]
        exact r2_0
      have mr_1 : ∀ x y, ((w2.alloc x).alloc y).cell? ⟨w.heap.size + 1, 1, none⟩ = some (.int .i64 0) := fun x y => by
        rw [World.cell?_alloc_lt _ _ _ (by show w.heap.size + 1 < _; rw [World.size_alloc]; omega), World.cell?_alloc_lt _ _ _ (by show w.heap.size + 1 < _; omega)]
        exact r2_1
      have mr_2 : ∀ x y, ((w2.alloc x).alloc y).cell? ⟨w.heap.size + 1, 2, none⟩ = some (.slice none 0 0) := fun x y => by
        rw [World.cell?_alloc_lt _ _ _ (by show w.heap.size + 1 < _; rw [World.size_alloc]; omega), World.cell?_alloc_lt _ _ _ (by show w.heap.size + 1 < _; omega)]
        exact r2_2
      have mrf : ∀ x y o, ((w2.alloc x).alloc y).frozen? ⟨w.heap.size + 1, o, none⟩ = false := fun x y o => by
        rw [((Below.refl _ _).alloc (Nat.le_refl _) _ : Below _ _ _).frozen (p := ⟨w.heap.size + 1, o, none⟩) (by show w.heap.size + 1 < _; rw [World.size_alloc]; omega), ((Below.refl _ _).alloc (Nat.le_refl _) _ : Below _ _ _).frozen (p := ⟨w.heap.size + 1, o, none⟩) (by show w.heap.size + 1 < _; omega)]
        exact rf2 o
      have mu_0 : ∀ x y, ((w2.alloc x).alloc y).cell? ⟨w.heap.size + 1 + 1, 0, none⟩ = some (.string ⟨#[]⟩) := fun x y => by
        rw [World.cell?_alloc_lt _ _ _ (by show w.heap.size + 1 + 1 < _; rw [World.size_alloc]; omega), World.cell?_alloc_lt _ _ _ (by show w.heap.size + 1 + 1 < _; omega)]
        exact u2_0
      have mu_1 : ∀ x y, ((w2.alloc x).alloc y).cell? ⟨w.heap.size + 1 + 1, 1, none⟩ = some (.int .i64 0) := fun x y => by
        rw [World.cell?_alloc_lt _ _ _ (by show w.heap.size + 1 + 1 < _; rw [World.size_alloc]; omega), World.cell?_alloc_lt _ _ _ (by show w.heap.size + 1 + 1 < _; omega)]
        exact u2_1
      have muf : ∀ x y o, ((w2.alloc x).alloc y).frozen? ⟨w.heap.size + 1 + 1, o, none⟩ = false := fun x y o => by
        rw [((Below.refl _ _).alloc (Nat.le_refl _) _ : Below _ _ _).frozen (p := ⟨w.heap.size + 1 + 1, o, none⟩) (by show w.heap.size + 1 + 1 < _; rw [World.size_alloc]; omega), ((Below.refl _ _).alloc (Nat.le_refl _) _ : Below _ _ _).frozen (p := ⟨w.heap.size + 1 + 1, o, none⟩) (by show w.heap.size + 1 + 1 < _; omega)]
        exact uf2 o
      clear hx2
      go_wp2_with fail
      refine bodyPost_ret (v := .tuple #[.agg #[.int .i64 0, .int .i64 0, .slice none 0 0], .agg #[.string ⟨#[]⟩, .int .i64 0], .int .i64 c]) (by simp [results, Try.results29, go_sem, mr_0, mr_1, mr_2, mu_0, mu_1, mrf, muf, r2_0, r2_1, r2_2, u2_0, u2_1, rf2, uf2, rl2, ul2]) rfl ?_
      rw [hcd2.out]
      refine ⟨none, 0, rfl, (FreshIn.nil _ _ _ _ 0 _).1, ?_⟩
      repeat (first | (with_reducible exact HB2.out) | (with_reducible refine Below.setCell ?_ ?_ _; rotate_left; ((try simp) <;> (try omega))) | (with_reducible refine Below.alloc ?_ ?_ _; rotate_left; ((try simp) <;> (try omega))) | (with_reducible refine Below.drew ?_))
end Go.Proofs.Ytmdjcoeijlnloaa
