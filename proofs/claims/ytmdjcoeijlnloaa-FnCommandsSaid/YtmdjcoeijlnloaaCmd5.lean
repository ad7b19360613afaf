/- A command read from bytes: impl.readCommand, spec.l06Read. No conditions but sizes. -/
import Derived.Test.YtmdjcoeijlnloaaCmd2
import Derived.Test.YtmdjcoeijlnloaaCmd4
import Derived.Deep.RegionHeld3
namespace Go.Proofs.Ytmdjcoeijlnloaa
set_option linter.unusedVariables false
set_option linter.unusedSimpArgs false
open Go.RowKit
/-- What reading a command gives. -/
def RdCmd (l : List UInt8) (w : World) (e : Ending) (w' : World) : Prop :=
  ∃ (k cl sq pn n ep : Int) (rw : Bool) (nm dt : ByteArray) (ok : Bool), e = .returned (.tuple #[.agg #[.int .i64 k, .int .i64 cl, .int .i64 sq, .int .i64 pn, .int .i64 n, .int .i64 ep, .bool rw, .string nm, .string dt], .bool ok]) ∧ nm.size ≤ 1048576 ∧ dt.size ≤ 1048576 ∧ (ok = true → CmdIs l k cl sq pn n ep rw nm dt) ∧ (ok = false → ∀ k' cl' sq' pn' n' ep' rw' nm' dt', ¬ CmdIs l k' cl' sq' pn' n' ep' rw' nm' dt') ∧ Below w.heap.size w w'
def NoCmd (l : List UInt8) : Prop := ∀ k' cl' sq' pn' n' ep' rw' nm' dt', ¬ CmdIs l k' cl' sq' pn' n' ep' rw' nm' dt'
theorem NoCmd.none {l : List UInt8} (h : rdAll l = none) : NoCmd l := fun _ _ _ _ _ _ _ _ _ hc => by
  have := hc.read
  rw [h] at this
  cases this
theorem NoCmd.fields {l : List UInt8} {F : List ByteArray} (h : rdAll l = some F) (hF : F.length ≠ 3) : NoCmd l := fun _ _ _ _ _ _ _ _ _ hc => by
  have := hc.read
  rw [h] at this
  cases this
  exact hF rfl
theorem NoCmd.size {l : List UInt8} {f0 f1 f2 : ByteArray} (h : rdAll l = some [f0, f1, f2]) (hF : f0.size ≠ 21) : NoCmd l := fun _ _ _ _ _ _ _ _ _ hc => by
  have h2 : rdAll l = some [strOf f0.data.toList, f1, f2] := by rw [h]; rfl
  have := (hc.from h2).1
  exact hF this
theorem NoCmd.not {l l0 : List UInt8} {f1 f2 : ByteArray} (h : rdAll l = some [strOf l0, f1, f2]) (hn : ¬ CmdIs l (nAt l0 0) (nAt l0 1) (nAt l0 2) (nAt l0 3) (nAt l0 4 - 1000) (nAt l0 5) (decide (nAt l0 6 = 1)) f1 f2) : NoCmd l := fun _ _ _ _ _ _ _ _ _ hc => by
  obtain ⟨_, rfl, rfl, rfl, rfl, rfl, rfl, rfl, rfl, rfl, _⟩ := hc.from h
  exact hn hc
theorem NoCmd.six {l l0 : List UInt8} {f1 f2 : ByteArray} (h : rdAll l = some [strOf l0, f1, f2]) (hn : inB (nAt l0 6) 0 1 = false) : NoCmd l := fun _ _ _ _ _ _ _ _ _ hc => by
  obtain ⟨_, _, _, _, _, _, _, _, _, _, h6⟩ := hc.from h
  simp [inB] at hn
  omega
theorem strOf_eqb {a b : List UInt8} (h : ¬ a = b) : ((strOf a).toList == (strOf b).toList) = false := by
  rw [strOf_toL, strOf_toL]
  simpa using h
set_option maxRecDepth 100000 in
set_option maxHeartbeats 16000000 in
theorem readCommand_c (l : List UInt8) (w : World) (hl : l.length ≤ 65536) :
    Calls Try.prog 87 #[.string (strOf l)] w (RdCmd l w) := by
  cases ho : rdAll l with
  | none =>
    have HNO := Lib.hid (NoCmd.none ho)
    have HO := Lib.hid ho
    clear ho
    go_enter Try.func87, Try.ntmps87
    go_wp2_with fail
    refine (readFields_c l _ hl).mono ?_
    rw [HO.out]
    rintro e w1 ⟨aF, cF, F, rfl, hfF, hF, hb1⟩
    have hz1 := hb1.size
    simp only [World.size_alloc] at hz1
    have hH1 : w.heap.size < w1.heap.size := by omega
    have z1_0 : w1.cell? ⟨w.heap.size, 0, none⟩ = some (.int .i64 0) := (hb1.cell (p := ⟨w.heap.size, 0, none⟩) (by show w.heap.size < _; simp)).trans (by simp [go_sem])
    have z1_1 : w1.cell? ⟨w.heap.size, 1, none⟩ = some (.int .i64 0) := (hb1.cell (p := ⟨w.heap.size, 1, none⟩) (by show w.heap.size < _; simp)).trans (by simp [go_sem])
    have z1_2 : w1.cell? ⟨w.heap.size, 2, none⟩ = some (.int .i64 0) := (hb1.cell (p := ⟨w.heap.size, 2, none⟩) (by show w.heap.size < _; simp)).trans (by simp [go_sem])
    have z1_3 : w1.cell? ⟨w.heap.size, 3, none⟩ = some (.int .i64 0) := (hb1.cell (p := ⟨w.heap.size, 3, none⟩) (by show w.heap.size < _; simp)).trans (by simp [go_sem])
    have z1_4 : w1.cell? ⟨w.heap.size, 4, none⟩ = some (.int .i64 0) := (hb1.cell (p := ⟨w.heap.size, 4, none⟩) (by show w.heap.size < _; simp)).trans (by simp [go_sem])
    have z1_5 : w1.cell? ⟨w.heap.size, 5, none⟩ = some (.int .i64 0) := (hb1.cell (p := ⟨w.heap.size, 5, none⟩) (by show w.heap.size < _; simp)).trans (by simp [go_sem])
    have z1_6 : w1.cell? ⟨w.heap.size, 6, none⟩ = some (.bool false) := (hb1.cell (p := ⟨w.heap.size, 6, none⟩) (by show w.heap.size < _; simp)).trans (by simp [go_sem])
    have z1_7 : w1.cell? ⟨w.heap.size, 7, none⟩ = some (.string ⟨#[]⟩) := (hb1.cell (p := ⟨w.heap.size, 7, none⟩) (by show w.heap.size < _; simp)).trans (by simp [go_sem])
    have z1_8 : w1.cell? ⟨w.heap.size, 8, none⟩ = some (.string ⟨#[]⟩) := (hb1.cell (p := ⟨w.heap.size, 8, none⟩) (by show w.heap.size < _; simp)).trans (by simp [go_sem])
    have zf1 : ∀ o, w1.frozen? ⟨w.heap.size, o, none⟩ = false := fun o => (hb1.frozen (p := ⟨w.heap.size, o, none⟩) (by show w.heap.size < _; simp)).trans (by simp [go_sem])
    have HB1 : Hid (Below w.heap.size w w1) := ((Below.refl _ _).alloc (Nat.le_refl _) _).trans (hb1.mono (by simp))
    clear hfF hF hb1
    go_wp2_with fail
    refine bodyPost_ret (v := .tuple #[.agg #[.int .i64 0, .int .i64 0, .int .i64 0, .int .i64 0, .int .i64 0, .int .i64 0, .bool false, .string ⟨#[]⟩, .string ⟨#[]⟩], .bool false]) (by simp [results, Try.results87, go_sem, z1_0, z1_1, z1_2, z1_3, z1_4, z1_5, z1_6, z1_7, z1_8, zf1]) rfl ?_
    exact ⟨0, 0, 0, 0, 0, 0, false, ⟨#[]⟩, ⟨#[]⟩, false, rfl, Nat.zero_le _, Nat.zero_le _, (fun h => by cases h), (fun _ => HNO.out), (((((((((HB1.out.setCell (by simp) _).setCell (by simp) _).setCell (by simp) _).setCell (by simp) _).setCell (by simp) _).setCell (by simp) _).setCell (by simp) _).setCell (by simp) _).setCell (by simp) _)⟩
  | some F0 =>
    by_cases h3 : F0.length = 3
    rotate_left
    · have HNO := Lib.hid (NoCmd.fields ho h3)
      have HO := Lib.hid ho
      have H3 := Lib.hid h3
      clear ho h3
      go_enter Try.func87, Try.ntmps87
      go_wp2_with fail
      refine (readFields_c l _ hl).mono ?_
      rw [HO.out]
      rintro e w1 ⟨aF, cF, F, rfl, hfF, hF, hb1⟩
      have hz1 := hb1.size
      simp only [World.size_alloc] at hz1
      have hH1 : w.heap.size < w1.heap.size := by omega
      have z1_0 : w1.cell? ⟨w.heap.size, 0, none⟩ = some (.int .i64 0) := (hb1.cell (p := ⟨w.heap.size, 0, none⟩) (by show w.heap.size < _; simp)).trans (by simp [go_sem])
      have z1_1 : w1.cell? ⟨w.heap.size, 1, none⟩ = some (.int .i64 0) := (hb1.cell (p := ⟨w.heap.size, 1, none⟩) (by show w.heap.size < _; simp)).trans (by simp [go_sem])
      have z1_2 : w1.cell? ⟨w.heap.size, 2, none⟩ = some (.int .i64 0) := (hb1.cell (p := ⟨w.heap.size, 2, none⟩) (by show w.heap.size < _; simp)).trans (by simp [go_sem])
      have z1_3 : w1.cell? ⟨w.heap.size, 3, none⟩ = some (.int .i64 0) := (hb1.cell (p := ⟨w.heap.size, 3, none⟩) (by show w.heap.size < _; simp)).trans (by simp [go_sem])
      have z1_4 : w1.cell? ⟨w.heap.size, 4, none⟩ = some (.int .i64 0) := (hb1.cell (p := ⟨w.heap.size, 4, none⟩) (by show w.heap.size < _; simp)).trans (by simp [go_sem])
      have z1_5 : w1.cell? ⟨w.heap.size, 5, none⟩ = some (.int .i64 0) := (hb1.cell (p := ⟨w.heap.size, 5, none⟩) (by show w.heap.size < _; simp)).trans (by simp [go_sem])
      have z1_6 : w1.cell? ⟨w.heap.size, 6, none⟩ = some (.bool false) := (hb1.cell (p := ⟨w.heap.size, 6, none⟩) (by show w.heap.size < _; simp)).trans (by simp [go_sem])
      have z1_7 : w1.cell? ⟨w.heap.size, 7, none⟩ = some (.string ⟨#[]⟩) := (hb1.cell (p := ⟨w.heap.size, 7, none⟩) (by show w.heap.size < _; simp)).trans (by simp [go_sem])
      have z1_8 : w1.cell? ⟨w.heap.size, 8, none⟩ = some (.string ⟨#[]⟩) := (hb1.cell (p := ⟨w.heap.size, 8, none⟩) (by show w.heap.size < _; simp)).trans (by simp [go_sem])
      have zf1 : ∀ o, w1.frozen? ⟨w.heap.size, o, none⟩ = false := fun o => (hb1.frozen (p := ⟨w.heap.size, o, none⟩) (by show w.heap.size < _; simp)).trans (by simp [go_sem])
      have HB1 : Hid (Below w.heap.size w w1) := ((Below.refl _ _).alloc (Nat.le_refl _) _).trans (hb1.mono (by simp))
      have h3 : ¬ (F.length : Int) = 3 := by
        rw [hF F0 rfl]
        have := H3.out
        omega
      have h3b : ((F.length : Int) == 3) = false := by simpa using h3
      have h3c : ¬ F.length = 3 := by omega
      clear hfF hF hb1
      go_wp2_with fail
      refine bodyPost_ret (v := .tuple #[.agg #[.int .i64 0, .int .i64 0, .int .i64 0, .int .i64 0, .int .i64 0, .int .i64 0, .bool false, .string ⟨#[]⟩, .string ⟨#[]⟩], .bool false]) (by simp [results, Try.results87, go_sem, z1_0, z1_1, z1_2, z1_3, z1_4, z1_5, z1_6, z1_7, z1_8, zf1]) rfl ?_
      exact ⟨0, 0, 0, 0, 0, 0, false, ⟨#[]⟩, ⟨#[]⟩, false, rfl, Nat.zero_le _, Nat.zero_le _, (fun h => by cases h), (fun _ => HNO.out), (((((((((HB1.out.setCell (by simp) _).setCell (by simp) _).setCell (by simp) _).setCell (by simp) _).setCell (by simp) _).setCell (by simp) _).setCell (by simp) _).setCell (by simp) _).setCell (by simp) _)⟩
    obtain ⟨f0, f1, f2, rfl⟩ : ∃ f0 f1 f2, F0 = [f0, f1, f2] := by
      match F0, h3 with
      | [a, b, c], _ => exact ⟨a, b, c, rfl⟩
    clear h3
    have HFZ := rdAll_size l _ ho
    have s0 : f0.size ≤ 65536 := by have := HFZ f0 (by simp); omega
    have s1 : f1.size ≤ 65536 := by have := HFZ f1 (by simp); omega
    have s2 : f2.size ≤ 65536 := by have := HFZ f2 (by simp); omega
    clear HFZ
    obtain ⟨l0, rfl⟩ : ∃ l0, f0 = strOf l0 := ⟨f0.data.toList, rfl⟩
    have HO := Lib.hid ho
    clear ho
    have s0' : l0.length ≤ 65536 := s0
    by_cases h21 : l0.length = 21
    rotate_left
    · have HNO : Hid (NoCmd l) := Lib.hid (NoCmd.size HO.out (by rw [strOf_size]; exact h21))
      have HSN : Hid (∀ w', Calls Try.prog 132 #[.string (strOf l0), .int .i64 7] w' (NumsR none w')) := Lib.hid (fun w' => by
        have h := someNumbers_c l0 7 w' (by omega) (by decide)
        rw [show someN l0 7 = none by rw [someN, if_neg (by omega)]] at h
        exact h)
      clear h21
      go_enter Try.func87, Try.ntmps87
      go_wp2_with fail
      refine (readFields_c l _ hl).mono ?_
      rw [HO.out]
      rintro e w1 ⟨aF, cF, F, rfl, hfF, hF, hb1⟩
      have hz1 := hb1.size
      simp only [World.size_alloc] at hz1
      have hH1 : w.heap.size < w1.heap.size := by omega
      have z1_0 : w1.cell? ⟨w.heap.size, 0, none⟩ = some (.int .i64 0) := (hb1.cell (p := ⟨w.heap.size, 0, none⟩) (by show w.heap.size < _; simp)).trans (by simp [go_sem])
      have z1_1 : w1.cell? ⟨w.heap.size, 1, none⟩ = some (.int .i64 0) := (hb1.cell (p := ⟨w.heap.size, 1, none⟩) (by show w.heap.size < _; simp)).trans (by simp [go_sem])
      have z1_2 : w1.cell? ⟨w.heap.size, 2, none⟩ = some (.int .i64 0) := (hb1.cell (p := ⟨w.heap.size, 2, none⟩) (by show w.heap.size < _; simp)).trans (by simp [go_sem])
      have z1_3 : w1.cell? ⟨w.heap.size, 3, none⟩ = some (.int .i64 0) := (hb1.cell (p := ⟨w.heap.size, 3, none⟩) (by show w.heap.size < _; simp)).trans (by simp [go_sem])
      have z1_4 : w1.cell? ⟨w.heap.size, 4, none⟩ = some (.int .i64 0) := (hb1.cell (p := ⟨w.heap.size, 4, none⟩) (by show w.heap.size < _; simp)).trans (by simp [go_sem])
      have z1_5 : w1.cell? ⟨w.heap.size, 5, none⟩ = some (.int .i64 0) := (hb1.cell (p := ⟨w.heap.size, 5, none⟩) (by show w.heap.size < _; simp)).trans (by simp [go_sem])
      have z1_6 : w1.cell? ⟨w.heap.size, 6, none⟩ = some (.bool false) := (hb1.cell (p := ⟨w.heap.size, 6, none⟩) (by show w.heap.size < _; simp)).trans (by simp [go_sem])
      have z1_7 : w1.cell? ⟨w.heap.size, 7, none⟩ = some (.string ⟨#[]⟩) := (hb1.cell (p := ⟨w.heap.size, 7, none⟩) (by show w.heap.size < _; simp)).trans (by simp [go_sem])
      have z1_8 : w1.cell? ⟨w.heap.size, 8, none⟩ = some (.string ⟨#[]⟩) := (hb1.cell (p := ⟨w.heap.size, 8, none⟩) (by show w.heap.size < _; simp)).trans (by simp [go_sem])
      have zf1 : ∀ o, w1.frozen? ⟨w.heap.size, o, none⟩ = false := fun o => (hb1.frozen (p := ⟨w.heap.size, o, none⟩) (by show w.heap.size < _; simp)).trans (by simp [go_sem])
      have HB1 : Hid (Below w.heap.size w w1) := ((Below.refl _ _).alloc (Nat.le_refl _) _).trans (hb1.mono (by simp))
      have hF' := hF _ rfl
      have hSF : Sl strE 1 w1 aF F := hfF.sl (fun _ => rfl)
      rw [hF'] at hSF
      have hnF : F.length = 3 := by rw [hF']; rfl
      clear hfF hF hF'
      generalize F.length = nF at *
      subst hnF
      obtain ⟨bF, oF, rfl, hbF, hcF⟩ := hSF.at (i := 0) (by simp)
      have d1_0 : w1.cell? ⟨bF, oF, none⟩ = some (.string (strOf l0)) := by
        have := hcF 0 (by simp) 0 (by omega)
        simpa [strE] using this
      have d1_1 : w1.cell? ⟨bF, oF + 1, none⟩ = some (.string f1) := by
        have := hcF 1 (by simp) 0 (by omega)
        simpa [strE] using this
      have d1_2 : w1.cell? ⟨bF, oF + 2, none⟩ = some (.string f2) := by
        have := hcF 2 (by simp) 0 (by omega)
        simpa [strE] using this
      clear hcF hSF hb1
      go_wp2_with fail
      refine (HSN.out _).mono ?_
      rintro e w2 ⟨aN, cN, L, rfl, hfN, hN, hb2⟩
      have hz2 := hb2.size
      have hH2 : w.heap.size < w2.heap.size := by omega
      have z2_0 : w2.cell? ⟨w.heap.size, 0, none⟩ = some (.int .i64 0) := (hb2.cell (p := ⟨w.heap.size, 0, none⟩) (by show w.heap.size < w1.heap.size; omega)).trans z1_0
      have z2_1 : w2.cell? ⟨w.heap.size, 1, none⟩ = some (.int .i64 0) := (hb2.cell (p := ⟨w.heap.size, 1, none⟩) (by show w.heap.size < w1.heap.size; omega)).trans z1_1
      have z2_2 : w2.cell? ⟨w.heap.size, 2, none⟩ = some (.int .i64 0) := (hb2.cell (p := ⟨w.heap.size, 2, none⟩) (by show w.heap.size < w1.heap.size; omega)).trans z1_2
      have z2_3 : w2.cell? ⟨w.heap.size, 3, none⟩ = some (.int .i64 0) := (hb2.cell (p := ⟨w.heap.size, 3, none⟩) (by show w.heap.size < w1.heap.size; omega)).trans z1_3
      have z2_4 : w2.cell? ⟨w.heap.size, 4, none⟩ = some (.int .i64 0) := (hb2.cell (p := ⟨w.heap.size, 4, none⟩) (by show w.heap.size < w1.heap.size; omega)).trans z1_4
      have z2_5 : w2.cell? ⟨w.heap.size, 5, none⟩ = some (.int .i64 0) := (hb2.cell (p := ⟨w.heap.size, 5, none⟩) (by show w.heap.size < w1.heap.size; omega)).trans z1_5
      have z2_6 : w2.cell? ⟨w.heap.size, 6, none⟩ = some (.bool false) := (hb2.cell (p := ⟨w.heap.size, 6, none⟩) (by show w.heap.size < w1.heap.size; omega)).trans z1_6
      have z2_7 : w2.cell? ⟨w.heap.size, 7, none⟩ = some (.string ⟨#[]⟩) := (hb2.cell (p := ⟨w.heap.size, 7, none⟩) (by show w.heap.size < w1.heap.size; omega)).trans z1_7
      have z2_8 : w2.cell? ⟨w.heap.size, 8, none⟩ = some (.string ⟨#[]⟩) := (hb2.cell (p := ⟨w.heap.size, 8, none⟩) (by show w.heap.size < w1.heap.size; omega)).trans z1_8
      have zf2 : ∀ o, w2.frozen? ⟨w.heap.size, o, none⟩ = false := fun o => (hb2.frozen (p := ⟨w.heap.size, o, none⟩) (by show w.heap.size < w1.heap.size; omega)).trans (zf1 o)
      have d2_1 : w2.cell? ⟨bF, oF + 1, none⟩ = some (.string f1) := (hb2.cell (p := ⟨bF, oF + 1, none⟩) hbF).trans d1_1
      have d2_2 : w2.cell? ⟨bF, oF + 2, none⟩ = some (.string f2) := (hb2.cell (p := ⟨bF, oF + 2, none⟩) hbF).trans d1_2
      have hbF2 : bF < w2.heap.size := by omega
      have HB2 : Hid (Below w.heap.size w w2) := HB1.out.trans (hb2.mono (by omega))
      clear z1_0 z1_1 z1_2 z1_3 z1_4 z1_5 z1_6 z1_7 z1_8 zf1 d1_0 d1_1 d1_2
      clear hfN hN hb2
      go_wp2_with fail
      refine bodyPost_ret (v := .tuple #[.agg #[.int .i64 0, .int .i64 0, .int .i64 0, .int .i64 0, .int .i64 0, .int .i64 0, .bool false, .string ⟨#[]⟩, .string ⟨#[]⟩], .bool false]) (by simp [results, Try.results87, go_sem, z2_0, z2_1, z2_2, z2_3, z2_4, z2_5, z2_6, z2_7, z2_8, zf2]) rfl ?_
      exact ⟨0, 0, 0, 0, 0, 0, false, ⟨#[]⟩, ⟨#[]⟩, false, rfl, Nat.zero_le _, Nat.zero_le _, (fun h => by cases h), (fun _ => HNO.out), (((((((((HB2.out.setCell (by simp) _).setCell (by simp) _).setCell (by simp) _).setCell (by simp) _).setCell (by simp) _).setCell (by simp) _).setCell (by simp) _).setCell (by simp) _).setCell (by simp) _)⟩
    have HOK := Lib.hid HO.out
    have HSN : Hid (∀ w', Calls Try.prog 132 #[.string (strOf l0), .int .i64 7] w' (NumsR (some [nAt l0 0, nAt l0 1, nAt l0 2, nAt l0 3, nAt l0 4, nAt l0 5, nAt l0 6]) w')) := Lib.hid (fun w' => by
      have h := someNumbers_c l0 7 w' (by omega) (by decide)
      rw [show someN l0 7 = some [nAt l0 0, nAt l0 1, nAt l0 2, nAt l0 3, nAt l0 4, nAt l0 5, nAt l0 6] by rw [someN, if_pos (by omega), rnF_seven]] at h
      exact h)
    have HNOT := Lib.hid (fun hn => NoCmd.not HO.out hn)
    have HSIX := Lib.hid (fun hn => NoCmd.six HO.out hn)
    have HENC := Lib.hid (fun h6 => cmd_enc HO.out h21 h6)
    have hB4 := nAt_bound l0 4
    have ew : IntKind.i64.wrap (nAt l0 4 - 1000) = nAt l0 4 - 1000 := IntWalk.i64_in _ ⟨by omega, by omega⟩
    generalize nAt l0 0 = x0 at *
    generalize nAt l0 1 = x1 at *
    generalize nAt l0 2 = x2 at *
    generalize nAt l0 3 = x3 at *
    generalize nAt l0 4 = x4 at *
    generalize nAt l0 5 = x5 at *
    generalize nAt l0 6 = x6 at *
    clear h21 hB4
    by_cases h6 : x6 = 1
    all_goals
      first | (have h6a : (x6 == 1) = true := by simpa using h6) | (have h6a : (x6 == 1) = false := by simpa using h6)
    · have HB6 : Hid (decide (x6 = 1) = true) := Lib.hid (by simp [h6])
      rw [HB6.out] at HNOT HENC
      have H6 := Lib.hid h6
      have h6b : decide (x6 = 1) = true := HB6.out
      clear h6
      go_enter Try.func87, Try.ntmps87
      go_wp2_with fail
      refine (readFields_c l _ hl).mono ?_
      rw [HO.out]
      rintro e w1 ⟨aF, cF, F, rfl, hfF, hF, hb1⟩
      have hz1 := hb1.size
      simp only [World.size_alloc] at hz1
      have hH1 : w.heap.size < w1.heap.size := by omega
      have z1_0 : w1.cell? ⟨w.heap.size, 0, none⟩ = some (.int .i64 0) := (hb1.cell (p := ⟨w.heap.size, 0, none⟩) (by show w.heap.size < _; simp)).trans (by simp [go_sem])
      have z1_1 : w1.cell? ⟨w.heap.size, 1, none⟩ = some (.int .i64 0) := (hb1.cell (p := ⟨w.heap.size, 1, none⟩) (by show w.heap.size < _; simp)).trans (by simp [go_sem])
      have z1_2 : w1.cell? ⟨w.heap.size, 2, none⟩ = some (.int .i64 0) := (hb1.cell (p := ⟨w.heap.size, 2, none⟩) (by show w.heap.size < _; simp)).trans (by simp [go_sem])
      have z1_3 : w1.cell? ⟨w.heap.size, 3, none⟩ = some (.int .i64 0) := (hb1.cell (p := ⟨w.heap.size, 3, none⟩) (by show w.heap.size < _; simp)).trans (by simp [go_sem])
      have z1_4 : w1.cell? ⟨w.heap.size, 4, none⟩ = some (.int .i64 0) := (hb1.cell (p := ⟨w.heap.size, 4, none⟩) (by show w.heap.size < _; simp)).trans (by simp [go_sem])
      have z1_5 : w1.cell? ⟨w.heap.size, 5, none⟩ = some (.int .i64 0) := (hb1.cell (p := ⟨w.heap.size, 5, none⟩) (by show w.heap.size < _; simp)).trans (by simp [go_sem])
      have z1_6 : w1.cell? ⟨w.heap.size, 6, none⟩ = some (.bool false) := (hb1.cell (p := ⟨w.heap.size, 6, none⟩) (by show w.heap.size < _; simp)).trans (by simp [go_sem])
      have z1_7 : w1.cell? ⟨w.heap.size, 7, none⟩ = some (.string ⟨#[]⟩) := (hb1.cell (p := ⟨w.heap.size, 7, none⟩) (by show w.heap.size < _; simp)).trans (by simp [go_sem])
      have z1_8 : w1.cell? ⟨w.heap.size, 8, none⟩ = some (.string ⟨#[]⟩) := (hb1.cell (p := ⟨w.heap.size, 8, none⟩) (by show w.heap.size < _; simp)).trans (by simp [go_sem])
      have zf1 : ∀ o, w1.frozen? ⟨w.heap.size, o, none⟩ = false := fun o => (hb1.frozen (p := ⟨w.heap.size, o, none⟩) (by show w.heap.size < _; simp)).trans (by simp [go_sem])
      have HB1 : Hid (Below w.heap.size w w1) := ((Below.refl _ _).alloc (Nat.le_refl _) _).trans (hb1.mono (by simp))
      have hF' := hF _ rfl
      have hSF : Sl strE 1 w1 aF F := hfF.sl (fun _ => rfl)
      rw [hF'] at hSF
      have hnF : F.length = 3 := by rw [hF']; rfl
      clear hfF hF hF'
      generalize F.length = nF at *
      subst hnF
      obtain ⟨bF, oF, rfl, hbF, hcF⟩ := hSF.at (i := 0) (by simp)
      have d1_0 : w1.cell? ⟨bF, oF, none⟩ = some (.string (strOf l0)) := by
        have := hcF 0 (by simp) 0 (by omega)
        simpa [strE] using this
      have d1_1 : w1.cell? ⟨bF, oF + 1, none⟩ = some (.string f1) := by
        have := hcF 1 (by simp) 0 (by omega)
        simpa [strE] using this
      have d1_2 : w1.cell? ⟨bF, oF + 2, none⟩ = some (.string f2) := by
        have := hcF 2 (by simp) 0 (by omega)
        simpa [strE] using this
      clear hcF hSF hb1
      go_wp2_with fail
      refine (HSN.out _).mono ?_
      rintro e w2 ⟨aN, cN, L, rfl, hfN, hN, hb2⟩
      have hz2 := hb2.size
      have hH2 : w.heap.size < w2.heap.size := by omega
      have z2_0 : w2.cell? ⟨w.heap.size, 0, none⟩ = some (.int .i64 0) := (hb2.cell (p := ⟨w.heap.size, 0, none⟩) (by show w.heap.size < w1.heap.size; omega)).trans z1_0
      have z2_1 : w2.cell? ⟨w.heap.size, 1, none⟩ = some (.int .i64 0) := (hb2.cell (p := ⟨w.heap.size, 1, none⟩) (by show w.heap.size < w1.heap.size; omega)).trans z1_1
      have z2_2 : w2.cell? ⟨w.heap.size, 2, none⟩ = some (.int .i64 0) := (hb2.cell (p := ⟨w.heap.size, 2, none⟩) (by show w.heap.size < w1.heap.size; omega)).trans z1_2
      have z2_3 : w2.cell? ⟨w.heap.size, 3, none⟩ = some (.int .i64 0) := (hb2.cell (p := ⟨w.heap.size, 3, none⟩) (by show w.heap.size < w1.heap.size; omega)).trans z1_3
      have z2_4 : w2.cell? ⟨w.heap.size, 4, none⟩ = some (.int .i64 0) := (hb2.cell (p := ⟨w.heap.size, 4, none⟩) (by show w.heap.size < w1.heap.size; omega)).trans z1_4
      have z2_5 : w2.cell? ⟨w.heap.size, 5, none⟩ = some (.int .i64 0) := (hb2.cell (p := ⟨w.heap.size, 5, none⟩) (by show w.heap.size < w1.heap.size; omega)).trans z1_5
      have z2_6 : w2.cell? ⟨w.heap.size, 6, none⟩ = some (.bool false) := (hb2.cell (p := ⟨w.heap.size, 6, none⟩) (by show w.heap.size < w1.heap.size; omega)).trans z1_6
      have z2_7 : w2.cell? ⟨w.heap.size, 7, none⟩ = some (.string ⟨#[]⟩) := (hb2.cell (p := ⟨w.heap.size, 7, none⟩) (by show w.heap.size < w1.heap.size; omega)).trans z1_7
      have z2_8 : w2.cell? ⟨w.heap.size, 8, none⟩ = some (.string ⟨#[]⟩) := (hb2.cell (p := ⟨w.heap.size, 8, none⟩) (by show w.heap.size < w1.heap.size; omega)).trans z1_8
      have zf2 : ∀ o, w2.frozen? ⟨w.heap.size, o, none⟩ = false := fun o => (hb2.frozen (p := ⟨w.heap.size, o, none⟩) (by show w.heap.size < w1.heap.size; omega)).trans (zf1 o)
      have d2_1 : w2.cell? ⟨bF, oF + 1, none⟩ = some (.string f1) := (hb2.cell (p := ⟨bF, oF + 1, none⟩) hbF).trans d1_1
      have d2_2 : w2.cell? ⟨bF, oF + 2, none⟩ = some (.string f2) := (hb2.cell (p := ⟨bF, oF + 2, none⟩) hbF).trans d1_2
      have hbF2 : bF < w2.heap.size := by omega
      have HB2 : Hid (Below w.heap.size w w2) := HB1.out.trans (hb2.mono (by omega))
      clear z1_0 z1_1 z1_2 z1_3 z1_4 z1_5 z1_6 z1_7 z1_8 zf1 d1_0 d1_1 d1_2
      have hN' := hN _ rfl
      have hSN : Sl intE 1 w2 aN L := hfN.sl (fun _ => rfl)
      rw [hN'] at hSN
      have hnN : L.length = 7 := by rw [hN']; rfl
      clear hfN hN hN'
      generalize L.length = nN at *
      subst hnN
      obtain ⟨bN, oN, rfl, hbN, hcN⟩ := hSN.at (i := 0) (by simp)
      have m_0 : w2.cell? ⟨bN, oN, none⟩ = some (.int .i64 x0) := by
        have := hcN 0 (by simp) 0 (by omega)
        simpa [intE] using this
      have m_1 : w2.cell? ⟨bN, oN + 1, none⟩ = some (.int .i64 x1) := by
        have := hcN 1 (by simp) 0 (by omega)
        simpa [intE] using this
      have m_2 : w2.cell? ⟨bN, oN + 2, none⟩ = some (.int .i64 x2) := by
        have := hcN 2 (by simp) 0 (by omega)
        simpa [intE] using this
      have m_3 : w2.cell? ⟨bN, oN + 3, none⟩ = some (.int .i64 x3) := by
        have := hcN 3 (by simp) 0 (by omega)
        simpa [intE] using this
      have m_4 : w2.cell? ⟨bN, oN + 4, none⟩ = some (.int .i64 x4) := by
        have := hcN 4 (by simp) 0 (by omega)
        simpa [intE] using this
      have m_5 : w2.cell? ⟨bN, oN + 5, none⟩ = some (.int .i64 x5) := by
        have := hcN 5 (by simp) 0 (by omega)
        simpa [intE] using this
      have m_6 : w2.cell? ⟨bN, oN + 6, none⟩ = some (.int .i64 x6) := by
        have := hcN 6 (by simp) 0 (by omega)
        simpa [intE] using this
      clear hcN hSN hb2
      go_upto_region 7 with fail
      have hFn : ¬ bF = w2.heap.size := by omega
      have hNn : ¬ bN = w2.heap.size := by omega
      have ra : ∀ o b, b < w2.heap.size → ∀ x v, w2.cell? ⟨b, o, none⟩ = some v → (w2.alloc x).cell? ⟨b, o, none⟩ = some v := fun o b hb x v h => by
        rw [World.cell?_alloc_lt _ _ _ (by show b < _; omega)]
        exact h
      have RA := Lib.hid ra
      clear ra
      go_region_held3 (fun w' => w'.cell? ⟨bN, oN, none⟩ = some (.int .i64 x0) ∧ w'.cell? ⟨bN, oN + 1, none⟩ = some (.int .i64 x1) ∧ w'.cell? ⟨bN, oN + 2, none⟩ = some (.int .i64 x2) ∧ w'.cell? ⟨bN, oN + 3, none⟩ = some (.int .i64 x3) ∧ w'.cell? ⟨bN, oN + 4, none⟩ = some (.int .i64 x4) ∧ w'.cell? ⟨bN, oN + 5, none⟩ = some (.int .i64 x5) ∧ w'.cell? ⟨bN, oN + 6, none⟩ = some (.int .i64 x6) ∧ w'.cell? ⟨bF, oF + 1, none⟩ = some (.string f1) ∧ w'.cell? ⟨bF, oF + 2, none⟩ = some (.string f2))
        (first | ((repeat' apply And.intro) <;> (first | assumption | (simp only [World.cell?_drew]; assumption) | exact RA.out _ _ (by assumption) _ _ (by assumption) | (simp [go_sem, m_0, m_1, m_2, m_3, m_4, m_5, m_6, d2_1, d2_2, hFn, hNn, hbF2, hbN]; done))) | go_keep)
        (fail)
      all_goals
        go_upto_region 8 with fail
        have c_0 : ((w2.alloc (.cells #[.int .i64 x0, .int .i64 x1, .int .i64 x2, .int .i64 x3, .int .i64 (x4 - 1000), .int .i64 x5, .bool true, .string f1, .string f2] 58)).drew).cell? ⟨w2.heap.size, 0, none⟩ = some (.int .i64 x0) := by simp [go_sem]
        have c_1 : ((w2.alloc (.cells #[.int .i64 x0, .int .i64 x1, .int .i64 x2, .int .i64 x3, .int .i64 (x4 - 1000), .int .i64 x5, .bool true, .string f1, .string f2] 58)).drew).cell? ⟨w2.heap.size, 1, none⟩ = some (.int .i64 x1) := by simp [go_sem]
        have c_2 : ((w2.alloc (.cells #[.int .i64 x0, .int .i64 x1, .int .i64 x2, .int .i64 x3, .int .i64 (x4 - 1000), .int .i64 x5, .bool true, .string f1, .string f2] 58)).drew).cell? ⟨w2.heap.size, 2, none⟩ = some (.int .i64 x2) := by simp [go_sem]
        have c_3 : ((w2.alloc (.cells #[.int .i64 x0, .int .i64 x1, .int .i64 x2, .int .i64 x3, .int .i64 (x4 - 1000), .int .i64 x5, .bool true, .string f1, .string f2] 58)).drew).cell? ⟨w2.heap.size, 3, none⟩ = some (.int .i64 x3) := by simp [go_sem]
        have c_4 : ((w2.alloc (.cells #[.int .i64 x0, .int .i64 x1, .int .i64 x2, .int .i64 x3, .int .i64 (x4 - 1000), .int .i64 x5, .bool true, .string f1, .string f2] 58)).drew).cell? ⟨w2.heap.size, 4, none⟩ = some (.int .i64 (x4 - 1000)) := by simp [go_sem]
        have c_5 : ((w2.alloc (.cells #[.int .i64 x0, .int .i64 x1, .int .i64 x2, .int .i64 x3, .int .i64 (x4 - 1000), .int .i64 x5, .bool true, .string f1, .string f2] 58)).drew).cell? ⟨w2.heap.size, 5, none⟩ = some (.int .i64 x5) := by simp [go_sem]
        have c_6 : ((w2.alloc (.cells #[.int .i64 x0, .int .i64 x1, .int .i64 x2, .int .i64 x3, .int .i64 (x4 - 1000), .int .i64 x5, .bool true, .string f1, .string f2] 58)).drew).cell? ⟨w2.heap.size, 6, none⟩ = some (.bool true) := by simp [go_sem]
        have c_7 : ((w2.alloc (.cells #[.int .i64 x0, .int .i64 x1, .int .i64 x2, .int .i64 x3, .int .i64 (x4 - 1000), .int .i64 x5, .bool true, .string f1, .string f2] 58)).drew).cell? ⟨w2.heap.size, 7, none⟩ = some (.string f1) := by simp [go_sem]
        have c_8 : ((w2.alloc (.cells #[.int .i64 x0, .int .i64 x1, .int .i64 x2, .int .i64 x3, .int .i64 (x4 - 1000), .int .i64 x5, .bool true, .string f1, .string f2] 58)).drew).cell? ⟨w2.heap.size, 8, none⟩ = some (.string f2) := by simp [go_sem]
        have z_0 : ((w2.alloc (.cells #[.int .i64 x0, .int .i64 x1, .int .i64 x2, .int .i64 x3, .int .i64 (x4 - 1000), .int .i64 x5, .bool true, .string f1, .string f2] 58)).drew).cell? ⟨w.heap.size, 0, none⟩ = some (.int .i64 0) := (World.cell?_alloc_lt w2 _ _ (by show w.heap.size < _; omega)).trans z2_0
        have z_1 : ((w2.alloc (.cells #[.int .i64 x0, .int .i64 x1, .int .i64 x2, .int .i64 x3, .int .i64 (x4 - 1000), .int .i64 x5, .bool true, .string f1, .string f2] 58)).drew).cell? ⟨w.heap.size, 1, none⟩ = some (.int .i64 0) := (World.cell?_alloc_lt w2 _ _ (by show w.heap.size < _; omega)).trans z2_1
        have z_2 : ((w2.alloc (.cells #[.int .i64 x0, .int .i64 x1, .int .i64 x2, .int .i64 x3, .int .i64 (x4 - 1000), .int .i64 x5, .bool true, .string f1, .string f2] 58)).drew).cell? ⟨w.heap.size, 2, none⟩ = some (.int .i64 0) := (World.cell?_alloc_lt w2 _ _ (by show w.heap.size < _; omega)).trans z2_2
        have z_3 : ((w2.alloc (.cells #[.int .i64 x0, .int .i64 x1, .int .i64 x2, .int .i64 x3, .int .i64 (x4 - 1000), .int .i64 x5, .bool true, .string f1, .string f2] 58)).drew).cell? ⟨w.heap.size, 3, none⟩ = some (.int .i64 0) := (World.cell?_alloc_lt w2 _ _ (by show w.heap.size < _; omega)).trans z2_3
        have z_4 : ((w2.alloc (.cells #[.int .i64 x0, .int .i64 x1, .int .i64 x2, .int .i64 x3, .int .i64 (x4 - 1000), .int .i64 x5, .bool true, .string f1, .string f2] 58)).drew).cell? ⟨w.heap.size, 4, none⟩ = some (.int .i64 0) := (World.cell?_alloc_lt w2 _ _ (by show w.heap.size < _; omega)).trans z2_4
        have z_5 : ((w2.alloc (.cells #[.int .i64 x0, .int .i64 x1, .int .i64 x2, .int .i64 x3, .int .i64 (x4 - 1000), .int .i64 x5, .bool true, .string f1, .string f2] 58)).drew).cell? ⟨w.heap.size, 5, none⟩ = some (.int .i64 0) := (World.cell?_alloc_lt w2 _ _ (by show w.heap.size < _; omega)).trans z2_5
        have z_6 : ((w2.alloc (.cells #[.int .i64 x0, .int .i64 x1, .int .i64 x2, .int .i64 x3, .int .i64 (x4 - 1000), .int .i64 x5, .bool true, .string f1, .string f2] 58)).drew).cell? ⟨w.heap.size, 6, none⟩ = some (.bool false) := (World.cell?_alloc_lt w2 _ _ (by show w.heap.size < _; omega)).trans z2_6
        have z_7 : ((w2.alloc (.cells #[.int .i64 x0, .int .i64 x1, .int .i64 x2, .int .i64 x3, .int .i64 (x4 - 1000), .int .i64 x5, .bool true, .string f1, .string f2] 58)).drew).cell? ⟨w.heap.size, 7, none⟩ = some (.string ⟨#[]⟩) := (World.cell?_alloc_lt w2 _ _ (by show w.heap.size < _; omega)).trans z2_7
        have z_8 : ((w2.alloc (.cells #[.int .i64 x0, .int .i64 x1, .int .i64 x2, .int .i64 x3, .int .i64 (x4 - 1000), .int .i64 x5, .bool true, .string f1, .string f2] 58)).drew).cell? ⟨w.heap.size, 8, none⟩ = some (.string ⟨#[]⟩) := (World.cell?_alloc_lt w2 _ _ (by show w.heap.size < _; omega)).trans z2_8
        have zf : ∀ o, ((w2.alloc (.cells #[.int .i64 x0, .int .i64 x1, .int .i64 x2, .int .i64 x3, .int .i64 (x4 - 1000), .int .i64 x5, .bool true, .string f1, .string f2] 58)).drew).frozen? ⟨w.heap.size, o, none⟩ = false := fun o => (((Below.refl _ _).alloc (Nat.le_refl _) _ : Below _ _ _).frozen (p := ⟨w.heap.size, o, none⟩) (by show w.heap.size < _; omega)).trans (zf2 o)
        have HB3 : Hid (Below w.heap.size w ((w2.alloc (.cells #[.int .i64 x0, .int .i64 x1, .int .i64 x2, .int .i64 x3, .int .i64 (x4 - 1000), .int .i64 x5, .bool true, .string f1, .string f2] 58)).drew)) := (HB2.out.alloc (by omega) _).drew
        have hzw : w2.heap.size < ((w2.alloc (.cells #[.int .i64 x0, .int .i64 x1, .int .i64 x2, .int .i64 x3, .int .i64 (x4 - 1000), .int .i64 x5, .bool true, .string f1, .string f2] 58)).drew).heap.size := by simp
        generalize ((w2.alloc (.cells #[.int .i64 x0, .int .i64 x1, .int .i64 x2, .int .i64 x3, .int .i64 (x4 - 1000), .int .i64 x5, .bool true, .string f1, .string f2] 58)).drew) = w3 at *
        clear z2_0 z2_1 z2_2 z2_3 z2_4 z2_5 z2_6 z2_7 z2_8 zf2 m_0 m_1 m_2 m_3 m_4 m_5 m_6 d2_1 d2_2
        obtain ⟨ok, hok⟩ : ∃ ok, cmdOK x0 x1 x2 x3 (x4 - 1000) x5 true f1 f2 = ok := ⟨_, rfl⟩
        have HK := Lib.hid hok
        clear hok
        cases ok
        case false =>
          go_wp2_with fail
          refine (isCommand_c x0 x1 x2 x3 (x4 - 1000) x5 true f1 f2 _ (by omega) (by omega)).mono ?_
          rw [HK.out]
          rintro e w4 ⟨rfl, hb4⟩
          have hz4 := hb4.size
          have c4_0 : w4.cell? ⟨w2.heap.size, 0, none⟩ = some (.int .i64 x0) := (hb4.cell (p := ⟨w2.heap.size, 0, none⟩) (by show w2.heap.size < _; omega)).trans c_0
          have c4_1 : w4.cell? ⟨w2.heap.size, 1, none⟩ = some (.int .i64 x1) := (hb4.cell (p := ⟨w2.heap.size, 1, none⟩) (by show w2.heap.size < _; omega)).trans c_1
          have c4_2 : w4.cell? ⟨w2.heap.size, 2, none⟩ = some (.int .i64 x2) := (hb4.cell (p := ⟨w2.heap.size, 2, none⟩) (by show w2.heap.size < _; omega)).trans c_2
          have c4_3 : w4.cell? ⟨w2.heap.size, 3, none⟩ = some (.int .i64 x3) := (hb4.cell (p := ⟨w2.heap.size, 3, none⟩) (by show w2.heap.size < _; omega)).trans c_3
          have c4_4 : w4.cell? ⟨w2.heap.size, 4, none⟩ = some (.int .i64 (x4 - 1000)) := (hb4.cell (p := ⟨w2.heap.size, 4, none⟩) (by show w2.heap.size < _; omega)).trans c_4
          have c4_5 : w4.cell? ⟨w2.heap.size, 5, none⟩ = some (.int .i64 x5) := (hb4.cell (p := ⟨w2.heap.size, 5, none⟩) (by show w2.heap.size < _; omega)).trans c_5
          have c4_6 : w4.cell? ⟨w2.heap.size, 6, none⟩ = some (.bool true) := (hb4.cell (p := ⟨w2.heap.size, 6, none⟩) (by show w2.heap.size < _; omega)).trans c_6
          have c4_7 : w4.cell? ⟨w2.heap.size, 7, none⟩ = some (.string f1) := (hb4.cell (p := ⟨w2.heap.size, 7, none⟩) (by show w2.heap.size < _; omega)).trans c_7
          have c4_8 : w4.cell? ⟨w2.heap.size, 8, none⟩ = some (.string f2) := (hb4.cell (p := ⟨w2.heap.size, 8, none⟩) (by show w2.heap.size < _; omega)).trans c_8
          have z4_0 : w4.cell? ⟨w.heap.size, 0, none⟩ = some (.int .i64 0) := (hb4.cell (p := ⟨w.heap.size, 0, none⟩) (by show w.heap.size < _; omega)).trans z_0
          have z4_1 : w4.cell? ⟨w.heap.size, 1, none⟩ = some (.int .i64 0) := (hb4.cell (p := ⟨w.heap.size, 1, none⟩) (by show w.heap.size < _; omega)).trans z_1
          have z4_2 : w4.cell? ⟨w.heap.size, 2, none⟩ = some (.int .i64 0) := (hb4.cell (p := ⟨w.heap.size, 2, none⟩) (by show w.heap.size < _; omega)).trans z_2
          have z4_3 : w4.cell? ⟨w.heap.size, 3, none⟩ = some (.int .i64 0) := (hb4.cell (p := ⟨w.heap.size, 3, none⟩) (by show w.heap.size < _; omega)).trans z_3
          have z4_4 : w4.cell? ⟨w.heap.size, 4, none⟩ = some (.int .i64 0) := (hb4.cell (p := ⟨w.heap.size, 4, none⟩) (by show w.heap.size < _; omega)).trans z_4
          have z4_5 : w4.cell? ⟨w.heap.size, 5, none⟩ = some (.int .i64 0) := (hb4.cell (p := ⟨w.heap.size, 5, none⟩) (by show w.heap.size < _; omega)).trans z_5
          have z4_6 : w4.cell? ⟨w.heap.size, 6, none⟩ = some (.bool false) := (hb4.cell (p := ⟨w.heap.size, 6, none⟩) (by show w.heap.size < _; omega)).trans z_6
          have z4_7 : w4.cell? ⟨w.heap.size, 7, none⟩ = some (.string ⟨#[]⟩) := (hb4.cell (p := ⟨w.heap.size, 7, none⟩) (by show w.heap.size < _; omega)).trans z_7
          have z4_8 : w4.cell? ⟨w.heap.size, 8, none⟩ = some (.string ⟨#[]⟩) := (hb4.cell (p := ⟨w.heap.size, 8, none⟩) (by show w.heap.size < _; omega)).trans z_8
          have zf4 : ∀ o, w4.frozen? ⟨w.heap.size, o, none⟩ = false := fun o => (hb4.frozen (p := ⟨w.heap.size, o, none⟩) (by show w.heap.size < _; omega)).trans (zf o)
          have HB4 : Hid (Below w.heap.size w w4) := HB3.out.trans (hb4.mono (by omega))
          clear hb4 zf c_0 c_1 c_2 c_3 c_4 c_5 c_6 c_7 c_8 z_0 z_1 z_2 z_3 z_4 z_5 z_6 z_7 z_8
          go_wp2_with fail
          refine bodyPost_ret (v := .tuple #[.agg #[.int .i64 0, .int .i64 0, .int .i64 0, .int .i64 0, .int .i64 0, .int .i64 0, .bool false, .string ⟨#[]⟩, .string ⟨#[]⟩], .bool false]) (by simp [results, Try.results87, go_sem, z4_0, z4_1, z4_2, z4_3, z4_4, z4_5, z4_6, z4_7, z4_8, zf4]) rfl ?_
          exact ⟨0, 0, 0, 0, 0, 0, false, ⟨#[]⟩, ⟨#[]⟩, false, rfl, Nat.zero_le _, Nat.zero_le _, (fun h => by cases h), (fun _ => HNOT.out (fun hc => by have := hc.1; rw [HK.out] at this; cases this)), (((((((((HB4.out.setCell (by simp) _).setCell (by simp) _).setCell (by simp) _).setCell (by simp) _).setCell (by simp) _).setCell (by simp) _).setCell (by simp) _).setCell (by simp) _).setCell (by simp) _)⟩
        case true =>
          go_wp2_with fail
          refine (isCommand_c x0 x1 x2 x3 (x4 - 1000) x5 true f1 f2 _ (by omega) (by omega)).mono ?_
          rw [HK.out]
          rintro e w4 ⟨rfl, hb4⟩
          have hz4 := hb4.size
          have c4_0 : w4.cell? ⟨w2.heap.size, 0, none⟩ = some (.int .i64 x0) := (hb4.cell (p := ⟨w2.heap.size, 0, none⟩) (by show w2.heap.size < _; omega)).trans c_0
          have c4_1 : w4.cell? ⟨w2.heap.size, 1, none⟩ = some (.int .i64 x1) := (hb4.cell (p := ⟨w2.heap.size, 1, none⟩) (by show w2.heap.size < _; omega)).trans c_1
          have c4_2 : w4.cell? ⟨w2.heap.size, 2, none⟩ = some (.int .i64 x2) := (hb4.cell (p := ⟨w2.heap.size, 2, none⟩) (by show w2.heap.size < _; omega)).trans c_2
          have c4_3 : w4.cell? ⟨w2.heap.size, 3, none⟩ = some (.int .i64 x3) := (hb4.cell (p := ⟨w2.heap.size, 3, none⟩) (by show w2.heap.size < _; omega)).trans c_3
          have c4_4 : w4.cell? ⟨w2.heap.size, 4, none⟩ = some (.int .i64 (x4 - 1000)) := (hb4.cell (p := ⟨w2.heap.size, 4, none⟩) (by show w2.heap.size < _; omega)).trans c_4
          have c4_5 : w4.cell? ⟨w2.heap.size, 5, none⟩ = some (.int .i64 x5) := (hb4.cell (p := ⟨w2.heap.size, 5, none⟩) (by show w2.heap.size < _; omega)).trans c_5
          have c4_6 : w4.cell? ⟨w2.heap.size, 6, none⟩ = some (.bool true) := (hb4.cell (p := ⟨w2.heap.size, 6, none⟩) (by show w2.heap.size < _; omega)).trans c_6
          have c4_7 : w4.cell? ⟨w2.heap.size, 7, none⟩ = some (.string f1) := (hb4.cell (p := ⟨w2.heap.size, 7, none⟩) (by show w2.heap.size < _; omega)).trans c_7
          have c4_8 : w4.cell? ⟨w2.heap.size, 8, none⟩ = some (.string f2) := (hb4.cell (p := ⟨w2.heap.size, 8, none⟩) (by show w2.heap.size < _; omega)).trans c_8
          have z4_0 : w4.cell? ⟨w.heap.size, 0, none⟩ = some (.int .i64 0) := (hb4.cell (p := ⟨w.heap.size, 0, none⟩) (by show w.heap.size < _; omega)).trans z_0
          have z4_1 : w4.cell? ⟨w.heap.size, 1, none⟩ = some (.int .i64 0) := (hb4.cell (p := ⟨w.heap.size, 1, none⟩) (by show w.heap.size < _; omega)).trans z_1
          have z4_2 : w4.cell? ⟨w.heap.size, 2, none⟩ = some (.int .i64 0) := (hb4.cell (p := ⟨w.heap.size, 2, none⟩) (by show w.heap.size < _; omega)).trans z_2
          have z4_3 : w4.cell? ⟨w.heap.size, 3, none⟩ = some (.int .i64 0) := (hb4.cell (p := ⟨w.heap.size, 3, none⟩) (by show w.heap.size < _; omega)).trans z_3
          have z4_4 : w4.cell? ⟨w.heap.size, 4, none⟩ = some (.int .i64 0) := (hb4.cell (p := ⟨w.heap.size, 4, none⟩) (by show w.heap.size < _; omega)).trans z_4
          have z4_5 : w4.cell? ⟨w.heap.size, 5, none⟩ = some (.int .i64 0) := (hb4.cell (p := ⟨w.heap.size, 5, none⟩) (by show w.heap.size < _; omega)).trans z_5
          have z4_6 : w4.cell? ⟨w.heap.size, 6, none⟩ = some (.bool false) := (hb4.cell (p := ⟨w.heap.size, 6, none⟩) (by show w.heap.size < _; omega)).trans z_6
          have z4_7 : w4.cell? ⟨w.heap.size, 7, none⟩ = some (.string ⟨#[]⟩) := (hb4.cell (p := ⟨w.heap.size, 7, none⟩) (by show w.heap.size < _; omega)).trans z_7
          have z4_8 : w4.cell? ⟨w.heap.size, 8, none⟩ = some (.string ⟨#[]⟩) := (hb4.cell (p := ⟨w.heap.size, 8, none⟩) (by show w.heap.size < _; omega)).trans z_8
          have zf4 : ∀ o, w4.frozen? ⟨w.heap.size, o, none⟩ = false := fun o => (hb4.frozen (p := ⟨w.heap.size, o, none⟩) (by show w.heap.size < _; omega)).trans (zf o)
          have HB4 : Hid (Below w.heap.size w w4) := HB3.out.trans (hb4.mono (by omega))
          clear hb4 zf c_0 c_1 c_2 c_3 c_4 c_5 c_6 c_7 c_8 z_0 z_1 z_2 z_3 z_4 z_5 z_6 z_7 z_8
          go_wp2_with fail
          refine (commandText_c x0 x1 x2 x3 (x4 - 1000) x5 true f1 f2 _ HK.out).mono ?_
          obtain ⟨enc, henc⟩ : ∃ enc, encC x0 x1 x2 x3 (x4 - 1000) x5 true f1 f2 = enc := ⟨_, rfl⟩
          have HE := Lib.hid henc
          rw [henc]
          clear henc
          rintro e w5 ⟨rfl, hb5⟩
          have hz5 := hb5.size
          have c5_0 : w5.cell? ⟨w2.heap.size, 0, none⟩ = some (.int .i64 x0) := (hb5.cell (p := ⟨w2.heap.size, 0, none⟩) (by show w2.heap.size < _; omega)).trans c4_0
          have c5_1 : w5.cell? ⟨w2.heap.size, 1, none⟩ = some (.int .i64 x1) := (hb5.cell (p := ⟨w2.heap.size, 1, none⟩) (by show w2.heap.size < _; omega)).trans c4_1
          have c5_2 : w5.cell? ⟨w2.heap.size, 2, none⟩ = some (.int .i64 x2) := (hb5.cell (p := ⟨w2.heap.size, 2, none⟩) (by show w2.heap.size < _; omega)).trans c4_2
          have c5_3 : w5.cell? ⟨w2.heap.size, 3, none⟩ = some (.int .i64 x3) := (hb5.cell (p := ⟨w2.heap.size, 3, none⟩) (by show w2.heap.size < _; omega)).trans c4_3
          have c5_4 : w5.cell? ⟨w2.heap.size, 4, none⟩ = some (.int .i64 (x4 - 1000)) := (hb5.cell (p := ⟨w2.heap.size, 4, none⟩) (by show w2.heap.size < _; omega)).trans c4_4
          have c5_5 : w5.cell? ⟨w2.heap.size, 5, none⟩ = some (.int .i64 x5) := (hb5.cell (p := ⟨w2.heap.size, 5, none⟩) (by show w2.heap.size < _; omega)).trans c4_5
          have c5_6 : w5.cell? ⟨w2.heap.size, 6, none⟩ = some (.bool true) := (hb5.cell (p := ⟨w2.heap.size, 6, none⟩) (by show w2.heap.size < _; omega)).trans c4_6
          have c5_7 : w5.cell? ⟨w2.heap.size, 7, none⟩ = some (.string f1) := (hb5.cell (p := ⟨w2.heap.size, 7, none⟩) (by show w2.heap.size < _; omega)).trans c4_7
          have c5_8 : w5.cell? ⟨w2.heap.size, 8, none⟩ = some (.string f2) := (hb5.cell (p := ⟨w2.heap.size, 8, none⟩) (by show w2.heap.size < _; omega)).trans c4_8
          have z5_0 : w5.cell? ⟨w.heap.size, 0, none⟩ = some (.int .i64 0) := (hb5.cell (p := ⟨w.heap.size, 0, none⟩) (by show w.heap.size < _; omega)).trans z4_0
          have z5_1 : w5.cell? ⟨w.heap.size, 1, none⟩ = some (.int .i64 0) := (hb5.cell (p := ⟨w.heap.size, 1, none⟩) (by show w.heap.size < _; omega)).trans z4_1
          have z5_2 : w5.cell? ⟨w.heap.size, 2, none⟩ = some (.int .i64 0) := (hb5.cell (p := ⟨w.heap.size, 2, none⟩) (by show w.heap.size < _; omega)).trans z4_2
          have z5_3 : w5.cell? ⟨w.heap.size, 3, none⟩ = some (.int .i64 0) := (hb5.cell (p := ⟨w.heap.size, 3, none⟩) (by show w.heap.size < _; omega)).trans z4_3
          have z5_4 : w5.cell? ⟨w.heap.size, 4, none⟩ = some (.int .i64 0) := (hb5.cell (p := ⟨w.heap.size, 4, none⟩) (by show w.heap.size < _; omega)).trans z4_4
          have z5_5 : w5.cell? ⟨w.heap.size, 5, none⟩ = some (.int .i64 0) := (hb5.cell (p := ⟨w.heap.size, 5, none⟩) (by show w.heap.size < _; omega)).trans z4_5
          have z5_6 : w5.cell? ⟨w.heap.size, 6, none⟩ = some (.bool false) := (hb5.cell (p := ⟨w.heap.size, 6, none⟩) (by show w.heap.size < _; omega)).trans z4_6
          have z5_7 : w5.cell? ⟨w.heap.size, 7, none⟩ = some (.string ⟨#[]⟩) := (hb5.cell (p := ⟨w.heap.size, 7, none⟩) (by show w.heap.size < _; omega)).trans z4_7
          have z5_8 : w5.cell? ⟨w.heap.size, 8, none⟩ = some (.string ⟨#[]⟩) := (hb5.cell (p := ⟨w.heap.size, 8, none⟩) (by show w.heap.size < _; omega)).trans z4_8
          have zf5 : ∀ o, w5.frozen? ⟨w.heap.size, o, none⟩ = false := fun o => (hb5.frozen (p := ⟨w.heap.size, o, none⟩) (by show w.heap.size < _; omega)).trans (zf4 o)
          have HB5 : Hid (Below w.heap.size w w5) := HB4.out.trans (hb5.mono (by omega))
          clear hb5 zf4 c4_0 c4_1 c4_2 c4_3 c4_4 c4_5 c4_6 c4_7 c4_8 z4_0 z4_1 z4_2 z4_3 z4_4 z4_5 z4_6 z4_7 z4_8
          by_cases he : enc = l
          · subst he
            have hw2H : ¬ w2.heap.size = w.heap.size := by omega
            have hw2H' : ¬ w.heap.size = w2.heap.size := by omega
            go_wp2_with fail
            refine bodyPost_ret (v := .tuple #[.agg #[.int .i64 x0, .int .i64 x1, .int .i64 x2, .int .i64 x3, .int .i64 (x4 - 1000), .int .i64 x5, .bool true, .string f1, .string f2], .bool true]) (by simp [results, Try.results87, go_sem, z5_0, z5_1, z5_2, z5_3, z5_4, z5_5, z5_6, z5_7, z5_8, zf5, c5_0, c5_1, c5_2, c5_3, c5_4, c5_5, c5_6, c5_7, c5_8, hw2H, hw2H']) rfl ?_
            exact ⟨x0, x1, x2, x3, x4 - 1000, x5, true, f1, f2, true, rfl, by omega, by omega, (fun _ => ⟨HK.out, HE.out⟩), (fun h => by cases h), (((((((((HB5.out.setCell (by simp) _).setCell (by simp) _).setCell (by simp) _).setCell (by simp) _).setCell (by simp) _).setCell (by simp) _).setCell (by simp) _).setCell (by simp) _).setCell (by simp) _)⟩
          · have he2 := strOf_eqb he
            have HNE := Lib.hid he
            clear he
            go_wp2_with fail
            refine bodyPost_ret (v := .tuple #[.agg #[.int .i64 0, .int .i64 0, .int .i64 0, .int .i64 0, .int .i64 0, .int .i64 0, .bool false, .string ⟨#[]⟩, .string ⟨#[]⟩], .bool false]) (by simp [results, Try.results87, go_sem, z5_0, z5_1, z5_2, z5_3, z5_4, z5_5, z5_6, z5_7, z5_8, zf5]) rfl ?_
            exact ⟨0, 0, 0, 0, 0, 0, false, ⟨#[]⟩, ⟨#[]⟩, false, rfl, Nat.zero_le _, Nat.zero_le _, (fun h => by cases h), (fun _ => HNOT.out (fun hc => HNE.out (by rw [← HE.out]; exact hc.2))), (((((((((HB5.out.setCell (by simp) _).setCell (by simp) _).setCell (by simp) _).setCell (by simp) _).setCell (by simp) _).setCell (by simp) _).setCell (by simp) _).setCell (by simp) _).setCell (by simp) _)⟩
    · have HB6 : Hid (decide (x6 = 1) = false) := Lib.hid (by simp [h6])
      rw [HB6.out] at HNOT HENC
      have H6 := Lib.hid h6
      have h6b : decide (x6 = 1) = false := HB6.out
      clear h6
      go_enter Try.func87, Try.ntmps87
      go_wp2_with fail
      refine (readFields_c l _ hl).mono ?_
      rw [HO.out]
      rintro e w1 ⟨aF, cF, F, rfl, hfF, hF, hb1⟩
      have hz1 := hb1.size
      simp only [World.size_alloc] at hz1
      have hH1 : w.heap.size < w1.heap.size := by omega
      have z1_0 : w1.cell? ⟨w.heap.size, 0, none⟩ = some (.int .i64 0) := (hb1.cell (p := ⟨w.heap.size, 0, none⟩) (by show w.heap.size < _; simp)).trans (by simp [go_sem])
      have z1_1 : w1.cell? ⟨w.heap.size, 1, none⟩ = some (.int .i64 0) := (hb1.cell (p := ⟨w.heap.size, 1, none⟩) (by show w.heap.size < _; simp)).trans (by simp [go_sem])
      have z1_2 : w1.cell? ⟨w.heap.size, 2, none⟩ = some (.int .i64 0) := (hb1.cell (p := ⟨w.heap.size, 2, none⟩) (by show w.heap.size < _; simp)).trans (by simp [go_sem])
      have z1_3 : w1.cell? ⟨w.heap.size, 3, none⟩ = some (.int .i64 0) := (hb1.cell (p := ⟨w.heap.size, 3, none⟩) (by show w.heap.size < _; simp)).trans (by simp [go_sem])
      have z1_4 : w1.cell? ⟨w.heap.size, 4, none⟩ = some (.int .i64 0) := (hb1.cell (p := ⟨w.heap.size, 4, none⟩) (by show w.heap.size < _; simp)).trans (by simp [go_sem])
      have z1_5 : w1.cell? ⟨w.heap.size, 5, none⟩ = some (.int .i64 0) := (hb1.cell (p := ⟨w.heap.size, 5, none⟩) (by show w.heap.size < _; simp)).trans (by simp [go_sem])
      have z1_6 : w1.cell? ⟨w.heap.size, 6, none⟩ = some (.bool false) := (hb1.cell (p := ⟨w.heap.size, 6, none⟩) (by show w.heap.size < _; simp)).trans (by simp [go_sem])
      have z1_7 : w1.cell? ⟨w.heap.size, 7, none⟩ = some (.string ⟨#[]⟩) := (hb1.cell (p := ⟨w.heap.size, 7, none⟩) (by show w.heap.size < _; simp)).trans (by simp [go_sem])
      have z1_8 : w1.cell? ⟨w.heap.size, 8, none⟩ = some (.string ⟨#[]⟩) := (hb1.cell (p := ⟨w.heap.size, 8, none⟩) (by show w.heap.size < _; simp)).trans (by simp [go_sem])
      have zf1 : ∀ o, w1.frozen? ⟨w.heap.size, o, none⟩ = false := fun o => (hb1.frozen (p := ⟨w.heap.size, o, none⟩) (by show w.heap.size < _; simp)).trans (by simp [go_sem])
      have HB1 : Hid (Below w.heap.size w w1) := ((Below.refl _ _).alloc (Nat.le_refl _) _).trans (hb1.mono (by simp))
      have hF' := hF _ rfl
      have hSF : Sl strE 1 w1 aF F := hfF.sl (fun _ => rfl)
      rw [hF'] at hSF
      have hnF : F.length = 3 := by rw [hF']; rfl
      clear hfF hF hF'
      generalize F.length = nF at *
      subst hnF
      obtain ⟨bF, oF, rfl, hbF, hcF⟩ := hSF.at (i := 0) (by simp)
      have d1_0 : w1.cell? ⟨bF, oF, none⟩ = some (.string (strOf l0)) := by
        have := hcF 0 (by simp) 0 (by omega)
        simpa [strE] using this
      have d1_1 : w1.cell? ⟨bF, oF + 1, none⟩ = some (.string f1) := by
        have := hcF 1 (by simp) 0 (by omega)
        simpa [strE] using this
      have d1_2 : w1.cell? ⟨bF, oF + 2, none⟩ = some (.string f2) := by
        have := hcF 2 (by simp) 0 (by omega)
        simpa [strE] using this
      clear hcF hSF hb1
      go_wp2_with fail
      refine (HSN.out _).mono ?_
      rintro e w2 ⟨aN, cN, L, rfl, hfN, hN, hb2⟩
      have hz2 := hb2.size
      have hH2 : w.heap.size < w2.heap.size := by omega
      have z2_0 : w2.cell? ⟨w.heap.size, 0, none⟩ = some (.int .i64 0) := (hb2.cell (p := ⟨w.heap.size, 0, none⟩) (by show w.heap.size < w1.heap.size; omega)).trans z1_0
      have z2_1 : w2.cell? ⟨w.heap.size, 1, none⟩ = some (.int .i64 0) := (hb2.cell (p := ⟨w.heap.size, 1, none⟩) (by show w.heap.size < w1.heap.size; omega)).trans z1_1
      have z2_2 : w2.cell? ⟨w.heap.size, 2, none⟩ = some (.int .i64 0) := (hb2.cell (p := ⟨w.heap.size, 2, none⟩) (by show w.heap.size < w1.heap.size; omega)).trans z1_2
      have z2_3 : w2.cell? ⟨w.heap.size, 3, none⟩ = some (.int .i64 0) := (hb2.cell (p := ⟨w.heap.size, 3, none⟩) (by show w.heap.size < w1.heap.size; omega)).trans z1_3
      have z2_4 : w2.cell? ⟨w.heap.size, 4, none⟩ = some (.int .i64 0) := (hb2.cell (p := ⟨w.heap.size, 4, none⟩) (by show w.heap.size < w1.heap.size; omega)).trans z1_4
      have z2_5 : w2.cell? ⟨w.heap.size, 5, none⟩ = some (.int .i64 0) := (hb2.cell (p := ⟨w.heap.size, 5, none⟩) (by show w.heap.size < w1.heap.size; omega)).trans z1_5
      have z2_6 : w2.cell? ⟨w.heap.size, 6, none⟩ = some (.bool false) := (hb2.cell (p := ⟨w.heap.size, 6, none⟩) (by show w.heap.size < w1.heap.size; omega)).trans z1_6
      have z2_7 : w2.cell? ⟨w.heap.size, 7, none⟩ = some (.string ⟨#[]⟩) := (hb2.cell (p := ⟨w.heap.size, 7, none⟩) (by show w.heap.size < w1.heap.size; omega)).trans z1_7
      have z2_8 : w2.cell? ⟨w.heap.size, 8, none⟩ = some (.string ⟨#[]⟩) := (hb2.cell (p := ⟨w.heap.size, 8, none⟩) (by show w.heap.size < w1.heap.size; omega)).trans z1_8
      have zf2 : ∀ o, w2.frozen? ⟨w.heap.size, o, none⟩ = false := fun o => (hb2.frozen (p := ⟨w.heap.size, o, none⟩) (by show w.heap.size < w1.heap.size; omega)).trans (zf1 o)
      have d2_1 : w2.cell? ⟨bF, oF + 1, none⟩ = some (.string f1) := (hb2.cell (p := ⟨bF, oF + 1, none⟩) hbF).trans d1_1
      have d2_2 : w2.cell? ⟨bF, oF + 2, none⟩ = some (.string f2) := (hb2.cell (p := ⟨bF, oF + 2, none⟩) hbF).trans d1_2
      have hbF2 : bF < w2.heap.size := by omega
      have HB2 : Hid (Below w.heap.size w w2) := HB1.out.trans (hb2.mono (by omega))
      clear z1_0 z1_1 z1_2 z1_3 z1_4 z1_5 z1_6 z1_7 z1_8 zf1 d1_0 d1_1 d1_2
      have hN' := hN _ rfl
      have hSN : Sl intE 1 w2 aN L := hfN.sl (fun _ => rfl)
      rw [hN'] at hSN
      have hnN : L.length = 7 := by rw [hN']; rfl
      clear hfN hN hN'
      generalize L.length = nN at *
      subst hnN
      obtain ⟨bN, oN, rfl, hbN, hcN⟩ := hSN.at (i := 0) (by simp)
      have m_0 : w2.cell? ⟨bN, oN, none⟩ = some (.int .i64 x0) := by
        have := hcN 0 (by simp) 0 (by omega)
        simpa [intE] using this
      have m_1 : w2.cell? ⟨bN, oN + 1, none⟩ = some (.int .i64 x1) := by
        have := hcN 1 (by simp) 0 (by omega)
        simpa [intE] using this
      have m_2 : w2.cell? ⟨bN, oN + 2, none⟩ = some (.int .i64 x2) := by
        have := hcN 2 (by simp) 0 (by omega)
        simpa [intE] using this
      have m_3 : w2.cell? ⟨bN, oN + 3, none⟩ = some (.int .i64 x3) := by
        have := hcN 3 (by simp) 0 (by omega)
        simpa [intE] using this
      have m_4 : w2.cell? ⟨bN, oN + 4, none⟩ = some (.int .i64 x4) := by
        have := hcN 4 (by simp) 0 (by omega)
        simpa [intE] using this
      have m_5 : w2.cell? ⟨bN, oN + 5, none⟩ = some (.int .i64 x5) := by
        have := hcN 5 (by simp) 0 (by omega)
        simpa [intE] using this
      have m_6 : w2.cell? ⟨bN, oN + 6, none⟩ = some (.int .i64 x6) := by
        have := hcN 6 (by simp) 0 (by omega)
        simpa [intE] using this
      clear hcN hSN hb2
      go_upto_region 7 with fail
      have hFn : ¬ bF = w2.heap.size := by omega
      have hNn : ¬ bN = w2.heap.size := by omega
      have ra : ∀ o b, b < w2.heap.size → ∀ x v, w2.cell? ⟨b, o, none⟩ = some v → (w2.alloc x).cell? ⟨b, o, none⟩ = some v := fun o b hb x v h => by
        rw [World.cell?_alloc_lt _ _ _ (by show b < _; omega)]
        exact h
      have RA := Lib.hid ra
      clear ra
      go_region_held3 (fun w' => w'.cell? ⟨bN, oN, none⟩ = some (.int .i64 x0) ∧ w'.cell? ⟨bN, oN + 1, none⟩ = some (.int .i64 x1) ∧ w'.cell? ⟨bN, oN + 2, none⟩ = some (.int .i64 x2) ∧ w'.cell? ⟨bN, oN + 3, none⟩ = some (.int .i64 x3) ∧ w'.cell? ⟨bN, oN + 4, none⟩ = some (.int .i64 x4) ∧ w'.cell? ⟨bN, oN + 5, none⟩ = some (.int .i64 x5) ∧ w'.cell? ⟨bN, oN + 6, none⟩ = some (.int .i64 x6) ∧ w'.cell? ⟨bF, oF + 1, none⟩ = some (.string f1) ∧ w'.cell? ⟨bF, oF + 2, none⟩ = some (.string f2))
        (first | ((repeat' apply And.intro) <;> (first | assumption | (simp only [World.cell?_drew]; assumption) | exact RA.out _ _ (by assumption) _ _ (by assumption) | (simp [go_sem, m_0, m_1, m_2, m_3, m_4, m_5, m_6, d2_1, d2_2, hFn, hNn, hbF2, hbN]; done))) | go_keep)
        (fail)
      all_goals
        go_upto_region 8 with fail
        have c_0 : ((w2.alloc (.cells #[.int .i64 x0, .int .i64 x1, .int .i64 x2, .int .i64 x3, .int .i64 (x4 - 1000), .int .i64 x5, .bool false, .string f1, .string f2] 58)).drew).cell? ⟨w2.heap.size, 0, none⟩ = some (.int .i64 x0) := by simp [go_sem]
        have c_1 : ((w2.alloc (.cells #[.int .i64 x0, .int .i64 x1, .int .i64 x2, .int .i64 x3, .int .i64 (x4 - 1000), .int .i64 x5, .bool false, .string f1, .string f2] 58)).drew).cell? ⟨w2.heap.size, 1, none⟩ = some (.int .i64 x1) := by simp [go_sem]
        have c_2 : ((w2.alloc (.cells #[.int .i64 x0, .int .i64 x1, .int .i64 x2, .int .i64 x3, .int .i64 (x4 - 1000), .int .i64 x5, .bool false, .string f1, .string f2] 58)).drew).cell? ⟨w2.heap.size, 2, none⟩ = some (.int .i64 x2) := by simp [go_sem]
        have c_3 : ((w2.alloc (.cells #[.int .i64 x0, .int .i64 x1, .int .i64 x2, .int .i64 x3, .int .i64 (x4 - 1000), .int .i64 x5, .bool false, .string f1, .string f2] 58)).drew).cell? ⟨w2.heap.size, 3, none⟩ = some (.int .i64 x3) := by simp [go_sem]
        have c_4 : ((w2.alloc (.cells #[.int .i64 x0, .int .i64 x1, .int .i64 x2, .int .i64 x3, .int .i64 (x4 - 1000), .int .i64 x5, .bool false, .string f1, .string f2] 58)).drew).cell? ⟨w2.heap.size, 4, none⟩ = some (.int .i64 (x4 - 1000)) := by simp [go_sem]
        have c_5 : ((w2.alloc (.cells #[.int .i64 x0, .int .i64 x1, .int .i64 x2, .int .i64 x3, .int .i64 (x4 - 1000), .int .i64 x5, .bool false, .string f1, .string f2] 58)).drew).cell? ⟨w2.heap.size, 5, none⟩ = some (.int .i64 x5) := by simp [go_sem]
        have c_6 : ((w2.alloc (.cells #[.int .i64 x0, .int .i64 x1, .int .i64 x2, .int .i64 x3, .int .i64 (x4 - 1000), .int .i64 x5, .bool false, .string f1, .string f2] 58)).drew).cell? ⟨w2.heap.size, 6, none⟩ = some (.bool false) := by simp [go_sem]
        have c_7 : ((w2.alloc (.cells #[.int .i64 x0, .int .i64 x1, .int .i64 x2, .int .i64 x3, .int .i64 (x4 - 1000), .int .i64 x5, .bool false, .string f1, .string f2] 58)).drew).cell? ⟨w2.heap.size, 7, none⟩ = some (.string f1) := by simp [go_sem]
        have c_8 : ((w2.alloc (.cells #[.int .i64 x0, .int .i64 x1, .int .i64 x2, .int .i64 x3, .int .i64 (x4 - 1000), .int .i64 x5, .bool false, .string f1, .string f2] 58)).drew).cell? ⟨w2.heap.size, 8, none⟩ = some (.string f2) := by simp [go_sem]
        have z_0 : ((w2.alloc (.cells #[.int .i64 x0, .int .i64 x1, .int .i64 x2, .int .i64 x3, .int .i64 (x4 - 1000), .int .i64 x5, .bool false, .string f1, .string f2] 58)).drew).cell? ⟨w.heap.size, 0, none⟩ = some (.int .i64 0) := (World.cell?_alloc_lt w2 _ _ (by show w.heap.size < _; omega)).trans z2_0
        have z_1 : ((w2.alloc (.cells #[.int .i64 x0, .int .i64 x1, .int .i64 x2, .int .i64 x3, .int .i64 (x4 - 1000), .int .i64 x5, .bool false, .string f1, .string f2] 58)).drew).cell? ⟨w.heap.size, 1, none⟩ = some (.int .i64 0) := (World.cell?_alloc_lt w2 _ _ (by show w.heap.size < _; omega)).trans z2_1
        have z_2 : ((w2.alloc (.cells #[.int .i64 x0, .int .i64 x1, .int .i64 x2, .int .i64 x3, .int .i64 (x4 - 1000), .int .i64 x5, .bool false, .string f1, .string f2] 58)).drew).cell? ⟨w.heap.size, 2, none⟩ = some (.int .i64 0) := (World.cell?_alloc_lt w2 _ _ (by show w.heap.size < _; omega)).trans z2_2
        have z_3 : ((w2.alloc (.cells #[.int .i64 x0, .int .i64 x1, .int .i64 x2, .int .i64 x3, .int .i64 (x4 - 1000), .int .i64 x5, .bool false, .string f1, .string f2] 58)).drew).cell? ⟨w.heap.size, 3, none⟩ = some (.int .i64 0) := (World.cell?_alloc_lt w2 _ _ (by show w.heap.size < _; omega)).trans z2_3
        have z_4 : ((w2.alloc (.cells #[.int .i64 x0, .int .i64 x1, .int .i64 x2, .int .i64 x3, .int .i64 (x4 - 1000), .int .i64 x5, .bool false, .string f1, .string f2] 58)).drew).cell? ⟨w.heap.size, 4, none⟩ = some (.int .i64 0) := (World.cell?_alloc_lt w2 _ _ (by show w.heap.size < _; omega)).trans z2_4
        have z_5 : ((w2.alloc (.cells #[.int .i64 x0, .int .i64 x1, .int .i64 x2, .int .i64 x3, .int .i64 (x4 - 1000), .int .i64 x5, .bool false, .string f1, .string f2] 58)).drew).cell? ⟨w.heap.size, 5, none⟩ = some (.int .i64 0) := (World.cell?_alloc_lt w2 _ _ (by show w.heap.size < _; omega)).trans z2_5
        have z_6 : ((w2.alloc (.cells #[.int .i64 x0, .int .i64 x1, .int .i64 x2, .int .i64 x3, .int .i64 (x4 - 1000), .int .i64 x5, .bool false, .string f1, .string f2] 58)).drew).cell? ⟨w.heap.size, 6, none⟩ = some (.bool false) := (World.cell?_alloc_lt w2 _ _ (by show w.heap.size < _; omega)).trans z2_6
        have z_7 : ((w2.alloc (.cells #[.int .i64 x0, .int .i64 x1, .int .i64 x2, .int .i64 x3, .int .i64 (x4 - 1000), .int .i64 x5, .bool false, .string f1, .string f2] 58)).drew).cell? ⟨w.heap.size, 7, none⟩ = some (.string ⟨#[]⟩) := (World.cell?_alloc_lt w2 _ _ (by show w.heap.size < _; omega)).trans z2_7
        have z_8 : ((w2.alloc (.cells #[.int .i64 x0, .int .i64 x1, .int .i64 x2, .int .i64 x3, .int .i64 (x4 - 1000), .int .i64 x5, .bool false, .string f1, .string f2] 58)).drew).cell? ⟨w.heap.size, 8, none⟩ = some (.string ⟨#[]⟩) := (World.cell?_alloc_lt w2 _ _ (by show w.heap.size < _; omega)).trans z2_8
        have zf : ∀ o, ((w2.alloc (.cells #[.int .i64 x0, .int .i64 x1, .int .i64 x2, .int .i64 x3, .int .i64 (x4 - 1000), .int .i64 x5, .bool false, .string f1, .string f2] 58)).drew).frozen? ⟨w.heap.size, o, none⟩ = false := fun o => (((Below.refl _ _).alloc (Nat.le_refl _) _ : Below _ _ _).frozen (p := ⟨w.heap.size, o, none⟩) (by show w.heap.size < _; omega)).trans (zf2 o)
        have HB3 : Hid (Below w.heap.size w ((w2.alloc (.cells #[.int .i64 x0, .int .i64 x1, .int .i64 x2, .int .i64 x3, .int .i64 (x4 - 1000), .int .i64 x5, .bool false, .string f1, .string f2] 58)).drew)) := (HB2.out.alloc (by omega) _).drew
        have hzw : w2.heap.size < ((w2.alloc (.cells #[.int .i64 x0, .int .i64 x1, .int .i64 x2, .int .i64 x3, .int .i64 (x4 - 1000), .int .i64 x5, .bool false, .string f1, .string f2] 58)).drew).heap.size := by simp
        generalize ((w2.alloc (.cells #[.int .i64 x0, .int .i64 x1, .int .i64 x2, .int .i64 x3, .int .i64 (x4 - 1000), .int .i64 x5, .bool false, .string f1, .string f2] 58)).drew) = w3 at *
        clear z2_0 z2_1 z2_2 z2_3 z2_4 z2_5 z2_6 z2_7 z2_8 zf2 m_0 m_1 m_2 m_3 m_4 m_5 m_6 d2_1 d2_2
        obtain ⟨ok, hok⟩ : ∃ ok, cmdOK x0 x1 x2 x3 (x4 - 1000) x5 false f1 f2 = ok := ⟨_, rfl⟩
        have HK := Lib.hid hok
        clear hok
        cases ok
        case false =>
          go_wp2_with fail
          refine (isCommand_c x0 x1 x2 x3 (x4 - 1000) x5 false f1 f2 _ (by omega) (by omega)).mono ?_
          rw [HK.out]
          rintro e w4 ⟨rfl, hb4⟩
          have hz4 := hb4.size
          have c4_0 : w4.cell? ⟨w2.heap.size, 0, none⟩ = some (.int .i64 x0) := (hb4.cell (p := ⟨w2.heap.size, 0, none⟩) (by show w2.heap.size < _; omega)).trans c_0
          have c4_1 : w4.cell? ⟨w2.heap.size, 1, none⟩ = some (.int .i64 x1) := (hb4.cell (p := ⟨w2.heap.size, 1, none⟩) (by show w2.heap.size < _; omega)).trans c_1
          have c4_2 : w4.cell? ⟨w2.heap.size, 2, none⟩ = some (.int .i64 x2) := (hb4.cell (p := ⟨w2.heap.size, 2, none⟩) (by show w2.heap.size < _; omega)).trans c_2
          have c4_3 : w4.cell? ⟨w2.heap.size, 3, none⟩ = some (.int .i64 x3) := (hb4.cell (p := ⟨w2.heap.size, 3, none⟩) (by show w2.heap.size < _; omega)).trans c_3
          have c4_4 : w4.cell? ⟨w2.heap.size, 4, none⟩ = some (.int .i64 (x4 - 1000)) := (hb4.cell (p := ⟨w2.heap.size, 4, none⟩) (by show w2.heap.size < _; omega)).trans c_4
          have c4_5 : w4.cell? ⟨w2.heap.size, 5, none⟩ = some (.int .i64 x5) := (hb4.cell (p := ⟨w2.heap.size, 5, none⟩) (by show w2.heap.size < _; omega)).trans c_5
          have c4_6 : w4.cell? ⟨w2.heap.size, 6, none⟩ = some (.bool false) := (hb4.cell (p := ⟨w2.heap.size, 6, none⟩) (by show w2.heap.size < _; omega)).trans c_6
          have c4_7 : w4.cell? ⟨w2.heap.size, 7, none⟩ = some (.string f1) := (hb4.cell (p := ⟨w2.heap.size, 7, none⟩) (by show w2.heap.size < _; omega)).trans c_7
          have c4_8 : w4.cell? ⟨w2.heap.size, 8, none⟩ = some (.string f2) := (hb4.cell (p := ⟨w2.heap.size, 8, none⟩) (by show w2.heap.size < _; omega)).trans c_8
          have z4_0 : w4.cell? ⟨w.heap.size, 0, none⟩ = some (.int .i64 0) := (hb4.cell (p := ⟨w.heap.size, 0, none⟩) (by show w.heap.size < _; omega)).trans z_0
          have z4_1 : w4.cell? ⟨w.heap.size, 1, none⟩ = some (.int .i64 0) := (hb4.cell (p := ⟨w.heap.size, 1, none⟩) (by show w.heap.size < _; omega)).trans z_1
          have z4_2 : w4.cell? ⟨w.heap.size, 2, none⟩ = some (.int .i64 0) := (hb4.cell (p := ⟨w.heap.size, 2, none⟩) (by show w.heap.size < _; omega)).trans z_2
          have z4_3 : w4.cell? ⟨w.heap.size, 3, none⟩ = some (.int .i64 0) := (hb4.cell (p := ⟨w.heap.size, 3, none⟩) (by show w.heap.size < _; omega)).trans z_3
          have z4_4 : w4.cell? ⟨w.heap.size, 4, none⟩ = some (.int .i64 0) := (hb4.cell (p := ⟨w.heap.size, 4, none⟩) (by show w.heap.size < _; omega)).trans z_4
          have z4_5 : w4.cell? ⟨w.heap.size, 5, none⟩ = some (.int .i64 0) := (hb4.cell (p := ⟨w.heap.size, 5, none⟩) (by show w.heap.size < _; omega)).trans z_5
          have z4_6 : w4.cell? ⟨w.heap.size, 6, none⟩ = some (.bool false) := (hb4.cell (p := ⟨w.heap.size, 6, none⟩) (by show w.heap.size < _; omega)).trans z_6
          have z4_7 : w4.cell? ⟨w.heap.size, 7, none⟩ = some (.string ⟨#[]⟩) := (hb4.cell (p := ⟨w.heap.size, 7, none⟩) (by show w.heap.size < _; omega)).trans z_7
          have z4_8 : w4.cell? ⟨w.heap.size, 8, none⟩ = some (.string ⟨#[]⟩) := (hb4.cell (p := ⟨w.heap.size, 8, none⟩) (by show w.heap.size < _; omega)).trans z_8
          have zf4 : ∀ o, w4.frozen? ⟨w.heap.size, o, none⟩ = false := fun o => (hb4.frozen (p := ⟨w.heap.size, o, none⟩) (by show w.heap.size < _; omega)).trans (zf o)
          have HB4 : Hid (Below w.heap.size w w4) := HB3.out.trans (hb4.mono (by omega))
          clear hb4 zf c_0 c_1 c_2 c_3 c_4 c_5 c_6 c_7 c_8 z_0 z_1 z_2 z_3 z_4 z_5 z_6 z_7 z_8
          go_wp2_with fail
          refine bodyPost_ret (v := .tuple #[.agg #[.int .i64 0, .int .i64 0, .int .i64 0, .int .i64 0, .int .i64 0, .int .i64 0, .bool false, .string ⟨#[]⟩, .string ⟨#[]⟩], .bool false]) (by simp [results, Try.results87, go_sem, z4_0, z4_1, z4_2, z4_3, z4_4, z4_5, z4_6, z4_7, z4_8, zf4]) rfl ?_
          exact ⟨0, 0, 0, 0, 0, 0, false, ⟨#[]⟩, ⟨#[]⟩, false, rfl, Nat.zero_le _, Nat.zero_le _, (fun h => by cases h), (fun _ => HNOT.out (fun hc => by have := hc.1; rw [HK.out] at this; cases this)), (((((((((HB4.out.setCell (by simp) _).setCell (by simp) _).setCell (by simp) _).setCell (by simp) _).setCell (by simp) _).setCell (by simp) _).setCell (by simp) _).setCell (by simp) _).setCell (by simp) _)⟩
        case true =>
          go_wp2_with fail
          refine (isCommand_c x0 x1 x2 x3 (x4 - 1000) x5 false f1 f2 _ (by omega) (by omega)).mono ?_
          rw [HK.out]
          rintro e w4 ⟨rfl, hb4⟩
          have hz4 := hb4.size
          have c4_0 : w4.cell? ⟨w2.heap.size, 0, none⟩ = some (.int .i64 x0) := (hb4.cell (p := ⟨w2.heap.size, 0, none⟩) (by show w2.heap.size < _; omega)).trans c_0
          have c4_1 : w4.cell? ⟨w2.heap.size, 1, none⟩ = some (.int .i64 x1) := (hb4.cell (p := ⟨w2.heap.size, 1, none⟩) (by show w2.heap.size < _; omega)).trans c_1
          have c4_2 : w4.cell? ⟨w2.heap.size, 2, none⟩ = some (.int .i64 x2) := (hb4.cell (p := ⟨w2.heap.size, 2, none⟩) (by show w2.heap.size < _; omega)).trans c_2
          have c4_3 : w4.cell? ⟨w2.heap.size, 3, none⟩ = some (.int .i64 x3) := (hb4.cell (p := ⟨w2.heap.size, 3, none⟩) (by show w2.heap.size < _; omega)).trans c_3
          have c4_4 : w4.cell? ⟨w2.heap.size, 4, none⟩ = some (.int .i64 (x4 - 1000)) := (hb4.cell (p := ⟨w2.heap.size, 4, none⟩) (by show w2.heap.size < _; omega)).trans c_4
          have c4_5 : w4.cell? ⟨w2.heap.size, 5, none⟩ = some (.int .i64 x5) := (hb4.cell (p := ⟨w2.heap.size, 5, none⟩) (by show w2.heap.size < _; omega)).trans c_5
          have c4_6 : w4.cell? ⟨w2.heap.size, 6, none⟩ = some (.bool false) := (hb4.cell (p := ⟨w2.heap.size, 6, none⟩) (by show w2.heap.size < _; omega)).trans c_6
          have c4_7 : w4.cell? ⟨w2.heap.size, 7, none⟩ = some (.string f1) := (hb4.cell (p := ⟨w2.heap.size, 7, none⟩) (by show w2.heap.size < _; omega)).trans c_7
          have c4_8 : w4.cell? ⟨w2.heap.size, 8, none⟩ = some (.string f2) := (hb4.cell (p := ⟨w2.heap.size, 8, none⟩) (by show w2.heap.size < _; omega)).trans c_8
          have z4_0 : w4.cell? ⟨w.heap.size, 0, none⟩ = some (.int .i64 0) := (hb4.cell (p := ⟨w.heap.size, 0, none⟩) (by show w.heap.size < _; omega)).trans z_0
          have z4_1 : w4.cell? ⟨w.heap.size, 1, none⟩ = some (.int .i64 0) := (hb4.cell (p := ⟨w.heap.size, 1, none⟩) (by show w.heap.size < _; omega)).trans z_1
          have z4_2 : w4.cell? ⟨w.heap.size, 2, none⟩ = some (.int .i64 0) := (hb4.cell (p := ⟨w.heap.size, 2, none⟩) (by show w.heap.size < _; omega)).trans z_2
          have z4_3 : w4.cell? ⟨w.heap.size, 3, none⟩ = some (.int .i64 0) := (hb4.cell (p := ⟨w.heap.size, 3, none⟩) (by show w.heap.size < _; omega)).trans z_3
          have z4_4 : w4.cell? ⟨w.heap.size, 4, none⟩ = some (.int .i64 0) := (hb4.cell (p := ⟨w.heap.size, 4, none⟩) (by show w.heap.size < _; omega)).trans z_4
          have z4_5 : w4.cell? ⟨w.heap.size, 5, none⟩ = some (.int .i64 0) := (hb4.cell (p := ⟨w.heap.size, 5, none⟩) (by show w.heap.size < _; omega)).trans z_5
          have z4_6 : w4.cell? ⟨w.heap.size, 6, none⟩ = some (.bool false) := (hb4.cell (p := ⟨w.heap.size, 6, none⟩) (by show w.heap.size < _; omega)).trans z_6
          have z4_7 : w4.cell? ⟨w.heap.size, 7, none⟩ = some (.string ⟨#[]⟩) := (hb4.cell (p := ⟨w.heap.size, 7, none⟩) (by show w.heap.size < _; omega)).trans z_7
          have z4_8 : w4.cell? ⟨w.heap.size, 8, none⟩ = some (.string ⟨#[]⟩) := (hb4.cell (p := ⟨w.heap.size, 8, none⟩) (by show w.heap.size < _; omega)).trans z_8
          have zf4 : ∀ o, w4.frozen? ⟨w.heap.size, o, none⟩ = false := fun o => (hb4.frozen (p := ⟨w.heap.size, o, none⟩) (by show w.heap.size < _; omega)).trans (zf o)
          have HB4 : Hid (Below w.heap.size w w4) := HB3.out.trans (hb4.mono (by omega))
          clear hb4 zf c_0 c_1 c_2 c_3 c_4 c_5 c_6 c_7 c_8 z_0 z_1 z_2 z_3 z_4 z_5 z_6 z_7 z_8
          go_wp2_with fail
          refine (commandText_c x0 x1 x2 x3 (x4 - 1000) x5 false f1 f2 _ HK.out).mono ?_
          obtain ⟨enc, henc⟩ : ∃ enc, encC x0 x1 x2 x3 (x4 - 1000) x5 false f1 f2 = enc := ⟨_, rfl⟩
          have HE := Lib.hid henc
          rw [henc]
          clear henc
          rintro e w5 ⟨rfl, hb5⟩
          have hz5 := hb5.size
          have c5_0 : w5.cell? ⟨w2.heap.size, 0, none⟩ = some (.int .i64 x0) := (hb5.cell (p := ⟨w2.heap.size, 0, none⟩) (by show w2.heap.size < _; omega)).trans c4_0
          have c5_1 : w5.cell? ⟨w2.heap.size, 1, none⟩ = some (.int .i64 x1) := (hb5.cell (p := ⟨w2.heap.size, 1, none⟩) (by show w2.heap.size < _; omega)).trans c4_1
          have c5_2 : w5.cell? ⟨w2.heap.size, 2, none⟩ = some (.int .i64 x2) := (hb5.cell (p := ⟨w2.heap.size, 2, none⟩) (by show w2.heap.size < _; omega)).trans c4_2
          have c5_3 : w5.cell? ⟨w2.heap.size, 3, none⟩ = some (.int .i64 x3) := (hb5.cell (p := ⟨w2.heap.size, 3, none⟩) (by show w2.heap.size < _; omega)).trans c4_3
          have c5_4 : w5.cell? ⟨w2.heap.size, 4, none⟩ = some (.int .i64 (x4 - 1000)) := (hb5.cell (p := ⟨w2.heap.size, 4, none⟩) (by show w2.heap.size < _; omega)).trans c4_4
          have c5_5 : w5.cell? ⟨w2.heap.size, 5, none⟩ = some (.int .i64 x5) := (hb5.cell (p := ⟨w2.heap.size, 5, none⟩) (by show w2.heap.size < _; omega)).trans c4_5
          have c5_6 : w5.cell? ⟨w2.heap.size, 6, none⟩ = some (.bool false) := (hb5.cell (p := ⟨w2.heap.size, 6, none⟩) (by show w2.heap.size < _; omega)).trans c4_6
          have c5_7 : w5.cell? ⟨w2.heap.size, 7, none⟩ = some (.string f1) := (hb5.cell (p := ⟨w2.heap.size, 7, none⟩) (by show w2.heap.size < _; omega)).trans c4_7
          have c5_8 : w5.cell? ⟨w2.heap.size, 8, none⟩ = some (.string f2) := (hb5.cell (p := ⟨w2.heap.size, 8, none⟩) (by show w2.heap.size < _; omega)).trans c4_8
          have z5_0 : w5.cell? ⟨w.heap.size, 0, none⟩ = some (.int .i64 0) := (hb5.cell (p := ⟨w.heap.size, 0, none⟩) (by show w.heap.size < _; omega)).trans z4_0
          have z5_1 : w5.cell? ⟨w.heap.size, 1, none⟩ = some (.int .i64 0) := (hb5.cell (p := ⟨w.heap.size, 1, none⟩) (by show w.heap.size < _; omega)).trans z4_1
          have z5_2 : w5.cell? ⟨w.heap.size, 2, none⟩ = some (.int .i64 0) := (hb5.cell (p := ⟨w.heap.size, 2, none⟩) (by show w.heap.size < _; omega)).trans z4_2
          have z5_3 : w5.cell? ⟨w.heap.size, 3, none⟩ = some (.int .i64 0) := (hb5.cell (p := ⟨w.heap.size, 3, none⟩) (by show w.heap.size < _; omega)).trans z4_3
          have z5_4 : w5.cell? ⟨w.heap.size, 4, none⟩ = some (.int .i64 0) := (hb5.cell (p := ⟨w.heap.size, 4, none⟩) (by show w.heap.size < _; omega)).trans z4_4
          have z5_5 : w5.cell? ⟨w.heap.size, 5, none⟩ = some (.int .i64 0) := (hb5.cell (p := ⟨w.heap.size, 5, none⟩) (by show w.heap.size < _; omega)).trans z4_5
          have z5_6 : w5.cell? ⟨w.heap.size, 6, none⟩ = some (.bool false) := (hb5.cell (p := ⟨w.heap.size, 6, none⟩) (by show w.heap.size < _; omega)).trans z4_6
          have z5_7 : w5.cell? ⟨w.heap.size, 7, none⟩ = some (.string ⟨#[]⟩) := (hb5.cell (p := ⟨w.heap.size, 7, none⟩) (by show w.heap.size < _; omega)).trans z4_7
          have z5_8 : w5.cell? ⟨w.heap.size, 8, none⟩ = some (.string ⟨#[]⟩) := (hb5.cell (p := ⟨w.heap.size, 8, none⟩) (by show w.heap.size < _; omega)).trans z4_8
          have zf5 : ∀ o, w5.frozen? ⟨w.heap.size, o, none⟩ = false := fun o => (hb5.frozen (p := ⟨w.heap.size, o, none⟩) (by show w.heap.size < _; omega)).trans (zf4 o)
          have HB5 : Hid (Below w.heap.size w w5) := HB4.out.trans (hb5.mono (by omega))
          clear hb5 zf4 c4_0 c4_1 c4_2 c4_3 c4_4 c4_5 c4_6 c4_7 c4_8 z4_0 z4_1 z4_2 z4_3 z4_4 z4_5 z4_6 z4_7 z4_8
          by_cases he : enc = l
          · subst he
            have hw2H : ¬ w2.heap.size = w.heap.size := by omega
            have hw2H' : ¬ w.heap.size = w2.heap.size := by omega
            go_wp2_with fail
            refine bodyPost_ret (v := .tuple #[.agg #[.int .i64 x0, .int .i64 x1, .int .i64 x2, .int .i64 x3, .int .i64 (x4 - 1000), .int .i64 x5, .bool false, .string f1, .string f2], .bool true]) (by simp [results, Try.results87, go_sem, z5_0, z5_1, z5_2, z5_3, z5_4, z5_5, z5_6, z5_7, z5_8, zf5, c5_0, c5_1, c5_2, c5_3, c5_4, c5_5, c5_6, c5_7, c5_8, hw2H, hw2H']) rfl ?_
            exact ⟨x0, x1, x2, x3, x4 - 1000, x5, false, f1, f2, true, rfl, by omega, by omega, (fun _ => ⟨HK.out, HE.out⟩), (fun h => by cases h), (((((((((HB5.out.setCell (by simp) _).setCell (by simp) _).setCell (by simp) _).setCell (by simp) _).setCell (by simp) _).setCell (by simp) _).setCell (by simp) _).setCell (by simp) _).setCell (by simp) _)⟩
          · have he2 := strOf_eqb he
            have HNE := Lib.hid he
            clear he
            go_wp2_with fail
            refine bodyPost_ret (v := .tuple #[.agg #[.int .i64 0, .int .i64 0, .int .i64 0, .int .i64 0, .int .i64 0, .int .i64 0, .bool false, .string ⟨#[]⟩, .string ⟨#[]⟩], .bool false]) (by simp [results, Try.results87, go_sem, z5_0, z5_1, z5_2, z5_3, z5_4, z5_5, z5_6, z5_7, z5_8, zf5]) rfl ?_
            exact ⟨0, 0, 0, 0, 0, 0, false, ⟨#[]⟩, ⟨#[]⟩, false, rfl, Nat.zero_le _, Nat.zero_le _, (fun h => by cases h), (fun _ => HNOT.out (fun hc => HNE.out (by rw [← HE.out]; exact hc.2))), (((((((((HB5.out.setCell (by simp) _).setCell (by simp) _).setCell (by simp) _).setCell (by simp) _).setCell (by simp) _).setCell (by simp) _).setCell (by simp) _).setCell (by simp) _).setCell (by simp) _)⟩
end Go.Proofs.Ytmdjcoeijlnloaa
