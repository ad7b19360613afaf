/- spec.l07Apply. No conditions but sizes. -/
import Derived.Test.YtckaccadgbcohaaAppAll
import Derived.Deep.RegionLaw
namespace Go.Proofs.Ytckaccadgbcohaa
set_option linter.unusedVariables false
set_option linter.unusedSimpArgs false
section
open Go.RowKit
theorem nums_c (f : ByteArray) (w : World) (m : Nat) (h : f.size = 3 * m) (hl : f.size ≤ 65536) : Calls Try.prog 96 #[.string f] w (NumsR (some (rnF m f.data.toList)) w) := by
  have h1 := l02ReadNumbers_c f.data.toList w (by show f.data.toList.length ≤ _; have : f.data.toList.length = f.size := rfl; omega)
  have h0 : f.data.toList.length = f.size := rfl
  have h2 : allN f.data.toList = some (rnF m f.data.toList) := by
    unfold allN
    rw [if_pos (by omega), show f.data.toList.length / 3 = m by omega]
  rw [h2] at h1
  exact h1
theorem nums0_c (f : ByteArray) (w : World) (h : f.size % 3 ≠ 0) (hl : f.size ≤ 65536) : Calls Try.prog 96 #[.string f] w (NumsR none w) := by
  have h1 := l02ReadNumbers_c f.data.toList w (by show f.data.toList.length ≤ _; have : f.data.toList.length = f.size := rfl; omega)
  have h0 : f.data.toList.length = f.size := rfl
  have h2 : allN f.data.toList = none := by
    unfold allN
    rw [if_neg (by omega)]
  rw [h2] at h1
  exact h1
theorem rn1 (f : ByteArray) : rnF 1 f.data.toList = [n0F f] := rfl
theorem rn2 (f : ByteArray) : rnF 2 f.data.toList = [n0F f, n1F f] := rfl
set_option maxRecDepth 100000 in
set_option maxHeartbeats 16000000 in
theorem specApp_short (a : Option Addr) (ca : Nat) (xs : List Ent) (t v : Int) (l0 : List UInt8) (w : World) (ha : Sl entE 2 w a xs) (lx : xs.length ≤ 60) (hs : ∀ e ∈ xs, e.2.size ≤ 65536) (h0 : l0.length ≤ 65536) (F0 : Option (List ByteArray)) (ho : rdAll l0 = F0) (hF : ∀ F, F0 = some F → F.length < 2) :
    Calls Try.prog 66 #[.agg #[.int .i64 t, .int .i64 v, .slice a xs.length ca], .string (strOf l0)] w (AppR none w) := by
  have HO := Lib.hid ho
  have HF := Lib.hid hF
  clear hs ho hF
  go_enter Try.func66, Try.ntmps66
  go_wp2_with fail
  refine (l02Read_c l0 _ (by omega)).mono ?_
  rw [HO.out]
  rintro e w1 ⟨aF, cF, F, rfl, hfF, hF, hb1⟩
  have hz1' := hb1.size
  simp only [World.size_alloc] at hz1'
  have HB1 : Hid (Below w.heap.size w w1) := (by repeat (first | exact Below.refl _ _ | (refine Below.alloc ?_ (by (try simp) <;> (try omega)) _) | (refine Below.setCell ?_ (by (try simp) <;> (try omega)) _) | (refine Below.drew ?_) | (refine Below.trans ?_ (Below.mono (by assumption) (by (try simp) <;> (try omega))))))
  have q1_0 : w1.cell? ⟨w.heap.size, 0, none⟩ = some (.int .i64 t) := by
    rw [hb1.cell (p := ⟨w.heap.size, 0, none⟩) (show w.heap.size < _ by (try simp) <;> (try omega))]
    first | assumption | (simp [go_sem, *])
  have q1_1 : w1.cell? ⟨w.heap.size, 1, none⟩ = some (.int .i64 v) := by
    rw [hb1.cell (p := ⟨w.heap.size, 1, none⟩) (show w.heap.size < _ by (try simp) <;> (try omega))]
    first | assumption | (simp [go_sem, *])
  have q1_2 : w1.cell? ⟨w.heap.size, 2, none⟩ = some (.slice a xs.length ca) := by
    rw [hb1.cell (p := ⟨w.heap.size, 2, none⟩) (show w.heap.size < _ by (try simp) <;> (try omega))]
    first | assumption | (simp [go_sem, *])
  have ql1 : w.heap.size < w1.heap.size := by omega
  have r1_0 : w1.cell? ⟨w.heap.size + 1, 0, none⟩ = some (.int .i64 0) := by
    rw [hb1.cell (p := ⟨w.heap.size + 1, 0, none⟩) (show w.heap.size + 1 < _ by (try simp) <;> (try omega))]
    first | assumption | (simp [go_sem, *])
  have r1_1 : w1.cell? ⟨w.heap.size + 1, 1, none⟩ = some (.int .i64 0) := by
    rw [hb1.cell (p := ⟨w.heap.size + 1, 1, none⟩) (show w.heap.size + 1 < _ by (try simp) <;> (try omega))]
    first | assumption | (simp [go_sem, *])
  have r1_2 : w1.cell? ⟨w.heap.size + 1, 2, none⟩ = some (.slice none 0 0) := by
    rw [hb1.cell (p := ⟨w.heap.size + 1, 2, none⟩) (show w.heap.size + 1 < _ by (try simp) <;> (try omega))]
    first | assumption | (simp [go_sem, *])
  have rf1 : ∀ o, w1.frozen? ⟨w.heap.size + 1, o, none⟩ = false := fun o => by
    rw [hb1.frozen (p := ⟨w.heap.size + 1, o, none⟩) (show w.heap.size + 1 < _ by (try simp) <;> (try omega))]
    simp [go_sem]
  have rl1 : w.heap.size + 1 < w1.heap.size := by omega
  cases F0 with
  | none =>
    go_wp2_with fail
    refine bodyPost_ret (v := .tuple #[.agg #[.int .i64 t, .int .i64 v, .slice a xs.length ca], .bool false]) (by simp [results, Try.results66, go_sem, r1_0, r1_1, r1_2, q1_0, q1_1, q1_2]) rfl ?_
    refine ⟨t, v, a, ca, xs, rfl, (fun _ h => by cases h), ?_⟩
    repeat (first | exact HB1.out | (refine Below.setCell ?_ (by (try simp) <;> (try omega)) _) | (refine Below.trans ?_ (below_drewN _ _ _)) | (refine Below.drew ?_))
  | some F' =>
    have hlt : (F.length : Int) < 2 := by
      have h1 := HF.out F' rfl
      rw [hF F' rfl]
      omega
    clear hF
    go_wp2_with fail
    refine bodyPost_ret (v := .tuple #[.agg #[.int .i64 t, .int .i64 v, .slice a xs.length ca], .bool false]) (by simp [results, Try.results66, go_sem, r1_0, r1_1, r1_2, q1_0, q1_1, q1_2]) rfl ?_
    refine ⟨t, v, a, ca, xs, rfl, (fun _ h => by cases h), ?_⟩
    repeat (first | exact HB1.out | (refine Below.setCell ?_ (by (try simp) <;> (try omega)) _) | (refine Below.trans ?_ (below_drewN _ _ _)) | (refine Below.drew ?_))
set_option maxRecDepth 100000 in
set_option maxHeartbeats 16000000 in
theorem specApp_nonum (a : Option Addr) (ca : Nat) (xs : List Ent) (t v : Int) (l0 : List UInt8) (w : World) (ha : Sl entE 2 w a xs) (lx : xs.length ≤ 60) (hs : ∀ e ∈ xs, e.2.size ≤ 65536) (h0 : l0.length ≤ 65536) (f0 f1 : ByteArray) (rest : List ByteArray) (ho : rdAll l0 = some (f0 :: f1 :: rest)) (hsz : f1.size % 3 ≠ 0) :
    Calls Try.prog 66 #[.agg #[.int .i64 t, .int .i64 v, .slice a xs.length ca], .string (strOf l0)] w (AppR (none) w) := by
  obtain ⟨i0, hi, hz0, hz1, hz2⟩ := info_parts Try.infoEntry
  have HS := Lib.hid hs
  have HO := Lib.hid ho
  have HFZ := Lib.hid (rdAll_size l0 _ ho)
  have hF1 := HFZ.out f1 (by simp)
  have HF2 : Hid (∀ s ∈ rest, s.size ≤ l0.length) := Lib.hid fun s (hs : s ∈ rest) => HFZ.out s (by simp [hs])
  clear hs ho HFZ
  go_enter Try.func66, Try.ntmps66
  go_wp2_with fail
  refine (l02Read_c l0 _ (by omega)).mono ?_
  rw [HO.out]
  rintro e w0 ⟨aF, cF, F, rfl, hfF, hF, hb0⟩
  have hF' := hF _ rfl
  have hSF : Sl strE 1 w0 aF F := hfF.sl (fun _ => rfl)
  rw [hF'] at hSF
  have hnF : F.length = rest.length + 2 := by rw [hF']; rfl
  clear hfF hF hF'
  generalize F.length = nF at *
  obtain ⟨bF, oF, rfl, hbF, hcF⟩ := hSF.at (i := 0) (by simp)
  have d0_0 : w0.cell? ⟨bF, oF, none⟩ = some (.string f0) := by
    have := hcF 0 (by simp) 0 (by omega)
    simpa [strE] using this
  have d0_1 : w0.cell? ⟨bF, oF + 1, none⟩ = some (.string f1) := by
    have := hcF 1 (by simp) 0 (by omega)
    simpa [strE] using this
  have D0 : Hid (∀ f2 r', rest = f2 :: r' → w0.cell? ⟨bF, oF + 2, none⟩ = some (.string f2)) := Lib.hid fun f2 r' h => by
    subst h
    have := hcF 2 (by simp) 0 (by omega)
    simpa [strE] using this
  clear hcF hSF
  have hz0' := hb0.size
  simp only [World.size_alloc] at hz0'
  have HB0 : Hid (Below w.heap.size w w0) := (((Below.refl w.heap.size w).alloc (Nat.le_refl _) _).alloc (by simp) _).trans (hb0.mono (by simp; omega))
  have HA0 := Lib.hid (ha.keep HB0.out)
  have q0_0 : w0.cell? ⟨w.heap.size, 0, none⟩ = some (.int .i64 t) := by
    rw [hb0.cell (p := ⟨w.heap.size, 0, none⟩) (show w.heap.size < _ by (try simp) <;> (try omega))]
    first | assumption | (simp [go_sem, *])
  have q0_1 : w0.cell? ⟨w.heap.size, 1, none⟩ = some (.int .i64 v) := by
    rw [hb0.cell (p := ⟨w.heap.size, 1, none⟩) (show w.heap.size < _ by (try simp) <;> (try omega))]
    first | assumption | (simp [go_sem, *])
  have q0_2 : w0.cell? ⟨w.heap.size, 2, none⟩ = some (.slice a xs.length ca) := by
    rw [hb0.cell (p := ⟨w.heap.size, 2, none⟩) (show w.heap.size < _ by (try simp) <;> (try omega))]
    first | assumption | (simp [go_sem, *])
  have ql0 : w.heap.size < w0.heap.size := by omega
  have r0_0 : w0.cell? ⟨w.heap.size + 1, 0, none⟩ = some (.int .i64 0) := by
    rw [hb0.cell (p := ⟨w.heap.size + 1, 0, none⟩) (show w.heap.size + 1 < _ by (try simp) <;> (try omega))]
    first | assumption | (simp [go_sem, *])
  have r0_1 : w0.cell? ⟨w.heap.size + 1, 1, none⟩ = some (.int .i64 0) := by
    rw [hb0.cell (p := ⟨w.heap.size + 1, 1, none⟩) (show w.heap.size + 1 < _ by (try simp) <;> (try omega))]
    first | assumption | (simp [go_sem, *])
  have r0_2 : w0.cell? ⟨w.heap.size + 1, 2, none⟩ = some (.slice none 0 0) := by
    rw [hb0.cell (p := ⟨w.heap.size + 1, 2, none⟩) (show w.heap.size + 1 < _ by (try simp) <;> (try omega))]
    first | assumption | (simp [go_sem, *])
  have rf0 : ∀ o, w0.frozen? ⟨w.heap.size + 1, o, none⟩ = false := fun o => by
    rw [hb0.frozen (p := ⟨w.heap.size + 1, o, none⟩) (show w.heap.size + 1 < _ by (try simp) <;> (try omega))]
    simp [go_sem]
  have rl0 : w.heap.size + 1 < w0.heap.size := by omega
  clear hb0
  have hlt : decide ((nF : Int) < 2) = false := by simp; omega
  have hlt2 : ¬ ((nF : Int) < 2) := by omega
  have hi0' : (0 : Int) < (nF : Int) := by omega
  have hi1' : (1 : Int) < (nF : Int) := by omega
  have HNF := Lib.hid hnF
  clear hnF
  go_wp2_with fail
  refine (nums0_c f1 _ hsz (by omega)).mono ?_
  rintro e w1 ⟨aN, cN, N, rfl, hfN, hN, hb1⟩
  clear hfN hN
  have hz1' := hb1.size
  have HB1 : Hid (Below w.heap.size w w1) := HB0.out.trans (hb1.mono (by omega))
  have q1_0 : w1.cell? ⟨w.heap.size, 0, none⟩ = some (.int .i64 t) := by
    rw [hb1.cell (p := ⟨w.heap.size, 0, none⟩) (show w.heap.size < _ by (try simp) <;> (try omega))]
    first | assumption | (simp [go_sem, *])
  have q1_1 : w1.cell? ⟨w.heap.size, 1, none⟩ = some (.int .i64 v) := by
    rw [hb1.cell (p := ⟨w.heap.size, 1, none⟩) (show w.heap.size < _ by (try simp) <;> (try omega))]
    first | assumption | (simp [go_sem, *])
  have q1_2 : w1.cell? ⟨w.heap.size, 2, none⟩ = some (.slice a xs.length ca) := by
    rw [hb1.cell (p := ⟨w.heap.size, 2, none⟩) (show w.heap.size < _ by (try simp) <;> (try omega))]
    first | assumption | (simp [go_sem, *])
  have ql1 : w.heap.size < w1.heap.size := by omega
  have r1_0 : w1.cell? ⟨w.heap.size + 1, 0, none⟩ = some (.int .i64 0) := by
    rw [hb1.cell (p := ⟨w.heap.size + 1, 0, none⟩) (show w.heap.size + 1 < _ by (try simp) <;> (try omega))]
    first | assumption | (simp [go_sem, *])
  have r1_1 : w1.cell? ⟨w.heap.size + 1, 1, none⟩ = some (.int .i64 0) := by
    rw [hb1.cell (p := ⟨w.heap.size + 1, 1, none⟩) (show w.heap.size + 1 < _ by (try simp) <;> (try omega))]
    first | assumption | (simp [go_sem, *])
  have r1_2 : w1.cell? ⟨w.heap.size + 1, 2, none⟩ = some (.slice none 0 0) := by
    rw [hb1.cell (p := ⟨w.heap.size + 1, 2, none⟩) (show w.heap.size + 1 < _ by (try simp) <;> (try omega))]
    first | assumption | (simp [go_sem, *])
  have rf1 : ∀ o, w1.frozen? ⟨w.heap.size + 1, o, none⟩ = false := fun o => by
    rw [hb1.frozen (p := ⟨w.heap.size + 1, o, none⟩) (show w.heap.size + 1 < _ by (try simp) <;> (try omega))]
    first | exact rf0 o | (simp [go_sem]; done) | (rw [((Below.refl _ _).alloc (Nat.le_refl _) _ : Below _ _ _).frozen (p := ⟨w.heap.size + 1, o, none⟩) (show w.heap.size + 1 < _ by omega)]; exact rf0 o)
  have rl1 : w.heap.size + 1 < w1.heap.size := by omega
  go_wp2_with fail
  refine bodyPost_ret (v := .tuple #[.agg #[.int .i64 t, .int .i64 v, .slice a xs.length ca], .bool false]) (by simp [results, Try.results66, go_sem, r1_0, r1_1, r1_2, q1_0, q1_1, q1_2]) rfl ?_
  refine ⟨t, v, a, ca, xs, rfl, (fun _ h => by cases h), ?_⟩
  repeat (first | exact HB1.out | (refine Below.setCell ?_ (by (try simp) <;> (try omega)) _) | (refine Below.trans ?_ (below_drewN _ _ _)) | (refine Below.drew ?_))
end
section
open Go.RowKit
set_option maxRecDepth 100000 in
set_option maxHeartbeats 16000000 in
theorem specApp_Trest (a : Option Addr) (ca : Nat) (xs : List Ent) (t v : Int) (l0 : List UInt8) (w : World) (ha : Sl entE 2 w a xs) (lx : xs.length ≤ 60) (hs : ∀ e ∈ xs, e.2.size ≤ 65536) (h0 : l0.length ≤ 65536) (f0 f1 : ByteArray) (rest : List ByteArray) (ho : rdAll l0 = some (f0 :: f1 :: rest)) (m : Nat) (hT : f0 = str1 116) (hsz : f1.size = 3 * m) (hr : rest.length ≠ 0) :
    Calls Try.prog 66 #[.agg #[.int .i64 t, .int .i64 v, .slice a xs.length ca], .string (strOf l0)] w (AppR (none) w) := by
  obtain ⟨i0, hi, hz0, hz1, hz2⟩ := info_parts Try.infoEntry
  have HS := Lib.hid hs
  have HO := Lib.hid ho
  have HFZ := Lib.hid (rdAll_size l0 _ ho)
  have hF1 := HFZ.out f1 (by simp)
  have HF2 : Hid (∀ s ∈ rest, s.size ≤ l0.length) := Lib.hid fun s (hs : s ∈ rest) => HFZ.out s (by simp [hs])
  clear hs ho HFZ
  have HT := Lib.hid hT
  clear hT
  go_enter Try.func66, Try.ntmps66
  go_wp2_with fail
  refine (l02Read_c l0 _ (by omega)).mono ?_
  rw [HO.out]
  rintro e w0 ⟨aF, cF, F, rfl, hfF, hF, hb0⟩
  have hF' := hF _ rfl
  have hSF : Sl strE 1 w0 aF F := hfF.sl (fun _ => rfl)
  rw [hF'] at hSF
  have hnF : F.length = rest.length + 2 := by rw [hF']; rfl
  clear hfF hF hF'
  generalize F.length = nF at *
  obtain ⟨bF, oF, rfl, hbF, hcF⟩ := hSF.at (i := 0) (by simp)
  have d0_0 : w0.cell? ⟨bF, oF, none⟩ = some (.string f0) := by
    have := hcF 0 (by simp) 0 (by omega)
    simpa [strE] using this
  have d0_1 : w0.cell? ⟨bF, oF + 1, none⟩ = some (.string f1) := by
    have := hcF 1 (by simp) 0 (by omega)
    simpa [strE] using this
  have D0 : Hid (∀ f2 r', rest = f2 :: r' → w0.cell? ⟨bF, oF + 2, none⟩ = some (.string f2)) := Lib.hid fun f2 r' h => by
    subst h
    have := hcF 2 (by simp) 0 (by omega)
    simpa [strE] using this
  clear hcF hSF
  have hz0' := hb0.size
  simp only [World.size_alloc] at hz0'
  have HB0 : Hid (Below w.heap.size w w0) := (((Below.refl w.heap.size w).alloc (Nat.le_refl _) _).alloc (by simp) _).trans (hb0.mono (by simp; omega))
  have HA0 := Lib.hid (ha.keep HB0.out)
  have q0_0 : w0.cell? ⟨w.heap.size, 0, none⟩ = some (.int .i64 t) := by
    rw [hb0.cell (p := ⟨w.heap.size, 0, none⟩) (show w.heap.size < _ by (try simp) <;> (try omega))]
    first | assumption | (simp [go_sem, *])
  have q0_1 : w0.cell? ⟨w.heap.size, 1, none⟩ = some (.int .i64 v) := by
    rw [hb0.cell (p := ⟨w.heap.size, 1, none⟩) (show w.heap.size < _ by (try simp) <;> (try omega))]
    first | assumption | (simp [go_sem, *])
  have q0_2 : w0.cell? ⟨w.heap.size, 2, none⟩ = some (.slice a xs.length ca) := by
    rw [hb0.cell (p := ⟨w.heap.size, 2, none⟩) (show w.heap.size < _ by (try simp) <;> (try omega))]
    first | assumption | (simp [go_sem, *])
  have ql0 : w.heap.size < w0.heap.size := by omega
  have r0_0 : w0.cell? ⟨w.heap.size + 1, 0, none⟩ = some (.int .i64 0) := by
    rw [hb0.cell (p := ⟨w.heap.size + 1, 0, none⟩) (show w.heap.size + 1 < _ by (try simp) <;> (try omega))]
    first | assumption | (simp [go_sem, *])
  have r0_1 : w0.cell? ⟨w.heap.size + 1, 1, none⟩ = some (.int .i64 0) := by
    rw [hb0.cell (p := ⟨w.heap.size + 1, 1, none⟩) (show w.heap.size + 1 < _ by (try simp) <;> (try omega))]
    first | assumption | (simp [go_sem, *])
  have r0_2 : w0.cell? ⟨w.heap.size + 1, 2, none⟩ = some (.slice none 0 0) := by
    rw [hb0.cell (p := ⟨w.heap.size + 1, 2, none⟩) (show w.heap.size + 1 < _ by (try simp) <;> (try omega))]
    first | assumption | (simp [go_sem, *])
  have rf0 : ∀ o, w0.frozen? ⟨w.heap.size + 1, o, none⟩ = false := fun o => by
    rw [hb0.frozen (p := ⟨w.heap.size + 1, o, none⟩) (show w.heap.size + 1 < _ by (try simp) <;> (try omega))]
    simp [go_sem]
  have rl0 : w.heap.size + 1 < w0.heap.size := by omega
  clear hb0
  have hlt : decide ((nF : Int) < 2) = false := by simp; omega
  have hlt2 : ¬ ((nF : Int) < 2) := by omega
  have hi0' : (0 : Int) < (nF : Int) := by omega
  have hi1' : (1 : Int) < (nF : Int) := by omega
  have HNF := Lib.hid hnF
  clear hnF
  go_wp2_with fail
  refine (nums_c f1 _ m hsz (by omega)).mono ?_
  rintro e w1 ⟨aN, cN, N, rfl, hfN, hN, hb1⟩
  have hz1' := hb1.size
  have HB1 : Hid (Below w.heap.size w w1) := HB0.out.trans (hb1.mono (by omega))
  have HA1 := Lib.hid (HA0.out.keep hb1)
  have hN' := hN _ rfl
  have q1_0 : w1.cell? ⟨w.heap.size, 0, none⟩ = some (.int .i64 t) := by
    rw [hb1.cell (p := ⟨w.heap.size, 0, none⟩) (show w.heap.size < _ by (try simp) <;> (try omega))]
    first | assumption | (simp [go_sem, *])
  have q1_1 : w1.cell? ⟨w.heap.size, 1, none⟩ = some (.int .i64 v) := by
    rw [hb1.cell (p := ⟨w.heap.size, 1, none⟩) (show w.heap.size < _ by (try simp) <;> (try omega))]
    first | assumption | (simp [go_sem, *])
  have q1_2 : w1.cell? ⟨w.heap.size, 2, none⟩ = some (.slice a xs.length ca) := by
    rw [hb1.cell (p := ⟨w.heap.size, 2, none⟩) (show w.heap.size < _ by (try simp) <;> (try omega))]
    first | assumption | (simp [go_sem, *])
  have ql1 : w.heap.size < w1.heap.size := by omega
  have r1_0 : w1.cell? ⟨w.heap.size + 1, 0, none⟩ = some (.int .i64 0) := by
    rw [hb1.cell (p := ⟨w.heap.size + 1, 0, none⟩) (show w.heap.size + 1 < _ by (try simp) <;> (try omega))]
    first | assumption | (simp [go_sem, *])
  have r1_1 : w1.cell? ⟨w.heap.size + 1, 1, none⟩ = some (.int .i64 0) := by
    rw [hb1.cell (p := ⟨w.heap.size + 1, 1, none⟩) (show w.heap.size + 1 < _ by (try simp) <;> (try omega))]
    first | assumption | (simp [go_sem, *])
  have r1_2 : w1.cell? ⟨w.heap.size + 1, 2, none⟩ = some (.slice none 0 0) := by
    rw [hb1.cell (p := ⟨w.heap.size + 1, 2, none⟩) (show w.heap.size + 1 < _ by (try simp) <;> (try omega))]
    first | assumption | (simp [go_sem, *])
  have rf1 : ∀ o, w1.frozen? ⟨w.heap.size + 1, o, none⟩ = false := fun o => by
    rw [hb1.frozen (p := ⟨w.heap.size + 1, o, none⟩) (show w.heap.size + 1 < _ by (try simp) <;> (try omega))]
    first | exact rf0 o | (simp [go_sem]; done) | (rw [((Below.refl _ _).alloc (Nat.le_refl _) _ : Below _ _ _).frozen (p := ⟨w.heap.size + 1, o, none⟩) (show w.heap.size + 1 < _ by omega)]; exact rf0 o)
  have rl1 : w.heap.size + 1 < w1.heap.size := by omega
  have d1_0 : w1.cell? ⟨bF, oF, none⟩ = some (.string f0) := by
    rw [hb1.cell (p := ⟨bF, oF, none⟩) (by show bF < _; omega)]
    exact d0_0
  have D1 : Hid (∀ f2 r', rest = f2 :: r' → w1.cell? ⟨bF, oF + 2, none⟩ = some (.string f2)) := Lib.hid (fun f2 r' h => by
    rw [hb1.cell (p := ⟨bF, oF + 2, none⟩) (by show bF < _; omega)]
    exact D0.out f2 r' h)
  have hbF1 : bF < w1.heap.size := by omega
  clear hb1 d0_0 d0_1 D0 HB0 HA0 q0_0 q0_1 q0_2 r0_0 r0_1 r0_2 rf0
  have hnN : N.length = m := by rw [hN']; exact rnF_length _ _
  clear hfN hN hN'
  generalize N.length = nN at *
  have HNN := Lib.hid hnN
  clear hnN
  go_wp2_with fail
  refine (l07Own_c a ca xs t v _ HA1.out (by omega)).mono ?_
  rintro e w2 ⟨a2, c2, rfl, hf2, hb2⟩
  have hz2' := hb2.size
  have q2_0 : w2.cell? ⟨w.heap.size, 0, none⟩ = some (.int .i64 t) := by
    rw [hb2.cell (p := ⟨w.heap.size, 0, none⟩) (show w.heap.size < _ by (try simp) <;> (try omega))]
    first | assumption | (simp [go_sem, *])
  have q2_1 : w2.cell? ⟨w.heap.size, 1, none⟩ = some (.int .i64 v) := by
    rw [hb2.cell (p := ⟨w.heap.size, 1, none⟩) (show w.heap.size < _ by (try simp) <;> (try omega))]
    first | assumption | (simp [go_sem, *])
  have q2_2 : w2.cell? ⟨w.heap.size, 2, none⟩ = some (.slice a xs.length ca) := by
    rw [hb2.cell (p := ⟨w.heap.size, 2, none⟩) (show w.heap.size < _ by (try simp) <;> (try omega))]
    first | assumption | (simp [go_sem, *])
  have ql2 : w.heap.size < w2.heap.size := by omega
  have r2_0 : w2.cell? ⟨w.heap.size + 1, 0, none⟩ = some (.int .i64 0) := by
    rw [hb2.cell (p := ⟨w.heap.size + 1, 0, none⟩) (show w.heap.size + 1 < _ by (try simp) <;> (try omega))]
    first | assumption | (simp [go_sem, *])
  have r2_1 : w2.cell? ⟨w.heap.size + 1, 1, none⟩ = some (.int .i64 0) := by
    rw [hb2.cell (p := ⟨w.heap.size + 1, 1, none⟩) (show w.heap.size + 1 < _ by (try simp) <;> (try omega))]
    first | assumption | (simp [go_sem, *])
  have r2_2 : w2.cell? ⟨w.heap.size + 1, 2, none⟩ = some (.slice none 0 0) := by
    rw [hb2.cell (p := ⟨w.heap.size + 1, 2, none⟩) (show w.heap.size + 1 < _ by (try simp) <;> (try omega))]
    first | assumption | (simp [go_sem, *])
  have rf2 : ∀ o, w2.frozen? ⟨w.heap.size + 1, o, none⟩ = false := fun o => by
    rw [hb2.frozen (p := ⟨w.heap.size + 1, o, none⟩) (show w.heap.size + 1 < _ by (try simp) <;> (try omega))]
    first | exact rf1 o | (simp [go_sem]; done) | (rw [((Below.refl _ _).alloc (Nat.le_refl _) _ : Below _ _ _).frozen (p := ⟨w.heap.size + 1, o, none⟩) (show w.heap.size + 1 < _ by omega)]; exact rf1 o)
  have rl2 : w.heap.size + 1 < w2.heap.size := by omega
  have d2_0 : w2.cell? ⟨bF, oF, none⟩ = some (.string f0) := by
    rw [hb2.cell (p := ⟨bF, oF, none⟩) (by show bF < _; omega)]
    exact d1_0
  have D2 : Hid (∀ f2 r', rest = f2 :: r' → w2.cell? ⟨bF, oF + 2, none⟩ = some (.string f2)) := Lib.hid (fun f2 r' h => by
    rw [hb2.cell (p := ⟨bF, oF + 2, none⟩) (by show bF < _; omega)]
    exact D1.out f2 r' h)
  have HB2 : Hid (Below w.heap.size w w2) := HB1.out.trans (hb2.mono (by omega))
  have HL2 := Lib.hid hf2.here
  clear hb2 hf2 d1_0 D1 HB1 HA1 q1_0 q1_1 q1_2 r1_0 r1_1 r1_2 rf1
  go_upto_block 0 with fail
  generalize hw3 : w2.alloc (.cells #[.int .i64 t, .int .i64 v, .slice a2 xs.length c2] 60) = w3
  have hz3' : w2.heap.size < w3.heap.size := by rw [← hw3]; simp
  have HB3 : Hid (Below w.heap.size w w3) := by
    rw [← hw3]
    exact HB2.out.alloc (by omega) _
  have HL3 : Hid (FreshIn entE 76 2 w1.heap.size w2.heap.size (.slice a2 xs.length c2) xs w3) := by
    rw [← hw3]
    exact HL2.out.alloc _
  have s3_0 : w3.cell? ⟨w2.heap.size, 0, none⟩ = some (.int .i64 t) := by
    rw [← hw3]
    first | (simp [go_sem]; done) | (rw [World.cell?_alloc_lt _ _ _ (by show w2.heap.size < _; omega)]; assumption)
  have s3_1 : w3.cell? ⟨w2.heap.size, 1, none⟩ = some (.int .i64 v) := by
    rw [← hw3]
    first | (simp [go_sem]; done) | (rw [World.cell?_alloc_lt _ _ _ (by show w2.heap.size < _; omega)]; assumption)
  have s3_2 : w3.cell? ⟨w2.heap.size, 2, none⟩ = some (.slice a2 xs.length c2) := by
    rw [← hw3]
    first | (simp [go_sem]; done) | (rw [World.cell?_alloc_lt _ _ _ (by show w2.heap.size < _; omega)]; assumption)
  have q3_0 : w3.cell? ⟨w.heap.size, 0, none⟩ = some (.int .i64 t) := by
    rw [← hw3]
    first | (simp [go_sem]; done) | (rw [World.cell?_alloc_lt _ _ _ (by show w.heap.size < _; omega)]; assumption)
  have q3_1 : w3.cell? ⟨w.heap.size, 1, none⟩ = some (.int .i64 v) := by
    rw [← hw3]
    first | (simp [go_sem]; done) | (rw [World.cell?_alloc_lt _ _ _ (by show w.heap.size < _; omega)]; assumption)
  have q3_2 : w3.cell? ⟨w.heap.size, 2, none⟩ = some (.slice a xs.length ca) := by
    rw [← hw3]
    first | (simp [go_sem]; done) | (rw [World.cell?_alloc_lt _ _ _ (by show w.heap.size < _; omega)]; assumption)
  have r3_0 : w3.cell? ⟨w.heap.size + 1, 0, none⟩ = some (.int .i64 0) := by
    rw [← hw3]
    first | (simp [go_sem]; done) | (rw [World.cell?_alloc_lt _ _ _ (by show w.heap.size + 1 < _; omega)]; assumption)
  have r3_1 : w3.cell? ⟨w.heap.size + 1, 1, none⟩ = some (.int .i64 0) := by
    rw [← hw3]
    first | (simp [go_sem]; done) | (rw [World.cell?_alloc_lt _ _ _ (by show w.heap.size + 1 < _; omega)]; assumption)
  have r3_2 : w3.cell? ⟨w.heap.size + 1, 2, none⟩ = some (.slice none 0 0) := by
    rw [← hw3]
    first | (simp [go_sem]; done) | (rw [World.cell?_alloc_lt _ _ _ (by show w.heap.size + 1 < _; omega)]; assumption)
  have d3_0 : w3.cell? ⟨bF, oF, none⟩ = some (.string f0) := by
    rw [← hw3]
    first | (simp [go_sem]; done) | (rw [World.cell?_alloc_lt _ _ _ (by show bF < _; omega)]; assumption)
  have sf3 : ∀ o, w3.frozen? ⟨w2.heap.size, o, none⟩ = false := fun o => by
    rw [← hw3]
    simp [go_sem]
  have rf3 : ∀ o, w3.frozen? ⟨w.heap.size + 1, o, none⟩ = false := fun o => by
    rw [← hw3, ((Below.refl w2.heap.size w2).alloc (Nat.le_refl _) _ : Below _ _ _).frozen (p := ⟨w.heap.size + 1, o, none⟩) (by show w.heap.size + 1 < _; omega)]
    exact rf2 o
  have D3 : Hid (∀ f2 r', rest = f2 :: r' → w3.cell? ⟨bF, oF + 2, none⟩ = some (.string f2)) := Lib.hid (fun f2 r' h => by
    rw [← hw3, World.cell?_alloc_lt _ _ _ (by show bF < _; omega)]
    exact D2.out f2 r' h)
  have ql3 : w.heap.size < w3.heap.size := by omega
  have rl3 : w.heap.size + 1 < w3.heap.size := by omega
  have sl3 : w2.heap.size < w3.heap.size := hz3'
  have hbF2 : bF < w2.heap.size := by omega
  have hbF3 : bF < w3.heap.size := by omega
  clear hw3 d2_0 D2 HB2 HL2 q2_0 q2_1 q2_2 r2_0 r2_1 r2_2 rf2
  have e2a : (f0.toList == [116]) = true := str1_is HT.out
  have e2c : (f0.toList == [99]) = false := str1_other HT.out (by decide)
  have e3c : (f0.toList == [101]) = false := str1_other HT.out (by decide)
  have h1 := HNF.out
  have e1 : decide ((nF : Int) = 2) = false := by simp; omega
  have e1b : decide (nF = 2) = false := by simp; omega
  have e1c : ((nF : Int) == 2) = false := by simp; omega
  clear h1
  go_wp2_with fail
  go_quiet (fail)
  go_wp2_with fail
  refine bodyPost_ret (v := .tuple #[.agg #[.int .i64 t, .int .i64 v, .slice a xs.length ca], .bool false]) (by simp [results, Try.results66, go_sem, r3_0, r3_1, r3_2, q3_0, q3_1, q3_2]) rfl ?_
  refine ⟨t, v, a, ca, xs, rfl, (fun _ h => by cases h), ?_⟩
  repeat (first | exact HB3.out | (refine Below.setCell ?_ (by (try simp) <;> (try omega)) _) | (refine Below.trans ?_ (below_drewN _ _ _)) | (refine Below.drew ?_))
set_option maxRecDepth 100000 in
set_option maxHeartbeats 16000000 in
theorem specApp_Tsz (a : Option Addr) (ca : Nat) (xs : List Ent) (t v : Int) (l0 : List UInt8) (w : World) (ha : Sl entE 2 w a xs) (lx : xs.length ≤ 60) (hs : ∀ e ∈ xs, e.2.size ≤ 65536) (h0 : l0.length ≤ 65536) (f0 f1 : ByteArray) (rest : List ByteArray) (ho : rdAll l0 = some (f0 :: f1 :: rest)) (m : Nat) (hT : f0 = str1 116) (hsz : f1.size = 3 * m) (hr : rest.length = 0) (hm : m ≠ 2) :
    Calls Try.prog 66 #[.agg #[.int .i64 t, .int .i64 v, .slice a xs.length ca], .string (strOf l0)] w (AppR (none) w) := by
  obtain ⟨i0, hi, hz0, hz1, hz2⟩ := info_parts Try.infoEntry
  have HS := Lib.hid hs
  have HO := Lib.hid ho
  have HFZ := Lib.hid (rdAll_size l0 _ ho)
  have hF1 := HFZ.out f1 (by simp)
  have HF2 : Hid (∀ s ∈ rest, s.size ≤ l0.length) := Lib.hid fun s (hs : s ∈ rest) => HFZ.out s (by simp [hs])
  clear hs ho HFZ
  have HT := Lib.hid hT
  clear hT
  go_enter Try.func66, Try.ntmps66
  go_wp2_with fail
  refine (l02Read_c l0 _ (by omega)).mono ?_
  rw [HO.out]
  rintro e w0 ⟨aF, cF, F, rfl, hfF, hF, hb0⟩
  have hF' := hF _ rfl
  have hSF : Sl strE 1 w0 aF F := hfF.sl (fun _ => rfl)
  rw [hF'] at hSF
  have hnF : F.length = rest.length + 2 := by rw [hF']; rfl
  clear hfF hF hF'
  generalize F.length = nF at *
  obtain ⟨bF, oF, rfl, hbF, hcF⟩ := hSF.at (i := 0) (by simp)
  have d0_0 : w0.cell? ⟨bF, oF, none⟩ = some (.string f0) := by
    have := hcF 0 (by simp) 0 (by omega)
    simpa [strE] using this
  have d0_1 : w0.cell? ⟨bF, oF + 1, none⟩ = some (.string f1) := by
    have := hcF 1 (by simp) 0 (by omega)
    simpa [strE] using this
  have D0 : Hid (∀ f2 r', rest = f2 :: r' → w0.cell? ⟨bF, oF + 2, none⟩ = some (.string f2)) := Lib.hid fun f2 r' h => by
    subst h
    have := hcF 2 (by simp) 0 (by omega)
    simpa [strE] using this
  clear hcF hSF
  have hz0' := hb0.size
  simp only [World.size_alloc] at hz0'
  have HB0 : Hid (Below w.heap.size w w0) := (((Below.refl w.heap.size w).alloc (Nat.le_refl _) _).alloc (by simp) _).trans (hb0.mono (by simp; omega))
  have HA0 := Lib.hid (ha.keep HB0.out)
  have q0_0 : w0.cell? ⟨w.heap.size, 0, none⟩ = some (.int .i64 t) := by
    rw [hb0.cell (p := ⟨w.heap.size, 0, none⟩) (show w.heap.size < _ by (try simp) <;> (try omega))]
    first | assumption | (simp [go_sem, *])
  have q0_1 : w0.cell? ⟨w.heap.size, 1, none⟩ = some (.int .i64 v) := by
    rw [hb0.cell (p := ⟨w.heap.size, 1, none⟩) (show w.heap.size < _ by (try simp) <;> (try omega))]
    first | assumption | (simp [go_sem, *])
  have q0_2 : w0.cell? ⟨w.heap.size, 2, none⟩ = some (.slice a xs.length ca) := by
    rw [hb0.cell (p := ⟨w.heap.size, 2, none⟩) (show w.heap.size < _ by (try simp) <;> (try omega))]
    first | assumption | (simp [go_sem, *])
  have ql0 : w.heap.size < w0.heap.size := by omega
  have r0_0 : w0.cell? ⟨w.heap.size + 1, 0, none⟩ = some (.int .i64 0) := by
    rw [hb0.cell (p := ⟨w.heap.size + 1, 0, none⟩) (show w.heap.size + 1 < _ by (try simp) <;> (try omega))]
    first | assumption | (simp [go_sem, *])
  have r0_1 : w0.cell? ⟨w.heap.size + 1, 1, none⟩ = some (.int .i64 0) := by
    rw [hb0.cell (p := ⟨w.heap.size + 1, 1, none⟩) (show w.heap.size + 1 < _ by (try simp) <;> (try omega))]
    first | assumption | (simp [go_sem, *])
  have r0_2 : w0.cell? ⟨w.heap.size + 1, 2, none⟩ = some (.slice none 0 0) := by
    rw [hb0.cell (p := ⟨w.heap.size + 1, 2, none⟩) (show w.heap.size + 1 < _ by (try simp) <;> (try omega))]
    first | assumption | (simp [go_sem, *])
  have rf0 : ∀ o, w0.frozen? ⟨w.heap.size + 1, o, none⟩ = false := fun o => by
    rw [hb0.frozen (p := ⟨w.heap.size + 1, o, none⟩) (show w.heap.size + 1 < _ by (try simp) <;> (try omega))]
    simp [go_sem]
  have rl0 : w.heap.size + 1 < w0.heap.size := by omega
  clear hb0
  have hlt : decide ((nF : Int) < 2) = false := by simp; omega
  have hlt2 : ¬ ((nF : Int) < 2) := by omega
  have hi0' : (0 : Int) < (nF : Int) := by omega
  have hi1' : (1 : Int) < (nF : Int) := by omega
  have HNF := Lib.hid hnF
  clear hnF
  go_wp2_with fail
  refine (nums_c f1 _ m hsz (by omega)).mono ?_
  rintro e w1 ⟨aN, cN, N, rfl, hfN, hN, hb1⟩
  have hz1' := hb1.size
  have HB1 : Hid (Below w.heap.size w w1) := HB0.out.trans (hb1.mono (by omega))
  have HA1 := Lib.hid (HA0.out.keep hb1)
  have hN' := hN _ rfl
  have q1_0 : w1.cell? ⟨w.heap.size, 0, none⟩ = some (.int .i64 t) := by
    rw [hb1.cell (p := ⟨w.heap.size, 0, none⟩) (show w.heap.size < _ by (try simp) <;> (try omega))]
    first | assumption | (simp [go_sem, *])
  have q1_1 : w1.cell? ⟨w.heap.size, 1, none⟩ = some (.int .i64 v) := by
    rw [hb1.cell (p := ⟨w.heap.size, 1, none⟩) (show w.heap.size < _ by (try simp) <;> (try omega))]
    first | assumption | (simp [go_sem, *])
  have q1_2 : w1.cell? ⟨w.heap.size, 2, none⟩ = some (.slice a xs.length ca) := by
    rw [hb1.cell (p := ⟨w.heap.size, 2, none⟩) (show w.heap.size < _ by (try simp) <;> (try omega))]
    first | assumption | (simp [go_sem, *])
  have ql1 : w.heap.size < w1.heap.size := by omega
  have r1_0 : w1.cell? ⟨w.heap.size + 1, 0, none⟩ = some (.int .i64 0) := by
    rw [hb1.cell (p := ⟨w.heap.size + 1, 0, none⟩) (show w.heap.size + 1 < _ by (try simp) <;> (try omega))]
    first | assumption | (simp [go_sem, *])
  have r1_1 : w1.cell? ⟨w.heap.size + 1, 1, none⟩ = some (.int .i64 0) := by
    rw [hb1.cell (p := ⟨w.heap.size + 1, 1, none⟩) (show w.heap.size + 1 < _ by (try simp) <;> (try omega))]
    first | assumption | (simp [go_sem, *])
  have r1_2 : w1.cell? ⟨w.heap.size + 1, 2, none⟩ = some (.slice none 0 0) := by
    rw [hb1.cell (p := ⟨w.heap.size + 1, 2, none⟩) (show w.heap.size + 1 < _ by (try simp) <;> (try omega))]
    first | assumption | (simp [go_sem, *])
  have rf1 : ∀ o, w1.frozen? ⟨w.heap.size + 1, o, none⟩ = false := fun o => by
    rw [hb1.frozen (p := ⟨w.heap.size + 1, o, none⟩) (show w.heap.size + 1 < _ by (try simp) <;> (try omega))]
    first | exact rf0 o | (simp [go_sem]; done) | (rw [((Below.refl _ _).alloc (Nat.le_refl _) _ : Below _ _ _).frozen (p := ⟨w.heap.size + 1, o, none⟩) (show w.heap.size + 1 < _ by omega)]; exact rf0 o)
  have rl1 : w.heap.size + 1 < w1.heap.size := by omega
  have d1_0 : w1.cell? ⟨bF, oF, none⟩ = some (.string f0) := by
    rw [hb1.cell (p := ⟨bF, oF, none⟩) (by show bF < _; omega)]
    exact d0_0
  have D1 : Hid (∀ f2 r', rest = f2 :: r' → w1.cell? ⟨bF, oF + 2, none⟩ = some (.string f2)) := Lib.hid (fun f2 r' h => by
    rw [hb1.cell (p := ⟨bF, oF + 2, none⟩) (by show bF < _; omega)]
    exact D0.out f2 r' h)
  have hbF1 : bF < w1.heap.size := by omega
  clear hb1 d0_0 d0_1 D0 HB0 HA0 q0_0 q0_1 q0_2 r0_0 r0_1 r0_2 rf0
  have hnN : N.length = m := by rw [hN']; exact rnF_length _ _
  clear hfN hN hN'
  generalize N.length = nN at *
  have HNN := Lib.hid hnN
  clear hnN
  go_wp2_with fail
  refine (l07Own_c a ca xs t v _ HA1.out (by omega)).mono ?_
  rintro e w2 ⟨a2, c2, rfl, hf2, hb2⟩
  have hz2' := hb2.size
  have q2_0 : w2.cell? ⟨w.heap.size, 0, none⟩ = some (.int .i64 t) := by
    rw [hb2.cell (p := ⟨w.heap.size, 0, none⟩) (show w.heap.size < _ by (try simp) <;> (try omega))]
    first | assumption | (simp [go_sem, *])
  have q2_1 : w2.cell? ⟨w.heap.size, 1, none⟩ = some (.int .i64 v) := by
    rw [hb2.cell (p := ⟨w.heap.size, 1, none⟩) (show w.heap.size < _ by (try simp) <;> (try omega))]
    first | assumption | (simp [go_sem, *])
  have q2_2 : w2.cell? ⟨w.heap.size, 2, none⟩ = some (.slice a xs.length ca) := by
    rw [hb2.cell (p := ⟨w.heap.size, 2, none⟩) (show w.heap.size < _ by (try simp) <;> (try omega))]
    first | assumption | (simp [go_sem, *])
  have ql2 : w.heap.size < w2.heap.size := by omega
  have r2_0 : w2.cell? ⟨w.heap.size + 1, 0, none⟩ = some (.int .i64 0) := by
    rw [hb2.cell (p := ⟨w.heap.size + 1, 0, none⟩) (show w.heap.size + 1 < _ by (try simp) <;> (try omega))]
    first | assumption | (simp [go_sem, *])
  have r2_1 : w2.cell? ⟨w.heap.size + 1, 1, none⟩ = some (.int .i64 0) := by
    rw [hb2.cell (p := ⟨w.heap.size + 1, 1, none⟩) (show w.heap.size + 1 < _ by (try simp) <;> (try omega))]
    first | assumption | (simp [go_sem, *])
  have r2_2 : w2.cell? ⟨w.heap.size + 1, 2, none⟩ = some (.slice none 0 0) := by
    rw [hb2.cell (p := ⟨w.heap.size + 1, 2, none⟩) (show w.heap.size + 1 < _ by (try simp) <;> (try omega))]
    first | assumption | (simp [go_sem, *])
  have rf2 : ∀ o, w2.frozen? ⟨w.heap.size + 1, o, none⟩ = false := fun o => by
    rw [hb2.frozen (p := ⟨w.heap.size + 1, o, none⟩) (show w.heap.size + 1 < _ by (try simp) <;> (try omega))]
    first | exact rf1 o | (simp [go_sem]; done) | (rw [((Below.refl _ _).alloc (Nat.le_refl _) _ : Below _ _ _).frozen (p := ⟨w.heap.size + 1, o, none⟩) (show w.heap.size + 1 < _ by omega)]; exact rf1 o)
  have rl2 : w.heap.size + 1 < w2.heap.size := by omega
  have d2_0 : w2.cell? ⟨bF, oF, none⟩ = some (.string f0) := by
    rw [hb2.cell (p := ⟨bF, oF, none⟩) (by show bF < _; omega)]
    exact d1_0
  have D2 : Hid (∀ f2 r', rest = f2 :: r' → w2.cell? ⟨bF, oF + 2, none⟩ = some (.string f2)) := Lib.hid (fun f2 r' h => by
    rw [hb2.cell (p := ⟨bF, oF + 2, none⟩) (by show bF < _; omega)]
    exact D1.out f2 r' h)
  have HB2 : Hid (Below w.heap.size w w2) := HB1.out.trans (hb2.mono (by omega))
  have HL2 := Lib.hid hf2.here
  clear hb2 hf2 d1_0 D1 HB1 HA1 q1_0 q1_1 q1_2 r1_0 r1_1 r1_2 rf1
  go_upto_block 0 with fail
  generalize hw3 : w2.alloc (.cells #[.int .i64 t, .int .i64 v, .slice a2 xs.length c2] 60) = w3
  have hz3' : w2.heap.size < w3.heap.size := by rw [← hw3]; simp
  have HB3 : Hid (Below w.heap.size w w3) := by
    rw [← hw3]
    exact HB2.out.alloc (by omega) _
  have HL3 : Hid (FreshIn entE 76 2 w1.heap.size w2.heap.size (.slice a2 xs.length c2) xs w3) := by
    rw [← hw3]
    exact HL2.out.alloc _
  have s3_0 : w3.cell? ⟨w2.heap.size, 0, none⟩ = some (.int .i64 t) := by
    rw [← hw3]
    first | (simp [go_sem]; done) | (rw [World.cell?_alloc_lt _ _ _ (by show w2.heap.size < _; omega)]; assumption)
  have s3_1 : w3.cell? ⟨w2.heap.size, 1, none⟩ = some (.int .i64 v) := by
    rw [← hw3]
    first | (simp [go_sem]; done) | (rw [World.cell?_alloc_lt _ _ _ (by show w2.heap.size < _; omega)]; assumption)
  have s3_2 : w3.cell? ⟨w2.heap.size, 2, none⟩ = some (.slice a2 xs.length c2) := by
    rw [← hw3]
    first | (simp [go_sem]; done) | (rw [World.cell?_alloc_lt _ _ _ (by show w2.heap.size < _; omega)]; assumption)
  have q3_0 : w3.cell? ⟨w.heap.size, 0, none⟩ = some (.int .i64 t) := by
    rw [← hw3]
    first | (simp [go_sem]; done) | (rw [World.cell?_alloc_lt _ _ _ (by show w.heap.size < _; omega)]; assumption)
  have q3_1 : w3.cell? ⟨w.heap.size, 1, none⟩ = some (.int .i64 v) := by
    rw [← hw3]
    first | (simp [go_sem]; done) | (rw [World.cell?_alloc_lt _ _ _ (by show w.heap.size < _; omega)]; assumption)
  have q3_2 : w3.cell? ⟨w.heap.size, 2, none⟩ = some (.slice a xs.length ca) := by
    rw [← hw3]
    first | (simp [go_sem]; done) | (rw [World.cell?_alloc_lt _ _ _ (by show w.heap.size < _; omega)]; assumption)
  have r3_0 : w3.cell? ⟨w.heap.size + 1, 0, none⟩ = some (.int .i64 0) := by
    rw [← hw3]
    first | (simp [go_sem]; done) | (rw [World.cell?_alloc_lt _ _ _ (by show w.heap.size + 1 < _; omega)]; assumption)
  have r3_1 : w3.cell? ⟨w.heap.size + 1, 1, none⟩ = some (.int .i64 0) := by
    rw [← hw3]
    first | (simp [go_sem]; done) | (rw [World.cell?_alloc_lt _ _ _ (by show w.heap.size + 1 < _; omega)]; assumption)
  have r3_2 : w3.cell? ⟨w.heap.size + 1, 2, none⟩ = some (.slice none 0 0) := by
    rw [← hw3]
    first | (simp [go_sem]; done) | (rw [World.cell?_alloc_lt _ _ _ (by show w.heap.size + 1 < _; omega)]; assumption)
  have d3_0 : w3.cell? ⟨bF, oF, none⟩ = some (.string f0) := by
    rw [← hw3]
    first | (simp [go_sem]; done) | (rw [World.cell?_alloc_lt _ _ _ (by show bF < _; omega)]; assumption)
  have sf3 : ∀ o, w3.frozen? ⟨w2.heap.size, o, none⟩ = false := fun o => by
    rw [← hw3]
    simp [go_sem]
  have rf3 : ∀ o, w3.frozen? ⟨w.heap.size + 1, o, none⟩ = false := fun o => by
    rw [← hw3, ((Below.refl w2.heap.size w2).alloc (Nat.le_refl _) _ : Below _ _ _).frozen (p := ⟨w.heap.size + 1, o, none⟩) (by show w.heap.size + 1 < _; omega)]
    exact rf2 o
  have D3 : Hid (∀ f2 r', rest = f2 :: r' → w3.cell? ⟨bF, oF + 2, none⟩ = some (.string f2)) := Lib.hid (fun f2 r' h => by
    rw [← hw3, World.cell?_alloc_lt _ _ _ (by show bF < _; omega)]
    exact D2.out f2 r' h)
  have ql3 : w.heap.size < w3.heap.size := by omega
  have rl3 : w.heap.size + 1 < w3.heap.size := by omega
  have sl3 : w2.heap.size < w3.heap.size := hz3'
  have hbF2 : bF < w2.heap.size := by omega
  have hbF3 : bF < w3.heap.size := by omega
  clear hw3 d2_0 D2 HB2 HL2 q2_0 q2_1 q2_2 r2_0 r2_1 r2_2 rf2
  have e2a : (f0.toList == [116]) = true := str1_is HT.out
  have e2c : (f0.toList == [99]) = false := str1_other HT.out (by decide)
  have e3c : (f0.toList == [101]) = false := str1_other HT.out (by decide)
  have h1 := HNF.out
  have e1 : decide ((nF : Int) = 2) = true := by simp; omega
  have e1b : decide (nF = 2) = true := by simp; omega
  have e1c : ((nF : Int) == 2) = true := by simp; omega
  clear h1
  have h1 := HNN.out
  have y2 : decide ((nN : Int) = 2) = false := by simp; omega
  have y2b : decide (nN = 2) = false := by simp; omega
  have y2c : ((nN : Int) == 2) = false := by simp; omega
  clear h1
  go_wp2_with fail
  go_quiet (fail)
  go_wp2_with fail
  refine bodyPost_ret (v := .tuple #[.agg #[.int .i64 t, .int .i64 v, .slice a xs.length ca], .bool false]) (by simp [results, Try.results66, go_sem, r3_0, r3_1, r3_2, q3_0, q3_1, q3_2]) rfl ?_
  refine ⟨t, v, a, ca, xs, rfl, (fun _ h => by cases h), ?_⟩
  repeat (first | exact HB3.out | (refine Below.setCell ?_ (by (try simp) <;> (try omega)) _) | (refine Below.trans ?_ (below_drewN _ _ _)) | (refine Below.drew ?_))
set_option maxRecDepth 100000 in
set_option maxHeartbeats 16000000 in
theorem specApp_Tless (a : Option Addr) (ca : Nat) (xs : List Ent) (t v : Int) (l0 : List UInt8) (w : World) (ha : Sl entE 2 w a xs) (lx : xs.length ≤ 60) (hs : ∀ e ∈ xs, e.2.size ≤ 65536) (h0 : l0.length ≤ 65536) (f0 f1 : ByteArray) (rest : List ByteArray) (ho : rdAll l0 = some (f0 :: f1 :: rest)) (hT : f0 = str1 116) (hsz : f1.size = 3 * 2) (hr : rest.length = 0) (hle : ¬ t ≤ n0F f1) :
    Calls Try.prog 66 #[.agg #[.int .i64 t, .int .i64 v, .slice a xs.length ca], .string (strOf l0)] w (AppR (none) w) := by
  obtain ⟨i0, hi, hz0, hz1, hz2⟩ := info_parts Try.infoEntry
  have HS := Lib.hid hs
  have HO := Lib.hid ho
  have HFZ := Lib.hid (rdAll_size l0 _ ho)
  have hF1 := HFZ.out f1 (by simp)
  have HF2 : Hid (∀ s ∈ rest, s.size ≤ l0.length) := Lib.hid fun s (hs : s ∈ rest) => HFZ.out s (by simp [hs])
  clear hs ho HFZ
  have HT := Lib.hid hT
  clear hT
  go_enter Try.func66, Try.ntmps66
  go_wp2_with fail
  refine (l02Read_c l0 _ (by omega)).mono ?_
  rw [HO.out]
  rintro e w0 ⟨aF, cF, F, rfl, hfF, hF, hb0⟩
  have hF' := hF _ rfl
  have hSF : Sl strE 1 w0 aF F := hfF.sl (fun _ => rfl)
  rw [hF'] at hSF
  have hnF : F.length = rest.length + 2 := by rw [hF']; rfl
  clear hfF hF hF'
  generalize F.length = nF at *
  obtain ⟨bF, oF, rfl, hbF, hcF⟩ := hSF.at (i := 0) (by simp)
  have d0_0 : w0.cell? ⟨bF, oF, none⟩ = some (.string f0) := by
    have := hcF 0 (by simp) 0 (by omega)
    simpa [strE] using this
  have d0_1 : w0.cell? ⟨bF, oF + 1, none⟩ = some (.string f1) := by
    have := hcF 1 (by simp) 0 (by omega)
    simpa [strE] using this
  have D0 : Hid (∀ f2 r', rest = f2 :: r' → w0.cell? ⟨bF, oF + 2, none⟩ = some (.string f2)) := Lib.hid fun f2 r' h => by
    subst h
    have := hcF 2 (by simp) 0 (by omega)
    simpa [strE] using this
  clear hcF hSF
  have hz0' := hb0.size
  simp only [World.size_alloc] at hz0'
  have HB0 : Hid (Below w.heap.size w w0) := (((Below.refl w.heap.size w).alloc (Nat.le_refl _) _).alloc (by simp) _).trans (hb0.mono (by simp; omega))
  have HA0 := Lib.hid (ha.keep HB0.out)
  have q0_0 : w0.cell? ⟨w.heap.size, 0, none⟩ = some (.int .i64 t) := by
    rw [hb0.cell (p := ⟨w.heap.size, 0, none⟩) (show w.heap.size < _ by (try simp) <;> (try omega))]
    first | assumption | (simp [go_sem, *])
  have q0_1 : w0.cell? ⟨w.heap.size, 1, none⟩ = some (.int .i64 v) := by
    rw [hb0.cell (p := ⟨w.heap.size, 1, none⟩) (show w.heap.size < _ by (try simp) <;> (try omega))]
    first | assumption | (simp [go_sem, *])
  have q0_2 : w0.cell? ⟨w.heap.size, 2, none⟩ = some (.slice a xs.length ca) := by
    rw [hb0.cell (p := ⟨w.heap.size, 2, none⟩) (show w.heap.size < _ by (try simp) <;> (try omega))]
    first | assumption | (simp [go_sem, *])
  have ql0 : w.heap.size < w0.heap.size := by omega
  have r0_0 : w0.cell? ⟨w.heap.size + 1, 0, none⟩ = some (.int .i64 0) := by
    rw [hb0.cell (p := ⟨w.heap.size + 1, 0, none⟩) (show w.heap.size + 1 < _ by (try simp) <;> (try omega))]
    first | assumption | (simp [go_sem, *])
  have r0_1 : w0.cell? ⟨w.heap.size + 1, 1, none⟩ = some (.int .i64 0) := by
    rw [hb0.cell (p := ⟨w.heap.size + 1, 1, none⟩) (show w.heap.size + 1 < _ by (try simp) <;> (try omega))]
    first | assumption | (simp [go_sem, *])
  have r0_2 : w0.cell? ⟨w.heap.size + 1, 2, none⟩ = some (.slice none 0 0) := by
    rw [hb0.cell (p := ⟨w.heap.size + 1, 2, none⟩) (show w.heap.size + 1 < _ by (try simp) <;> (try omega))]
    first | assumption | (simp [go_sem, *])
  have rf0 : ∀ o, w0.frozen? ⟨w.heap.size + 1, o, none⟩ = false := fun o => by
    rw [hb0.frozen (p := ⟨w.heap.size + 1, o, none⟩) (show w.heap.size + 1 < _ by (try simp) <;> (try omega))]
    simp [go_sem]
  have rl0 : w.heap.size + 1 < w0.heap.size := by omega
  clear hb0
  have hlt : decide ((nF : Int) < 2) = false := by simp; omega
  have hlt2 : ¬ ((nF : Int) < 2) := by omega
  have hi0' : (0 : Int) < (nF : Int) := by omega
  have hi1' : (1 : Int) < (nF : Int) := by omega
  have HNF := Lib.hid hnF
  clear hnF
  go_wp2_with fail
  refine (nums_c f1 _ 2 hsz (by omega)).mono ?_
  rintro e w1 ⟨aN, cN, N, rfl, hfN, hN, hb1⟩
  have hz1' := hb1.size
  have HB1 : Hid (Below w.heap.size w w1) := HB0.out.trans (hb1.mono (by omega))
  have HA1 := Lib.hid (HA0.out.keep hb1)
  have hN' := hN _ rfl
  have q1_0 : w1.cell? ⟨w.heap.size, 0, none⟩ = some (.int .i64 t) := by
    rw [hb1.cell (p := ⟨w.heap.size, 0, none⟩) (show w.heap.size < _ by (try simp) <;> (try omega))]
    first | assumption | (simp [go_sem, *])
  have q1_1 : w1.cell? ⟨w.heap.size, 1, none⟩ = some (.int .i64 v) := by
    rw [hb1.cell (p := ⟨w.heap.size, 1, none⟩) (show w.heap.size < _ by (try simp) <;> (try omega))]
    first | assumption | (simp [go_sem, *])
  have q1_2 : w1.cell? ⟨w.heap.size, 2, none⟩ = some (.slice a xs.length ca) := by
    rw [hb1.cell (p := ⟨w.heap.size, 2, none⟩) (show w.heap.size < _ by (try simp) <;> (try omega))]
    first | assumption | (simp [go_sem, *])
  have ql1 : w.heap.size < w1.heap.size := by omega
  have r1_0 : w1.cell? ⟨w.heap.size + 1, 0, none⟩ = some (.int .i64 0) := by
    rw [hb1.cell (p := ⟨w.heap.size + 1, 0, none⟩) (show w.heap.size + 1 < _ by (try simp) <;> (try omega))]
    first | assumption | (simp [go_sem, *])
  have r1_1 : w1.cell? ⟨w.heap.size + 1, 1, none⟩ = some (.int .i64 0) := by
    rw [hb1.cell (p := ⟨w.heap.size + 1, 1, none⟩) (show w.heap.size + 1 < _ by (try simp) <;> (try omega))]
    first | assumption | (simp [go_sem, *])
  have r1_2 : w1.cell? ⟨w.heap.size + 1, 2, none⟩ = some (.slice none 0 0) := by
    rw [hb1.cell (p := ⟨w.heap.size + 1, 2, none⟩) (show w.heap.size + 1 < _ by (try simp) <;> (try omega))]
    first | assumption | (simp [go_sem, *])
  have rf1 : ∀ o, w1.frozen? ⟨w.heap.size + 1, o, none⟩ = false := fun o => by
    rw [hb1.frozen (p := ⟨w.heap.size + 1, o, none⟩) (show w.heap.size + 1 < _ by (try simp) <;> (try omega))]
    first | exact rf0 o | (simp [go_sem]; done) | (rw [((Below.refl _ _).alloc (Nat.le_refl _) _ : Below _ _ _).frozen (p := ⟨w.heap.size + 1, o, none⟩) (show w.heap.size + 1 < _ by omega)]; exact rf0 o)
  have rl1 : w.heap.size + 1 < w1.heap.size := by omega
  have d1_0 : w1.cell? ⟨bF, oF, none⟩ = some (.string f0) := by
    rw [hb1.cell (p := ⟨bF, oF, none⟩) (by show bF < _; omega)]
    exact d0_0
  have D1 : Hid (∀ f2 r', rest = f2 :: r' → w1.cell? ⟨bF, oF + 2, none⟩ = some (.string f2)) := Lib.hid (fun f2 r' h => by
    rw [hb1.cell (p := ⟨bF, oF + 2, none⟩) (by show bF < _; omega)]
    exact D0.out f2 r' h)
  have hbF1 : bF < w1.heap.size := by omega
  clear hb1 d0_0 d0_1 D0 HB0 HA0 q0_0 q0_1 q0_2 r0_0 r0_1 r0_2 rf0
  have hnN : N.length = 2 := by rw [hN']; exact rnF_length _ _
  have hSN : Sl intE 1 w1 aN N := hfN.sl (fun _ => rfl)
  rw [hN', rn2] at hSN
  clear hfN hN hN'
  generalize N.length = nN at *
  obtain ⟨bN, oN, rfl, hbN, hcN⟩ := hSN.at (i := 0) (by simp)
  have g1_0 : w1.cell? ⟨bN, oN, none⟩ = some (.int .i64 (n0F f1)) := by
    have := hcN 0 (by simp) 0 (by omega)
    simpa [intE] using this
  have g1_1 : w1.cell? ⟨bN, oN + 1, none⟩ = some (.int .i64 (n1F f1)) := by
    have := hcN 1 (by simp) 0 (by omega)
    simpa [intE] using this
  have hj1' : (1 : Int) < (nN : Int) := by omega
  have hj0' : (0 : Int) < (nN : Int) := by omega
  clear hcN hSN
  generalize n0F f1 = n0 at *
  generalize n1F f1 = n1 at *
  have HNN := Lib.hid hnN
  clear hnN
  go_wp2_with fail
  refine (l07Own_c a ca xs t v _ HA1.out (by omega)).mono ?_
  rintro e w2 ⟨a2, c2, rfl, hf2, hb2⟩
  have hz2' := hb2.size
  have q2_0 : w2.cell? ⟨w.heap.size, 0, none⟩ = some (.int .i64 t) := by
    rw [hb2.cell (p := ⟨w.heap.size, 0, none⟩) (show w.heap.size < _ by (try simp) <;> (try omega))]
    first | assumption | (simp [go_sem, *])
  have q2_1 : w2.cell? ⟨w.heap.size, 1, none⟩ = some (.int .i64 v) := by
    rw [hb2.cell (p := ⟨w.heap.size, 1, none⟩) (show w.heap.size < _ by (try simp) <;> (try omega))]
    first | assumption | (simp [go_sem, *])
  have q2_2 : w2.cell? ⟨w.heap.size, 2, none⟩ = some (.slice a xs.length ca) := by
    rw [hb2.cell (p := ⟨w.heap.size, 2, none⟩) (show w.heap.size < _ by (try simp) <;> (try omega))]
    first | assumption | (simp [go_sem, *])
  have ql2 : w.heap.size < w2.heap.size := by omega
  have r2_0 : w2.cell? ⟨w.heap.size + 1, 0, none⟩ = some (.int .i64 0) := by
    rw [hb2.cell (p := ⟨w.heap.size + 1, 0, none⟩) (show w.heap.size + 1 < _ by (try simp) <;> (try omega))]
    first | assumption | (simp [go_sem, *])
  have r2_1 : w2.cell? ⟨w.heap.size + 1, 1, none⟩ = some (.int .i64 0) := by
    rw [hb2.cell (p := ⟨w.heap.size + 1, 1, none⟩) (show w.heap.size + 1 < _ by (try simp) <;> (try omega))]
    first | assumption | (simp [go_sem, *])
  have r2_2 : w2.cell? ⟨w.heap.size + 1, 2, none⟩ = some (.slice none 0 0) := by
    rw [hb2.cell (p := ⟨w.heap.size + 1, 2, none⟩) (show w.heap.size + 1 < _ by (try simp) <;> (try omega))]
    first | assumption | (simp [go_sem, *])
  have rf2 : ∀ o, w2.frozen? ⟨w.heap.size + 1, o, none⟩ = false := fun o => by
    rw [hb2.frozen (p := ⟨w.heap.size + 1, o, none⟩) (show w.heap.size + 1 < _ by (try simp) <;> (try omega))]
    first | exact rf1 o | (simp [go_sem]; done) | (rw [((Below.refl _ _).alloc (Nat.le_refl _) _ : Below _ _ _).frozen (p := ⟨w.heap.size + 1, o, none⟩) (show w.heap.size + 1 < _ by omega)]; exact rf1 o)
  have rl2 : w.heap.size + 1 < w2.heap.size := by omega
  have d2_0 : w2.cell? ⟨bF, oF, none⟩ = some (.string f0) := by
    rw [hb2.cell (p := ⟨bF, oF, none⟩) (by show bF < _; omega)]
    exact d1_0
  have D2 : Hid (∀ f2 r', rest = f2 :: r' → w2.cell? ⟨bF, oF + 2, none⟩ = some (.string f2)) := Lib.hid (fun f2 r' h => by
    rw [hb2.cell (p := ⟨bF, oF + 2, none⟩) (by show bF < _; omega)]
    exact D1.out f2 r' h)
  have g2_0 : w2.cell? ⟨bN, oN, none⟩ = some (.int .i64 n0) := by
    rw [hb2.cell (p := ⟨bN, oN, none⟩) (by show bN < _; omega)]
    exact g1_0
  have g2_1 : w2.cell? ⟨bN, oN + 1, none⟩ = some (.int .i64 n1) := by
    rw [hb2.cell (p := ⟨bN, oN + 1, none⟩) (by show bN < _; omega)]
    exact g1_1
  have HB2 : Hid (Below w.heap.size w w2) := HB1.out.trans (hb2.mono (by omega))
  have HL2 := Lib.hid hf2.here
  clear hb2 hf2 d1_0 D1 HB1 HA1 q1_0 q1_1 q1_2 r1_0 r1_1 r1_2 rf1 g1_0 g1_1
  go_upto_block 0 with fail
  generalize hw3 : w2.alloc (.cells #[.int .i64 t, .int .i64 v, .slice a2 xs.length c2] 60) = w3
  have hz3' : w2.heap.size < w3.heap.size := by rw [← hw3]; simp
  have HB3 : Hid (Below w.heap.size w w3) := by
    rw [← hw3]
    exact HB2.out.alloc (by omega) _
  have HL3 : Hid (FreshIn entE 76 2 w1.heap.size w2.heap.size (.slice a2 xs.length c2) xs w3) := by
    rw [← hw3]
    exact HL2.out.alloc _
  have s3_0 : w3.cell? ⟨w2.heap.size, 0, none⟩ = some (.int .i64 t) := by
    rw [← hw3]
    first | (simp [go_sem]; done) | (rw [World.cell?_alloc_lt _ _ _ (by show w2.heap.size < _; omega)]; assumption)
  have s3_1 : w3.cell? ⟨w2.heap.size, 1, none⟩ = some (.int .i64 v) := by
    rw [← hw3]
    first | (simp [go_sem]; done) | (rw [World.cell?_alloc_lt _ _ _ (by show w2.heap.size < _; omega)]; assumption)
  have s3_2 : w3.cell? ⟨w2.heap.size, 2, none⟩ = some (.slice a2 xs.length c2) := by
    rw [← hw3]
    first | (simp [go_sem]; done) | (rw [World.cell?_alloc_lt _ _ _ (by show w2.heap.size < _; omega)]; assumption)
  have q3_0 : w3.cell? ⟨w.heap.size, 0, none⟩ = some (.int .i64 t) := by
    rw [← hw3]
    first | (simp [go_sem]; done) | (rw [World.cell?_alloc_lt _ _ _ (by show w.heap.size < _; omega)]; assumption)
  have q3_1 : w3.cell? ⟨w.heap.size, 1, none⟩ = some (.int .i64 v) := by
    rw [← hw3]
    first | (simp [go_sem]; done) | (rw [World.cell?_alloc_lt _ _ _ (by show w.heap.size < _; omega)]; assumption)
  have q3_2 : w3.cell? ⟨w.heap.size, 2, none⟩ = some (.slice a xs.length ca) := by
    rw [← hw3]
    first | (simp [go_sem]; done) | (rw [World.cell?_alloc_lt _ _ _ (by show w.heap.size < _; omega)]; assumption)
  have r3_0 : w3.cell? ⟨w.heap.size + 1, 0, none⟩ = some (.int .i64 0) := by
    rw [← hw3]
    first | (simp [go_sem]; done) | (rw [World.cell?_alloc_lt _ _ _ (by show w.heap.size + 1 < _; omega)]; assumption)
  have r3_1 : w3.cell? ⟨w.heap.size + 1, 1, none⟩ = some (.int .i64 0) := by
    rw [← hw3]
    first | (simp [go_sem]; done) | (rw [World.cell?_alloc_lt _ _ _ (by show w.heap.size + 1 < _; omega)]; assumption)
  have r3_2 : w3.cell? ⟨w.heap.size + 1, 2, none⟩ = some (.slice none 0 0) := by
    rw [← hw3]
    first | (simp [go_sem]; done) | (rw [World.cell?_alloc_lt _ _ _ (by show w.heap.size + 1 < _; omega)]; assumption)
  have d3_0 : w3.cell? ⟨bF, oF, none⟩ = some (.string f0) := by
    rw [← hw3]
    first | (simp [go_sem]; done) | (rw [World.cell?_alloc_lt _ _ _ (by show bF < _; omega)]; assumption)
  have g3_0 : w3.cell? ⟨bN, oN, none⟩ = some (.int .i64 n0) := by
    rw [← hw3]
    first | (simp [go_sem]; done) | (rw [World.cell?_alloc_lt _ _ _ (by show bN < _; omega)]; assumption)
  have g3_1 : w3.cell? ⟨bN, oN + 1, none⟩ = some (.int .i64 n1) := by
    rw [← hw3]
    first | (simp [go_sem]; done) | (rw [World.cell?_alloc_lt _ _ _ (by show bN < _; omega)]; assumption)
  have sf3 : ∀ o, w3.frozen? ⟨w2.heap.size, o, none⟩ = false := fun o => by
    rw [← hw3]
    simp [go_sem]
  have rf3 : ∀ o, w3.frozen? ⟨w.heap.size + 1, o, none⟩ = false := fun o => by
    rw [← hw3, ((Below.refl w2.heap.size w2).alloc (Nat.le_refl _) _ : Below _ _ _).frozen (p := ⟨w.heap.size + 1, o, none⟩) (by show w.heap.size + 1 < _; omega)]
    exact rf2 o
  have D3 : Hid (∀ f2 r', rest = f2 :: r' → w3.cell? ⟨bF, oF + 2, none⟩ = some (.string f2)) := Lib.hid (fun f2 r' h => by
    rw [← hw3, World.cell?_alloc_lt _ _ _ (by show bF < _; omega)]
    exact D2.out f2 r' h)
  have ql3 : w.heap.size < w3.heap.size := by omega
  have rl3 : w.heap.size + 1 < w3.heap.size := by omega
  have sl3 : w2.heap.size < w3.heap.size := hz3'
  have hbF2 : bF < w2.heap.size := by omega
  have hbF3 : bF < w3.heap.size := by omega
  clear hw3 d2_0 D2 HB2 HL2 q2_0 q2_1 q2_2 r2_0 r2_1 r2_2 rf2 g2_0 g2_1
  have hbN2 : bN < w2.heap.size := by omega
  have hbN3 : bN < w3.heap.size := by omega
  have e2a : (f0.toList == [116]) = true := str1_is HT.out
  have e2c : (f0.toList == [99]) = false := str1_other HT.out (by decide)
  have e3c : (f0.toList == [101]) = false := str1_other HT.out (by decide)
  have h1 := HNF.out
  have e1 : decide ((nF : Int) = 2) = true := by simp; omega
  have e1b : decide (nF = 2) = true := by simp; omega
  have e1c : ((nF : Int) == 2) = true := by simp; omega
  clear h1
  have h1 := HNN.out
  have y2 : decide ((nN : Int) = 2) = true := by simp; omega
  have y2b : decide (nN = 2) = true := by simp; omega
  have y2c : ((nN : Int) == 2) = true := by simp; omega
  clear h1
  have e9 : decide (n0 < t) = true := by simp; omega
  have e9b : n0 < t := by omega
  go_wp2_with fail
  go_quiet (fail)
  go_wp2_with fail
  refine bodyPost_ret (v := .tuple #[.agg #[.int .i64 t, .int .i64 v, .slice a xs.length ca], .bool false]) (by simp [results, Try.results66, go_sem, r3_0, r3_1, r3_2, q3_0, q3_1, q3_2]) rfl ?_
  refine ⟨t, v, a, ca, xs, rfl, (fun _ h => by cases h), ?_⟩
  repeat (first | exact HB3.out | (refine Below.setCell ?_ (by (try simp) <;> (try omega)) _) | (refine Below.trans ?_ (below_drewN _ _ _)) | (refine Below.drew ?_))
end
section
open Go.RowKit
set_option maxRecDepth 100000 in
set_option maxHeartbeats 16000000 in
theorem specApp_Crest (a : Option Addr) (ca : Nat) (xs : List Ent) (t v : Int) (l0 : List UInt8) (w : World) (ha : Sl entE 2 w a xs) (lx : xs.length ≤ 60) (hs : ∀ e ∈ xs, e.2.size ≤ 65536) (h0 : l0.length ≤ 65536) (f0 f1 : ByteArray) (rest : List ByteArray) (ho : rdAll l0 = some (f0 :: f1 :: rest)) (m : Nat) (hc : f0 = str1 99) (hsz : f1.size = 3 * m) (hr : rest.length ≠ 0) :
    Calls Try.prog 66 #[.agg #[.int .i64 t, .int .i64 v, .slice a xs.length ca], .string (strOf l0)] w (AppR (none) w) := by
  obtain ⟨i0, hi, hz0, hz1, hz2⟩ := info_parts Try.infoEntry
  have HS := Lib.hid hs
  have HO := Lib.hid ho
  have HFZ := Lib.hid (rdAll_size l0 _ ho)
  have hF1 := HFZ.out f1 (by simp)
  have HF2 : Hid (∀ s ∈ rest, s.size ≤ l0.length) := Lib.hid fun s (hs : s ∈ rest) => HFZ.out s (by simp [hs])
  clear hs ho HFZ
  have HC := Lib.hid hc
  clear hc
  go_enter Try.func66, Try.ntmps66
  go_wp2_with fail
  refine (l02Read_c l0 _ (by omega)).mono ?_
  rw [HO.out]
  rintro e w0 ⟨aF, cF, F, rfl, hfF, hF, hb0⟩
  have hF' := hF _ rfl
  have hSF : Sl strE 1 w0 aF F := hfF.sl (fun _ => rfl)
  rw [hF'] at hSF
  have hnF : F.length = rest.length + 2 := by rw [hF']; rfl
  clear hfF hF hF'
  generalize F.length = nF at *
  obtain ⟨bF, oF, rfl, hbF, hcF⟩ := hSF.at (i := 0) (by simp)
  have d0_0 : w0.cell? ⟨bF, oF, none⟩ = some (.string f0) := by
    have := hcF 0 (by simp) 0 (by omega)
    simpa [strE] using this
  have d0_1 : w0.cell? ⟨bF, oF + 1, none⟩ = some (.string f1) := by
    have := hcF 1 (by simp) 0 (by omega)
    simpa [strE] using this
  have D0 : Hid (∀ f2 r', rest = f2 :: r' → w0.cell? ⟨bF, oF + 2, none⟩ = some (.string f2)) := Lib.hid fun f2 r' h => by
    subst h
    have := hcF 2 (by simp) 0 (by omega)
    simpa [strE] using this
  clear hcF hSF
  have hz0' := hb0.size
  simp only [World.size_alloc] at hz0'
  have HB0 : Hid (Below w.heap.size w w0) := (((Below.refl w.heap.size w).alloc (Nat.le_refl _) _).alloc (by simp) _).trans (hb0.mono (by simp; omega))
  have HA0 := Lib.hid (ha.keep HB0.out)
  have q0_0 : w0.cell? ⟨w.heap.size, 0, none⟩ = some (.int .i64 t) := by
    rw [hb0.cell (p := ⟨w.heap.size, 0, none⟩) (show w.heap.size < _ by (try simp) <;> (try omega))]
    first | assumption | (simp [go_sem, *])
  have q0_1 : w0.cell? ⟨w.heap.size, 1, none⟩ = some (.int .i64 v) := by
    rw [hb0.cell (p := ⟨w.heap.size, 1, none⟩) (show w.heap.size < _ by (try simp) <;> (try omega))]
    first | assumption | (simp [go_sem, *])
  have q0_2 : w0.cell? ⟨w.heap.size, 2, none⟩ = some (.slice a xs.length ca) := by
    rw [hb0.cell (p := ⟨w.heap.size, 2, none⟩) (show w.heap.size < _ by (try simp) <;> (try omega))]
    first | assumption | (simp [go_sem, *])
  have ql0 : w.heap.size < w0.heap.size := by omega
  have r0_0 : w0.cell? ⟨w.heap.size + 1, 0, none⟩ = some (.int .i64 0) := by
    rw [hb0.cell (p := ⟨w.heap.size + 1, 0, none⟩) (show w.heap.size + 1 < _ by (try simp) <;> (try omega))]
    first | assumption | (simp [go_sem, *])
  have r0_1 : w0.cell? ⟨w.heap.size + 1, 1, none⟩ = some (.int .i64 0) := by
    rw [hb0.cell (p := ⟨w.heap.size + 1, 1, none⟩) (show w.heap.size + 1 < _ by (try simp) <;> (try omega))]
    first | assumption | (simp [go_sem, *])
  have r0_2 : w0.cell? ⟨w.heap.size + 1, 2, none⟩ = some (.slice none 0 0) := by
    rw [hb0.cell (p := ⟨w.heap.size + 1, 2, none⟩) (show w.heap.size + 1 < _ by (try simp) <;> (try omega))]
    first | assumption | (simp [go_sem, *])
  have rf0 : ∀ o, w0.frozen? ⟨w.heap.size + 1, o, none⟩ = false := fun o => by
    rw [hb0.frozen (p := ⟨w.heap.size + 1, o, none⟩) (show w.heap.size + 1 < _ by (try simp) <;> (try omega))]
    simp [go_sem]
  have rl0 : w.heap.size + 1 < w0.heap.size := by omega
  clear hb0
  have hlt : decide ((nF : Int) < 2) = false := by simp; omega
  have hlt2 : ¬ ((nF : Int) < 2) := by omega
  have hi0' : (0 : Int) < (nF : Int) := by omega
  have hi1' : (1 : Int) < (nF : Int) := by omega
  have HNF := Lib.hid hnF
  clear hnF
  go_wp2_with fail
  refine (nums_c f1 _ m hsz (by omega)).mono ?_
  rintro e w1 ⟨aN, cN, N, rfl, hfN, hN, hb1⟩
  have hz1' := hb1.size
  have HB1 : Hid (Below w.heap.size w w1) := HB0.out.trans (hb1.mono (by omega))
  have HA1 := Lib.hid (HA0.out.keep hb1)
  have hN' := hN _ rfl
  have q1_0 : w1.cell? ⟨w.heap.size, 0, none⟩ = some (.int .i64 t) := by
    rw [hb1.cell (p := ⟨w.heap.size, 0, none⟩) (show w.heap.size < _ by (try simp) <;> (try omega))]
    first | assumption | (simp [go_sem, *])
  have q1_1 : w1.cell? ⟨w.heap.size, 1, none⟩ = some (.int .i64 v) := by
    rw [hb1.cell (p := ⟨w.heap.size, 1, none⟩) (show w.heap.size < _ by (try simp) <;> (try omega))]
    first | assumption | (simp [go_sem, *])
  have q1_2 : w1.cell? ⟨w.heap.size, 2, none⟩ = some (.slice a xs.length ca) := by
    rw [hb1.cell (p := ⟨w.heap.size, 2, none⟩) (show w.heap.size < _ by (try simp) <;> (try omega))]
    first | assumption | (simp [go_sem, *])
  have ql1 : w.heap.size < w1.heap.size := by omega
  have r1_0 : w1.cell? ⟨w.heap.size + 1, 0, none⟩ = some (.int .i64 0) := by
    rw [hb1.cell (p := ⟨w.heap.size + 1, 0, none⟩) (show w.heap.size + 1 < _ by (try simp) <;> (try omega))]
    first | assumption | (simp [go_sem, *])
  have r1_1 : w1.cell? ⟨w.heap.size + 1, 1, none⟩ = some (.int .i64 0) := by
    rw [hb1.cell (p := ⟨w.heap.size + 1, 1, none⟩) (show w.heap.size + 1 < _ by (try simp) <;> (try omega))]
    first | assumption | (simp [go_sem, *])
  have r1_2 : w1.cell? ⟨w.heap.size + 1, 2, none⟩ = some (.slice none 0 0) := by
    rw [hb1.cell (p := ⟨w.heap.size + 1, 2, none⟩) (show w.heap.size + 1 < _ by (try simp) <;> (try omega))]
    first | assumption | (simp [go_sem, *])
  have rf1 : ∀ o, w1.frozen? ⟨w.heap.size + 1, o, none⟩ = false := fun o => by
    rw [hb1.frozen (p := ⟨w.heap.size + 1, o, none⟩) (show w.heap.size + 1 < _ by (try simp) <;> (try omega))]
    first | exact rf0 o | (simp [go_sem]; done) | (rw [((Below.refl _ _).alloc (Nat.le_refl _) _ : Below _ _ _).frozen (p := ⟨w.heap.size + 1, o, none⟩) (show w.heap.size + 1 < _ by omega)]; exact rf0 o)
  have rl1 : w.heap.size + 1 < w1.heap.size := by omega
  have d1_0 : w1.cell? ⟨bF, oF, none⟩ = some (.string f0) := by
    rw [hb1.cell (p := ⟨bF, oF, none⟩) (by show bF < _; omega)]
    exact d0_0
  have D1 : Hid (∀ f2 r', rest = f2 :: r' → w1.cell? ⟨bF, oF + 2, none⟩ = some (.string f2)) := Lib.hid (fun f2 r' h => by
    rw [hb1.cell (p := ⟨bF, oF + 2, none⟩) (by show bF < _; omega)]
    exact D0.out f2 r' h)
  have hbF1 : bF < w1.heap.size := by omega
  clear hb1 d0_0 d0_1 D0 HB0 HA0 q0_0 q0_1 q0_2 r0_0 r0_1 r0_2 rf0
  have hnN : N.length = m := by rw [hN']; exact rnF_length _ _
  clear hfN hN hN'
  generalize N.length = nN at *
  have HNN := Lib.hid hnN
  clear hnN
  go_wp2_with fail
  refine (l07Own_c a ca xs t v _ HA1.out (by omega)).mono ?_
  rintro e w2 ⟨a2, c2, rfl, hf2, hb2⟩
  have hz2' := hb2.size
  have q2_0 : w2.cell? ⟨w.heap.size, 0, none⟩ = some (.int .i64 t) := by
    rw [hb2.cell (p := ⟨w.heap.size, 0, none⟩) (show w.heap.size < _ by (try simp) <;> (try omega))]
    first | assumption | (simp [go_sem, *])
  have q2_1 : w2.cell? ⟨w.heap.size, 1, none⟩ = some (.int .i64 v) := by
    rw [hb2.cell (p := ⟨w.heap.size, 1, none⟩) (show w.heap.size < _ by (try simp) <;> (try omega))]
    first | assumption | (simp [go_sem, *])
  have q2_2 : w2.cell? ⟨w.heap.size, 2, none⟩ = some (.slice a xs.length ca) := by
    rw [hb2.cell (p := ⟨w.heap.size, 2, none⟩) (show w.heap.size < _ by (try simp) <;> (try omega))]
    first | assumption | (simp [go_sem, *])
  have ql2 : w.heap.size < w2.heap.size := by omega
  have r2_0 : w2.cell? ⟨w.heap.size + 1, 0, none⟩ = some (.int .i64 0) := by
    rw [hb2.cell (p := ⟨w.heap.size + 1, 0, none⟩) (show w.heap.size + 1 < _ by (try simp) <;> (try omega))]
    first | assumption | (simp [go_sem, *])
  have r2_1 : w2.cell? ⟨w.heap.size + 1, 1, none⟩ = some (.int .i64 0) := by
    rw [hb2.cell (p := ⟨w.heap.size + 1, 1, none⟩) (show w.heap.size + 1 < _ by (try simp) <;> (try omega))]
    first | assumption | (simp [go_sem, *])
  have r2_2 : w2.cell? ⟨w.heap.size + 1, 2, none⟩ = some (.slice none 0 0) := by
    rw [hb2.cell (p := ⟨w.heap.size + 1, 2, none⟩) (show w.heap.size + 1 < _ by (try simp) <;> (try omega))]
    first | assumption | (simp [go_sem, *])
  have rf2 : ∀ o, w2.frozen? ⟨w.heap.size + 1, o, none⟩ = false := fun o => by
    rw [hb2.frozen (p := ⟨w.heap.size + 1, o, none⟩) (show w.heap.size + 1 < _ by (try simp) <;> (try omega))]
    first | exact rf1 o | (simp [go_sem]; done) | (rw [((Below.refl _ _).alloc (Nat.le_refl _) _ : Below _ _ _).frozen (p := ⟨w.heap.size + 1, o, none⟩) (show w.heap.size + 1 < _ by omega)]; exact rf1 o)
  have rl2 : w.heap.size + 1 < w2.heap.size := by omega
  have d2_0 : w2.cell? ⟨bF, oF, none⟩ = some (.string f0) := by
    rw [hb2.cell (p := ⟨bF, oF, none⟩) (by show bF < _; omega)]
    exact d1_0
  have D2 : Hid (∀ f2 r', rest = f2 :: r' → w2.cell? ⟨bF, oF + 2, none⟩ = some (.string f2)) := Lib.hid (fun f2 r' h => by
    rw [hb2.cell (p := ⟨bF, oF + 2, none⟩) (by show bF < _; omega)]
    exact D1.out f2 r' h)
  have HB2 : Hid (Below w.heap.size w w2) := HB1.out.trans (hb2.mono (by omega))
  have HL2 := Lib.hid hf2.here
  clear hb2 hf2 d1_0 D1 HB1 HA1 q1_0 q1_1 q1_2 r1_0 r1_1 r1_2 rf1
  go_upto_block 0 with fail
  generalize hw3 : w2.alloc (.cells #[.int .i64 t, .int .i64 v, .slice a2 xs.length c2] 60) = w3
  have hz3' : w2.heap.size < w3.heap.size := by rw [← hw3]; simp
  have HB3 : Hid (Below w.heap.size w w3) := by
    rw [← hw3]
    exact HB2.out.alloc (by omega) _
  have HL3 : Hid (FreshIn entE 76 2 w1.heap.size w2.heap.size (.slice a2 xs.length c2) xs w3) := by
    rw [← hw3]
    exact HL2.out.alloc _
  have s3_0 : w3.cell? ⟨w2.heap.size, 0, none⟩ = some (.int .i64 t) := by
    rw [← hw3]
    first | (simp [go_sem]; done) | (rw [World.cell?_alloc_lt _ _ _ (by show w2.heap.size < _; omega)]; assumption)
  have s3_1 : w3.cell? ⟨w2.heap.size, 1, none⟩ = some (.int .i64 v) := by
    rw [← hw3]
    first | (simp [go_sem]; done) | (rw [World.cell?_alloc_lt _ _ _ (by show w2.heap.size < _; omega)]; assumption)
  have s3_2 : w3.cell? ⟨w2.heap.size, 2, none⟩ = some (.slice a2 xs.length c2) := by
    rw [← hw3]
    first | (simp [go_sem]; done) | (rw [World.cell?_alloc_lt _ _ _ (by show w2.heap.size < _; omega)]; assumption)
  have q3_0 : w3.cell? ⟨w.heap.size, 0, none⟩ = some (.int .i64 t) := by
    rw [← hw3]
    first | (simp [go_sem]; done) | (rw [World.cell?_alloc_lt _ _ _ (by show w.heap.size < _; omega)]; assumption)
  have q3_1 : w3.cell? ⟨w.heap.size, 1, none⟩ = some (.int .i64 v) := by
    rw [← hw3]
    first | (simp [go_sem]; done) | (rw [World.cell?_alloc_lt _ _ _ (by show w.heap.size < _; omega)]; assumption)
  have q3_2 : w3.cell? ⟨w.heap.size, 2, none⟩ = some (.slice a xs.length ca) := by
    rw [← hw3]
    first | (simp [go_sem]; done) | (rw [World.cell?_alloc_lt _ _ _ (by show w.heap.size < _; omega)]; assumption)
  have r3_0 : w3.cell? ⟨w.heap.size + 1, 0, none⟩ = some (.int .i64 0) := by
    rw [← hw3]
    first | (simp [go_sem]; done) | (rw [World.cell?_alloc_lt _ _ _ (by show w.heap.size + 1 < _; omega)]; assumption)
  have r3_1 : w3.cell? ⟨w.heap.size + 1, 1, none⟩ = some (.int .i64 0) := by
    rw [← hw3]
    first | (simp [go_sem]; done) | (rw [World.cell?_alloc_lt _ _ _ (by show w.heap.size + 1 < _; omega)]; assumption)
  have r3_2 : w3.cell? ⟨w.heap.size + 1, 2, none⟩ = some (.slice none 0 0) := by
    rw [← hw3]
    first | (simp [go_sem]; done) | (rw [World.cell?_alloc_lt _ _ _ (by show w.heap.size + 1 < _; omega)]; assumption)
  have d3_0 : w3.cell? ⟨bF, oF, none⟩ = some (.string f0) := by
    rw [← hw3]
    first | (simp [go_sem]; done) | (rw [World.cell?_alloc_lt _ _ _ (by show bF < _; omega)]; assumption)
  have sf3 : ∀ o, w3.frozen? ⟨w2.heap.size, o, none⟩ = false := fun o => by
    rw [← hw3]
    simp [go_sem]
  have rf3 : ∀ o, w3.frozen? ⟨w.heap.size + 1, o, none⟩ = false := fun o => by
    rw [← hw3, ((Below.refl w2.heap.size w2).alloc (Nat.le_refl _) _ : Below _ _ _).frozen (p := ⟨w.heap.size + 1, o, none⟩) (by show w.heap.size + 1 < _; omega)]
    exact rf2 o
  have D3 : Hid (∀ f2 r', rest = f2 :: r' → w3.cell? ⟨bF, oF + 2, none⟩ = some (.string f2)) := Lib.hid (fun f2 r' h => by
    rw [← hw3, World.cell?_alloc_lt _ _ _ (by show bF < _; omega)]
    exact D2.out f2 r' h)
  have ql3 : w.heap.size < w3.heap.size := by omega
  have rl3 : w.heap.size + 1 < w3.heap.size := by omega
  have sl3 : w2.heap.size < w3.heap.size := hz3'
  have hbF2 : bF < w2.heap.size := by omega
  have hbF3 : bF < w3.heap.size := by omega
  clear hw3 d2_0 D2 HB2 HL2 q2_0 q2_1 q2_2 r2_0 r2_1 r2_2 rf2
  have e2a : (f0.toList == [116]) = false := str1_other HC.out (by decide)
  have e2c : (f0.toList == [99]) = true := str1_is HC.out
  have e3c : (f0.toList == [101]) = false := str1_other HC.out (by decide)
  have h1 := HNF.out
  have e1 : decide ((nF : Int) = 2) = false := by simp; omega
  have e1b : decide (nF = 2) = false := by simp; omega
  have e1c : ((nF : Int) == 2) = false := by simp; omega
  clear h1
  go_wp2_with fail
  go_quiet (fail)
  go_wp2_with fail
  refine bodyPost_ret (v := .tuple #[.agg #[.int .i64 t, .int .i64 v, .slice a xs.length ca], .bool false]) (by simp [results, Try.results66, go_sem, r3_0, r3_1, r3_2, q3_0, q3_1, q3_2]) rfl ?_
  refine ⟨t, v, a, ca, xs, rfl, (fun _ h => by cases h), ?_⟩
  repeat (first | exact HB3.out | (refine Below.setCell ?_ (by (try simp) <;> (try omega)) _) | (refine Below.trans ?_ (below_drewN _ _ _)) | (refine Below.drew ?_))
set_option maxRecDepth 100000 in
set_option maxHeartbeats 16000000 in
theorem specApp_Csz (a : Option Addr) (ca : Nat) (xs : List Ent) (t v : Int) (l0 : List UInt8) (w : World) (ha : Sl entE 2 w a xs) (lx : xs.length ≤ 60) (hs : ∀ e ∈ xs, e.2.size ≤ 65536) (h0 : l0.length ≤ 65536) (f0 f1 : ByteArray) (rest : List ByteArray) (ho : rdAll l0 = some (f0 :: f1 :: rest)) (m : Nat) (hc : f0 = str1 99) (hsz : f1.size = 3 * m) (hr : rest.length = 0) (hm : m ≠ 1) :
    Calls Try.prog 66 #[.agg #[.int .i64 t, .int .i64 v, .slice a xs.length ca], .string (strOf l0)] w (AppR (none) w) := by
  obtain ⟨i0, hi, hz0, hz1, hz2⟩ := info_parts Try.infoEntry
  have HS := Lib.hid hs
  have HO := Lib.hid ho
  have HFZ := Lib.hid (rdAll_size l0 _ ho)
  have hF1 := HFZ.out f1 (by simp)
  have HF2 : Hid (∀ s ∈ rest, s.size ≤ l0.length) := Lib.hid fun s (hs : s ∈ rest) => HFZ.out s (by simp [hs])
  clear hs ho HFZ
  have HC := Lib.hid hc
  clear hc
  go_enter Try.func66, Try.ntmps66
  go_wp2_with fail
  refine (l02Read_c l0 _ (by omega)).mono ?_
  rw [HO.out]
  rintro e w0 ⟨aF, cF, F, rfl, hfF, hF, hb0⟩
  have hF' := hF _ rfl
  have hSF : Sl strE 1 w0 aF F := hfF.sl (fun _ => rfl)
  rw [hF'] at hSF
  have hnF : F.length = rest.length + 2 := by rw [hF']; rfl
  clear hfF hF hF'
  generalize F.length = nF at *
  obtain ⟨bF, oF, rfl, hbF, hcF⟩ := hSF.at (i := 0) (by simp)
  have d0_0 : w0.cell? ⟨bF, oF, none⟩ = some (.string f0) := by
    have := hcF 0 (by simp) 0 (by omega)
    simpa [strE] using this
  have d0_1 : w0.cell? ⟨bF, oF + 1, none⟩ = some (.string f1) := by
    have := hcF 1 (by simp) 0 (by omega)
    simpa [strE] using this
  have D0 : Hid (∀ f2 r', rest = f2 :: r' → w0.cell? ⟨bF, oF + 2, none⟩ = some (.string f2)) := Lib.hid fun f2 r' h => by
    subst h
    have := hcF 2 (by simp) 0 (by omega)
    simpa [strE] using this
  clear hcF hSF
  have hz0' := hb0.size
  simp only [World.size_alloc] at hz0'
  have HB0 : Hid (Below w.heap.size w w0) := (((Below.refl w.heap.size w).alloc (Nat.le_refl _) _).alloc (by simp) _).trans (hb0.mono (by simp; omega))
  have HA0 := Lib.hid (ha.keep HB0.out)
  have q0_0 : w0.cell? ⟨w.heap.size, 0, none⟩ = some (.int .i64 t) := by
    rw [hb0.cell (p := ⟨w.heap.size, 0, none⟩) (show w.heap.size < _ by (try simp) <;> (try omega))]
    first | assumption | (simp [go_sem, *])
  have q0_1 : w0.cell? ⟨w.heap.size, 1, none⟩ = some (.int .i64 v) := by
    rw [hb0.cell (p := ⟨w.heap.size, 1, none⟩) (show w.heap.size < _ by (try simp) <;> (try omega))]
    first | assumption | (simp [go_sem, *])
  have q0_2 : w0.cell? ⟨w.heap.size, 2, none⟩ = some (.slice a xs.length ca) := by
    rw [hb0.cell (p := ⟨w.heap.size, 2, none⟩) (show w.heap.size < _ by (try simp) <;> (try omega))]
    first | assumption | (simp [go_sem, *])
  have ql0 : w.heap.size < w0.heap.size := by omega
  have r0_0 : w0.cell? ⟨w.heap.size + 1, 0, none⟩ = some (.int .i64 0) := by
    rw [hb0.cell (p := ⟨w.heap.size + 1, 0, none⟩) (show w.heap.size + 1 < _ by (try simp) <;> (try omega))]
    first | assumption | (simp [go_sem, *])
  have r0_1 : w0.cell? ⟨w.heap.size + 1, 1, none⟩ = some (.int .i64 0) := by
    rw [hb0.cell (p := ⟨w.heap.size + 1, 1, none⟩) (show w.heap.size + 1 < _ by (try simp) <;> (try omega))]
    first | assumption | (simp [go_sem, *])
  have r0_2 : w0.cell? ⟨w.heap.size + 1, 2, none⟩ = some (.slice none 0 0) := by
    rw [hb0.cell (p := ⟨w.heap.size + 1, 2, none⟩) (show w.heap.size + 1 < _ by (try simp) <;> (try omega))]
    first | assumption | (simp [go_sem, *])
  have rf0 : ∀ o, w0.frozen? ⟨w.heap.size + 1, o, none⟩ = false := fun o => by
    rw [hb0.frozen (p := ⟨w.heap.size + 1, o, none⟩) (show w.heap.size + 1 < _ by (try simp) <;> (try omega))]
    simp [go_sem]
  have rl0 : w.heap.size + 1 < w0.heap.size := by omega
  clear hb0
  have hlt : decide ((nF : Int) < 2) = false := by simp; omega
  have hlt2 : ¬ ((nF : Int) < 2) := by omega
  have hi0' : (0 : Int) < (nF : Int) := by omega
  have hi1' : (1 : Int) < (nF : Int) := by omega
  have HNF := Lib.hid hnF
  clear hnF
  go_wp2_with fail
  refine (nums_c f1 _ m hsz (by omega)).mono ?_
  rintro e w1 ⟨aN, cN, N, rfl, hfN, hN, hb1⟩
  have hz1' := hb1.size
  have HB1 : Hid (Below w.heap.size w w1) := HB0.out.trans (hb1.mono (by omega))
  have HA1 := Lib.hid (HA0.out.keep hb1)
  have hN' := hN _ rfl
  have q1_0 : w1.cell? ⟨w.heap.size, 0, none⟩ = some (.int .i64 t) := by
    rw [hb1.cell (p := ⟨w.heap.size, 0, none⟩) (show w.heap.size < _ by (try simp) <;> (try omega))]
    first | assumption | (simp [go_sem, *])
  have q1_1 : w1.cell? ⟨w.heap.size, 1, none⟩ = some (.int .i64 v) := by
    rw [hb1.cell (p := ⟨w.heap.size, 1, none⟩) (show w.heap.size < _ by (try simp) <;> (try omega))]
    first | assumption | (simp [go_sem, *])
  have q1_2 : w1.cell? ⟨w.heap.size, 2, none⟩ = some (.slice a xs.length ca) := by
    rw [hb1.cell (p := ⟨w.heap.size, 2, none⟩) (show w.heap.size < _ by (try simp) <;> (try omega))]
    first | assumption | (simp [go_sem, *])
  have ql1 : w.heap.size < w1.heap.size := by omega
  have r1_0 : w1.cell? ⟨w.heap.size + 1, 0, none⟩ = some (.int .i64 0) := by
    rw [hb1.cell (p := ⟨w.heap.size + 1, 0, none⟩) (show w.heap.size + 1 < _ by (try simp) <;> (try omega))]
    first | assumption | (simp [go_sem, *])
  have r1_1 : w1.cell? ⟨w.heap.size + 1, 1, none⟩ = some (.int .i64 0) := by
    rw [hb1.cell (p := ⟨w.heap.size + 1, 1, none⟩) (show w.heap.size + 1 < _ by (try simp) <;> (try omega))]
    first | assumption | (simp [go_sem, *])
  have r1_2 : w1.cell? ⟨w.heap.size + 1, 2, none⟩ = some (.slice none 0 0) := by
    rw [hb1.cell (p := ⟨w.heap.size + 1, 2, none⟩) (show w.heap.size + 1 < _ by (try simp) <;> (try omega))]
    first | assumption | (simp [go_sem, *])
  have rf1 : ∀ o, w1.frozen? ⟨w.heap.size + 1, o, none⟩ = false := fun o => by
    rw [hb1.frozen (p := ⟨w.heap.size + 1, o, none⟩) (show w.heap.size + 1 < _ by (try simp) <;> (try omega))]
    first | exact rf0 o | (simp [go_sem]; done) | (rw [((Below.refl _ _).alloc (Nat.le_refl _) _ : Below _ _ _).frozen (p := ⟨w.heap.size + 1, o, none⟩) (show w.heap.size + 1 < _ by omega)]; exact rf0 o)
  have rl1 : w.heap.size + 1 < w1.heap.size := by omega
  have d1_0 : w1.cell? ⟨bF, oF, none⟩ = some (.string f0) := by
    rw [hb1.cell (p := ⟨bF, oF, none⟩) (by show bF < _; omega)]
    exact d0_0
  have D1 : Hid (∀ f2 r', rest = f2 :: r' → w1.cell? ⟨bF, oF + 2, none⟩ = some (.string f2)) := Lib.hid (fun f2 r' h => by
    rw [hb1.cell (p := ⟨bF, oF + 2, none⟩) (by show bF < _; omega)]
    exact D0.out f2 r' h)
  have hbF1 : bF < w1.heap.size := by omega
  clear hb1 d0_0 d0_1 D0 HB0 HA0 q0_0 q0_1 q0_2 r0_0 r0_1 r0_2 rf0
  have hnN : N.length = m := by rw [hN']; exact rnF_length _ _
  clear hfN hN hN'
  generalize N.length = nN at *
  have HNN := Lib.hid hnN
  clear hnN
  go_wp2_with fail
  refine (l07Own_c a ca xs t v _ HA1.out (by omega)).mono ?_
  rintro e w2 ⟨a2, c2, rfl, hf2, hb2⟩
  have hz2' := hb2.size
  have q2_0 : w2.cell? ⟨w.heap.size, 0, none⟩ = some (.int .i64 t) := by
    rw [hb2.cell (p := ⟨w.heap.size, 0, none⟩) (show w.heap.size < _ by (try simp) <;> (try omega))]
    first | assumption | (simp [go_sem, *])
  have q2_1 : w2.cell? ⟨w.heap.size, 1, none⟩ = some (.int .i64 v) := by
    rw [hb2.cell (p := ⟨w.heap.size, 1, none⟩) (show w.heap.size < _ by (try simp) <;> (try omega))]
    first | assumption | (simp [go_sem, *])
  have q2_2 : w2.cell? ⟨w.heap.size, 2, none⟩ = some (.slice a xs.length ca) := by
    rw [hb2.cell (p := ⟨w.heap.size, 2, none⟩) (show w.heap.size < _ by (try simp) <;> (try omega))]
    first | assumption | (simp [go_sem, *])
  have ql2 : w.heap.size < w2.heap.size := by omega
  have r2_0 : w2.cell? ⟨w.heap.size + 1, 0, none⟩ = some (.int .i64 0) := by
    rw [hb2.cell (p := ⟨w.heap.size + 1, 0, none⟩) (show w.heap.size + 1 < _ by (try simp) <;> (try omega))]
    first | assumption | (simp [go_sem, *])
  have r2_1 : w2.cell? ⟨w.heap.size + 1, 1, none⟩ = some (.int .i64 0) := by
    rw [hb2.cell (p := ⟨w.heap.size + 1, 1, none⟩) (show w.heap.size + 1 < _ by (try simp) <;> (try omega))]
    first | assumption | (simp [go_sem, *])
  have r2_2 : w2.cell? ⟨w.heap.size + 1, 2, none⟩ = some (.slice none 0 0) := by
    rw [hb2.cell (p := ⟨w.heap.size + 1, 2, none⟩) (show w.heap.size + 1 < _ by (try simp) <;> (try omega))]
    first | assumption | (simp [go_sem, *])
  have rf2 : ∀ o, w2.frozen? ⟨w.heap.size + 1, o, none⟩ = false := fun o => by
    rw [hb2.frozen (p := ⟨w.heap.size + 1, o, none⟩) (show w.heap.size + 1 < _ by (try simp) <;> (try omega))]
    first | exact rf1 o | (simp [go_sem]; done) | (rw [((Below.refl _ _).alloc (Nat.le_refl _) _ : Below _ _ _).frozen (p := ⟨w.heap.size + 1, o, none⟩) (show w.heap.size + 1 < _ by omega)]; exact rf1 o)
  have rl2 : w.heap.size + 1 < w2.heap.size := by omega
  have d2_0 : w2.cell? ⟨bF, oF, none⟩ = some (.string f0) := by
    rw [hb2.cell (p := ⟨bF, oF, none⟩) (by show bF < _; omega)]
    exact d1_0
  have D2 : Hid (∀ f2 r', rest = f2 :: r' → w2.cell? ⟨bF, oF + 2, none⟩ = some (.string f2)) := Lib.hid (fun f2 r' h => by
    rw [hb2.cell (p := ⟨bF, oF + 2, none⟩) (by show bF < _; omega)]
    exact D1.out f2 r' h)
  have HB2 : Hid (Below w.heap.size w w2) := HB1.out.trans (hb2.mono (by omega))
  have HL2 := Lib.hid hf2.here
  clear hb2 hf2 d1_0 D1 HB1 HA1 q1_0 q1_1 q1_2 r1_0 r1_1 r1_2 rf1
  go_upto_block 0 with fail
  generalize hw3 : w2.alloc (.cells #[.int .i64 t, .int .i64 v, .slice a2 xs.length c2] 60) = w3
  have hz3' : w2.heap.size < w3.heap.size := by rw [← hw3]; simp
  have HB3 : Hid (Below w.heap.size w w3) := by
    rw [← hw3]
    exact HB2.out.alloc (by omega) _
  have HL3 : Hid (FreshIn entE 76 2 w1.heap.size w2.heap.size (.slice a2 xs.length c2) xs w3) := by
    rw [← hw3]
    exact HL2.out.alloc _
  have s3_0 : w3.cell? ⟨w2.heap.size, 0, none⟩ = some (.int .i64 t) := by
    rw [← hw3]
    first | (simp [go_sem]; done) | (rw [World.cell?_alloc_lt _ _ _ (by show w2.heap.size < _; omega)]; assumption)
  have s3_1 : w3.cell? ⟨w2.heap.size, 1, none⟩ = some (.int .i64 v) := by
    rw [← hw3]
    first | (simp [go_sem]; done) | (rw [World.cell?_alloc_lt _ _ _ (by show w2.heap.size < _; omega)]; assumption)
  have s3_2 : w3.cell? ⟨w2.heap.size, 2, none⟩ = some (.slice a2 xs.length c2) := by
    rw [← hw3]
    first | (simp [go_sem]; done) | (rw [World.cell?_alloc_lt _ _ _ (by show w2.heap.size < _; omega)]; assumption)
  have q3_0 : w3.cell? ⟨w.heap.size, 0, none⟩ = some (.int .i64 t) := by
    rw [← hw3]
    first | (simp [go_sem]; done) | (rw [World.cell?_alloc_lt _ _ _ (by show w.heap.size < _; omega)]; assumption)
  have q3_1 : w3.cell? ⟨w.heap.size, 1, none⟩ = some (.int .i64 v) := by
    rw [← hw3]
    first | (simp [go_sem]; done) | (rw [World.cell?_alloc_lt _ _ _ (by show w.heap.size < _; omega)]; assumption)
  have q3_2 : w3.cell? ⟨w.heap.size, 2, none⟩ = some (.slice a xs.length ca) := by
    rw [← hw3]
    first | (simp [go_sem]; done) | (rw [World.cell?_alloc_lt _ _ _ (by show w.heap.size < _; omega)]; assumption)
  have r3_0 : w3.cell? ⟨w.heap.size + 1, 0, none⟩ = some (.int .i64 0) := by
    rw [← hw3]
    first | (simp [go_sem]; done) | (rw [World.cell?_alloc_lt _ _ _ (by show w.heap.size + 1 < _; omega)]; assumption)
  have r3_1 : w3.cell? ⟨w.heap.size + 1, 1, none⟩ = some (.int .i64 0) := by
    rw [← hw3]
    first | (simp [go_sem]; done) | (rw [World.cell?_alloc_lt _ _ _ (by show w.heap.size + 1 < _; omega)]; assumption)
  have r3_2 : w3.cell? ⟨w.heap.size + 1, 2, none⟩ = some (.slice none 0 0) := by
    rw [← hw3]
    first | (simp [go_sem]; done) | (rw [World.cell?_alloc_lt _ _ _ (by show w.heap.size + 1 < _; omega)]; assumption)
  have d3_0 : w3.cell? ⟨bF, oF, none⟩ = some (.string f0) := by
    rw [← hw3]
    first | (simp [go_sem]; done) | (rw [World.cell?_alloc_lt _ _ _ (by show bF < _; omega)]; assumption)
  have sf3 : ∀ o, w3.frozen? ⟨w2.heap.size, o, none⟩ = false := fun o => by
    rw [← hw3]
    simp [go_sem]
  have rf3 : ∀ o, w3.frozen? ⟨w.heap.size + 1, o, none⟩ = false := fun o => by
    rw [← hw3, ((Below.refl w2.heap.size w2).alloc (Nat.le_refl _) _ : Below _ _ _).frozen (p := ⟨w.heap.size + 1, o, none⟩) (by show w.heap.size + 1 < _; omega)]
    exact rf2 o
  have D3 : Hid (∀ f2 r', rest = f2 :: r' → w3.cell? ⟨bF, oF + 2, none⟩ = some (.string f2)) := Lib.hid (fun f2 r' h => by
    rw [← hw3, World.cell?_alloc_lt _ _ _ (by show bF < _; omega)]
    exact D2.out f2 r' h)
  have ql3 : w.heap.size < w3.heap.size := by omega
  have rl3 : w.heap.size + 1 < w3.heap.size := by omega
  have sl3 : w2.heap.size < w3.heap.size := hz3'
  have hbF2 : bF < w2.heap.size := by omega
  have hbF3 : bF < w3.heap.size := by omega
  clear hw3 d2_0 D2 HB2 HL2 q2_0 q2_1 q2_2 r2_0 r2_1 r2_2 rf2
  have e2a : (f0.toList == [116]) = false := str1_other HC.out (by decide)
  have e2c : (f0.toList == [99]) = true := str1_is HC.out
  have e3c : (f0.toList == [101]) = false := str1_other HC.out (by decide)
  have h1 := HNF.out
  have e1 : decide ((nF : Int) = 2) = true := by simp; omega
  have e1b : decide (nF = 2) = true := by simp; omega
  have e1c : ((nF : Int) == 2) = true := by simp; omega
  clear h1
  have h1 := HNN.out
  have y1 : decide ((nN : Int) = 1) = false := by simp; omega
  have y1b : decide (nN = 1) = false := by simp; omega
  have y1c : ((nN : Int) == 1) = false := by simp; omega
  clear h1
  go_wp2_with fail
  go_quiet (fail)
  go_wp2_with fail
  refine bodyPost_ret (v := .tuple #[.agg #[.int .i64 t, .int .i64 v, .slice a xs.length ca], .bool false]) (by simp [results, Try.results66, go_sem, r3_0, r3_1, r3_2, q3_0, q3_1, q3_2]) rfl ?_
  refine ⟨t, v, a, ca, xs, rfl, (fun _ h => by cases h), ?_⟩
  repeat (first | exact HB3.out | (refine Below.setCell ?_ (by (try simp) <;> (try omega)) _) | (refine Below.trans ?_ (below_drewN _ _ _)) | (refine Below.drew ?_))
set_option maxRecDepth 100000 in
set_option maxHeartbeats 16000000 in
theorem specApp_Crange (a : Option Addr) (ca : Nat) (xs : List Ent) (t v : Int) (l0 : List UInt8) (w : World) (ha : Sl entE 2 w a xs) (lx : xs.length ≤ 60) (hs : ∀ e ∈ xs, e.2.size ≤ 65536) (h0 : l0.length ≤ 65536) (f0 f1 : ByteArray) (rest : List ByteArray) (ho : rdAll l0 = some (f0 :: f1 :: rest)) (hc : f0 = str1 99) (hsz : f1.size = 3 * 1) (hr : rest.length = 0) (hi' : inB (n0F f1) 0 ((xs.length : Int) - 1) = false) :
    Calls Try.prog 66 #[.agg #[.int .i64 t, .int .i64 v, .slice a xs.length ca], .string (strOf l0)] w (AppR (none) w) := by
  obtain ⟨i0, hi, hz0, hz1, hz2⟩ := info_parts Try.infoEntry
  have HS := Lib.hid hs
  have HO := Lib.hid ho
  have HFZ := Lib.hid (rdAll_size l0 _ ho)
  have hF1 := HFZ.out f1 (by simp)
  have HF2 : Hid (∀ s ∈ rest, s.size ≤ l0.length) := Lib.hid fun s (hs : s ∈ rest) => HFZ.out s (by simp [hs])
  clear hs ho HFZ
  have HC := Lib.hid hc
  clear hc
  go_enter Try.func66, Try.ntmps66
  go_wp2_with fail
  refine (l02Read_c l0 _ (by omega)).mono ?_
  rw [HO.out]
  rintro e w0 ⟨aF, cF, F, rfl, hfF, hF, hb0⟩
  have hF' := hF _ rfl
  have hSF : Sl strE 1 w0 aF F := hfF.sl (fun _ => rfl)
  rw [hF'] at hSF
  have hnF : F.length = rest.length + 2 := by rw [hF']; rfl
  clear hfF hF hF'
  generalize F.length = nF at *
  obtain ⟨bF, oF, rfl, hbF, hcF⟩ := hSF.at (i := 0) (by simp)
  have d0_0 : w0.cell? ⟨bF, oF, none⟩ = some (.string f0) := by
    have := hcF 0 (by simp) 0 (by omega)
    simpa [strE] using this
  have d0_1 : w0.cell? ⟨bF, oF + 1, none⟩ = some (.string f1) := by
    have := hcF 1 (by simp) 0 (by omega)
    simpa [strE] using this
  have D0 : Hid (∀ f2 r', rest = f2 :: r' → w0.cell? ⟨bF, oF + 2, none⟩ = some (.string f2)) := Lib.hid fun f2 r' h => by
    subst h
    have := hcF 2 (by simp) 0 (by omega)
    simpa [strE] using this
  clear hcF hSF
  have hz0' := hb0.size
  simp only [World.size_alloc] at hz0'
  have HB0 : Hid (Below w.heap.size w w0) := (((Below.refl w.heap.size w).alloc (Nat.le_refl _) _).alloc (by simp) _).trans (hb0.mono (by simp; omega))
  have HA0 := Lib.hid (ha.keep HB0.out)
  have q0_0 : w0.cell? ⟨w.heap.size, 0, none⟩ = some (.int .i64 t) := by
    rw [hb0.cell (p := ⟨w.heap.size, 0, none⟩) (show w.heap.size < _ by (try simp) <;> (try omega))]
    first | assumption | (simp [go_sem, *])
  have q0_1 : w0.cell? ⟨w.heap.size, 1, none⟩ = some (.int .i64 v) := by
    rw [hb0.cell (p := ⟨w.heap.size, 1, none⟩) (show w.heap.size < _ by (try simp) <;> (try omega))]
    first | assumption | (simp [go_sem, *])
  have q0_2 : w0.cell? ⟨w.heap.size, 2, none⟩ = some (.slice a xs.length ca) := by
    rw [hb0.cell (p := ⟨w.heap.size, 2, none⟩) (show w.heap.size < _ by (try simp) <;> (try omega))]
    first | assumption | (simp [go_sem, *])
  have ql0 : w.heap.size < w0.heap.size := by omega
  have r0_0 : w0.cell? ⟨w.heap.size + 1, 0, none⟩ = some (.int .i64 0) := by
    rw [hb0.cell (p := ⟨w.heap.size + 1, 0, none⟩) (show w.heap.size + 1 < _ by (try simp) <;> (try omega))]
    first | assumption | (simp [go_sem, *])
  have r0_1 : w0.cell? ⟨w.heap.size + 1, 1, none⟩ = some (.int .i64 0) := by
    rw [hb0.cell (p := ⟨w.heap.size + 1, 1, none⟩) (show w.heap.size + 1 < _ by (try simp) <;> (try omega))]
    first | assumption | (simp [go_sem, *])
  have r0_2 : w0.cell? ⟨w.heap.size + 1, 2, none⟩ = some (.slice none 0 0) := by
    rw [hb0.cell (p := ⟨w.heap.size + 1, 2, none⟩) (show w.heap.size + 1 < _ by (try simp) <;> (try omega))]
    first | assumption | (simp [go_sem, *])
  have rf0 : ∀ o, w0.frozen? ⟨w.heap.size + 1, o, none⟩ = false := fun o => by
    rw [hb0.frozen (p := ⟨w.heap.size + 1, o, none⟩) (show w.heap.size + 1 < _ by (try simp) <;> (try omega))]
    simp [go_sem]
  have rl0 : w.heap.size + 1 < w0.heap.size := by omega
  clear hb0
  have hlt : decide ((nF : Int) < 2) = false := by simp; omega
  have hlt2 : ¬ ((nF : Int) < 2) := by omega
  have hi0' : (0 : Int) < (nF : Int) := by omega
  have hi1' : (1 : Int) < (nF : Int) := by omega
  have HNF := Lib.hid hnF
  clear hnF
  go_wp2_with fail
  refine (nums_c f1 _ 1 hsz (by omega)).mono ?_
  rintro e w1 ⟨aN, cN, N, rfl, hfN, hN, hb1⟩
  have hz1' := hb1.size
  have HB1 : Hid (Below w.heap.size w w1) := HB0.out.trans (hb1.mono (by omega))
  have HA1 := Lib.hid (HA0.out.keep hb1)
  have hN' := hN _ rfl
  have q1_0 : w1.cell? ⟨w.heap.size, 0, none⟩ = some (.int .i64 t) := by
    rw [hb1.cell (p := ⟨w.heap.size, 0, none⟩) (show w.heap.size < _ by (try simp) <;> (try omega))]
    first | assumption | (simp [go_sem, *])
  have q1_1 : w1.cell? ⟨w.heap.size, 1, none⟩ = some (.int .i64 v) := by
    rw [hb1.cell (p := ⟨w.heap.size, 1, none⟩) (show w.heap.size < _ by (try simp) <;> (try omega))]
    first | assumption | (simp [go_sem, *])
  have q1_2 : w1.cell? ⟨w.heap.size, 2, none⟩ = some (.slice a xs.length ca) := by
    rw [hb1.cell (p := ⟨w.heap.size, 2, none⟩) (show w.heap.size < _ by (try simp) <;> (try omega))]
    first | assumption | (simp [go_sem, *])
  have ql1 : w.heap.size < w1.heap.size := by omega
  have r1_0 : w1.cell? ⟨w.heap.size + 1, 0, none⟩ = some (.int .i64 0) := by
    rw [hb1.cell (p := ⟨w.heap.size + 1, 0, none⟩) (show w.heap.size + 1 < _ by (try simp) <;> (try omega))]
    first | assumption | (simp [go_sem, *])
  have r1_1 : w1.cell? ⟨w.heap.size + 1, 1, none⟩ = some (.int .i64 0) := by
    rw [hb1.cell (p := ⟨w.heap.size + 1, 1, none⟩) (show w.heap.size + 1 < _ by (try simp) <;> (try omega))]
    first | assumption | (simp [go_sem, *])
  have r1_2 : w1.cell? ⟨w.heap.size + 1, 2, none⟩ = some (.slice none 0 0) := by
    rw [hb1.cell (p := ⟨w.heap.size + 1, 2, none⟩) (show w.heap.size + 1 < _ by (try simp) <;> (try omega))]
    first | assumption | (simp [go_sem, *])
  have rf1 : ∀ o, w1.frozen? ⟨w.heap.size + 1, o, none⟩ = false := fun o => by
    rw [hb1.frozen (p := ⟨w.heap.size + 1, o, none⟩) (show w.heap.size + 1 < _ by (try simp) <;> (try omega))]
    first | exact rf0 o | (simp [go_sem]; done) | (rw [((Below.refl _ _).alloc (Nat.le_refl _) _ : Below _ _ _).frozen (p := ⟨w.heap.size + 1, o, none⟩) (show w.heap.size + 1 < _ by omega)]; exact rf0 o)
  have rl1 : w.heap.size + 1 < w1.heap.size := by omega
  have d1_0 : w1.cell? ⟨bF, oF, none⟩ = some (.string f0) := by
    rw [hb1.cell (p := ⟨bF, oF, none⟩) (by show bF < _; omega)]
    exact d0_0
  have D1 : Hid (∀ f2 r', rest = f2 :: r' → w1.cell? ⟨bF, oF + 2, none⟩ = some (.string f2)) := Lib.hid (fun f2 r' h => by
    rw [hb1.cell (p := ⟨bF, oF + 2, none⟩) (by show bF < _; omega)]
    exact D0.out f2 r' h)
  have hbF1 : bF < w1.heap.size := by omega
  clear hb1 d0_0 d0_1 D0 HB0 HA0 q0_0 q0_1 q0_2 r0_0 r0_1 r0_2 rf0
  have hnN : N.length = 1 := by rw [hN']; exact rnF_length _ _
  have hSN : Sl intE 1 w1 aN N := hfN.sl (fun _ => rfl)
  rw [hN', rn1] at hSN
  clear hfN hN hN'
  generalize N.length = nN at *
  obtain ⟨bN, oN, rfl, hbN, hcN⟩ := hSN.at (i := 0) (by simp)
  have g1_0 : w1.cell? ⟨bN, oN, none⟩ = some (.int .i64 (n0F f1)) := by
    have := hcN 0 (by simp) 0 (by omega)
    simpa [intE] using this
  have hj0' : (0 : Int) < (nN : Int) := by omega
  clear hcN hSN
  generalize n0F f1 = n0 at *
  generalize n1F f1 = n1 at *
  have HNN := Lib.hid hnN
  clear hnN
  go_wp2_with fail
  refine (l07Own_c a ca xs t v _ HA1.out (by omega)).mono ?_
  rintro e w2 ⟨a2, c2, rfl, hf2, hb2⟩
  have hz2' := hb2.size
  have q2_0 : w2.cell? ⟨w.heap.size, 0, none⟩ = some (.int .i64 t) := by
    rw [hb2.cell (p := ⟨w.heap.size, 0, none⟩) (show w.heap.size < _ by (try simp) <;> (try omega))]
    first | assumption | (simp [go_sem, *])
  have q2_1 : w2.cell? ⟨w.heap.size, 1, none⟩ = some (.int .i64 v) := by
    rw [hb2.cell (p := ⟨w.heap.size, 1, none⟩) (show w.heap.size < _ by (try simp) <;> (try omega))]
    first | assumption | (simp [go_sem, *])
  have q2_2 : w2.cell? ⟨w.heap.size, 2, none⟩ = some (.slice a xs.length ca) := by
    rw [hb2.cell (p := ⟨w.heap.size, 2, none⟩) (show w.heap.size < _ by (try simp) <;> (try omega))]
    first | assumption | (simp [go_sem, *])
  have ql2 : w.heap.size < w2.heap.size := by omega
  have r2_0 : w2.cell? ⟨w.heap.size + 1, 0, none⟩ = some (.int .i64 0) := by
    rw [hb2.cell (p := ⟨w.heap.size + 1, 0, none⟩) (show w.heap.size + 1 < _ by (try simp) <;> (try omega))]
    first | assumption | (simp [go_sem, *])
  have r2_1 : w2.cell? ⟨w.heap.size + 1, 1, none⟩ = some (.int .i64 0) := by
    rw [hb2.cell (p := ⟨w.heap.size + 1, 1, none⟩) (show w.heap.size + 1 < _ by (try simp) <;> (try omega))]
    first | assumption | (simp [go_sem, *])
  have r2_2 : w2.cell? ⟨w.heap.size + 1, 2, none⟩ = some (.slice none 0 0) := by
    rw [hb2.cell (p := ⟨w.heap.size + 1, 2, none⟩) (show w.heap.size + 1 < _ by (try simp) <;> (try omega))]
    first | assumption | (simp [go_sem, *])
  have rf2 : ∀ o, w2.frozen? ⟨w.heap.size + 1, o, none⟩ = false := fun o => by
    rw [hb2.frozen (p := ⟨w.heap.size + 1, o, none⟩) (show w.heap.size + 1 < _ by (try simp) <;> (try omega))]
    first | exact rf1 o | (simp [go_sem]; done) | (rw [((Below.refl _ _).alloc (Nat.le_refl _) _ : Below _ _ _).frozen (p := ⟨w.heap.size + 1, o, none⟩) (show w.heap.size + 1 < _ by omega)]; exact rf1 o)
  have rl2 : w.heap.size + 1 < w2.heap.size := by omega
  have d2_0 : w2.cell? ⟨bF, oF, none⟩ = some (.string f0) := by
    rw [hb2.cell (p := ⟨bF, oF, none⟩) (by show bF < _; omega)]
    exact d1_0
  have D2 : Hid (∀ f2 r', rest = f2 :: r' → w2.cell? ⟨bF, oF + 2, none⟩ = some (.string f2)) := Lib.hid (fun f2 r' h => by
    rw [hb2.cell (p := ⟨bF, oF + 2, none⟩) (by show bF < _; omega)]
    exact D1.out f2 r' h)
  have g2_0 : w2.cell? ⟨bN, oN, none⟩ = some (.int .i64 n0) := by
    rw [hb2.cell (p := ⟨bN, oN, none⟩) (by show bN < _; omega)]
    exact g1_0
  have HB2 : Hid (Below w.heap.size w w2) := HB1.out.trans (hb2.mono (by omega))
  have HL2 := Lib.hid hf2.here
  clear hb2 hf2 d1_0 D1 HB1 HA1 q1_0 q1_1 q1_2 r1_0 r1_1 r1_2 rf1 g1_0
  go_upto_block 0 with fail
  generalize hw3 : w2.alloc (.cells #[.int .i64 t, .int .i64 v, .slice a2 xs.length c2] 60) = w3
  have hz3' : w2.heap.size < w3.heap.size := by rw [← hw3]; simp
  have HB3 : Hid (Below w.heap.size w w3) := by
    rw [← hw3]
    exact HB2.out.alloc (by omega) _
  have HL3 : Hid (FreshIn entE 76 2 w1.heap.size w2.heap.size (.slice a2 xs.length c2) xs w3) := by
    rw [← hw3]
    exact HL2.out.alloc _
  have s3_0 : w3.cell? ⟨w2.heap.size, 0, none⟩ = some (.int .i64 t) := by
    rw [← hw3]
    first | (simp [go_sem]; done) | (rw [World.cell?_alloc_lt _ _ _ (by show w2.heap.size < _; omega)]; assumption)
  have s3_1 : w3.cell? ⟨w2.heap.size, 1, none⟩ = some (.int .i64 v) := by
    rw [← hw3]
    first | (simp [go_sem]; done) | (rw [World.cell?_alloc_lt _ _ _ (by show w2.heap.size < _; omega)]; assumption)
  have s3_2 : w3.cell? ⟨w2.heap.size, 2, none⟩ = some (.slice a2 xs.length c2) := by
    rw [← hw3]
    first | (simp [go_sem]; done) | (rw [World.cell?_alloc_lt _ _ _ (by show w2.heap.size < _; omega)]; assumption)
  have q3_0 : w3.cell? ⟨w.heap.size, 0, none⟩ = some (.int .i64 t) := by
    rw [← hw3]
    first | (simp [go_sem]; done) | (rw [World.cell?_alloc_lt _ _ _ (by show w.heap.size < _; omega)]; assumption)
  have q3_1 : w3.cell? ⟨w.heap.size, 1, none⟩ = some (.int .i64 v) := by
    rw [← hw3]
    first | (simp [go_sem]; done) | (rw [World.cell?_alloc_lt _ _ _ (by show w.heap.size < _; omega)]; assumption)
  have q3_2 : w3.cell? ⟨w.heap.size, 2, none⟩ = some (.slice a xs.length ca) := by
    rw [← hw3]
    first | (simp [go_sem]; done) | (rw [World.cell?_alloc_lt _ _ _ (by show w.heap.size < _; omega)]; assumption)
  have r3_0 : w3.cell? ⟨w.heap.size + 1, 0, none⟩ = some (.int .i64 0) := by
    rw [← hw3]
    first | (simp [go_sem]; done) | (rw [World.cell?_alloc_lt _ _ _ (by show w.heap.size + 1 < _; omega)]; assumption)
  have r3_1 : w3.cell? ⟨w.heap.size + 1, 1, none⟩ = some (.int .i64 0) := by
    rw [← hw3]
    first | (simp [go_sem]; done) | (rw [World.cell?_alloc_lt _ _ _ (by show w.heap.size + 1 < _; omega)]; assumption)
  have r3_2 : w3.cell? ⟨w.heap.size + 1, 2, none⟩ = some (.slice none 0 0) := by
    rw [← hw3]
    first | (simp [go_sem]; done) | (rw [World.cell?_alloc_lt _ _ _ (by show w.heap.size + 1 < _; omega)]; assumption)
  have d3_0 : w3.cell? ⟨bF, oF, none⟩ = some (.string f0) := by
    rw [← hw3]
    first | (simp [go_sem]; done) | (rw [World.cell?_alloc_lt _ _ _ (by show bF < _; omega)]; assumption)
  have g3_0 : w3.cell? ⟨bN, oN, none⟩ = some (.int .i64 n0) := by
    rw [← hw3]
    first | (simp [go_sem]; done) | (rw [World.cell?_alloc_lt _ _ _ (by show bN < _; omega)]; assumption)
  have sf3 : ∀ o, w3.frozen? ⟨w2.heap.size, o, none⟩ = false := fun o => by
    rw [← hw3]
    simp [go_sem]
  have rf3 : ∀ o, w3.frozen? ⟨w.heap.size + 1, o, none⟩ = false := fun o => by
    rw [← hw3, ((Below.refl w2.heap.size w2).alloc (Nat.le_refl _) _ : Below _ _ _).frozen (p := ⟨w.heap.size + 1, o, none⟩) (by show w.heap.size + 1 < _; omega)]
    exact rf2 o
  have D3 : Hid (∀ f2 r', rest = f2 :: r' → w3.cell? ⟨bF, oF + 2, none⟩ = some (.string f2)) := Lib.hid (fun f2 r' h => by
    rw [← hw3, World.cell?_alloc_lt _ _ _ (by show bF < _; omega)]
    exact D2.out f2 r' h)
  have ql3 : w.heap.size < w3.heap.size := by omega
  have rl3 : w.heap.size + 1 < w3.heap.size := by omega
  have sl3 : w2.heap.size < w3.heap.size := hz3'
  have hbF2 : bF < w2.heap.size := by omega
  have hbF3 : bF < w3.heap.size := by omega
  clear hw3 d2_0 D2 HB2 HL2 q2_0 q2_1 q2_2 r2_0 r2_1 r2_2 rf2 g2_0
  have hbN2 : bN < w2.heap.size := by omega
  have hbN3 : bN < w3.heap.size := by omega
  have e2a : (f0.toList == [116]) = false := str1_other HC.out (by decide)
  have e2c : (f0.toList == [99]) = true := str1_is HC.out
  have e3c : (f0.toList == [101]) = false := str1_other HC.out (by decide)
  have h1 := HNF.out
  have e1 : decide ((nF : Int) = 2) = true := by simp; omega
  have e1b : decide (nF = 2) = true := by simp; omega
  have e1c : ((nF : Int) == 2) = true := by simp; omega
  clear h1
  have h1 := HNN.out
  have y1 : decide ((nN : Int) = 1) = true := by simp; omega
  have y1b : decide (nN = 1) = true := by simp; omega
  have y1c : ((nN : Int) == 1) = true := by simp; omega
  clear h1
  have hwr1 : wrap64 ((xs.length : Int) - 1) = (xs.length : Int) - 1 := IntWalk.wrap64_in _ ⟨by omega, by omega⟩
  have hwr2 : IntKind.i64.wrap ((xs.length : Int) - 1) = (xs.length : Int) - 1 := IntWalk.i64_in _ ⟨by omega, by omega⟩
  have hk0 : 0 < nF := by omega
  have hm0 : 0 < nN := by omega
  go_wp2_with fail
  go_quiet ((go_at_call 63; exact (l01In_c _ _ _ _).mono fun _ _ h => ⟨h.1, _, h.2.symm⟩))
  go_wp2_with fail
  refine bodyPost_ret (v := .tuple #[.agg #[.int .i64 t, .int .i64 v, .slice a xs.length ca], .bool false]) (by simp [results, Try.results66, go_sem, r3_0, r3_1, r3_2, q3_0, q3_1, q3_2]) rfl ?_
  refine ⟨t, v, a, ca, xs, rfl, (fun _ h => by cases h), ?_⟩
  repeat (first | exact HB3.out | (refine Below.setCell ?_ (by (try simp) <;> (try omega)) _) | (refine Below.trans ?_ (below_drewN _ _ _)) | (refine Below.drew ?_))
end
section
open Go.RowKit
set_option maxRecDepth 100000 in
set_option maxHeartbeats 16000000 in
theorem specApp_Erest (a : Option Addr) (ca : Nat) (xs : List Ent) (t v : Int) (l0 : List UInt8) (w : World) (ha : Sl entE 2 w a xs) (lx : xs.length ≤ 60) (hs : ∀ e ∈ xs, e.2.size ≤ 65536) (h0 : l0.length ≤ 65536) (f0 f1 : ByteArray) (rest : List ByteArray) (ho : rdAll l0 = some (f0 :: f1 :: rest)) (m : Nat) (he : f0 = str1 101) (hsz : f1.size = 3 * m) (hr : rest.length ≠ 1) :
    Calls Try.prog 66 #[.agg #[.int .i64 t, .int .i64 v, .slice a xs.length ca], .string (strOf l0)] w (AppR (none) w) := by
  obtain ⟨i0, hi, hz0, hz1, hz2⟩ := info_parts Try.infoEntry
  have HS := Lib.hid hs
  have HO := Lib.hid ho
  have HFZ := Lib.hid (rdAll_size l0 _ ho)
  have hF1 := HFZ.out f1 (by simp)
  have HF2 : Hid (∀ s ∈ rest, s.size ≤ l0.length) := Lib.hid fun s (hs : s ∈ rest) => HFZ.out s (by simp [hs])
  clear hs ho HFZ
  have HE := Lib.hid he
  clear he
  go_enter Try.func66, Try.ntmps66
  go_wp2_with fail
  refine (l02Read_c l0 _ (by omega)).mono ?_
  rw [HO.out]
  rintro e w0 ⟨aF, cF, F, rfl, hfF, hF, hb0⟩
  have hF' := hF _ rfl
  have hSF : Sl strE 1 w0 aF F := hfF.sl (fun _ => rfl)
  rw [hF'] at hSF
  have hnF : F.length = rest.length + 2 := by rw [hF']; rfl
  clear hfF hF hF'
  generalize F.length = nF at *
  obtain ⟨bF, oF, rfl, hbF, hcF⟩ := hSF.at (i := 0) (by simp)
  have d0_0 : w0.cell? ⟨bF, oF, none⟩ = some (.string f0) := by
    have := hcF 0 (by simp) 0 (by omega)
    simpa [strE] using this
  have d0_1 : w0.cell? ⟨bF, oF + 1, none⟩ = some (.string f1) := by
    have := hcF 1 (by simp) 0 (by omega)
    simpa [strE] using this
  have D0 : Hid (∀ f2 r', rest = f2 :: r' → w0.cell? ⟨bF, oF + 2, none⟩ = some (.string f2)) := Lib.hid fun f2 r' h => by
    subst h
    have := hcF 2 (by simp) 0 (by omega)
    simpa [strE] using this
  clear hcF hSF
  have hz0' := hb0.size
  simp only [World.size_alloc] at hz0'
  have HB0 : Hid (Below w.heap.size w w0) := (((Below.refl w.heap.size w).alloc (Nat.le_refl _) _).alloc (by simp) _).trans (hb0.mono (by simp; omega))
  have HA0 := Lib.hid (ha.keep HB0.out)
  have q0_0 : w0.cell? ⟨w.heap.size, 0, none⟩ = some (.int .i64 t) := by
    rw [hb0.cell (p := ⟨w.heap.size, 0, none⟩) (show w.heap.size < _ by (try simp) <;> (try omega))]
    first | assumption | (simp [go_sem, *])
  have q0_1 : w0.cell? ⟨w.heap.size, 1, none⟩ = some (.int .i64 v) := by
    rw [hb0.cell (p := ⟨w.heap.size, 1, none⟩) (show w.heap.size < _ by (try simp) <;> (try omega))]
    first | assumption | (simp [go_sem, *])
  have q0_2 : w0.cell? ⟨w.heap.size, 2, none⟩ = some (.slice a xs.length ca) := by
    rw [hb0.cell (p := ⟨w.heap.size, 2, none⟩) (show w.heap.size < _ by (try simp) <;> (try omega))]
    first | assumption | (simp [go_sem, *])
  have ql0 : w.heap.size < w0.heap.size := by omega
  have r0_0 : w0.cell? ⟨w.heap.size + 1, 0, none⟩ = some (.int .i64 0) := by
    rw [hb0.cell (p := ⟨w.heap.size + 1, 0, none⟩) (show w.heap.size + 1 < _ by (try simp) <;> (try omega))]
    first | assumption | (simp [go_sem, *])
  have r0_1 : w0.cell? ⟨w.heap.size + 1, 1, none⟩ = some (.int .i64 0) := by
    rw [hb0.cell (p := ⟨w.heap.size + 1, 1, none⟩) (show w.heap.size + 1 < _ by (try simp) <;> (try omega))]
    first | assumption | (simp [go_sem, *])
  have r0_2 : w0.cell? ⟨w.heap.size + 1, 2, none⟩ = some (.slice none 0 0) := by
    rw [hb0.cell (p := ⟨w.heap.size + 1, 2, none⟩) (show w.heap.size + 1 < _ by (try simp) <;> (try omega))]
    first | assumption | (simp [go_sem, *])
  have rf0 : ∀ o, w0.frozen? ⟨w.heap.size + 1, o, none⟩ = false := fun o => by
    rw [hb0.frozen (p := ⟨w.heap.size + 1, o, none⟩) (show w.heap.size + 1 < _ by (try simp) <;> (try omega))]
    simp [go_sem]
  have rl0 : w.heap.size + 1 < w0.heap.size := by omega
  clear hb0
  have hlt : decide ((nF : Int) < 2) = false := by simp; omega
  have hlt2 : ¬ ((nF : Int) < 2) := by omega
  have hi0' : (0 : Int) < (nF : Int) := by omega
  have hi1' : (1 : Int) < (nF : Int) := by omega
  have HNF := Lib.hid hnF
  clear hnF
  go_wp2_with fail
  refine (nums_c f1 _ m hsz (by omega)).mono ?_
  rintro e w1 ⟨aN, cN, N, rfl, hfN, hN, hb1⟩
  have hz1' := hb1.size
  have HB1 : Hid (Below w.heap.size w w1) := HB0.out.trans (hb1.mono (by omega))
  have HA1 := Lib.hid (HA0.out.keep hb1)
  have hN' := hN _ rfl
  have q1_0 : w1.cell? ⟨w.heap.size, 0, none⟩ = some (.int .i64 t) := by
    rw [hb1.cell (p := ⟨w.heap.size, 0, none⟩) (show w.heap.size < _ by (try simp) <;> (try omega))]
    first | assumption | (simp [go_sem, *])
  have q1_1 : w1.cell? ⟨w.heap.size, 1, none⟩ = some (.int .i64 v) := by
    rw [hb1.cell (p := ⟨w.heap.size, 1, none⟩) (show w.heap.size < _ by (try simp) <;> (try omega))]
    first | assumption | (simp [go_sem, *])
  have q1_2 : w1.cell? ⟨w.heap.size, 2, none⟩ = some (.slice a xs.length ca) := by
    rw [hb1.cell (p := ⟨w.heap.size, 2, none⟩) (show w.heap.size < _ by (try simp) <;> (try omega))]
    first | assumption | (simp [go_sem, *])
  have ql1 : w.heap.size < w1.heap.size := by omega
  have r1_0 : w1.cell? ⟨w.heap.size + 1, 0, none⟩ = some (.int .i64 0) := by
    rw [hb1.cell (p := ⟨w.heap.size + 1, 0, none⟩) (show w.heap.size + 1 < _ by (try simp) <;> (try omega))]
    first | assumption | (simp [go_sem, *])
  have r1_1 : w1.cell? ⟨w.heap.size + 1, 1, none⟩ = some (.int .i64 0) := by
    rw [hb1.cell (p := ⟨w.heap.size + 1, 1, none⟩) (show w.heap.size + 1 < _ by (try simp) <;> (try omega))]
    first | assumption | (simp [go_sem, *])
  have r1_2 : w1.cell? ⟨w.heap.size + 1, 2, none⟩ = some (.slice none 0 0) := by
    rw [hb1.cell (p := ⟨w.heap.size + 1, 2, none⟩) (show w.heap.size + 1 < _ by (try simp) <;> (try omega))]
    first | assumption | (simp [go_sem, *])
  have rf1 : ∀ o, w1.frozen? ⟨w.heap.size + 1, o, none⟩ = false := fun o => by
    rw [hb1.frozen (p := ⟨w.heap.size + 1, o, none⟩) (show w.heap.size + 1 < _ by (try simp) <;> (try omega))]
    first | exact rf0 o | (simp [go_sem]; done) | (rw [((Below.refl _ _).alloc (Nat.le_refl _) _ : Below _ _ _).frozen (p := ⟨w.heap.size + 1, o, none⟩) (show w.heap.size + 1 < _ by omega)]; exact rf0 o)
  have rl1 : w.heap.size + 1 < w1.heap.size := by omega
  have d1_0 : w1.cell? ⟨bF, oF, none⟩ = some (.string f0) := by
    rw [hb1.cell (p := ⟨bF, oF, none⟩) (by show bF < _; omega)]
    exact d0_0
  have D1 : Hid (∀ f2 r', rest = f2 :: r' → w1.cell? ⟨bF, oF + 2, none⟩ = some (.string f2)) := Lib.hid (fun f2 r' h => by
    rw [hb1.cell (p := ⟨bF, oF + 2, none⟩) (by show bF < _; omega)]
    exact D0.out f2 r' h)
  have hbF1 : bF < w1.heap.size := by omega
  clear hb1 d0_0 d0_1 D0 HB0 HA0 q0_0 q0_1 q0_2 r0_0 r0_1 r0_2 rf0
  have hnN : N.length = m := by rw [hN']; exact rnF_length _ _
  clear hfN hN hN'
  generalize N.length = nN at *
  have HNN := Lib.hid hnN
  clear hnN
  go_wp2_with fail
  refine (l07Own_c a ca xs t v _ HA1.out (by omega)).mono ?_
  rintro e w2 ⟨a2, c2, rfl, hf2, hb2⟩
  have hz2' := hb2.size
  have q2_0 : w2.cell? ⟨w.heap.size, 0, none⟩ = some (.int .i64 t) := by
    rw [hb2.cell (p := ⟨w.heap.size, 0, none⟩) (show w.heap.size < _ by (try simp) <;> (try omega))]
    first | assumption | (simp [go_sem, *])
  have q2_1 : w2.cell? ⟨w.heap.size, 1, none⟩ = some (.int .i64 v) := by
    rw [hb2.cell (p := ⟨w.heap.size, 1, none⟩) (show w.heap.size < _ by (try simp) <;> (try omega))]
    first | assumption | (simp [go_sem, *])
  have q2_2 : w2.cell? ⟨w.heap.size, 2, none⟩ = some (.slice a xs.length ca) := by
    rw [hb2.cell (p := ⟨w.heap.size, 2, none⟩) (show w.heap.size < _ by (try simp) <;> (try omega))]
    first | assumption | (simp [go_sem, *])
  have ql2 : w.heap.size < w2.heap.size := by omega
  have r2_0 : w2.cell? ⟨w.heap.size + 1, 0, none⟩ = some (.int .i64 0) := by
    rw [hb2.cell (p := ⟨w.heap.size + 1, 0, none⟩) (show w.heap.size + 1 < _ by (try simp) <;> (try omega))]
    first | assumption | (simp [go_sem, *])
  have r2_1 : w2.cell? ⟨w.heap.size + 1, 1, none⟩ = some (.int .i64 0) := by
    rw [hb2.cell (p := ⟨w.heap.size + 1, 1, none⟩) (show w.heap.size + 1 < _ by (try simp) <;> (try omega))]
    first | assumption | (simp [go_sem, *])
  have r2_2 : w2.cell? ⟨w.heap.size + 1, 2, none⟩ = some (.slice none 0 0) := by
    rw [hb2.cell (p := ⟨w.heap.size + 1, 2, none⟩) (show w.heap.size + 1 < _ by (try simp) <;> (try omega))]
    first | assumption | (simp [go_sem, *])
  have rf2 : ∀ o, w2.frozen? ⟨w.heap.size + 1, o, none⟩ = false := fun o => by
    rw [hb2.frozen (p := ⟨w.heap.size + 1, o, none⟩) (show w.heap.size + 1 < _ by (try simp) <;> (try omega))]
    first | exact rf1 o | (simp [go_sem]; done) | (rw [((Below.refl _ _).alloc (Nat.le_refl _) _ : Below _ _ _).frozen (p := ⟨w.heap.size + 1, o, none⟩) (show w.heap.size + 1 < _ by omega)]; exact rf1 o)
  have rl2 : w.heap.size + 1 < w2.heap.size := by omega
  have d2_0 : w2.cell? ⟨bF, oF, none⟩ = some (.string f0) := by
    rw [hb2.cell (p := ⟨bF, oF, none⟩) (by show bF < _; omega)]
    exact d1_0
  have D2 : Hid (∀ f2 r', rest = f2 :: r' → w2.cell? ⟨bF, oF + 2, none⟩ = some (.string f2)) := Lib.hid (fun f2 r' h => by
    rw [hb2.cell (p := ⟨bF, oF + 2, none⟩) (by show bF < _; omega)]
    exact D1.out f2 r' h)
  have HB2 : Hid (Below w.heap.size w w2) := HB1.out.trans (hb2.mono (by omega))
  have HL2 := Lib.hid hf2.here
  clear hb2 hf2 d1_0 D1 HB1 HA1 q1_0 q1_1 q1_2 r1_0 r1_1 r1_2 rf1
  go_upto_block 0 with fail
  generalize hw3 : w2.alloc (.cells #[.int .i64 t, .int .i64 v, .slice a2 xs.length c2] 60) = w3
  have hz3' : w2.heap.size < w3.heap.size := by rw [← hw3]; simp
  have HB3 : Hid (Below w.heap.size w w3) := by
    rw [← hw3]
    exact HB2.out.alloc (by omega) _
  have HL3 : Hid (FreshIn entE 76 2 w1.heap.size w2.heap.size (.slice a2 xs.length c2) xs w3) := by
    rw [← hw3]
    exact HL2.out.alloc _
  have s3_0 : w3.cell? ⟨w2.heap.size, 0, none⟩ = some (.int .i64 t) := by
    rw [← hw3]
    first | (simp [go_sem]; done) | (rw [World.cell?_alloc_lt _ _ _ (by show w2.heap.size < _; omega)]; assumption)
  have s3_1 : w3.cell? ⟨w2.heap.size, 1, none⟩ = some (.int .i64 v) := by
    rw [← hw3]
    first | (simp [go_sem]; done) | (rw [World.cell?_alloc_lt _ _ _ (by show w2.heap.size < _; omega)]; assumption)
  have s3_2 : w3.cell? ⟨w2.heap.size, 2, none⟩ = some (.slice a2 xs.length c2) := by
    rw [← hw3]
    first | (simp [go_sem]; done) | (rw [World.cell?_alloc_lt _ _ _ (by show w2.heap.size < _; omega)]; assumption)
  have q3_0 : w3.cell? ⟨w.heap.size, 0, none⟩ = some (.int .i64 t) := by
    rw [← hw3]
    first | (simp [go_sem]; done) | (rw [World.cell?_alloc_lt _ _ _ (by show w.heap.size < _; omega)]; assumption)
  have q3_1 : w3.cell? ⟨w.heap.size, 1, none⟩ = some (.int .i64 v) := by
    rw [← hw3]
    first | (simp [go_sem]; done) | (rw [World.cell?_alloc_lt _ _ _ (by show w.heap.size < _; omega)]; assumption)
  have q3_2 : w3.cell? ⟨w.heap.size, 2, none⟩ = some (.slice a xs.length ca) := by
    rw [← hw3]
    first | (simp [go_sem]; done) | (rw [World.cell?_alloc_lt _ _ _ (by show w.heap.size < _; omega)]; assumption)
  have r3_0 : w3.cell? ⟨w.heap.size + 1, 0, none⟩ = some (.int .i64 0) := by
    rw [← hw3]
    first | (simp [go_sem]; done) | (rw [World.cell?_alloc_lt _ _ _ (by show w.heap.size + 1 < _; omega)]; assumption)
  have r3_1 : w3.cell? ⟨w.heap.size + 1, 1, none⟩ = some (.int .i64 0) := by
    rw [← hw3]
    first | (simp [go_sem]; done) | (rw [World.cell?_alloc_lt _ _ _ (by show w.heap.size + 1 < _; omega)]; assumption)
  have r3_2 : w3.cell? ⟨w.heap.size + 1, 2, none⟩ = some (.slice none 0 0) := by
    rw [← hw3]
    first | (simp [go_sem]; done) | (rw [World.cell?_alloc_lt _ _ _ (by show w.heap.size + 1 < _; omega)]; assumption)
  have d3_0 : w3.cell? ⟨bF, oF, none⟩ = some (.string f0) := by
    rw [← hw3]
    first | (simp [go_sem]; done) | (rw [World.cell?_alloc_lt _ _ _ (by show bF < _; omega)]; assumption)
  have sf3 : ∀ o, w3.frozen? ⟨w2.heap.size, o, none⟩ = false := fun o => by
    rw [← hw3]
    simp [go_sem]
  have rf3 : ∀ o, w3.frozen? ⟨w.heap.size + 1, o, none⟩ = false := fun o => by
    rw [← hw3, ((Below.refl w2.heap.size w2).alloc (Nat.le_refl _) _ : Below _ _ _).frozen (p := ⟨w.heap.size + 1, o, none⟩) (by show w.heap.size + 1 < _; omega)]
    exact rf2 o
  have D3 : Hid (∀ f2 r', rest = f2 :: r' → w3.cell? ⟨bF, oF + 2, none⟩ = some (.string f2)) := Lib.hid (fun f2 r' h => by
    rw [← hw3, World.cell?_alloc_lt _ _ _ (by show bF < _; omega)]
    exact D2.out f2 r' h)
  have ql3 : w.heap.size < w3.heap.size := by omega
  have rl3 : w.heap.size + 1 < w3.heap.size := by omega
  have sl3 : w2.heap.size < w3.heap.size := hz3'
  have hbF2 : bF < w2.heap.size := by omega
  have hbF3 : bF < w3.heap.size := by omega
  clear hw3 d2_0 D2 HB2 HL2 q2_0 q2_1 q2_2 r2_0 r2_1 r2_2 rf2
  have e2a : (f0.toList == [116]) = false := str1_other HE.out (by decide)
  have e2c : (f0.toList == [99]) = false := str1_other HE.out (by decide)
  have e3c : (f0.toList == [101]) = true := str1_is HE.out
  have h1 := HNF.out
  have e4 : decide ((nF : Int) = 3) = false := by simp; omega
  have e4b : decide (nF = 3) = false := by simp; omega
  have e4c : ((nF : Int) == 3) = false := by simp; omega
  clear h1
  go_wp2_with fail
  go_quiet (fail)
  go_wp2_with fail
  refine bodyPost_ret (v := .tuple #[.agg #[.int .i64 t, .int .i64 v, .slice a xs.length ca], .bool false]) (by simp [results, Try.results66, go_sem, r3_0, r3_1, r3_2, q3_0, q3_1, q3_2]) rfl ?_
  refine ⟨t, v, a, ca, xs, rfl, (fun _ h => by cases h), ?_⟩
  repeat (first | exact HB3.out | (refine Below.setCell ?_ (by (try simp) <;> (try omega)) _) | (refine Below.trans ?_ (below_drewN _ _ _)) | (refine Below.drew ?_))
set_option maxRecDepth 100000 in
set_option maxHeartbeats 16000000 in
theorem specApp_Esz (a : Option Addr) (ca : Nat) (xs : List Ent) (t v : Int) (l0 : List UInt8) (w : World) (ha : Sl entE 2 w a xs) (lx : xs.length ≤ 60) (hs : ∀ e ∈ xs, e.2.size ≤ 65536) (h0 : l0.length ≤ 65536) (f0 f1 : ByteArray) (rest : List ByteArray) (ho : rdAll l0 = some (f0 :: f1 :: rest)) (m : Nat) (he : f0 = str1 101) (hsz : f1.size = 3 * m) (hr : rest.length = 1) (hm : m ≠ 1) :
    Calls Try.prog 66 #[.agg #[.int .i64 t, .int .i64 v, .slice a xs.length ca], .string (strOf l0)] w (AppR (none) w) := by
  obtain ⟨i0, hi, hz0, hz1, hz2⟩ := info_parts Try.infoEntry
  have HS := Lib.hid hs
  have HO := Lib.hid ho
  have HFZ := Lib.hid (rdAll_size l0 _ ho)
  have hF1 := HFZ.out f1 (by simp)
  have HF2 : Hid (∀ s ∈ rest, s.size ≤ l0.length) := Lib.hid fun s (hs : s ∈ rest) => HFZ.out s (by simp [hs])
  clear hs ho HFZ
  have HE := Lib.hid he
  clear he
  go_enter Try.func66, Try.ntmps66
  go_wp2_with fail
  refine (l02Read_c l0 _ (by omega)).mono ?_
  rw [HO.out]
  rintro e w0 ⟨aF, cF, F, rfl, hfF, hF, hb0⟩
  have hF' := hF _ rfl
  have hSF : Sl strE 1 w0 aF F := hfF.sl (fun _ => rfl)
  rw [hF'] at hSF
  have hnF : F.length = rest.length + 2 := by rw [hF']; rfl
  clear hfF hF hF'
  generalize F.length = nF at *
  obtain ⟨bF, oF, rfl, hbF, hcF⟩ := hSF.at (i := 0) (by simp)
  have d0_0 : w0.cell? ⟨bF, oF, none⟩ = some (.string f0) := by
    have := hcF 0 (by simp) 0 (by omega)
    simpa [strE] using this
  have d0_1 : w0.cell? ⟨bF, oF + 1, none⟩ = some (.string f1) := by
    have := hcF 1 (by simp) 0 (by omega)
    simpa [strE] using this
  have D0 : Hid (∀ f2 r', rest = f2 :: r' → w0.cell? ⟨bF, oF + 2, none⟩ = some (.string f2)) := Lib.hid fun f2 r' h => by
    subst h
    have := hcF 2 (by simp) 0 (by omega)
    simpa [strE] using this
  clear hcF hSF
  have hz0' := hb0.size
  simp only [World.size_alloc] at hz0'
  have HB0 : Hid (Below w.heap.size w w0) := (((Below.refl w.heap.size w).alloc (Nat.le_refl _) _).alloc (by simp) _).trans (hb0.mono (by simp; omega))
  have HA0 := Lib.hid (ha.keep HB0.out)
  have q0_0 : w0.cell? ⟨w.heap.size, 0, none⟩ = some (.int .i64 t) := by
    rw [hb0.cell (p := ⟨w.heap.size, 0, none⟩) (show w.heap.size < _ by (try simp) <;> (try omega))]
    first | assumption | (simp [go_sem, *])
  have q0_1 : w0.cell? ⟨w.heap.size, 1, none⟩ = some (.int .i64 v) := by
    rw [hb0.cell (p := ⟨w.heap.size, 1, none⟩) (show w.heap.size < _ by (try simp) <;> (try omega))]
    first | assumption | (simp [go_sem, *])
  have q0_2 : w0.cell? ⟨w.heap.size, 2, none⟩ = some (.slice a xs.length ca) := by
    rw [hb0.cell (p := ⟨w.heap.size, 2, none⟩) (show w.heap.size < _ by (try simp) <;> (try omega))]
    first | assumption | (simp [go_sem, *])
  have ql0 : w.heap.size < w0.heap.size := by omega
  have r0_0 : w0.cell? ⟨w.heap.size + 1, 0, none⟩ = some (.int .i64 0) := by
    rw [hb0.cell (p := ⟨w.heap.size + 1, 0, none⟩) (show w.heap.size + 1 < _ by (try simp) <;> (try omega))]
    first | assumption | (simp [go_sem, *])
  have r0_1 : w0.cell? ⟨w.heap.size + 1, 1, none⟩ = some (.int .i64 0) := by
    rw [hb0.cell (p := ⟨w.heap.size + 1, 1, none⟩) (show w.heap.size + 1 < _ by (try simp) <;> (try omega))]
    first | assumption | (simp [go_sem, *])
  have r0_2 : w0.cell? ⟨w.heap.size + 1, 2, none⟩ = some (.slice none 0 0) := by
    rw [hb0.cell (p := ⟨w.heap.size + 1, 2, none⟩) (show w.heap.size + 1 < _ by (try simp) <;> (try omega))]
    first | assumption | (simp [go_sem, *])
  have rf0 : ∀ o, w0.frozen? ⟨w.heap.size + 1, o, none⟩ = false := fun o => by
    rw [hb0.frozen (p := ⟨w.heap.size + 1, o, none⟩) (show w.heap.size + 1 < _ by (try simp) <;> (try omega))]
    simp [go_sem]
  have rl0 : w.heap.size + 1 < w0.heap.size := by omega
  clear hb0
  have hlt : decide ((nF : Int) < 2) = false := by simp; omega
  have hlt2 : ¬ ((nF : Int) < 2) := by omega
  have hi0' : (0 : Int) < (nF : Int) := by omega
  have hi1' : (1 : Int) < (nF : Int) := by omega
  have HNF := Lib.hid hnF
  clear hnF
  go_wp2_with fail
  refine (nums_c f1 _ m hsz (by omega)).mono ?_
  rintro e w1 ⟨aN, cN, N, rfl, hfN, hN, hb1⟩
  have hz1' := hb1.size
  have HB1 : Hid (Below w.heap.size w w1) := HB0.out.trans (hb1.mono (by omega))
  have HA1 := Lib.hid (HA0.out.keep hb1)
  have hN' := hN _ rfl
  have q1_0 : w1.cell? ⟨w.heap.size, 0, none⟩ = some (.int .i64 t) := by
    rw [hb1.cell (p := ⟨w.heap.size, 0, none⟩) (show w.heap.size < _ by (try simp) <;> (try omega))]
    first | assumption | (simp [go_sem, *])
  have q1_1 : w1.cell? ⟨w.heap.size, 1, none⟩ = some (.int .i64 v) := by
    rw [hb1.cell (p := ⟨w.heap.size, 1, none⟩) (show w.heap.size < _ by (try simp) <;> (try omega))]
    first | assumption | (simp [go_sem, *])
  have q1_2 : w1.cell? ⟨w.heap.size, 2, none⟩ = some (.slice a xs.length ca) := by
    rw [hb1.cell (p := ⟨w.heap.size, 2, none⟩) (show w.heap.size < _ by (try simp) <;> (try omega))]
    first | assumption | (simp [go_sem, *])
  have ql1 : w.heap.size < w1.heap.size := by omega
  have r1_0 : w1.cell? ⟨w.heap.size + 1, 0, none⟩ = some (.int .i64 0) := by
    rw [hb1.cell (p := ⟨w.heap.size + 1, 0, none⟩) (show w.heap.size + 1 < _ by (try simp) <;> (try omega))]
    first | assumption | (simp [go_sem, *])
  have r1_1 : w1.cell? ⟨w.heap.size + 1, 1, none⟩ = some (.int .i64 0) := by
    rw [hb1.cell (p := ⟨w.heap.size + 1, 1, none⟩) (show w.heap.size + 1 < _ by (try simp) <;> (try omega))]
    first | assumption | (simp [go_sem, *])
  have r1_2 : w1.cell? ⟨w.heap.size + 1, 2, none⟩ = some (.slice none 0 0) := by
    rw [hb1.cell (p := ⟨w.heap.size + 1, 2, none⟩) (show w.heap.size + 1 < _ by (try simp) <;> (try omega))]
    first | assumption | (simp [go_sem, *])
  have rf1 : ∀ o, w1.frozen? ⟨w.heap.size + 1, o, none⟩ = false := fun o => by
    rw [hb1.frozen (p := ⟨w.heap.size + 1, o, none⟩) (show w.heap.size + 1 < _ by (try simp) <;> (try omega))]
    first | exact rf0 o | (simp [go_sem]; done) | (rw [((Below.refl _ _).alloc (Nat.le_refl _) _ : Below _ _ _).frozen (p := ⟨w.heap.size + 1, o, none⟩) (show w.heap.size + 1 < _ by omega)]; exact rf0 o)
  have rl1 : w.heap.size + 1 < w1.heap.size := by omega
  have d1_0 : w1.cell? ⟨bF, oF, none⟩ = some (.string f0) := by
    rw [hb1.cell (p := ⟨bF, oF, none⟩) (by show bF < _; omega)]
    exact d0_0
  have D1 : Hid (∀ f2 r', rest = f2 :: r' → w1.cell? ⟨bF, oF + 2, none⟩ = some (.string f2)) := Lib.hid (fun f2 r' h => by
    rw [hb1.cell (p := ⟨bF, oF + 2, none⟩) (by show bF < _; omega)]
    exact D0.out f2 r' h)
  have hbF1 : bF < w1.heap.size := by omega
  clear hb1 d0_0 d0_1 D0 HB0 HA0 q0_0 q0_1 q0_2 r0_0 r0_1 r0_2 rf0
  have hnN : N.length = m := by rw [hN']; exact rnF_length _ _
  clear hfN hN hN'
  generalize N.length = nN at *
  have HNN := Lib.hid hnN
  clear hnN
  go_wp2_with fail
  refine (l07Own_c a ca xs t v _ HA1.out (by omega)).mono ?_
  rintro e w2 ⟨a2, c2, rfl, hf2, hb2⟩
  have hz2' := hb2.size
  have q2_0 : w2.cell? ⟨w.heap.size, 0, none⟩ = some (.int .i64 t) := by
    rw [hb2.cell (p := ⟨w.heap.size, 0, none⟩) (show w.heap.size < _ by (try simp) <;> (try omega))]
    first | assumption | (simp [go_sem, *])
  have q2_1 : w2.cell? ⟨w.heap.size, 1, none⟩ = some (.int .i64 v) := by
    rw [hb2.cell (p := ⟨w.heap.size, 1, none⟩) (show w.heap.size < _ by (try simp) <;> (try omega))]
    first | assumption | (simp [go_sem, *])
  have q2_2 : w2.cell? ⟨w.heap.size, 2, none⟩ = some (.slice a xs.length ca) := by
    rw [hb2.cell (p := ⟨w.heap.size, 2, none⟩) (show w.heap.size < _ by (try simp) <;> (try omega))]
    first | assumption | (simp [go_sem, *])
  have ql2 : w.heap.size < w2.heap.size := by omega
  have r2_0 : w2.cell? ⟨w.heap.size + 1, 0, none⟩ = some (.int .i64 0) := by
    rw [hb2.cell (p := ⟨w.heap.size + 1, 0, none⟩) (show w.heap.size + 1 < _ by (try simp) <;> (try omega))]
    first | assumption | (simp [go_sem, *])
  have r2_1 : w2.cell? ⟨w.heap.size + 1, 1, none⟩ = some (.int .i64 0) := by
    rw [hb2.cell (p := ⟨w.heap.size + 1, 1, none⟩) (show w.heap.size + 1 < _ by (try simp) <;> (try omega))]
    first | assumption | (simp [go_sem, *])
  have r2_2 : w2.cell? ⟨w.heap.size + 1, 2, none⟩ = some (.slice none 0 0) := by
    rw [hb2.cell (p := ⟨w.heap.size + 1, 2, none⟩) (show w.heap.size + 1 < _ by (try simp) <;> (try omega))]
    first | assumption | (simp [go_sem, *])
  have rf2 : ∀ o, w2.frozen? ⟨w.heap.size + 1, o, none⟩ = false := fun o => by
    rw [hb2.frozen (p := ⟨w.heap.size + 1, o, none⟩) (show w.heap.size + 1 < _ by (try simp) <;> (try omega))]
    first | exact rf1 o | (simp [go_sem]; done) | (rw [((Below.refl _ _).alloc (Nat.le_refl _) _ : Below _ _ _).frozen (p := ⟨w.heap.size + 1, o, none⟩) (show w.heap.size + 1 < _ by omega)]; exact rf1 o)
  have rl2 : w.heap.size + 1 < w2.heap.size := by omega
  have d2_0 : w2.cell? ⟨bF, oF, none⟩ = some (.string f0) := by
    rw [hb2.cell (p := ⟨bF, oF, none⟩) (by show bF < _; omega)]
    exact d1_0
  have D2 : Hid (∀ f2 r', rest = f2 :: r' → w2.cell? ⟨bF, oF + 2, none⟩ = some (.string f2)) := Lib.hid (fun f2 r' h => by
    rw [hb2.cell (p := ⟨bF, oF + 2, none⟩) (by show bF < _; omega)]
    exact D1.out f2 r' h)
  have HB2 : Hid (Below w.heap.size w w2) := HB1.out.trans (hb2.mono (by omega))
  have HL2 := Lib.hid hf2.here
  clear hb2 hf2 d1_0 D1 HB1 HA1 q1_0 q1_1 q1_2 r1_0 r1_1 r1_2 rf1
  go_upto_block 0 with fail
  generalize hw3 : w2.alloc (.cells #[.int .i64 t, .int .i64 v, .slice a2 xs.length c2] 60) = w3
  have hz3' : w2.heap.size < w3.heap.size := by rw [← hw3]; simp
  have HB3 : Hid (Below w.heap.size w w3) := by
    rw [← hw3]
    exact HB2.out.alloc (by omega) _
  have HL3 : Hid (FreshIn entE 76 2 w1.heap.size w2.heap.size (.slice a2 xs.length c2) xs w3) := by
    rw [← hw3]
    exact HL2.out.alloc _
  have s3_0 : w3.cell? ⟨w2.heap.size, 0, none⟩ = some (.int .i64 t) := by
    rw [← hw3]
    first | (simp [go_sem]; done) | (rw [World.cell?_alloc_lt _ _ _ (by show w2.heap.size < _; omega)]; assumption)
  have s3_1 : w3.cell? ⟨w2.heap.size, 1, none⟩ = some (.int .i64 v) := by
    rw [← hw3]
    first | (simp [go_sem]; done) | (rw [World.cell?_alloc_lt _ _ _ (by show w2.heap.size < _; omega)]; assumption)
  have s3_2 : w3.cell? ⟨w2.heap.size, 2, none⟩ = some (.slice a2 xs.length c2) := by
    rw [← hw3]
    first | (simp [go_sem]; done) | (rw [World.cell?_alloc_lt _ _ _ (by show w2.heap.size < _; omega)]; assumption)
  have q3_0 : w3.cell? ⟨w.heap.size, 0, none⟩ = some (.int .i64 t) := by
    rw [← hw3]
    first | (simp [go_sem]; done) | (rw [World.cell?_alloc_lt _ _ _ (by show w.heap.size < _; omega)]; assumption)
  have q3_1 : w3.cell? ⟨w.heap.size, 1, none⟩ = some (.int .i64 v) := by
    rw [← hw3]
    first | (simp [go_sem]; done) | (rw [World.cell?_alloc_lt _ _ _ (by show w.heap.size < _; omega)]; assumption)
  have q3_2 : w3.cell? ⟨w.heap.size, 2, none⟩ = some (.slice a xs.length ca) := by
    rw [← hw3]
    first | (simp [go_sem]; done) | (rw [World.cell?_alloc_lt _ _ _ (by show w.heap.size < _; omega)]; assumption)
  have r3_0 : w3.cell? ⟨w.heap.size + 1, 0, none⟩ = some (.int .i64 0) := by
    rw [← hw3]
    first | (simp [go_sem]; done) | (rw [World.cell?_alloc_lt _ _ _ (by show w.heap.size + 1 < _; omega)]; assumption)
  have r3_1 : w3.cell? ⟨w.heap.size + 1, 1, none⟩ = some (.int .i64 0) := by
    rw [← hw3]
    first | (simp [go_sem]; done) | (rw [World.cell?_alloc_lt _ _ _ (by show w.heap.size + 1 < _; omega)]; assumption)
  have r3_2 : w3.cell? ⟨w.heap.size + 1, 2, none⟩ = some (.slice none 0 0) := by
    rw [← hw3]
    first | (simp [go_sem]; done) | (rw [World.cell?_alloc_lt _ _ _ (by show w.heap.size + 1 < _; omega)]; assumption)
  have d3_0 : w3.cell? ⟨bF, oF, none⟩ = some (.string f0) := by
    rw [← hw3]
    first | (simp [go_sem]; done) | (rw [World.cell?_alloc_lt _ _ _ (by show bF < _; omega)]; assumption)
  have sf3 : ∀ o, w3.frozen? ⟨w2.heap.size, o, none⟩ = false := fun o => by
    rw [← hw3]
    simp [go_sem]
  have rf3 : ∀ o, w3.frozen? ⟨w.heap.size + 1, o, none⟩ = false := fun o => by
    rw [← hw3, ((Below.refl w2.heap.size w2).alloc (Nat.le_refl _) _ : Below _ _ _).frozen (p := ⟨w.heap.size + 1, o, none⟩) (by show w.heap.size + 1 < _; omega)]
    exact rf2 o
  have D3 : Hid (∀ f2 r', rest = f2 :: r' → w3.cell? ⟨bF, oF + 2, none⟩ = some (.string f2)) := Lib.hid (fun f2 r' h => by
    rw [← hw3, World.cell?_alloc_lt _ _ _ (by show bF < _; omega)]
    exact D2.out f2 r' h)
  have ql3 : w.heap.size < w3.heap.size := by omega
  have rl3 : w.heap.size + 1 < w3.heap.size := by omega
  have sl3 : w2.heap.size < w3.heap.size := hz3'
  have hbF2 : bF < w2.heap.size := by omega
  have hbF3 : bF < w3.heap.size := by omega
  clear hw3 d2_0 D2 HB2 HL2 q2_0 q2_1 q2_2 r2_0 r2_1 r2_2 rf2
  have e2a : (f0.toList == [116]) = false := str1_other HE.out (by decide)
  have e2c : (f0.toList == [99]) = false := str1_other HE.out (by decide)
  have e3c : (f0.toList == [101]) = true := str1_is HE.out
  have h1 := HNF.out
  have e4 : decide ((nF : Int) = 3) = true := by simp; omega
  have e4b : decide (nF = 3) = true := by simp; omega
  have e4c : ((nF : Int) == 3) = true := by simp; omega
  clear h1
  have h1 := HNN.out
  have y1 : decide ((nN : Int) = 1) = false := by simp; omega
  have y1b : decide (nN = 1) = false := by simp; omega
  have y1c : ((nN : Int) == 1) = false := by simp; omega
  clear h1
  go_wp2_with fail
  go_quiet (fail)
  go_wp2_with fail
  refine bodyPost_ret (v := .tuple #[.agg #[.int .i64 t, .int .i64 v, .slice a xs.length ca], .bool false]) (by simp [results, Try.results66, go_sem, r3_0, r3_1, r3_2, q3_0, q3_1, q3_2]) rfl ?_
  refine ⟨t, v, a, ca, xs, rfl, (fun _ h => by cases h), ?_⟩
  repeat (first | exact HB3.out | (refine Below.setCell ?_ (by (try simp) <;> (try omega)) _) | (refine Below.trans ?_ (below_drewN _ _ _)) | (refine Below.drew ?_))
set_option maxRecDepth 100000 in
set_option maxHeartbeats 16000000 in
theorem specApp_other (a : Option Addr) (ca : Nat) (xs : List Ent) (t v : Int) (l0 : List UInt8) (w : World) (ha : Sl entE 2 w a xs) (lx : xs.length ≤ 60) (hs : ∀ e ∈ xs, e.2.size ≤ 65536) (h0 : l0.length ≤ 65536) (f0 f1 : ByteArray) (rest : List ByteArray) (ho : rdAll l0 = some (f0 :: f1 :: rest)) (m : Nat) (hT : f0 ≠ str1 116) (hc : f0 ≠ str1 99) (he : f0 ≠ str1 101) (hsz : f1.size = 3 * m) :
    Calls Try.prog 66 #[.agg #[.int .i64 t, .int .i64 v, .slice a xs.length ca], .string (strOf l0)] w (AppR (none) w) := by
  obtain ⟨i0, hi, hz0, hz1, hz2⟩ := info_parts Try.infoEntry
  have HS := Lib.hid hs
  have HO := Lib.hid ho
  have HFZ := Lib.hid (rdAll_size l0 _ ho)
  have hF1 := HFZ.out f1 (by simp)
  have HF2 : Hid (∀ s ∈ rest, s.size ≤ l0.length) := Lib.hid fun s (hs : s ∈ rest) => HFZ.out s (by simp [hs])
  clear hs ho HFZ
  have HC := Lib.hid hc
  clear hc
  have HE := Lib.hid he
  clear he
  have HT := Lib.hid hT
  clear hT
  go_enter Try.func66, Try.ntmps66
  go_wp2_with fail
  refine (l02Read_c l0 _ (by omega)).mono ?_
  rw [HO.out]
  rintro e w0 ⟨aF, cF, F, rfl, hfF, hF, hb0⟩
  have hF' := hF _ rfl
  have hSF : Sl strE 1 w0 aF F := hfF.sl (fun _ => rfl)
  rw [hF'] at hSF
  have hnF : F.length = rest.length + 2 := by rw [hF']; rfl
  clear hfF hF hF'
  generalize F.length = nF at *
  obtain ⟨bF, oF, rfl, hbF, hcF⟩ := hSF.at (i := 0) (by simp)
  have d0_0 : w0.cell? ⟨bF, oF, none⟩ = some (.string f0) := by
    have := hcF 0 (by simp) 0 (by omega)
    simpa [strE] using this
  have d0_1 : w0.cell? ⟨bF, oF + 1, none⟩ = some (.string f1) := by
    have := hcF 1 (by simp) 0 (by omega)
    simpa [strE] using this
  have D0 : Hid (∀ f2 r', rest = f2 :: r' → w0.cell? ⟨bF, oF + 2, none⟩ = some (.string f2)) := Lib.hid fun f2 r' h => by
    subst h
    have := hcF 2 (by simp) 0 (by omega)
    simpa [strE] using this
  clear hcF hSF
  have hz0' := hb0.size
  simp only [World.size_alloc] at hz0'
  have HB0 : Hid (Below w.heap.size w w0) := (((Below.refl w.heap.size w).alloc (Nat.le_refl _) _).alloc (by simp) _).trans (hb0.mono (by simp; omega))
  have HA0 := Lib.hid (ha.keep HB0.out)
  have q0_0 : w0.cell? ⟨w.heap.size, 0, none⟩ = some (.int .i64 t) := by
    rw [hb0.cell (p := ⟨w.heap.size, 0, none⟩) (show w.heap.size < _ by (try simp) <;> (try omega))]
    first | assumption | (simp [go_sem, *])
  have q0_1 : w0.cell? ⟨w.heap.size, 1, none⟩ = some (.int .i64 v) := by
    rw [hb0.cell (p := ⟨w.heap.size, 1, none⟩) (show w.heap.size < _ by (try simp) <;> (try omega))]
    first | assumption | (simp [go_sem, *])
  have q0_2 : w0.cell? ⟨w.heap.size, 2, none⟩ = some (.slice a xs.length ca) := by
    rw [hb0.cell (p := ⟨w.heap.size, 2, none⟩) (show w.heap.size < _ by (try simp) <;> (try omega))]
    first | assumption | (simp [go_sem, *])
  have ql0 : w.heap.size < w0.heap.size := by omega
  have r0_0 : w0.cell? ⟨w.heap.size + 1, 0, none⟩ = some (.int .i64 0) := by
    rw [hb0.cell (p := ⟨w.heap.size + 1, 0, none⟩) (show w.heap.size + 1 < _ by (try simp) <;> (try omega))]
    first | assumption | (simp [go_sem, *])
  have r0_1 : w0.cell? ⟨w.heap.size + 1, 1, none⟩ = some (.int .i64 0) := by
    rw [hb0.cell (p := ⟨w.heap.size + 1, 1, none⟩) (show w.heap.size + 1 < _ by (try simp) <;> (try omega))]
    first | assumption | (simp [go_sem, *])
  have r0_2 : w0.cell? ⟨w.heap.size + 1, 2, none⟩ = some (.slice none 0 0) := by
    rw [hb0.cell (p := ⟨w.heap.size + 1, 2, none⟩) (show w.heap.size + 1 < _ by (try simp) <;> (try omega))]
    first | assumption | (simp [go_sem, *])
  have rf0 : ∀ o, w0.frozen? ⟨w.heap.size + 1, o, none⟩ = false := fun o => by
    rw [hb0.frozen (p := ⟨w.heap.size + 1, o, none⟩) (show w.heap.size + 1 < _ by (try simp) <;> (try omega))]
    simp [go_sem]
  have rl0 : w.heap.size + 1 < w0.heap.size := by omega
  clear hb0
  have hlt : decide ((nF : Int) < 2) = false := by simp; omega
  have hlt2 : ¬ ((nF : Int) < 2) := by omega
  have hi0' : (0 : Int) < (nF : Int) := by omega
  have hi1' : (1 : Int) < (nF : Int) := by omega
  have HNF := Lib.hid hnF
  clear hnF
  go_wp2_with fail
  refine (nums_c f1 _ m hsz (by omega)).mono ?_
  rintro e w1 ⟨aN, cN, N, rfl, hfN, hN, hb1⟩
  have hz1' := hb1.size
  have HB1 : Hid (Below w.heap.size w w1) := HB0.out.trans (hb1.mono (by omega))
  have HA1 := Lib.hid (HA0.out.keep hb1)
  have hN' := hN _ rfl
  have q1_0 : w1.cell? ⟨w.heap.size, 0, none⟩ = some (.int .i64 t) := by
    rw [hb1.cell (p := ⟨w.heap.size, 0, none⟩) (show w.heap.size < _ by (try simp) <;> (try omega))]
    first | assumption | (simp [go_sem, *])
  have q1_1 : w1.cell? ⟨w.heap.size, 1, none⟩ = some (.int .i64 v) := by
    rw [hb1.cell (p := ⟨w.heap.size, 1, none⟩) (show w.heap.size < _ by (try simp) <;> (try omega))]
    first | assumption | (simp [go_sem, *])
  have q1_2 : w1.cell? ⟨w.heap.size, 2, none⟩ = some (.slice a xs.length ca) := by
    rw [hb1.cell (p := ⟨w.heap.size, 2, none⟩) (show w.heap.size < _ by (try simp) <;> (try omega))]
    first | assumption | (simp [go_sem, *])
  have ql1 : w.heap.size < w1.heap.size := by omega
  have r1_0 : w1.cell? ⟨w.heap.size + 1, 0, none⟩ = some (.int .i64 0) := by
    rw [hb1.cell (p := ⟨w.heap.size + 1, 0, none⟩) (show w.heap.size + 1 < _ by (try simp) <;> (try omega))]
    first | assumption | (simp [go_sem, *])
  have r1_1 : w1.cell? ⟨w.heap.size + 1, 1, none⟩ = some (.int .i64 0) := by
    rw [hb1.cell (p := ⟨w.heap.size + 1, 1, none⟩) (show w.heap.size + 1 < _ by (try simp) <;> (try omega))]
    first | assumption | (simp [go_sem, *])
  have r1_2 : w1.cell? ⟨w.heap.size + 1, 2, none⟩ = some (.slice none 0 0) := by
    rw [hb1.cell (p := ⟨w.heap.size + 1, 2, none⟩) (show w.heap.size + 1 < _ by (try simp) <;> (try omega))]
    first | assumption | (simp [go_sem, *])
  have rf1 : ∀ o, w1.frozen? ⟨w.heap.size + 1, o, none⟩ = false := fun o => by
    rw [hb1.frozen (p := ⟨w.heap.size + 1, o, none⟩) (show w.heap.size + 1 < _ by (try simp) <;> (try omega))]
    first | exact rf0 o | (simp [go_sem]; done) | (rw [((Below.refl _ _).alloc (Nat.le_refl _) _ : Below _ _ _).frozen (p := ⟨w.heap.size + 1, o, none⟩) (show w.heap.size + 1 < _ by omega)]; exact rf0 o)
  have rl1 : w.heap.size + 1 < w1.heap.size := by omega
  have d1_0 : w1.cell? ⟨bF, oF, none⟩ = some (.string f0) := by
    rw [hb1.cell (p := ⟨bF, oF, none⟩) (by show bF < _; omega)]
    exact d0_0
  have D1 : Hid (∀ f2 r', rest = f2 :: r' → w1.cell? ⟨bF, oF + 2, none⟩ = some (.string f2)) := Lib.hid (fun f2 r' h => by
    rw [hb1.cell (p := ⟨bF, oF + 2, none⟩) (by show bF < _; omega)]
    exact D0.out f2 r' h)
  have hbF1 : bF < w1.heap.size := by omega
  clear hb1 d0_0 d0_1 D0 HB0 HA0 q0_0 q0_1 q0_2 r0_0 r0_1 r0_2 rf0
  have hnN : N.length = m := by rw [hN']; exact rnF_length _ _
  clear hfN hN hN'
  generalize N.length = nN at *
  have HNN := Lib.hid hnN
  clear hnN
  go_wp2_with fail
  refine (l07Own_c a ca xs t v _ HA1.out (by omega)).mono ?_
  rintro e w2 ⟨a2, c2, rfl, hf2, hb2⟩
  have hz2' := hb2.size
  have q2_0 : w2.cell? ⟨w.heap.size, 0, none⟩ = some (.int .i64 t) := by
    rw [hb2.cell (p := ⟨w.heap.size, 0, none⟩) (show w.heap.size < _ by (try simp) <;> (try omega))]
    first | assumption | (simp [go_sem, *])
  have q2_1 : w2.cell? ⟨w.heap.size, 1, none⟩ = some (.int .i64 v) := by
    rw [hb2.cell (p := ⟨w.heap.size, 1, none⟩) (show w.heap.size < _ by (try simp) <;> (try omega))]
    first | assumption | (simp [go_sem, *])
  have q2_2 : w2.cell? ⟨w.heap.size, 2, none⟩ = some (.slice a xs.length ca) := by
    rw [hb2.cell (p := ⟨w.heap.size, 2, none⟩) (show w.heap.size < _ by (try simp) <;> (try omega))]
    first | assumption | (simp [go_sem, *])
  have ql2 : w.heap.size < w2.heap.size := by omega
  have r2_0 : w2.cell? ⟨w.heap.size + 1, 0, none⟩ = some (.int .i64 0) := by
    rw [hb2.cell (p := ⟨w.heap.size + 1, 0, none⟩) (show w.heap.size + 1 < _ by (try simp) <;> (try omega))]
    first | assumption | (simp [go_sem, *])
  have r2_1 : w2.cell? ⟨w.heap.size + 1, 1, none⟩ = some (.int .i64 0) := by
    rw [hb2.cell (p := ⟨w.heap.size + 1, 1, none⟩) (show w.heap.size + 1 < _ by (try simp) <;> (try omega))]
    first | assumption | (simp [go_sem, *])
  have r2_2 : w2.cell? ⟨w.heap.size + 1, 2, none⟩ = some (.slice none 0 0) := by
    rw [hb2.cell (p := ⟨w.heap.size + 1, 2, none⟩) (show w.heap.size + 1 < _ by (try simp) <;> (try omega))]
    first | assumption | (simp [go_sem, *])
  have rf2 : ∀ o, w2.frozen? ⟨w.heap.size + 1, o, none⟩ = false := fun o => by
    rw [hb2.frozen (p := ⟨w.heap.size + 1, o, none⟩) (show w.heap.size + 1 < _ by (try simp) <;> (try omega))]
    first | exact rf1 o | (simp [go_sem]; done) | (rw [((Below.refl _ _).alloc (Nat.le_refl _) _ : Below _ _ _).frozen (p := ⟨w.heap.size + 1, o, none⟩) (show w.heap.size + 1 < _ by omega)]; exact rf1 o)
  have rl2 : w.heap.size + 1 < w2.heap.size := by omega
  have d2_0 : w2.cell? ⟨bF, oF, none⟩ = some (.string f0) := by
    rw [hb2.cell (p := ⟨bF, oF, none⟩) (by show bF < _; omega)]
    exact d1_0
  have D2 : Hid (∀ f2 r', rest = f2 :: r' → w2.cell? ⟨bF, oF + 2, none⟩ = some (.string f2)) := Lib.hid (fun f2 r' h => by
    rw [hb2.cell (p := ⟨bF, oF + 2, none⟩) (by show bF < _; omega)]
    exact D1.out f2 r' h)
  have HB2 : Hid (Below w.heap.size w w2) := HB1.out.trans (hb2.mono (by omega))
  have HL2 := Lib.hid hf2.here
  clear hb2 hf2 d1_0 D1 HB1 HA1 q1_0 q1_1 q1_2 r1_0 r1_1 r1_2 rf1
  go_upto_block 0 with fail
  generalize hw3 : w2.alloc (.cells #[.int .i64 t, .int .i64 v, .slice a2 xs.length c2] 60) = w3
  have hz3' : w2.heap.size < w3.heap.size := by rw [← hw3]; simp
  have HB3 : Hid (Below w.heap.size w w3) := by
    rw [← hw3]
    exact HB2.out.alloc (by omega) _
  have HL3 : Hid (FreshIn entE 76 2 w1.heap.size w2.heap.size (.slice a2 xs.length c2) xs w3) := by
    rw [← hw3]
    exact HL2.out.alloc _
  have s3_0 : w3.cell? ⟨w2.heap.size, 0, none⟩ = some (.int .i64 t) := by
    rw [← hw3]
    first | (simp [go_sem]; done) | (rw [World.cell?_alloc_lt _ _ _ (by show w2.heap.size < _; omega)]; assumption)
  have s3_1 : w3.cell? ⟨w2.heap.size, 1, none⟩ = some (.int .i64 v) := by
    rw [← hw3]
    first | (simp [go_sem]; done) | (rw [World.cell?_alloc_lt _ _ _ (by show w2.heap.size < _; omega)]; assumption)
  have s3_2 : w3.cell? ⟨w2.heap.size, 2, none⟩ = some (.slice a2 xs.length c2) := by
    rw [← hw3]
    first | (simp [go_sem]; done) | (rw [World.cell?_alloc_lt _ _ _ (by show w2.heap.size < _; omega)]; assumption)
  have q3_0 : w3.cell? ⟨w.heap.size, 0, none⟩ = some (.int .i64 t) := by
    rw [← hw3]
    first | (simp [go_sem]; done) | (rw [World.cell?_alloc_lt _ _ _ (by show w.heap.size < _; omega)]; assumption)
  have q3_1 : w3.cell? ⟨w.heap.size, 1, none⟩ = some (.int .i64 v) := by
    rw [← hw3]
    first | (simp [go_sem]; done) | (rw [World.cell?_alloc_lt _ _ _ (by show w.heap.size < _; omega)]; assumption)
  have q3_2 : w3.cell? ⟨w.heap.size, 2, none⟩ = some (.slice a xs.length ca) := by
    rw [← hw3]
    first | (simp [go_sem]; done) | (rw [World.cell?_alloc_lt _ _ _ (by show w.heap.size < _; omega)]; assumption)
  have r3_0 : w3.cell? ⟨w.heap.size + 1, 0, none⟩ = some (.int .i64 0) := by
    rw [← hw3]
    first | (simp [go_sem]; done) | (rw [World.cell?_alloc_lt _ _ _ (by show w.heap.size + 1 < _; omega)]; assumption)
  have r3_1 : w3.cell? ⟨w.heap.size + 1, 1, none⟩ = some (.int .i64 0) := by
    rw [← hw3]
    first | (simp [go_sem]; done) | (rw [World.cell?_alloc_lt _ _ _ (by show w.heap.size + 1 < _; omega)]; assumption)
  have r3_2 : w3.cell? ⟨w.heap.size + 1, 2, none⟩ = some (.slice none 0 0) := by
    rw [← hw3]
    first | (simp [go_sem]; done) | (rw [World.cell?_alloc_lt _ _ _ (by show w.heap.size + 1 < _; omega)]; assumption)
  have d3_0 : w3.cell? ⟨bF, oF, none⟩ = some (.string f0) := by
    rw [← hw3]
    first | (simp [go_sem]; done) | (rw [World.cell?_alloc_lt _ _ _ (by show bF < _; omega)]; assumption)
  have sf3 : ∀ o, w3.frozen? ⟨w2.heap.size, o, none⟩ = false := fun o => by
    rw [← hw3]
    simp [go_sem]
  have rf3 : ∀ o, w3.frozen? ⟨w.heap.size + 1, o, none⟩ = false := fun o => by
    rw [← hw3, ((Below.refl w2.heap.size w2).alloc (Nat.le_refl _) _ : Below _ _ _).frozen (p := ⟨w.heap.size + 1, o, none⟩) (by show w.heap.size + 1 < _; omega)]
    exact rf2 o
  have D3 : Hid (∀ f2 r', rest = f2 :: r' → w3.cell? ⟨bF, oF + 2, none⟩ = some (.string f2)) := Lib.hid (fun f2 r' h => by
    rw [← hw3, World.cell?_alloc_lt _ _ _ (by show bF < _; omega)]
    exact D2.out f2 r' h)
  have ql3 : w.heap.size < w3.heap.size := by omega
  have rl3 : w.heap.size + 1 < w3.heap.size := by omega
  have sl3 : w2.heap.size < w3.heap.size := hz3'
  have hbF2 : bF < w2.heap.size := by omega
  have hbF3 : bF < w3.heap.size := by omega
  clear hw3 d2_0 D2 HB2 HL2 q2_0 q2_1 q2_2 r2_0 r2_1 r2_2 rf2
  have e2a : (f0.toList == [116]) = false := str1_ne HT.out
  have e2c : (f0.toList == [99]) = false := str1_ne HC.out
  have e3c : (f0.toList == [101]) = false := str1_ne HE.out
  go_wp2_with fail
  go_quiet (fail)
  go_wp2_with fail
  refine bodyPost_ret (v := .tuple #[.agg #[.int .i64 t, .int .i64 v, .slice a xs.length ca], .bool false]) (by simp [results, Try.results66, go_sem, r3_0, r3_1, r3_2, q3_0, q3_1, q3_2]) rfl ?_
  refine ⟨t, v, a, ca, xs, rfl, (fun _ h => by cases h), ?_⟩
  repeat (first | exact HB3.out | (refine Below.setCell ?_ (by (try simp) <;> (try omega)) _) | (refine Below.trans ?_ (below_drewN _ _ _)) | (refine Below.drew ?_))
end
section
open Go.RowKit
set_option maxRecDepth 100000 in
set_option maxHeartbeats 16000000 in
theorem specApp_Tok (a : Option Addr) (ca : Nat) (xs : List Ent) (t v : Int) (l0 : List UInt8) (w : World) (ha : Sl entE 2 w a xs) (lx : xs.length ≤ 60) (hs : ∀ e ∈ xs, e.2.size ≤ 65536) (h0 : l0.length ≤ 65536) (f0 f1 : ByteArray) (rest : List ByteArray) (ho : rdAll l0 = some (f0 :: f1 :: rest)) (hT : f0 = str1 116) (hsz : f1.size = 3 * 2) (hr : rest.length = 0) (hle : t ≤ n0F f1) :
    Calls Try.prog 66 #[.agg #[.int .i64 t, .int .i64 v, .slice a xs.length ca], .string (strOf l0)] w (AppR (chkS (n0F f1) (n1F f1) xs) w) := by
  obtain ⟨i0, hi, hz0, hz1, hz2⟩ := info_parts Try.infoEntry
  have HS := Lib.hid hs
  have HO := Lib.hid ho
  have HFZ := Lib.hid (rdAll_size l0 _ ho)
  have hF1 := HFZ.out f1 (by simp)
  have HF2 : Hid (∀ s ∈ rest, s.size ≤ l0.length) := Lib.hid fun s (hs : s ∈ rest) => HFZ.out s (by simp [hs])
  clear hs ho HFZ
  have HT := Lib.hid hT
  clear hT
  go_enter Try.func66, Try.ntmps66
  go_wp2_with fail
  refine (l02Read_c l0 _ (by omega)).mono ?_
  rw [HO.out]
  rintro e w0 ⟨aF, cF, F, rfl, hfF, hF, hb0⟩
  have hF' := hF _ rfl
  have hSF : Sl strE 1 w0 aF F := hfF.sl (fun _ => rfl)
  rw [hF'] at hSF
  have hnF : F.length = rest.length + 2 := by rw [hF']; rfl
  clear hfF hF hF'
  generalize F.length = nF at *
  obtain ⟨bF, oF, rfl, hbF, hcF⟩ := hSF.at (i := 0) (by simp)
  have d0_0 : w0.cell? ⟨bF, oF, none⟩ = some (.string f0) := by
    have := hcF 0 (by simp) 0 (by omega)
    simpa [strE] using this
  have d0_1 : w0.cell? ⟨bF, oF + 1, none⟩ = some (.string f1) := by
    have := hcF 1 (by simp) 0 (by omega)
    simpa [strE] using this
  have D0 : Hid (∀ f2 r', rest = f2 :: r' → w0.cell? ⟨bF, oF + 2, none⟩ = some (.string f2)) := Lib.hid fun f2 r' h => by
    subst h
    have := hcF 2 (by simp) 0 (by omega)
    simpa [strE] using this
  clear hcF hSF
  have hz0' := hb0.size
  simp only [World.size_alloc] at hz0'
  have HB0 : Hid (Below w.heap.size w w0) := (((Below.refl w.heap.size w).alloc (Nat.le_refl _) _).alloc (by simp) _).trans (hb0.mono (by simp; omega))
  have HA0 := Lib.hid (ha.keep HB0.out)
  have q0_0 : w0.cell? ⟨w.heap.size, 0, none⟩ = some (.int .i64 t) := by
    rw [hb0.cell (p := ⟨w.heap.size, 0, none⟩) (show w.heap.size < _ by (try simp) <;> (try omega))]
    first | assumption | (simp [go_sem, *])
  have q0_1 : w0.cell? ⟨w.heap.size, 1, none⟩ = some (.int .i64 v) := by
    rw [hb0.cell (p := ⟨w.heap.size, 1, none⟩) (show w.heap.size < _ by (try simp) <;> (try omega))]
    first | assumption | (simp [go_sem, *])
  have q0_2 : w0.cell? ⟨w.heap.size, 2, none⟩ = some (.slice a xs.length ca) := by
    rw [hb0.cell (p := ⟨w.heap.size, 2, none⟩) (show w.heap.size < _ by (try simp) <;> (try omega))]
    first | assumption | (simp [go_sem, *])
  have ql0 : w.heap.size < w0.heap.size := by omega
  have r0_0 : w0.cell? ⟨w.heap.size + 1, 0, none⟩ = some (.int .i64 0) := by
    rw [hb0.cell (p := ⟨w.heap.size + 1, 0, none⟩) (show w.heap.size + 1 < _ by (try simp) <;> (try omega))]
    first | assumption | (simp [go_sem, *])
  have r0_1 : w0.cell? ⟨w.heap.size + 1, 1, none⟩ = some (.int .i64 0) := by
    rw [hb0.cell (p := ⟨w.heap.size + 1, 1, none⟩) (show w.heap.size + 1 < _ by (try simp) <;> (try omega))]
    first | assumption | (simp [go_sem, *])
  have r0_2 : w0.cell? ⟨w.heap.size + 1, 2, none⟩ = some (.slice none 0 0) := by
    rw [hb0.cell (p := ⟨w.heap.size + 1, 2, none⟩) (show w.heap.size + 1 < _ by (try simp) <;> (try omega))]
    first | assumption | (simp [go_sem, *])
  have rf0 : ∀ o, w0.frozen? ⟨w.heap.size + 1, o, none⟩ = false := fun o => by
    rw [hb0.frozen (p := ⟨w.heap.size + 1, o, none⟩) (show w.heap.size + 1 < _ by (try simp) <;> (try omega))]
    simp [go_sem]
  have rl0 : w.heap.size + 1 < w0.heap.size := by omega
  clear hb0
  have hlt : decide ((nF : Int) < 2) = false := by simp; omega
  have hlt2 : ¬ ((nF : Int) < 2) := by omega
  have hi0' : (0 : Int) < (nF : Int) := by omega
  have hi1' : (1 : Int) < (nF : Int) := by omega
  have HNF := Lib.hid hnF
  clear hnF
  go_wp2_with fail
  refine (nums_c f1 _ 2 hsz (by omega)).mono ?_
  rintro e w1 ⟨aN, cN, N, rfl, hfN, hN, hb1⟩
  have hz1' := hb1.size
  have HB1 : Hid (Below w.heap.size w w1) := HB0.out.trans (hb1.mono (by omega))
  have HA1 := Lib.hid (HA0.out.keep hb1)
  have hN' := hN _ rfl
  have q1_0 : w1.cell? ⟨w.heap.size, 0, none⟩ = some (.int .i64 t) := by
    rw [hb1.cell (p := ⟨w.heap.size, 0, none⟩) (show w.heap.size < _ by (try simp) <;> (try omega))]
    first | assumption | (simp [go_sem, *])
  have q1_1 : w1.cell? ⟨w.heap.size, 1, none⟩ = some (.int .i64 v) := by
    rw [hb1.cell (p := ⟨w.heap.size, 1, none⟩) (show w.heap.size < _ by (try simp) <;> (try omega))]
    first | assumption | (simp [go_sem, *])
  have q1_2 : w1.cell? ⟨w.heap.size, 2, none⟩ = some (.slice a xs.length ca) := by
    rw [hb1.cell (p := ⟨w.heap.size, 2, none⟩) (show w.heap.size < _ by (try simp) <;> (try omega))]
    first | assumption | (simp [go_sem, *])
  have ql1 : w.heap.size < w1.heap.size := by omega
  have r1_0 : w1.cell? ⟨w.heap.size + 1, 0, none⟩ = some (.int .i64 0) := by
    rw [hb1.cell (p := ⟨w.heap.size + 1, 0, none⟩) (show w.heap.size + 1 < _ by (try simp) <;> (try omega))]
    first | assumption | (simp [go_sem, *])
  have r1_1 : w1.cell? ⟨w.heap.size + 1, 1, none⟩ = some (.int .i64 0) := by
    rw [hb1.cell (p := ⟨w.heap.size + 1, 1, none⟩) (show w.heap.size + 1 < _ by (try simp) <;> (try omega))]
    first | assumption | (simp [go_sem, *])
  have r1_2 : w1.cell? ⟨w.heap.size + 1, 2, none⟩ = some (.slice none 0 0) := by
    rw [hb1.cell (p := ⟨w.heap.size + 1, 2, none⟩) (show w.heap.size + 1 < _ by (try simp) <;> (try omega))]
    first | assumption | (simp [go_sem, *])
  have rf1 : ∀ o, w1.frozen? ⟨w.heap.size + 1, o, none⟩ = false := fun o => by
    rw [hb1.frozen (p := ⟨w.heap.size + 1, o, none⟩) (show w.heap.size + 1 < _ by (try simp) <;> (try omega))]
    first | exact rf0 o | (simp [go_sem]; done) | (rw [((Below.refl _ _).alloc (Nat.le_refl _) _ : Below _ _ _).frozen (p := ⟨w.heap.size + 1, o, none⟩) (show w.heap.size + 1 < _ by omega)]; exact rf0 o)
  have rl1 : w.heap.size + 1 < w1.heap.size := by omega
  have d1_0 : w1.cell? ⟨bF, oF, none⟩ = some (.string f0) := by
    rw [hb1.cell (p := ⟨bF, oF, none⟩) (by show bF < _; omega)]
    exact d0_0
  have D1 : Hid (∀ f2 r', rest = f2 :: r' → w1.cell? ⟨bF, oF + 2, none⟩ = some (.string f2)) := Lib.hid (fun f2 r' h => by
    rw [hb1.cell (p := ⟨bF, oF + 2, none⟩) (by show bF < _; omega)]
    exact D0.out f2 r' h)
  have hbF1 : bF < w1.heap.size := by omega
  clear hb1 d0_0 d0_1 D0 HB0 HA0 q0_0 q0_1 q0_2 r0_0 r0_1 r0_2 rf0
  have hnN : N.length = 2 := by rw [hN']; exact rnF_length _ _
  have hSN : Sl intE 1 w1 aN N := hfN.sl (fun _ => rfl)
  rw [hN', rn2] at hSN
  clear hfN hN hN'
  generalize N.length = nN at *
  obtain ⟨bN, oN, rfl, hbN, hcN⟩ := hSN.at (i := 0) (by simp)
  have g1_0 : w1.cell? ⟨bN, oN, none⟩ = some (.int .i64 (n0F f1)) := by
    have := hcN 0 (by simp) 0 (by omega)
    simpa [intE] using this
  have g1_1 : w1.cell? ⟨bN, oN + 1, none⟩ = some (.int .i64 (n1F f1)) := by
    have := hcN 1 (by simp) 0 (by omega)
    simpa [intE] using this
  have hj1' : (1 : Int) < (nN : Int) := by omega
  have hj0' : (0 : Int) < (nN : Int) := by omega
  clear hcN hSN
  generalize n0F f1 = n0 at *
  generalize n1F f1 = n1 at *
  have HNN := Lib.hid hnN
  clear hnN
  go_wp2_with fail
  refine (l07Own_c a ca xs t v _ HA1.out (by omega)).mono ?_
  rintro e w2 ⟨a2, c2, rfl, hf2, hb2⟩
  have hz2' := hb2.size
  have q2_0 : w2.cell? ⟨w.heap.size, 0, none⟩ = some (.int .i64 t) := by
    rw [hb2.cell (p := ⟨w.heap.size, 0, none⟩) (show w.heap.size < _ by (try simp) <;> (try omega))]
    first | assumption | (simp [go_sem, *])
  have q2_1 : w2.cell? ⟨w.heap.size, 1, none⟩ = some (.int .i64 v) := by
    rw [hb2.cell (p := ⟨w.heap.size, 1, none⟩) (show w.heap.size < _ by (try simp) <;> (try omega))]
    first | assumption | (simp [go_sem, *])
  have q2_2 : w2.cell? ⟨w.heap.size, 2, none⟩ = some (.slice a xs.length ca) := by
    rw [hb2.cell (p := ⟨w.heap.size, 2, none⟩) (show w.heap.size < _ by (try simp) <;> (try omega))]
    first | assumption | (simp [go_sem, *])
  have ql2 : w.heap.size < w2.heap.size := by omega
  have r2_0 : w2.cell? ⟨w.heap.size + 1, 0, none⟩ = some (.int .i64 0) := by
    rw [hb2.cell (p := ⟨w.heap.size + 1, 0, none⟩) (show w.heap.size + 1 < _ by (try simp) <;> (try omega))]
    first | assumption | (simp [go_sem, *])
  have r2_1 : w2.cell? ⟨w.heap.size + 1, 1, none⟩ = some (.int .i64 0) := by
    rw [hb2.cell (p := ⟨w.heap.size + 1, 1, none⟩) (show w.heap.size + 1 < _ by (try simp) <;> (try omega))]
    first | assumption | (simp [go_sem, *])
  have r2_2 : w2.cell? ⟨w.heap.size + 1, 2, none⟩ = some (.slice none 0 0) := by
    rw [hb2.cell (p := ⟨w.heap.size + 1, 2, none⟩) (show w.heap.size + 1 < _ by (try simp) <;> (try omega))]
    first | assumption | (simp [go_sem, *])
  have rf2 : ∀ o, w2.frozen? ⟨w.heap.size + 1, o, none⟩ = false := fun o => by
    rw [hb2.frozen (p := ⟨w.heap.size + 1, o, none⟩) (show w.heap.size + 1 < _ by (try simp) <;> (try omega))]
    first | exact rf1 o | (simp [go_sem]; done) | (rw [((Below.refl _ _).alloc (Nat.le_refl _) _ : Below _ _ _).frozen (p := ⟨w.heap.size + 1, o, none⟩) (show w.heap.size + 1 < _ by omega)]; exact rf1 o)
  have rl2 : w.heap.size + 1 < w2.heap.size := by omega
  have d2_0 : w2.cell? ⟨bF, oF, none⟩ = some (.string f0) := by
    rw [hb2.cell (p := ⟨bF, oF, none⟩) (by show bF < _; omega)]
    exact d1_0
  have D2 : Hid (∀ f2 r', rest = f2 :: r' → w2.cell? ⟨bF, oF + 2, none⟩ = some (.string f2)) := Lib.hid (fun f2 r' h => by
    rw [hb2.cell (p := ⟨bF, oF + 2, none⟩) (by show bF < _; omega)]
    exact D1.out f2 r' h)
  have g2_0 : w2.cell? ⟨bN, oN, none⟩ = some (.int .i64 n0) := by
    rw [hb2.cell (p := ⟨bN, oN, none⟩) (by show bN < _; omega)]
    exact g1_0
  have g2_1 : w2.cell? ⟨bN, oN + 1, none⟩ = some (.int .i64 n1) := by
    rw [hb2.cell (p := ⟨bN, oN + 1, none⟩) (by show bN < _; omega)]
    exact g1_1
  have HB2 : Hid (Below w.heap.size w w2) := HB1.out.trans (hb2.mono (by omega))
  have HL2 := Lib.hid hf2.here
  clear hb2 hf2 d1_0 D1 HB1 HA1 q1_0 q1_1 q1_2 r1_0 r1_1 r1_2 rf1 g1_0 g1_1
  go_upto_block 0 with fail
  generalize hw3 : w2.alloc (.cells #[.int .i64 t, .int .i64 v, .slice a2 xs.length c2] 60) = w3
  have hz3' : w2.heap.size < w3.heap.size := by rw [← hw3]; simp
  have HB3 : Hid (Below w.heap.size w w3) := by
    rw [← hw3]
    exact HB2.out.alloc (by omega) _
  have HL3 : Hid (FreshIn entE 76 2 w1.heap.size w2.heap.size (.slice a2 xs.length c2) xs w3) := by
    rw [← hw3]
    exact HL2.out.alloc _
  have s3_0 : w3.cell? ⟨w2.heap.size, 0, none⟩ = some (.int .i64 t) := by
    rw [← hw3]
    first | (simp [go_sem]; done) | (rw [World.cell?_alloc_lt _ _ _ (by show w2.heap.size < _; omega)]; assumption)
  have s3_1 : w3.cell? ⟨w2.heap.size, 1, none⟩ = some (.int .i64 v) := by
    rw [← hw3]
    first | (simp [go_sem]; done) | (rw [World.cell?_alloc_lt _ _ _ (by show w2.heap.size < _; omega)]; assumption)
  have s3_2 : w3.cell? ⟨w2.heap.size, 2, none⟩ = some (.slice a2 xs.length c2) := by
    rw [← hw3]
    first | (simp [go_sem]; done) | (rw [World.cell?_alloc_lt _ _ _ (by show w2.heap.size < _; omega)]; assumption)
  have q3_0 : w3.cell? ⟨w.heap.size, 0, none⟩ = some (.int .i64 t) := by
    rw [← hw3]
    first | (simp [go_sem]; done) | (rw [World.cell?_alloc_lt _ _ _ (by show w.heap.size < _; omega)]; assumption)
  have q3_1 : w3.cell? ⟨w.heap.size, 1, none⟩ = some (.int .i64 v) := by
    rw [← hw3]
    first | (simp [go_sem]; done) | (rw [World.cell?_alloc_lt _ _ _ (by show w.heap.size < _; omega)]; assumption)
  have q3_2 : w3.cell? ⟨w.heap.size, 2, none⟩ = some (.slice a xs.length ca) := by
    rw [← hw3]
    first | (simp [go_sem]; done) | (rw [World.cell?_alloc_lt _ _ _ (by show w.heap.size < _; omega)]; assumption)
  have r3_0 : w3.cell? ⟨w.heap.size + 1, 0, none⟩ = some (.int .i64 0) := by
    rw [← hw3]
    first | (simp [go_sem]; done) | (rw [World.cell?_alloc_lt _ _ _ (by show w.heap.size + 1 < _; omega)]; assumption)
  have r3_1 : w3.cell? ⟨w.heap.size + 1, 1, none⟩ = some (.int .i64 0) := by
    rw [← hw3]
    first | (simp [go_sem]; done) | (rw [World.cell?_alloc_lt _ _ _ (by show w.heap.size + 1 < _; omega)]; assumption)
  have r3_2 : w3.cell? ⟨w.heap.size + 1, 2, none⟩ = some (.slice none 0 0) := by
    rw [← hw3]
    first | (simp [go_sem]; done) | (rw [World.cell?_alloc_lt _ _ _ (by show w.heap.size + 1 < _; omega)]; assumption)
  have d3_0 : w3.cell? ⟨bF, oF, none⟩ = some (.string f0) := by
    rw [← hw3]
    first | (simp [go_sem]; done) | (rw [World.cell?_alloc_lt _ _ _ (by show bF < _; omega)]; assumption)
  have g3_0 : w3.cell? ⟨bN, oN, none⟩ = some (.int .i64 n0) := by
    rw [← hw3]
    first | (simp [go_sem]; done) | (rw [World.cell?_alloc_lt _ _ _ (by show bN < _; omega)]; assumption)
  have g3_1 : w3.cell? ⟨bN, oN + 1, none⟩ = some (.int .i64 n1) := by
    rw [← hw3]
    first | (simp [go_sem]; done) | (rw [World.cell?_alloc_lt _ _ _ (by show bN < _; omega)]; assumption)
  have sf3 : ∀ o, w3.frozen? ⟨w2.heap.size, o, none⟩ = false := fun o => by
    rw [← hw3]
    simp [go_sem]
  have rf3 : ∀ o, w3.frozen? ⟨w.heap.size + 1, o, none⟩ = false := fun o => by
    rw [← hw3, ((Below.refl w2.heap.size w2).alloc (Nat.le_refl _) _ : Below _ _ _).frozen (p := ⟨w.heap.size + 1, o, none⟩) (by show w.heap.size + 1 < _; omega)]
    exact rf2 o
  have D3 : Hid (∀ f2 r', rest = f2 :: r' → w3.cell? ⟨bF, oF + 2, none⟩ = some (.string f2)) := Lib.hid (fun f2 r' h => by
    rw [← hw3, World.cell?_alloc_lt _ _ _ (by show bF < _; omega)]
    exact D2.out f2 r' h)
  have ql3 : w.heap.size < w3.heap.size := by omega
  have rl3 : w.heap.size + 1 < w3.heap.size := by omega
  have sl3 : w2.heap.size < w3.heap.size := hz3'
  have hbF2 : bF < w2.heap.size := by omega
  have hbF3 : bF < w3.heap.size := by omega
  clear hw3 d2_0 D2 HB2 HL2 q2_0 q2_1 q2_2 r2_0 r2_1 r2_2 rf2 g2_0 g2_1
  have hbN2 : bN < w2.heap.size := by omega
  have hbN3 : bN < w3.heap.size := by omega
  have e2a : (f0.toList == [116]) = true := str1_is HT.out
  have e2c : (f0.toList == [99]) = false := str1_other HT.out (by decide)
  have e3c : (f0.toList == [101]) = false := str1_other HT.out (by decide)
  have h1 := HNF.out
  have e1 : decide ((nF : Int) = 2) = true := by simp; omega
  have e1b : decide (nF = 2) = true := by simp; omega
  have e1c : ((nF : Int) == 2) = true := by simp; omega
  clear h1
  have h1 := HNN.out
  have y2 : decide ((nN : Int) = 2) = true := by simp; omega
  have y2b : decide (nN = 2) = true := by simp; omega
  have y2c : ((nN : Int) == 2) = true := by simp; omega
  clear h1
  have e9 : decide (n0 < t) = false := by simp; omega
  have e9b : ¬ n0 < t := by omega
  have hne1 : ¬ w2.heap.size = w.heap.size + 1 := by omega
  have hne2 : ¬ w.heap.size + 1 = w2.heap.size := by omega
  go_cut [5] (fun s wx => s = .bool false ∧ wx.cell? ⟨w2.heap.size, 0, none⟩ = some (.int .i64 n0) ∧ wx.cell? ⟨w2.heap.size, 1, none⟩ = some (.int .i64 n1) ∧ wx.cell? ⟨w2.heap.size, 2, none⟩ = some (.slice a2 xs.length c2) ∧ wx.cell? ⟨w.heap.size + 1, 0, none⟩ = some (.int .i64 0) ∧ wx.cell? ⟨w.heap.size + 1, 1, none⟩ = some (.int .i64 0) ∧ wx.cell? ⟨w.heap.size + 1, 2, none⟩ = some (.slice none 0 0) ∧ (∀ o, wx.frozen? ⟨w.heap.size + 1, o, none⟩ = false) ∧ FreshIn entE 76 2 w1.heap.size w2.heap.size (.slice a2 xs.length c2) (xs) wx ∧ Below w.heap.size w wx ∧ w2.heap.size < wx.heap.size)
  case first =>
    go_wp2_with fail
    go_quiet (fail)
    go_wp2_with fail
    go_meet
    refine ⟨rfl, ?_, ?_, ?_, ?_, ?_, ?_, ?_, ?_, ?_, ?_⟩
    · simp [go_sem, *]
    · simp [go_sem, *]
    · simp [go_sem, *]
    · simp [go_sem, *]
    · simp [go_sem, *]
    · simp [go_sem, *]
    · intro o
      simp [go_sem, *]
    · repeat (first | exact HL3.out | (refine FreshIn.setHi ?_ (Nat.le_refl _) _) | (refine FreshIn.drew ?_) | (refine FreshIn.below ?_ (below_drewN _ _ _)))
    · repeat (first | exact HB3.out | (refine Below.trans ?_ (below_drewN _ _ _)) | (refine Below.setCell ?_ (by show w.heap.size ≤ w2.heap.size; omega) _) | (refine Below.drew ?_))
    · simp; omega
  case rest =>
    have hlL : xs.length ≤ 1048576 := by omega
    have HSL : Hid (∀ s ∈ xs, s.2.size ≤ 1048576) := Lib.hid fun s hs => by have := HS.out s hs; omega
    obtain ⟨rfl, s4_0, s4_1, s4_2, r4_0, r4_1, r4_2, rf4, hfL, hbw, hsw⟩ := hcut
    obtain ⟨w4, hw4⟩ : ∃ x, x = wc := ⟨_, rfl⟩
    subst hw4
    have HLL := Lib.hid hfL
    have HBW := Lib.hid hbw
    clear hfL hbw
    go_wp2_with fail
    go_region_held3 (fun w' => w'.cell? ⟨w2.heap.size, 0, none⟩ = some (.int .i64 n0) ∧ w'.cell? ⟨w2.heap.size, 1, none⟩ = some (.int .i64 n1) ∧ w'.cell? ⟨w2.heap.size, 2, none⟩ = some (.slice a2 xs.length c2))
      (first | ((repeat' apply And.intro) <;> (simp [go_sem, *]; done)) | go_keep)
      (first
        | (go_at_call 64
           refine (specStateOK_c a2 c2 xs n0 n1 _ (HLL.out.drew.sl fun _ => rfl) hlL HSL.out).mono ?_
           rintro e w9 ⟨rfl, hb9⟩
           have hz9 := hb9.size
           try simp at hz9
           have s9_0 : w9.cell? ⟨w2.heap.size, 0, none⟩ = some (.int .i64 n0) := by
             rw [hb9.cell (p := ⟨w2.heap.size, 0, none⟩) (show w2.heap.size < _ by (try simp) <;> (try omega))]
             first | assumption | (simp [go_sem, *])
           have s9_1 : w9.cell? ⟨w2.heap.size, 1, none⟩ = some (.int .i64 n1) := by
             rw [hb9.cell (p := ⟨w2.heap.size, 1, none⟩) (show w2.heap.size < _ by (try simp) <;> (try omega))]
             first | assumption | (simp [go_sem, *])
           have s9_2 : w9.cell? ⟨w2.heap.size, 2, none⟩ = some (.slice a2 xs.length c2) := by
             rw [hb9.cell (p := ⟨w2.heap.size, 2, none⟩) (show w2.heap.size < _ by (try simp) <;> (try omega))]
             first | assumption | (simp [go_sem, *])
           have rf9 : ∀ o, w9.frozen? ⟨w.heap.size + 1, o, none⟩ = false := fun o => by
             rw [hb9.frozen (p := ⟨w.heap.size + 1, o, none⟩) (show w.heap.size + 1 < _ by (try simp) <;> (try omega))]
             first | exact rf4 o | (simp [go_sem, rf4])
           have r9_0 : w9.cell? ⟨w.heap.size + 1, 0, none⟩ = some (.int .i64 0) := by
             rw [hb9.cell (p := ⟨w.heap.size + 1, 0, none⟩) (show w.heap.size + 1 < _ by (try simp) <;> (try omega))]
             exact r4_0
           have r9_1 : w9.cell? ⟨w.heap.size + 1, 1, none⟩ = some (.int .i64 0) := by
             rw [hb9.cell (p := ⟨w.heap.size + 1, 1, none⟩) (show w.heap.size + 1 < _ by (try simp) <;> (try omega))]
             exact r4_1
           have r9_2 : w9.cell? ⟨w.heap.size + 1, 2, none⟩ = some (.slice none 0 0) := by
             rw [hb9.cell (p := ⟨w.heap.size + 1, 2, none⟩) (show w.heap.size + 1 < _ by (try simp) <;> (try omega))]
             exact r4_2
           have HL9 := Lib.hid (HLL.out.drew.below hb9)
           have HB9 : Hid (Below w.heap.size w w9) := HBW.out.drew.trans (hb9.mono (by (try simp) <;> (try omega)))))
    all_goals
      go_wp2_with fail
      refine bodyPost_ret (v := .tuple #[.agg #[.int .i64 n0, .int .i64 n1, .slice a2 xs.length c2], .bool (stOK n0 n1 xs)]) (by simp [results, Try.results66, go_sem, s9_0, s9_1, s9_2, r9_0, r9_1, r9_2, rf9]) rfl ?_
      refine ⟨n0, n1, _, _, xs, by rw [chkS_isSome], fun x hx => ⟨chkS_some hx, ?_⟩, ?_⟩
      · exact (((HL9.out.setCell (by show _ < _; omega) _).setCell (by show _ < _; omega) _).setCell (by show _ < _; omega) _).1.mono (by omega)
      · exact (((HB9.out.setCell (by (try simp) <;> (try omega)) _).setCell (by (try simp) <;> (try omega)) _).setCell (by (try simp) <;> (try omega)) _)
end
section
open Go.RowKit
set_option maxRecDepth 100000 in
set_option maxHeartbeats 16000000 in
theorem specApp_Cok (a : Option Addr) (ca : Nat) (xs : List Ent) (t v : Int) (l0 : List UInt8) (w : World) (ha : Sl entE 2 w a xs) (lx : xs.length ≤ 60) (hs : ∀ e ∈ xs, e.2.size ≤ 65536) (h0 : l0.length ≤ 65536) (f0 f1 : ByteArray) (rest : List ByteArray) (ho : rdAll l0 = some (f0 :: f1 :: rest)) (hc : f0 = str1 99) (hsz : f1.size = 3 * 1) (hr : rest.length = 0) (k : Nat) (hk : n0F f1 = (k : Int)) (hkl : k < xs.length) :
    Calls Try.prog 66 #[.agg #[.int .i64 t, .int .i64 v, .slice a xs.length ca], .string (strOf l0)] w (AppR (chkS t v (xs.take k)) w) := by
  obtain ⟨i0, hi, hz0, hz1, hz2⟩ := info_parts Try.infoEntry
  have HS := Lib.hid hs
  have HO := Lib.hid ho
  have HFZ := Lib.hid (rdAll_size l0 _ ho)
  have hF1 := HFZ.out f1 (by simp)
  have HF2 : Hid (∀ s ∈ rest, s.size ≤ l0.length) := Lib.hid fun s (hs : s ∈ rest) => HFZ.out s (by simp [hs])
  clear hs ho HFZ
  have HC := Lib.hid hc
  clear hc
  go_enter Try.func66, Try.ntmps66
  go_wp2_with fail
  refine (l02Read_c l0 _ (by omega)).mono ?_
  rw [HO.out]
  rintro e w0 ⟨aF, cF, F, rfl, hfF, hF, hb0⟩
  have hF' := hF _ rfl
  have hSF : Sl strE 1 w0 aF F := hfF.sl (fun _ => rfl)
  rw [hF'] at hSF
  have hnF : F.length = rest.length + 2 := by rw [hF']; rfl
  clear hfF hF hF'
  generalize F.length = nF at *
  obtain ⟨bF, oF, rfl, hbF, hcF⟩ := hSF.at (i := 0) (by simp)
  have d0_0 : w0.cell? ⟨bF, oF, none⟩ = some (.string f0) := by
    have := hcF 0 (by simp) 0 (by omega)
    simpa [strE] using this
  have d0_1 : w0.cell? ⟨bF, oF + 1, none⟩ = some (.string f1) := by
    have := hcF 1 (by simp) 0 (by omega)
    simpa [strE] using this
  have D0 : Hid (∀ f2 r', rest = f2 :: r' → w0.cell? ⟨bF, oF + 2, none⟩ = some (.string f2)) := Lib.hid fun f2 r' h => by
    subst h
    have := hcF 2 (by simp) 0 (by omega)
    simpa [strE] using this
  clear hcF hSF
  have hz0' := hb0.size
  simp only [World.size_alloc] at hz0'
  have HB0 : Hid (Below w.heap.size w w0) := (((Below.refl w.heap.size w).alloc (Nat.le_refl _) _).alloc (by simp) _).trans (hb0.mono (by simp; omega))
  have HA0 := Lib.hid (ha.keep HB0.out)
  have q0_0 : w0.cell? ⟨w.heap.size, 0, none⟩ = some (.int .i64 t) := by
    rw [hb0.cell (p := ⟨w.heap.size, 0, none⟩) (show w.heap.size < _ by (try simp) <;> (try omega))]
    first | assumption | (simp [go_sem, *])
  have q0_1 : w0.cell? ⟨w.heap.size, 1, none⟩ = some (.int .i64 v) := by
    rw [hb0.cell (p := ⟨w.heap.size, 1, none⟩) (show w.heap.size < _ by (try simp) <;> (try omega))]
    first | assumption | (simp [go_sem, *])
  have q0_2 : w0.cell? ⟨w.heap.size, 2, none⟩ = some (.slice a xs.length ca) := by
    rw [hb0.cell (p := ⟨w.heap.size, 2, none⟩) (show w.heap.size < _ by (try simp) <;> (try omega))]
    first | assumption | (simp [go_sem, *])
  have ql0 : w.heap.size < w0.heap.size := by omega
  have r0_0 : w0.cell? ⟨w.heap.size + 1, 0, none⟩ = some (.int .i64 0) := by
    rw [hb0.cell (p := ⟨w.heap.size + 1, 0, none⟩) (show w.heap.size + 1 < _ by (try simp) <;> (try omega))]
    first | assumption | (simp [go_sem, *])
  have r0_1 : w0.cell? ⟨w.heap.size + 1, 1, none⟩ = some (.int .i64 0) := by
    rw [hb0.cell (p := ⟨w.heap.size + 1, 1, none⟩) (show w.heap.size + 1 < _ by (try simp) <;> (try omega))]
    first | assumption | (simp [go_sem, *])
  have r0_2 : w0.cell? ⟨w.heap.size + 1, 2, none⟩ = some (.slice none 0 0) := by
    rw [hb0.cell (p := ⟨w.heap.size + 1, 2, none⟩) (show w.heap.size + 1 < _ by (try simp) <;> (try omega))]
    first | assumption | (simp [go_sem, *])
  have rf0 : ∀ o, w0.frozen? ⟨w.heap.size + 1, o, none⟩ = false := fun o => by
    rw [hb0.frozen (p := ⟨w.heap.size + 1, o, none⟩) (show w.heap.size + 1 < _ by (try simp) <;> (try omega))]
    simp [go_sem]
  have rl0 : w.heap.size + 1 < w0.heap.size := by omega
  clear hb0
  have hlt : decide ((nF : Int) < 2) = false := by simp; omega
  have hlt2 : ¬ ((nF : Int) < 2) := by omega
  have hi0' : (0 : Int) < (nF : Int) := by omega
  have hi1' : (1 : Int) < (nF : Int) := by omega
  have HNF := Lib.hid hnF
  clear hnF
  go_wp2_with fail
  refine (nums_c f1 _ 1 hsz (by omega)).mono ?_
  rintro e w1 ⟨aN, cN, N, rfl, hfN, hN, hb1⟩
  have hz1' := hb1.size
  have HB1 : Hid (Below w.heap.size w w1) := HB0.out.trans (hb1.mono (by omega))
  have HA1 := Lib.hid (HA0.out.keep hb1)
  have hN' := hN _ rfl
  have q1_0 : w1.cell? ⟨w.heap.size, 0, none⟩ = some (.int .i64 t) := by
    rw [hb1.cell (p := ⟨w.heap.size, 0, none⟩) (show w.heap.size < _ by (try simp) <;> (try omega))]
    first | assumption | (simp [go_sem, *])
  have q1_1 : w1.cell? ⟨w.heap.size, 1, none⟩ = some (.int .i64 v) := by
    rw [hb1.cell (p := ⟨w.heap.size, 1, none⟩) (show w.heap.size < _ by (try simp) <;> (try omega))]
    first | assumption | (simp [go_sem, *])
  have q1_2 : w1.cell? ⟨w.heap.size, 2, none⟩ = some (.slice a xs.length ca) := by
    rw [hb1.cell (p := ⟨w.heap.size, 2, none⟩) (show w.heap.size < _ by (try simp) <;> (try omega))]
    first | assumption | (simp [go_sem, *])
  have ql1 : w.heap.size < w1.heap.size := by omega
  have r1_0 : w1.cell? ⟨w.heap.size + 1, 0, none⟩ = some (.int .i64 0) := by
    rw [hb1.cell (p := ⟨w.heap.size + 1, 0, none⟩) (show w.heap.size + 1 < _ by (try simp) <;> (try omega))]
    first | assumption | (simp [go_sem, *])
  have r1_1 : w1.cell? ⟨w.heap.size + 1, 1, none⟩ = some (.int .i64 0) := by
    rw [hb1.cell (p := ⟨w.heap.size + 1, 1, none⟩) (show w.heap.size + 1 < _ by (try simp) <;> (try omega))]
    first | assumption | (simp [go_sem, *])
  have r1_2 : w1.cell? ⟨w.heap.size + 1, 2, none⟩ = some (.slice none 0 0) := by
    rw [hb1.cell (p := ⟨w.heap.size + 1, 2, none⟩) (show w.heap.size + 1 < _ by (try simp) <;> (try omega))]
    first | assumption | (simp [go_sem, *])
  have rf1 : ∀ o, w1.frozen? ⟨w.heap.size + 1, o, none⟩ = false := fun o => by
    rw [hb1.frozen (p := ⟨w.heap.size + 1, o, none⟩) (show w.heap.size + 1 < _ by (try simp) <;> (try omega))]
    first | exact rf0 o | (simp [go_sem]; done) | (rw [((Below.refl _ _).alloc (Nat.le_refl _) _ : Below _ _ _).frozen (p := ⟨w.heap.size + 1, o, none⟩) (show w.heap.size + 1 < _ by omega)]; exact rf0 o)
  have rl1 : w.heap.size + 1 < w1.heap.size := by omega
  have d1_0 : w1.cell? ⟨bF, oF, none⟩ = some (.string f0) := by
    rw [hb1.cell (p := ⟨bF, oF, none⟩) (by show bF < _; omega)]
    exact d0_0
  have D1 : Hid (∀ f2 r', rest = f2 :: r' → w1.cell? ⟨bF, oF + 2, none⟩ = some (.string f2)) := Lib.hid (fun f2 r' h => by
    rw [hb1.cell (p := ⟨bF, oF + 2, none⟩) (by show bF < _; omega)]
    exact D0.out f2 r' h)
  have hbF1 : bF < w1.heap.size := by omega
  clear hb1 d0_0 d0_1 D0 HB0 HA0 q0_0 q0_1 q0_2 r0_0 r0_1 r0_2 rf0
  have hnN : N.length = 1 := by rw [hN']; exact rnF_length _ _
  have hSN : Sl intE 1 w1 aN N := hfN.sl (fun _ => rfl)
  rw [hN', rn1] at hSN
  clear hfN hN hN'
  generalize N.length = nN at *
  obtain ⟨bN, oN, rfl, hbN, hcN⟩ := hSN.at (i := 0) (by simp)
  have g1_0 : w1.cell? ⟨bN, oN, none⟩ = some (.int .i64 (n0F f1)) := by
    have := hcN 0 (by simp) 0 (by omega)
    simpa [intE] using this
  have hj0' : (0 : Int) < (nN : Int) := by omega
  clear hcN hSN
  generalize n0F f1 = n0 at *
  generalize n1F f1 = n1 at *
  have HNN := Lib.hid hnN
  clear hnN
  go_wp2_with fail
  refine (l07Own_c a ca xs t v _ HA1.out (by omega)).mono ?_
  rintro e w2 ⟨a2, c2, rfl, hf2, hb2⟩
  have hz2' := hb2.size
  have q2_0 : w2.cell? ⟨w.heap.size, 0, none⟩ = some (.int .i64 t) := by
    rw [hb2.cell (p := ⟨w.heap.size, 0, none⟩) (show w.heap.size < _ by (try simp) <;> (try omega))]
    first | assumption | (simp [go_sem, *])
  have q2_1 : w2.cell? ⟨w.heap.size, 1, none⟩ = some (.int .i64 v) := by
    rw [hb2.cell (p := ⟨w.heap.size, 1, none⟩) (show w.heap.size < _ by (try simp) <;> (try omega))]
    first | assumption | (simp [go_sem, *])
  have q2_2 : w2.cell? ⟨w.heap.size, 2, none⟩ = some (.slice a xs.length ca) := by
    rw [hb2.cell (p := ⟨w.heap.size, 2, none⟩) (show w.heap.size < _ by (try simp) <;> (try omega))]
    first | assumption | (simp [go_sem, *])
  have ql2 : w.heap.size < w2.heap.size := by omega
  have r2_0 : w2.cell? ⟨w.heap.size + 1, 0, none⟩ = some (.int .i64 0) := by
    rw [hb2.cell (p := ⟨w.heap.size + 1, 0, none⟩) (show w.heap.size + 1 < _ by (try simp) <;> (try omega))]
    first | assumption | (simp [go_sem, *])
  have r2_1 : w2.cell? ⟨w.heap.size + 1, 1, none⟩ = some (.int .i64 0) := by
    rw [hb2.cell (p := ⟨w.heap.size + 1, 1, none⟩) (show w.heap.size + 1 < _ by (try simp) <;> (try omega))]
    first | assumption | (simp [go_sem, *])
  have r2_2 : w2.cell? ⟨w.heap.size + 1, 2, none⟩ = some (.slice none 0 0) := by
    rw [hb2.cell (p := ⟨w.heap.size + 1, 2, none⟩) (show w.heap.size + 1 < _ by (try simp) <;> (try omega))]
    first | assumption | (simp [go_sem, *])
  have rf2 : ∀ o, w2.frozen? ⟨w.heap.size + 1, o, none⟩ = false := fun o => by
    rw [hb2.frozen (p := ⟨w.heap.size + 1, o, none⟩) (show w.heap.size + 1 < _ by (try simp) <;> (try omega))]
    first | exact rf1 o | (simp [go_sem]; done) | (rw [((Below.refl _ _).alloc (Nat.le_refl _) _ : Below _ _ _).frozen (p := ⟨w.heap.size + 1, o, none⟩) (show w.heap.size + 1 < _ by omega)]; exact rf1 o)
  have rl2 : w.heap.size + 1 < w2.heap.size := by omega
  have d2_0 : w2.cell? ⟨bF, oF, none⟩ = some (.string f0) := by
    rw [hb2.cell (p := ⟨bF, oF, none⟩) (by show bF < _; omega)]
    exact d1_0
  have D2 : Hid (∀ f2 r', rest = f2 :: r' → w2.cell? ⟨bF, oF + 2, none⟩ = some (.string f2)) := Lib.hid (fun f2 r' h => by
    rw [hb2.cell (p := ⟨bF, oF + 2, none⟩) (by show bF < _; omega)]
    exact D1.out f2 r' h)
  have g2_0 : w2.cell? ⟨bN, oN, none⟩ = some (.int .i64 n0) := by
    rw [hb2.cell (p := ⟨bN, oN, none⟩) (by show bN < _; omega)]
    exact g1_0
  have HB2 : Hid (Below w.heap.size w w2) := HB1.out.trans (hb2.mono (by omega))
  have HL2 := Lib.hid hf2.here
  clear hb2 hf2 d1_0 D1 HB1 HA1 q1_0 q1_1 q1_2 r1_0 r1_1 r1_2 rf1 g1_0
  go_upto_block 0 with fail
  generalize hw3 : w2.alloc (.cells #[.int .i64 t, .int .i64 v, .slice a2 xs.length c2] 60) = w3
  have hz3' : w2.heap.size < w3.heap.size := by rw [← hw3]; simp
  have HB3 : Hid (Below w.heap.size w w3) := by
    rw [← hw3]
    exact HB2.out.alloc (by omega) _
  have HL3 : Hid (FreshIn entE 76 2 w1.heap.size w2.heap.size (.slice a2 xs.length c2) xs w3) := by
    rw [← hw3]
    exact HL2.out.alloc _
  have s3_0 : w3.cell? ⟨w2.heap.size, 0, none⟩ = some (.int .i64 t) := by
    rw [← hw3]
    first | (simp [go_sem]; done) | (rw [World.cell?_alloc_lt _ _ _ (by show w2.heap.size < _; omega)]; assumption)
  have s3_1 : w3.cell? ⟨w2.heap.size, 1, none⟩ = some (.int .i64 v) := by
    rw [← hw3]
    first | (simp [go_sem]; done) | (rw [World.cell?_alloc_lt _ _ _ (by show w2.heap.size < _; omega)]; assumption)
  have s3_2 : w3.cell? ⟨w2.heap.size, 2, none⟩ = some (.slice a2 xs.length c2) := by
    rw [← hw3]
    first | (simp [go_sem]; done) | (rw [World.cell?_alloc_lt _ _ _ (by show w2.heap.size < _; omega)]; assumption)
  have q3_0 : w3.cell? ⟨w.heap.size, 0, none⟩ = some (.int .i64 t) := by
    rw [← hw3]
    first | (simp [go_sem]; done) | (rw [World.cell?_alloc_lt _ _ _ (by show w.heap.size < _; omega)]; assumption)
  have q3_1 : w3.cell? ⟨w.heap.size, 1, none⟩ = some (.int .i64 v) := by
    rw [← hw3]
    first | (simp [go_sem]; done) | (rw [World.cell?_alloc_lt _ _ _ (by show w.heap.size < _; omega)]; assumption)
  have q3_2 : w3.cell? ⟨w.heap.size, 2, none⟩ = some (.slice a xs.length ca) := by
    rw [← hw3]
    first | (simp [go_sem]; done) | (rw [World.cell?_alloc_lt _ _ _ (by show w.heap.size < _; omega)]; assumption)
  have r3_0 : w3.cell? ⟨w.heap.size + 1, 0, none⟩ = some (.int .i64 0) := by
    rw [← hw3]
    first | (simp [go_sem]; done) | (rw [World.cell?_alloc_lt _ _ _ (by show w.heap.size + 1 < _; omega)]; assumption)
  have r3_1 : w3.cell? ⟨w.heap.size + 1, 1, none⟩ = some (.int .i64 0) := by
    rw [← hw3]
    first | (simp [go_sem]; done) | (rw [World.cell?_alloc_lt _ _ _ (by show w.heap.size + 1 < _; omega)]; assumption)
  have r3_2 : w3.cell? ⟨w.heap.size + 1, 2, none⟩ = some (.slice none 0 0) := by
    rw [← hw3]
    first | (simp [go_sem]; done) | (rw [World.cell?_alloc_lt _ _ _ (by show w.heap.size + 1 < _; omega)]; assumption)
  have d3_0 : w3.cell? ⟨bF, oF, none⟩ = some (.string f0) := by
    rw [← hw3]
    first | (simp [go_sem]; done) | (rw [World.cell?_alloc_lt _ _ _ (by show bF < _; omega)]; assumption)
  have g3_0 : w3.cell? ⟨bN, oN, none⟩ = some (.int .i64 n0) := by
    rw [← hw3]
    first | (simp [go_sem]; done) | (rw [World.cell?_alloc_lt _ _ _ (by show bN < _; omega)]; assumption)
  have sf3 : ∀ o, w3.frozen? ⟨w2.heap.size, o, none⟩ = false := fun o => by
    rw [← hw3]
    simp [go_sem]
  have rf3 : ∀ o, w3.frozen? ⟨w.heap.size + 1, o, none⟩ = false := fun o => by
    rw [← hw3, ((Below.refl w2.heap.size w2).alloc (Nat.le_refl _) _ : Below _ _ _).frozen (p := ⟨w.heap.size + 1, o, none⟩) (by show w.heap.size + 1 < _; omega)]
    exact rf2 o
  have D3 : Hid (∀ f2 r', rest = f2 :: r' → w3.cell? ⟨bF, oF + 2, none⟩ = some (.string f2)) := Lib.hid (fun f2 r' h => by
    rw [← hw3, World.cell?_alloc_lt _ _ _ (by show bF < _; omega)]
    exact D2.out f2 r' h)
  have ql3 : w.heap.size < w3.heap.size := by omega
  have rl3 : w.heap.size + 1 < w3.heap.size := by omega
  have sl3 : w2.heap.size < w3.heap.size := hz3'
  have hbF2 : bF < w2.heap.size := by omega
  have hbF3 : bF < w3.heap.size := by omega
  clear hw3 d2_0 D2 HB2 HL2 q2_0 q2_1 q2_2 r2_0 r2_1 r2_2 rf2 g2_0
  have hbN2 : bN < w2.heap.size := by omega
  have hbN3 : bN < w3.heap.size := by omega
  subst hk
  have e2a : (f0.toList == [116]) = false := str1_other HC.out (by decide)
  have e2c : (f0.toList == [99]) = true := str1_is HC.out
  have e3c : (f0.toList == [101]) = false := str1_other HC.out (by decide)
  have h1 := HNF.out
  have e1 : decide ((nF : Int) = 2) = true := by simp; omega
  have e1b : decide (nF = 2) = true := by simp; omega
  have e1c : ((nF : Int) == 2) = true := by simp; omega
  clear h1
  have h1 := HNN.out
  have y1 : decide ((nN : Int) = 1) = true := by simp; omega
  have y1b : decide (nN = 1) = true := by simp; omega
  have y1c : ((nN : Int) == 1) = true := by simp; omega
  clear h1
  have hwr1 : wrap64 ((xs.length : Int) - 1) = (xs.length : Int) - 1 := IntWalk.wrap64_in _ ⟨by omega, by omega⟩
  have hwr2 : IntKind.i64.wrap ((xs.length : Int) - 1) = (xs.length : Int) - 1 := IntWalk.i64_in _ ⟨by omega, by omega⟩
  have hk0 : 0 < nF := by omega
  have hm0 : 0 < nN := by omega
  have hcap : xs.length ≤ c2 := HL3.out.fits
  obtain ⟨gL, rfl, _, hgL, _, _⟩ := HL3.out.block (by omega)
  have hi' : inB (k : Int) 0 ((xs.length : Int) - 1) = true := by simp [inB]; omega
  have hkc : k ≤ c2 := by omega
  have hkc' : (k : Int) ≤ (c2 : Int) := by omega
  have hkn : (0 : Int) ≤ (k : Int) := by omega
  obtain ⟨L, hL⟩ : ∃ L, L = xs.take k := ⟨_, rfl⟩
  have hLl : L.length = k := by rw [hL]; simp; omega
  have HLT := Lib.hid hL
  clear hL
  rw [← HLT.out]
  have hne1 : ¬ w2.heap.size = w.heap.size + 1 := by omega
  have hne2 : ¬ w.heap.size + 1 = w2.heap.size := by omega
  have HLL2 : Hid (L.length = k) := hLl
  have HLk : Hid (FreshIn entE 76 2 w1.heap.size w2.heap.size (.slice (some ⟨gL, 0, none⟩) L.length c2) L w3) := by
    show FreshIn _ _ _ _ _ _ _ _
    rw [HLL2.out, HLT.out]
    exact FreshIn.take (enc := entE) (sz := 2) (xs := xs) (fun _ => rfl) HL3.out k (by omega)
  have hkL : k = L.length := hLl.symm
  have hi2 : inB (L.length : Int) 0 ((xs.length : Int) - 1) = true := by rw [hLl]; exact hi'
  have hlc : L.length ≤ c2 := by omega
  have hlc' : (L.length : Int) ≤ (c2 : Int) := by omega
  have hln : (0 : Int) ≤ (L.length : Int) := by omega
  clear hLl
  go_cut [5] (fun s wx => s = .bool false ∧ wx.cell? ⟨w2.heap.size, 0, none⟩ = some (.int .i64 t) ∧ wx.cell? ⟨w2.heap.size, 1, none⟩ = some (.int .i64 v) ∧ wx.cell? ⟨w2.heap.size, 2, none⟩ = some (.slice (some ⟨gL, 0, none⟩) L.length c2) ∧ wx.cell? ⟨w.heap.size + 1, 0, none⟩ = some (.int .i64 0) ∧ wx.cell? ⟨w.heap.size + 1, 1, none⟩ = some (.int .i64 0) ∧ wx.cell? ⟨w.heap.size + 1, 2, none⟩ = some (.slice none 0 0) ∧ (∀ o, wx.frozen? ⟨w.heap.size + 1, o, none⟩ = false) ∧ FreshIn entE 76 2 w1.heap.size w2.heap.size (.slice (some ⟨gL, 0, none⟩) L.length c2) (L) wx ∧ Below w.heap.size w wx ∧ w2.heap.size < wx.heap.size)
  case first =>
    go_wp2_with fail
    go_quiet ((go_at_call 63; exact (l01In_c _ _ _ _).mono fun _ _ h => ⟨h.1, _, h.2.symm⟩))
    go_wp2_with fail
    go_region
    all_goals
      go_wp2_with fail
      go_meet
      refine ⟨rfl, ?_, ?_, ?_, ?_, ?_, ?_, ?_, ?_, ?_, ?_⟩
      · simp [go_sem, *]
      · simp [go_sem, *]
      · simp [go_sem, *]
      · simp [go_sem, *]
      · simp [go_sem, *]
      · simp [go_sem, *]
      · intro o
        simp [go_sem, *]
      · repeat (first | exact HLk.out | (refine FreshIn.setHi ?_ (Nat.le_refl _) _) | (refine FreshIn.drew ?_) | (refine FreshIn.below ?_ (below_drewN _ _ _)))
      · repeat (first | exact HB3.out | (refine Below.trans ?_ (below_drewN _ _ _)) | (refine Below.setCell ?_ (by show w.heap.size ≤ w2.heap.size; omega) _) | (refine Below.drew ?_))
      · simp; omega
  case rest =>
    have hlL : L.length ≤ 1048576 := by omega
    have HSL : Hid (∀ s ∈ L, s.2.size ≤ 1048576) := Lib.hid fun s hs => by
      have := HS.out s (List.mem_of_mem_take (HLT.out ▸ hs))
      omega
    obtain ⟨rfl, s4_0, s4_1, s4_2, r4_0, r4_1, r4_2, rf4, hfL, hbw, hsw⟩ := hcut
    obtain ⟨w4, hw4⟩ : ∃ x, x = wc := ⟨_, rfl⟩
    subst hw4
    have HLL := Lib.hid hfL
    have HBW := Lib.hid hbw
    clear hfL hbw
    go_wp2_with fail
    go_region_held3 (fun w' => w'.cell? ⟨w2.heap.size, 0, none⟩ = some (.int .i64 t) ∧ w'.cell? ⟨w2.heap.size, 1, none⟩ = some (.int .i64 v) ∧ w'.cell? ⟨w2.heap.size, 2, none⟩ = some (.slice (some ⟨gL, 0, none⟩) L.length c2))
      (first | ((repeat' apply And.intro) <;> (simp [go_sem, *]; done)) | go_keep)
      (first
        | (go_at_call 64
           refine (specStateOK_c (some ⟨gL, 0, none⟩) c2 L t v _ (HLL.out.drew.sl fun _ => rfl) hlL HSL.out).mono ?_
           rintro e w9 ⟨rfl, hb9⟩
           have hz9 := hb9.size
           try simp at hz9
           have s9_0 : w9.cell? ⟨w2.heap.size, 0, none⟩ = some (.int .i64 t) := by
             rw [hb9.cell (p := ⟨w2.heap.size, 0, none⟩) (show w2.heap.size < _ by (try simp) <;> (try omega))]
             first | assumption | (simp [go_sem, *])
           have s9_1 : w9.cell? ⟨w2.heap.size, 1, none⟩ = some (.int .i64 v) := by
             rw [hb9.cell (p := ⟨w2.heap.size, 1, none⟩) (show w2.heap.size < _ by (try simp) <;> (try omega))]
             first | assumption | (simp [go_sem, *])
           have s9_2 : w9.cell? ⟨w2.heap.size, 2, none⟩ = some (.slice (some ⟨gL, 0, none⟩) L.length c2) := by
             rw [hb9.cell (p := ⟨w2.heap.size, 2, none⟩) (show w2.heap.size < _ by (try simp) <;> (try omega))]
             first | assumption | (simp [go_sem, *])
           have rf9 : ∀ o, w9.frozen? ⟨w.heap.size + 1, o, none⟩ = false := fun o => by
             rw [hb9.frozen (p := ⟨w.heap.size + 1, o, none⟩) (show w.heap.size + 1 < _ by (try simp) <;> (try omega))]
             first | exact rf4 o | (simp [go_sem, rf4])
           have r9_0 : w9.cell? ⟨w.heap.size + 1, 0, none⟩ = some (.int .i64 0) := by
             rw [hb9.cell (p := ⟨w.heap.size + 1, 0, none⟩) (show w.heap.size + 1 < _ by (try simp) <;> (try omega))]
             exact r4_0
           have r9_1 : w9.cell? ⟨w.heap.size + 1, 1, none⟩ = some (.int .i64 0) := by
             rw [hb9.cell (p := ⟨w.heap.size + 1, 1, none⟩) (show w.heap.size + 1 < _ by (try simp) <;> (try omega))]
             exact r4_1
           have r9_2 : w9.cell? ⟨w.heap.size + 1, 2, none⟩ = some (.slice none 0 0) := by
             rw [hb9.cell (p := ⟨w.heap.size + 1, 2, none⟩) (show w.heap.size + 1 < _ by (try simp) <;> (try omega))]
             exact r4_2
           have HL9 := Lib.hid (HLL.out.drew.below hb9)
           have HB9 : Hid (Below w.heap.size w w9) := HBW.out.drew.trans (hb9.mono (by (try simp) <;> (try omega)))))
    all_goals
      go_wp2_with fail
      refine bodyPost_ret (v := .tuple #[.agg #[.int .i64 t, .int .i64 v, .slice (some ⟨gL, 0, none⟩) L.length c2], .bool (stOK t v L)]) (by simp [results, Try.results66, go_sem, s9_0, s9_1, s9_2, r9_0, r9_1, r9_2, rf9]) rfl ?_
      refine ⟨t, v, _, _, L, by rw [chkS_isSome, ← HLT.out], fun x hx => ⟨by rw [HLT.out]; exact chkS_some hx, ?_⟩, ?_⟩
      · exact (((HL9.out.setCell (by show _ < _; omega) _).setCell (by show _ < _; omega) _).setCell (by show _ < _; omega) _).1.mono (by omega)
      · exact (((HB9.out.setCell (by (try simp) <;> (try omega)) _).setCell (by (try simp) <;> (try omega)) _).setCell (by (try simp) <;> (try omega)) _)
end
section
open Go.RowKit
set_option maxRecDepth 100000 in
set_option maxHeartbeats 16000000 in
theorem specApp_Eok (a : Option Addr) (ca : Nat) (xs : List Ent) (t v : Int) (l0 : List UInt8) (w : World) (ha : Sl entE 2 w a xs) (lx : xs.length ≤ 60) (hs : ∀ e ∈ xs, e.2.size ≤ 65536) (h0 : l0.length ≤ 65536) (f0 f1 : ByteArray) (rest : List ByteArray) (ho : rdAll l0 = some (f0 :: f1 :: rest)) (he : f0 = str1 101) (hsz : f1.size = 3 * 1) (f2 : ByteArray) (hr : rest = [f2]) :
    Calls Try.prog 66 #[.agg #[.int .i64 t, .int .i64 v, .slice a xs.length ca], .string (strOf l0)] w (AppR (chkS t v (xs ++ [(n0F f1, f2)])) w) := by
  obtain ⟨i0, hi, hz0, hz1, hz2⟩ := info_parts Try.infoEntry
  have HS := Lib.hid hs
  have HO := Lib.hid ho
  have HFZ := Lib.hid (rdAll_size l0 _ ho)
  have hF1 := HFZ.out f1 (by simp)
  have HF2 : Hid (∀ s ∈ rest, s.size ≤ l0.length) := Lib.hid fun s (hs : s ∈ rest) => HFZ.out s (by simp [hs])
  clear hs ho HFZ
  have HE := Lib.hid he
  clear he
  go_enter Try.func66, Try.ntmps66
  go_wp2_with fail
  refine (l02Read_c l0 _ (by omega)).mono ?_
  rw [HO.out]
  rintro e w0 ⟨aF, cF, F, rfl, hfF, hF, hb0⟩
  have hF' := hF _ rfl
  have hSF : Sl strE 1 w0 aF F := hfF.sl (fun _ => rfl)
  rw [hF'] at hSF
  have hnF : F.length = rest.length + 2 := by rw [hF']; rfl
  clear hfF hF hF'
  generalize F.length = nF at *
  obtain ⟨bF, oF, rfl, hbF, hcF⟩ := hSF.at (i := 0) (by simp)
  have d0_0 : w0.cell? ⟨bF, oF, none⟩ = some (.string f0) := by
    have := hcF 0 (by simp) 0 (by omega)
    simpa [strE] using this
  have d0_1 : w0.cell? ⟨bF, oF + 1, none⟩ = some (.string f1) := by
    have := hcF 1 (by simp) 0 (by omega)
    simpa [strE] using this
  have D0 : Hid (∀ f2 r', rest = f2 :: r' → w0.cell? ⟨bF, oF + 2, none⟩ = some (.string f2)) := Lib.hid fun f2 r' h => by
    subst h
    have := hcF 2 (by simp) 0 (by omega)
    simpa [strE] using this
  clear hcF hSF
  have hz0' := hb0.size
  simp only [World.size_alloc] at hz0'
  have HB0 : Hid (Below w.heap.size w w0) := (((Below.refl w.heap.size w).alloc (Nat.le_refl _) _).alloc (by simp) _).trans (hb0.mono (by simp; omega))
  have HA0 := Lib.hid (ha.keep HB0.out)
  have q0_0 : w0.cell? ⟨w.heap.size, 0, none⟩ = some (.int .i64 t) := by
    rw [hb0.cell (p := ⟨w.heap.size, 0, none⟩) (show w.heap.size < _ by (try simp) <;> (try omega))]
    first | assumption | (simp [go_sem, *])
  have q0_1 : w0.cell? ⟨w.heap.size, 1, none⟩ = some (.int .i64 v) := by
    rw [hb0.cell (p := ⟨w.heap.size, 1, none⟩) (show w.heap.size < _ by (try simp) <;> (try omega))]
    first | assumption | (simp [go_sem, *])
  have q0_2 : w0.cell? ⟨w.heap.size, 2, none⟩ = some (.slice a xs.length ca) := by
    rw [hb0.cell (p := ⟨w.heap.size, 2, none⟩) (show w.heap.size < _ by (try simp) <;> (try omega))]
    first | assumption | (simp [go_sem, *])
  have ql0 : w.heap.size < w0.heap.size := by omega
  have r0_0 : w0.cell? ⟨w.heap.size + 1, 0, none⟩ = some (.int .i64 0) := by
    rw [hb0.cell (p := ⟨w.heap.size + 1, 0, none⟩) (show w.heap.size + 1 < _ by (try simp) <;> (try omega))]
    first | assumption | (simp [go_sem, *])
  have r0_1 : w0.cell? ⟨w.heap.size + 1, 1, none⟩ = some (.int .i64 0) := by
    rw [hb0.cell (p := ⟨w.heap.size + 1, 1, none⟩) (show w.heap.size + 1 < _ by (try simp) <;> (try omega))]
    first | assumption | (simp [go_sem, *])
  have r0_2 : w0.cell? ⟨w.heap.size + 1, 2, none⟩ = some (.slice none 0 0) := by
    rw [hb0.cell (p := ⟨w.heap.size + 1, 2, none⟩) (show w.heap.size + 1 < _ by (try simp) <;> (try omega))]
    first | assumption | (simp [go_sem, *])
  have rf0 : ∀ o, w0.frozen? ⟨w.heap.size + 1, o, none⟩ = false := fun o => by
    rw [hb0.frozen (p := ⟨w.heap.size + 1, o, none⟩) (show w.heap.size + 1 < _ by (try simp) <;> (try omega))]
    simp [go_sem]
  have rl0 : w.heap.size + 1 < w0.heap.size := by omega
  clear hb0
  have hlt : decide ((nF : Int) < 2) = false := by simp; omega
  have hlt2 : ¬ ((nF : Int) < 2) := by omega
  have hi0' : (0 : Int) < (nF : Int) := by omega
  have hi1' : (1 : Int) < (nF : Int) := by omega
  have HNF := Lib.hid hnF
  clear hnF
  go_wp2_with fail
  refine (nums_c f1 _ 1 hsz (by omega)).mono ?_
  rintro e w1 ⟨aN, cN, N, rfl, hfN, hN, hb1⟩
  have hz1' := hb1.size
  have HB1 : Hid (Below w.heap.size w w1) := HB0.out.trans (hb1.mono (by omega))
  have HA1 := Lib.hid (HA0.out.keep hb1)
  have hN' := hN _ rfl
  have q1_0 : w1.cell? ⟨w.heap.size, 0, none⟩ = some (.int .i64 t) := by
    rw [hb1.cell (p := ⟨w.heap.size, 0, none⟩) (show w.heap.size < _ by (try simp) <;> (try omega))]
    first | assumption | (simp [go_sem, *])
  have q1_1 : w1.cell? ⟨w.heap.size, 1, none⟩ = some (.int .i64 v) := by
    rw [hb1.cell (p := ⟨w.heap.size, 1, none⟩) (show w.heap.size < _ by (try simp) <;> (try omega))]
    first | assumption | (simp [go_sem, *])
  have q1_2 : w1.cell? ⟨w.heap.size, 2, none⟩ = some (.slice a xs.length ca) := by
    rw [hb1.cell (p := ⟨w.heap.size, 2, none⟩) (show w.heap.size < _ by (try simp) <;> (try omega))]
    first | assumption | (simp [go_sem, *])
  have ql1 : w.heap.size < w1.heap.size := by omega
  have r1_0 : w1.cell? ⟨w.heap.size + 1, 0, none⟩ = some (.int .i64 0) := by
    rw [hb1.cell (p := ⟨w.heap.size + 1, 0, none⟩) (show w.heap.size + 1 < _ by (try simp) <;> (try omega))]
    first | assumption | (simp [go_sem, *])
  have r1_1 : w1.cell? ⟨w.heap.size + 1, 1, none⟩ = some (.int .i64 0) := by
    rw [hb1.cell (p := ⟨w.heap.size + 1, 1, none⟩) (show w.heap.size + 1 < _ by (try simp) <;> (try omega))]
    first | assumption | (simp [go_sem, *])
  have r1_2 : w1.cell? ⟨w.heap.size + 1, 2, none⟩ = some (.slice none 0 0) := by
    rw [hb1.cell (p := ⟨w.heap.size + 1, 2, none⟩) (show w.heap.size + 1 < _ by (try simp) <;> (try omega))]
    first | assumption | (simp [go_sem, *])
  have rf1 : ∀ o, w1.frozen? ⟨w.heap.size + 1, o, none⟩ = false := fun o => by
    rw [hb1.frozen (p := ⟨w.heap.size + 1, o, none⟩) (show w.heap.size + 1 < _ by (try simp) <;> (try omega))]
    first | exact rf0 o | (simp [go_sem]; done) | (rw [((Below.refl _ _).alloc (Nat.le_refl _) _ : Below _ _ _).frozen (p := ⟨w.heap.size + 1, o, none⟩) (show w.heap.size + 1 < _ by omega)]; exact rf0 o)
  have rl1 : w.heap.size + 1 < w1.heap.size := by omega
  have d1_0 : w1.cell? ⟨bF, oF, none⟩ = some (.string f0) := by
    rw [hb1.cell (p := ⟨bF, oF, none⟩) (by show bF < _; omega)]
    exact d0_0
  have D1 : Hid (∀ f2 r', rest = f2 :: r' → w1.cell? ⟨bF, oF + 2, none⟩ = some (.string f2)) := Lib.hid (fun f2 r' h => by
    rw [hb1.cell (p := ⟨bF, oF + 2, none⟩) (by show bF < _; omega)]
    exact D0.out f2 r' h)
  have hbF1 : bF < w1.heap.size := by omega
  clear hb1 d0_0 d0_1 D0 HB0 HA0 q0_0 q0_1 q0_2 r0_0 r0_1 r0_2 rf0
  have hnN : N.length = 1 := by rw [hN']; exact rnF_length _ _
  have hSN : Sl intE 1 w1 aN N := hfN.sl (fun _ => rfl)
  rw [hN', rn1] at hSN
  clear hfN hN hN'
  generalize N.length = nN at *
  obtain ⟨bN, oN, rfl, hbN, hcN⟩ := hSN.at (i := 0) (by simp)
  have g1_0 : w1.cell? ⟨bN, oN, none⟩ = some (.int .i64 (n0F f1)) := by
    have := hcN 0 (by simp) 0 (by omega)
    simpa [intE] using this
  have hj0' : (0 : Int) < (nN : Int) := by omega
  clear hcN hSN
  generalize n0F f1 = n0 at *
  generalize n1F f1 = n1 at *
  have HNN := Lib.hid hnN
  clear hnN
  go_wp2_with fail
  refine (l07Own_c a ca xs t v _ HA1.out (by omega)).mono ?_
  rintro e w2 ⟨a2, c2, rfl, hf2, hb2⟩
  have hz2' := hb2.size
  have q2_0 : w2.cell? ⟨w.heap.size, 0, none⟩ = some (.int .i64 t) := by
    rw [hb2.cell (p := ⟨w.heap.size, 0, none⟩) (show w.heap.size < _ by (try simp) <;> (try omega))]
    first | assumption | (simp [go_sem, *])
  have q2_1 : w2.cell? ⟨w.heap.size, 1, none⟩ = some (.int .i64 v) := by
    rw [hb2.cell (p := ⟨w.heap.size, 1, none⟩) (show w.heap.size < _ by (try simp) <;> (try omega))]
    first | assumption | (simp [go_sem, *])
  have q2_2 : w2.cell? ⟨w.heap.size, 2, none⟩ = some (.slice a xs.length ca) := by
    rw [hb2.cell (p := ⟨w.heap.size, 2, none⟩) (show w.heap.size < _ by (try simp) <;> (try omega))]
    first | assumption | (simp [go_sem, *])
  have ql2 : w.heap.size < w2.heap.size := by omega
  have r2_0 : w2.cell? ⟨w.heap.size + 1, 0, none⟩ = some (.int .i64 0) := by
    rw [hb2.cell (p := ⟨w.heap.size + 1, 0, none⟩) (show w.heap.size + 1 < _ by (try simp) <;> (try omega))]
    first | assumption | (simp [go_sem, *])
  have r2_1 : w2.cell? ⟨w.heap.size + 1, 1, none⟩ = some (.int .i64 0) := by
    rw [hb2.cell (p := ⟨w.heap.size + 1, 1, none⟩) (show w.heap.size + 1 < _ by (try simp) <;> (try omega))]
    first | assumption | (simp [go_sem, *])
  have r2_2 : w2.cell? ⟨w.heap.size + 1, 2, none⟩ = some (.slice none 0 0) := by
    rw [hb2.cell (p := ⟨w.heap.size + 1, 2, none⟩) (show w.heap.size + 1 < _ by (try simp) <;> (try omega))]
    first | assumption | (simp [go_sem, *])
  have rf2 : ∀ o, w2.frozen? ⟨w.heap.size + 1, o, none⟩ = false := fun o => by
    rw [hb2.frozen (p := ⟨w.heap.size + 1, o, none⟩) (show w.heap.size + 1 < _ by (try simp) <;> (try omega))]
    first | exact rf1 o | (simp [go_sem]; done) | (rw [((Below.refl _ _).alloc (Nat.le_refl _) _ : Below _ _ _).frozen (p := ⟨w.heap.size + 1, o, none⟩) (show w.heap.size + 1 < _ by omega)]; exact rf1 o)
  have rl2 : w.heap.size + 1 < w2.heap.size := by omega
  have d2_0 : w2.cell? ⟨bF, oF, none⟩ = some (.string f0) := by
    rw [hb2.cell (p := ⟨bF, oF, none⟩) (by show bF < _; omega)]
    exact d1_0
  have D2 : Hid (∀ f2 r', rest = f2 :: r' → w2.cell? ⟨bF, oF + 2, none⟩ = some (.string f2)) := Lib.hid (fun f2 r' h => by
    rw [hb2.cell (p := ⟨bF, oF + 2, none⟩) (by show bF < _; omega)]
    exact D1.out f2 r' h)
  have g2_0 : w2.cell? ⟨bN, oN, none⟩ = some (.int .i64 n0) := by
    rw [hb2.cell (p := ⟨bN, oN, none⟩) (by show bN < _; omega)]
    exact g1_0
  have HB2 : Hid (Below w.heap.size w w2) := HB1.out.trans (hb2.mono (by omega))
  have HL2 := Lib.hid hf2.here
  clear hb2 hf2 d1_0 D1 HB1 HA1 q1_0 q1_1 q1_2 r1_0 r1_1 r1_2 rf1 g1_0
  go_upto_block 0 with fail
  generalize hw3 : w2.alloc (.cells #[.int .i64 t, .int .i64 v, .slice a2 xs.length c2] 60) = w3
  have hz3' : w2.heap.size < w3.heap.size := by rw [← hw3]; simp
  have HB3 : Hid (Below w.heap.size w w3) := by
    rw [← hw3]
    exact HB2.out.alloc (by omega) _
  have HL3 : Hid (FreshIn entE 76 2 w1.heap.size w2.heap.size (.slice a2 xs.length c2) xs w3) := by
    rw [← hw3]
    exact HL2.out.alloc _
  have s3_0 : w3.cell? ⟨w2.heap.size, 0, none⟩ = some (.int .i64 t) := by
    rw [← hw3]
    first | (simp [go_sem]; done) | (rw [World.cell?_alloc_lt _ _ _ (by show w2.heap.size < _; omega)]; assumption)
  have s3_1 : w3.cell? ⟨w2.heap.size, 1, none⟩ = some (.int .i64 v) := by
    rw [← hw3]
    first | (simp [go_sem]; done) | (rw [World.cell?_alloc_lt _ _ _ (by show w2.heap.size < _; omega)]; assumption)
  have s3_2 : w3.cell? ⟨w2.heap.size, 2, none⟩ = some (.slice a2 xs.length c2) := by
    rw [← hw3]
    first | (simp [go_sem]; done) | (rw [World.cell?_alloc_lt _ _ _ (by show w2.heap.size < _; omega)]; assumption)
  have q3_0 : w3.cell? ⟨w.heap.size, 0, none⟩ = some (.int .i64 t) := by
    rw [← hw3]
    first | (simp [go_sem]; done) | (rw [World.cell?_alloc_lt _ _ _ (by show w.heap.size < _; omega)]; assumption)
  have q3_1 : w3.cell? ⟨w.heap.size, 1, none⟩ = some (.int .i64 v) := by
    rw [← hw3]
    first | (simp [go_sem]; done) | (rw [World.cell?_alloc_lt _ _ _ (by show w.heap.size < _; omega)]; assumption)
  have q3_2 : w3.cell? ⟨w.heap.size, 2, none⟩ = some (.slice a xs.length ca) := by
    rw [← hw3]
    first | (simp [go_sem]; done) | (rw [World.cell?_alloc_lt _ _ _ (by show w.heap.size < _; omega)]; assumption)
  have r3_0 : w3.cell? ⟨w.heap.size + 1, 0, none⟩ = some (.int .i64 0) := by
    rw [← hw3]
    first | (simp [go_sem]; done) | (rw [World.cell?_alloc_lt _ _ _ (by show w.heap.size + 1 < _; omega)]; assumption)
  have r3_1 : w3.cell? ⟨w.heap.size + 1, 1, none⟩ = some (.int .i64 0) := by
    rw [← hw3]
    first | (simp [go_sem]; done) | (rw [World.cell?_alloc_lt _ _ _ (by show w.heap.size + 1 < _; omega)]; assumption)
  have r3_2 : w3.cell? ⟨w.heap.size + 1, 2, none⟩ = some (.slice none 0 0) := by
    rw [← hw3]
    first | (simp [go_sem]; done) | (rw [World.cell?_alloc_lt _ _ _ (by show w.heap.size + 1 < _; omega)]; assumption)
  have d3_0 : w3.cell? ⟨bF, oF, none⟩ = some (.string f0) := by
    rw [← hw3]
    first | (simp [go_sem]; done) | (rw [World.cell?_alloc_lt _ _ _ (by show bF < _; omega)]; assumption)
  have g3_0 : w3.cell? ⟨bN, oN, none⟩ = some (.int .i64 n0) := by
    rw [← hw3]
    first | (simp [go_sem]; done) | (rw [World.cell?_alloc_lt _ _ _ (by show bN < _; omega)]; assumption)
  have sf3 : ∀ o, w3.frozen? ⟨w2.heap.size, o, none⟩ = false := fun o => by
    rw [← hw3]
    simp [go_sem]
  have rf3 : ∀ o, w3.frozen? ⟨w.heap.size + 1, o, none⟩ = false := fun o => by
    rw [← hw3, ((Below.refl w2.heap.size w2).alloc (Nat.le_refl _) _ : Below _ _ _).frozen (p := ⟨w.heap.size + 1, o, none⟩) (by show w.heap.size + 1 < _; omega)]
    exact rf2 o
  have D3 : Hid (∀ f2 r', rest = f2 :: r' → w3.cell? ⟨bF, oF + 2, none⟩ = some (.string f2)) := Lib.hid (fun f2 r' h => by
    rw [← hw3, World.cell?_alloc_lt _ _ _ (by show bF < _; omega)]
    exact D2.out f2 r' h)
  have ql3 : w.heap.size < w3.heap.size := by omega
  have rl3 : w.heap.size + 1 < w3.heap.size := by omega
  have sl3 : w2.heap.size < w3.heap.size := hz3'
  have hbF2 : bF < w2.heap.size := by omega
  have hbF3 : bF < w3.heap.size := by omega
  clear hw3 d2_0 D2 HB2 HL2 q2_0 q2_1 q2_2 r2_0 r2_1 r2_2 rf2 g2_0
  have hbN2 : bN < w2.heap.size := by omega
  have hbN3 : bN < w3.heap.size := by omega
  have e2c : (f0.toList == [99]) = false := str1_other HE.out (by decide)
  have e3c : (f0.toList == [101]) = true := str1_is HE.out
  have hl1 : rest.length = 1 := by rw [hr]; rfl
  have d3_2 := D3.out f2 [] hr
  have hf2s : f2.size ≤ 65536 := by
    have := HF2.out f2 (by rw [hr]; simp)
    omega
  clear hr
  have h1 := HNF.out
  have e4 : decide ((nF : Int) = 3) = true := by simp; omega
  have e4b : decide (nF = 3) = true := by simp; omega
  have e4c : ((nF : Int) == 3) = true := by simp; omega
  have hi2' : (2 : Int) < (nF : Int) := by omega
  have hi2n : 2 < nF := by omega
  have hm0 : 0 < nN := by omega
  clear h1
  have hgNb : bN < w1.heap.size := hbN
  have hne3 : ¬ bN = w2.heap.size := by omega
  have hne4 : ¬ bF = w2.heap.size := by omega
  have hne5 : ¬ w2.heap.size = bN := by omega
  have hne6 : ¬ w2.heap.size = bF := by omega
  have hne7 : ¬ w2.heap.size = w3.heap.size := by omega
  have hne8 : ¬ w3.heap.size = w2.heap.size := by omega
  have hAl : ∀ (n : Nat) (o : Obj), ((w3.drewN n).alloc o).cell? ⟨w2.heap.size, 2, none⟩ = some (.slice a2 xs.length c2) := fun n o => by
    rw [World.cell?_alloc_lt _ _ _ (by show w2.heap.size < _; simp; omega)]
    exact s3_2
  have hne1 : ¬ w2.heap.size = w.heap.size + 1 := by omega
  have hne2 : ¬ w.heap.size + 1 = w2.heap.size := by omega
  have h1 := HNN.out
  have y1 : decide ((nN : Int) = 1) = true := by simp; omega
  have y1b : decide (nN = 1) = true := by simp; omega
  have y1c : ((nN : Int) == 1) = true := by simp; omega
  clear h1
  have e2a : (f0.toList == [116]) = false := str1_other HE.out (by decide)
  go_cut [5] (fun s wx => ∃ a5 c5 L, Hid (L = xs ++ [(n0, f2)]) ∧ s = .bool false ∧ wx.cell? ⟨w2.heap.size, 0, none⟩ = some (.int .i64 t) ∧ wx.cell? ⟨w2.heap.size, 1, none⟩ = some (.int .i64 v) ∧ wx.cell? ⟨w2.heap.size, 2, none⟩ = some (.slice a5 L.length c5) ∧ wx.cell? ⟨w.heap.size + 1, 0, none⟩ = some (.int .i64 0) ∧ wx.cell? ⟨w.heap.size + 1, 1, none⟩ = some (.int .i64 0) ∧ wx.cell? ⟨w.heap.size + 1, 2, none⟩ = some (.slice none 0 0) ∧ (∀ o, wx.frozen? ⟨w.heap.size + 1, o, none⟩ = false) ∧ FreshIn entE 76 2 w1.heap.size wx.heap.size (.slice a5 L.length c5) (L) wx ∧ Below w.heap.size w wx ∧ w2.heap.size < wx.heap.size)
  case first =>
    go_wp2_with fail
    go_quiet (fail)
    go_wp2_with fail
    go_region_law
      (first
        | (refine step_append_fresh (by rfl) (.tmp 115) (.tmp 123) 51 51 (by rfl) w1.heap.size w2.heap.size 76 i0 (.agg #[.int .i64 0, .string ⟨#[]⟩]) 2 24 Try.underlying51 hi hz0 hz1 hz2 rfl (by decide) (.slice a2 xs.length c2) xs (by rfl) (FreshIn.alloc (by repeat (first | exact HL3.out | (refine FreshIn.drew ?_) | (refine FreshIn.below ?_ (below_drewN _ _ _)))) _) _ [(n0, f2)] (by rfl) (Src.ofBox (enc := entE) Try.underlying51 (fun _ => rfl) entOne (n0, f2) #[.int .i64 n0, .string f2] 76 rfl w3.heap.size (by simp)) (by simp; omega) (by simp; omega) ?_
           intro a7 c7 w7 L7 hL7 hf7 hm7
           have hy7 := hm7.size
           simp at hy7
           have HF7 := Lib.hid hf7
           have HL7 : Hid (L7 = xs ++ [(n0, f2)]) := hL7
           clear hf7 hL7
           have s7_0 : w7.cell? ⟨w2.heap.size, 0, none⟩ = some (.int .i64 t) := by
             rw [hm7.cell (p := ⟨w2.heap.size, 0, none⟩) (by show w2.heap.size < _; simp; omega) (.inr (Nat.le_refl _))]
             rw [World.cell?_alloc_lt _ _ _ (by show w2.heap.size < _; simp; omega)]
             exact s3_0
           have s7_1 : w7.cell? ⟨w2.heap.size, 1, none⟩ = some (.int .i64 v) := by
             rw [hm7.cell (p := ⟨w2.heap.size, 1, none⟩) (by show w2.heap.size < _; simp; omega) (.inr (Nat.le_refl _))]
             rw [World.cell?_alloc_lt _ _ _ (by show w2.heap.size < _; simp; omega)]
             exact s3_1
           have s7_2 : w7.cell? ⟨w2.heap.size, 2, none⟩ = some (.slice a2 xs.length c2) := by
             rw [hm7.cell (p := ⟨w2.heap.size, 2, none⟩) (by show w2.heap.size < _; simp; omega) (.inr (Nat.le_refl _))]
             rw [World.cell?_alloc_lt _ _ _ (by show w2.heap.size < _; simp; omega)]
             exact s3_2
           have r7_0 : w7.cell? ⟨w.heap.size + 1, 0, none⟩ = some (.int .i64 0) := by
             rw [hm7.cell (p := ⟨w.heap.size + 1, 0, none⟩) (by show w.heap.size + 1 < _; simp; omega) (.inl (by show w.heap.size + 1 < _; omega))]
             rw [World.cell?_alloc_lt _ _ _ (by show w.heap.size + 1 < _; simp; omega)]
             exact r3_0
           have r7_1 : w7.cell? ⟨w.heap.size + 1, 1, none⟩ = some (.int .i64 0) := by
             rw [hm7.cell (p := ⟨w.heap.size + 1, 1, none⟩) (by show w.heap.size + 1 < _; simp; omega) (.inl (by show w.heap.size + 1 < _; omega))]
             rw [World.cell?_alloc_lt _ _ _ (by show w.heap.size + 1 < _; simp; omega)]
             exact r3_1
           have r7_2 : w7.cell? ⟨w.heap.size + 1, 2, none⟩ = some (.slice none 0 0) := by
             rw [hm7.cell (p := ⟨w.heap.size + 1, 2, none⟩) (by show w.heap.size + 1 < _; simp; omega) (.inl (by show w.heap.size + 1 < _; omega))]
             rw [World.cell?_alloc_lt _ _ _ (by show w.heap.size + 1 < _; simp; omega)]
             exact r3_2
           have g7_0 : w7.cell? ⟨bN, oN, none⟩ = some (.int .i64 n0) := by
             rw [hm7.cell (p := ⟨bN, oN, none⟩) (by show bN < _; simp; omega) (.inl (by show bN < _; omega))]
             rw [World.cell?_alloc_lt _ _ _ (by show bN < _; simp; omega)]
             exact g3_0
           have g7_1 : w7.cell? ⟨bF, oF + 2, none⟩ = some (.string f2) := by
             rw [hm7.cell (p := ⟨bF, oF + 2, none⟩) (by show bF < _; simp; omega) (.inl (by show bF < _; omega))]
             rw [World.cell?_alloc_lt _ _ _ (by show bF < _; simp; omega)]
             exact d3_2
           have sf7 : ∀ o, w7.frozen? ⟨w2.heap.size, o, none⟩ = false := fun o => by
             rw [hm7.frozen (p := ⟨w2.heap.size, o, none⟩) (by show w2.heap.size < _; simp; omega) (.inr (Nat.le_refl _))]
             rw [((Below.refl _ _).alloc (Nat.le_refl _) _ : Below _ _ _).frozen (p := ⟨w2.heap.size, o, none⟩) (by show w2.heap.size < _; simp; omega)]
             exact sf3 o
           have rf7 : ∀ o, w7.frozen? ⟨w.heap.size + 1, o, none⟩ = false := fun o => by
             rw [hm7.frozen (p := ⟨w.heap.size + 1, o, none⟩) (by show w.heap.size + 1 < _; simp; omega) (.inl (by show w.heap.size + 1 < _; omega))]
             rw [((Below.refl _ _).alloc (Nat.le_refl _) _ : Below _ _ _).frozen (p := ⟨w.heap.size + 1, o, none⟩) (by show w.heap.size + 1 < _; simp; omega)]
             exact rf3 o
           skip))
    all_goals
      go_wp2_with fail
      go_meet
      refine ⟨a7, c7, L7, HL7.out, rfl, ?_, ?_, ?_, ?_, ?_, ?_, ?_, ?_, ?_, ?_⟩
      · simp [go_sem, s7_0, s7_1, s7_2, r7_0, r7_1, r7_2, sf7, rf7, hne1, hne2]
      · simp [go_sem, s7_0, s7_1, s7_2, r7_0, r7_1, r7_2, sf7, rf7, hne1, hne2]
      · simp [go_sem, s7_0, s7_1, s7_2, r7_0, r7_1, r7_2, sf7, rf7, hne1, hne2]
      · simp [go_sem, s7_0, s7_1, s7_2, r7_0, r7_1, r7_2, sf7, rf7, hne1, hne2]
      · simp [go_sem, s7_0, s7_1, s7_2, r7_0, r7_1, r7_2, sf7, rf7, hne1, hne2]
      · simp [go_sem, s7_0, s7_1, s7_2, r7_0, r7_1, r7_2, sf7, rf7, hne1, hne2]
      · intro o
        simp [go_sem, s7_0, s7_1, s7_2, r7_0, r7_1, r7_2, sf7, rf7, hne1, hne2]
      · have hsz : (w7.setCell ⟨w2.heap.size, 2, none⟩ (.slice a7 L7.length c7)).heap.size = w7.heap.size := by simp
        rw [hsz]
        exact FreshIn.setBeside HF7.out (by rw [HL7.out]; simp) s7_1 _ _
      · refine Below.setCell ?_ (by show w.heap.size ≤ w2.heap.size; omega) _
        refine Below.trans ?_ (hm7.below (by omega) (by simp; omega))
        repeat (first | exact HB3.out | (refine Below.alloc ?_ (by simp; omega) _) | (refine Below.trans ?_ (below_drewN _ _ _)) | (refine Below.drew ?_))
      · simp; omega
  case rest =>
    obtain ⟨a5, c5, L, HLT, hcut⟩ := hcut
    have hL0 := HLT.out
    have hlL0 : L.length = xs.length + 1 := by rw [hL0]; simp
    have hlL : L.length ≤ 1048576 := by omega
    have HSL : Hid (∀ s ∈ L, s.2.size ≤ 1048576) := Lib.hid fun s hs => by
      rw [hL0] at hs
      rcases List.mem_append.1 hs with h | h
      · have := HS.out s h
        omega
      · simp at h
        subst h
        show f2.size ≤ _
        omega
    clear hL0 hlL0
    obtain ⟨rfl, s4_0, s4_1, s4_2, r4_0, r4_1, r4_2, rf4, hfL, hbw, hsw⟩ := hcut
    obtain ⟨w4, hw4⟩ : ∃ x, x = wc := ⟨_, rfl⟩
    subst hw4
    have HLL := Lib.hid hfL
    have HBW := Lib.hid hbw
    clear hfL hbw
    go_wp2_with fail
    go_region_held3 (fun w' => w'.cell? ⟨w2.heap.size, 0, none⟩ = some (.int .i64 t) ∧ w'.cell? ⟨w2.heap.size, 1, none⟩ = some (.int .i64 v) ∧ w'.cell? ⟨w2.heap.size, 2, none⟩ = some (.slice a5 L.length c5))
      (first | ((repeat' apply And.intro) <;> (simp [go_sem, *]; done)) | go_keep)
      (first
        | (go_at_call 64
           refine (specStateOK_c a5 c5 L t v _ (HLL.out.drew.sl fun _ => rfl) hlL HSL.out).mono ?_
           rintro e w9 ⟨rfl, hb9⟩
           have hz9 := hb9.size
           try simp at hz9
           have s9_0 : w9.cell? ⟨w2.heap.size, 0, none⟩ = some (.int .i64 t) := by
             rw [hb9.cell (p := ⟨w2.heap.size, 0, none⟩) (show w2.heap.size < _ by (try simp) <;> (try omega))]
             first | assumption | (simp [go_sem, *])
           have s9_1 : w9.cell? ⟨w2.heap.size, 1, none⟩ = some (.int .i64 v) := by
             rw [hb9.cell (p := ⟨w2.heap.size, 1, none⟩) (show w2.heap.size < _ by (try simp) <;> (try omega))]
             first | assumption | (simp [go_sem, *])
           have s9_2 : w9.cell? ⟨w2.heap.size, 2, none⟩ = some (.slice a5 L.length c5) := by
             rw [hb9.cell (p := ⟨w2.heap.size, 2, none⟩) (show w2.heap.size < _ by (try simp) <;> (try omega))]
             first | assumption | (simp [go_sem, *])
           have rf9 : ∀ o, w9.frozen? ⟨w.heap.size + 1, o, none⟩ = false := fun o => by
             rw [hb9.frozen (p := ⟨w.heap.size + 1, o, none⟩) (show w.heap.size + 1 < _ by (try simp) <;> (try omega))]
             first | exact rf4 o | (simp [go_sem, rf4])
           have r9_0 : w9.cell? ⟨w.heap.size + 1, 0, none⟩ = some (.int .i64 0) := by
             rw [hb9.cell (p := ⟨w.heap.size + 1, 0, none⟩) (show w.heap.size + 1 < _ by (try simp) <;> (try omega))]
             exact r4_0
           have r9_1 : w9.cell? ⟨w.heap.size + 1, 1, none⟩ = some (.int .i64 0) := by
             rw [hb9.cell (p := ⟨w.heap.size + 1, 1, none⟩) (show w.heap.size + 1 < _ by (try simp) <;> (try omega))]
             exact r4_1
           have r9_2 : w9.cell? ⟨w.heap.size + 1, 2, none⟩ = some (.slice none 0 0) := by
             rw [hb9.cell (p := ⟨w.heap.size + 1, 2, none⟩) (show w.heap.size + 1 < _ by (try simp) <;> (try omega))]
             exact r4_2
           have HL9 := Lib.hid (HLL.out.drew.below hb9)
           have HB9 : Hid (Below w.heap.size w w9) := HBW.out.drew.trans (hb9.mono (by (try simp) <;> (try omega)))))
    all_goals
      go_wp2_with fail
      refine bodyPost_ret (v := .tuple #[.agg #[.int .i64 t, .int .i64 v, .slice a5 L.length c5], .bool (stOK t v L)]) (by simp [results, Try.results66, go_sem, s9_0, s9_1, s9_2, r9_0, r9_1, r9_2, rf9]) rfl ?_
      refine ⟨t, v, _, _, L, by rw [chkS_isSome, ← HLT.out], fun x hx => ⟨by rw [HLT.out]; exact chkS_some hx, ?_⟩, ?_⟩
      · exact (((HL9.out.setCell (by show _ < _; omega) _).setCell (by show _ < _; omega) _).setCell (by show _ < _; omega) _).1.mono (by omega)
      · exact (((HB9.out.setCell (by (try simp) <;> (try omega)) _).setCell (by (try simp) <;> (try omega)) _).setCell (by (try simp) <;> (try omega)) _)
end
section
open Go.RowKit
theorem specApply_c (a : Option Addr) (ca : Nat) (xs : List Ent) (t v : Int) (l0 : List UInt8) (w : World) (ha : Sl entE 2 w a xs) (lx : xs.length ≤ 60) (hs : ∀ e ∈ xs, e.2.size ≤ 65536) (h0 : l0.length ≤ 65536) :
    Calls Try.prog 66 #[.agg #[.int .i64 t, .int .i64 v, .slice a xs.length ca], .string (strOf l0)] w (AppR (apV t v xs (rdAll l0)) w) := by
  cases ho : rdAll l0 with
  | none => exact specApp_short a ca xs t v l0 w ha lx hs h0 none ho (fun F h => by cases h)
  | some F =>
    match F, ho with
    | [], ho => exact specApp_short a ca xs t v l0 w ha lx hs h0 _ ho (fun F h => by cases h; simp)
    | [f], ho => exact specApp_short a ca xs t v l0 w ha lx hs h0 _ ho (fun F h => by cases h; simp)
    | f0 :: f1 :: rest, ho =>
      show Calls _ _ _ _ (AppR (apC t v xs f0 f1 rest) w)
      unfold apC
      by_cases hm3 : f1.size % 3 = 0
      · obtain ⟨m, hm⟩ : ∃ m, f1.size = 3 * m := ⟨f1.size / 3, by omega⟩
        by_cases hT : f0 = str1 116
        · rw [if_pos hT]
          by_cases hr : rest = []
          · by_cases h2 : m = 2
            · subst h2
              by_cases hle : t ≤ n0F f1
              · rw [if_pos ⟨by omega, hr, hle⟩]
                exact specApp_Tok a ca xs t v l0 w ha lx hs h0 f0 f1 rest ho hT hm (by rw [hr]; rfl) hle
              · rw [if_neg (fun h => hle h.2.2)]
                exact specApp_Tless a ca xs t v l0 w ha lx hs h0 f0 f1 rest ho hT hm (by rw [hr]; rfl) hle
            · rw [if_neg (fun h => h2 (by omega))]
              exact specApp_Tsz a ca xs t v l0 w ha lx hs h0 f0 f1 rest ho m hT hm (by rw [hr]; rfl) h2
          · rw [if_neg (fun h => hr h.2.1)]
            exact specApp_Trest a ca xs t v l0 w ha lx hs h0 f0 f1 rest ho m hT hm (fun h => hr (List.eq_nil_of_length_eq_zero h))
        · rw [if_neg hT]
          by_cases hc : f0 = str1 99
          · by_cases hr : rest = []
            · by_cases h1 : m = 1
              · subst h1
                rw [if_pos (show f1.size = 3 by omega)]
                by_cases hb : inB (n0F f1) 0 ((xs.length : Int) - 1) = true
                · rw [if_pos ⟨hc, hr, hb⟩]
                  have h1 : (0 : Int) ≤ n0F f1 ∧ n0F f1 ≤ (xs.length : Int) - 1 := by simpa [inB] using hb
                  obtain ⟨k, hk⟩ : ∃ k : Nat, n0F f1 = (k : Int) := ⟨(n0F f1).toNat, by omega⟩
                  have hk2 : (n0F f1).toNat = k := by omega
                  rw [hk2]
                  exact specApp_Cok a ca xs t v l0 w ha lx hs h0 f0 f1 rest ho hc hm (by rw [hr]; rfl) k hk (by omega)
                · rw [if_neg (fun h => hb h.2.2), if_neg (fun h => by rw [hr] at h; simp at h)]
                  exact specApp_Crange a ca xs t v l0 w ha lx hs h0 f0 f1 rest ho hc hm (by rw [hr]; rfl) (by simpa using hb)
              · rw [if_neg (show ¬ f1.size = 3 by omega)]
                exact specApp_Csz a ca xs t v l0 w ha lx hs h0 f0 f1 rest ho m hc hm (by rw [hr]; rfl) h1
            · have hn : (if f1.size = 3 then if f0 = str1 99 ∧ rest = [] ∧ inB (n0F f1) 0 ((xs.length : Int) - 1) = true then chkS t v (xs.take (n0F f1).toNat) else if f0 = str1 101 ∧ rest.length = 1 then chkS t v (xs ++ [(n0F f1, rest.headD (str1 0))]) else none else none) = none := by
                by_cases h3 : f1.size = 3
                · rw [if_pos h3, if_neg (fun h => hr h.2.1), if_neg (fun h => str1_dif (by decide) (hc.symm.trans h.1))]
                · rw [if_neg h3]
              rw [hn]
              exact specApp_Crest a ca xs t v l0 w ha lx hs h0 f0 f1 rest ho m hc hm (fun h => hr (List.eq_nil_of_length_eq_zero h))
          · by_cases he : f0 = str1 101
            · by_cases hr : rest.length = 1
              · by_cases h1 : m = 1
                · subst h1
                  rw [if_pos (show f1.size = 3 by omega), if_neg (fun h => hc h.1), if_pos ⟨he, hr⟩]
                  obtain ⟨f2, rfl⟩ := List.length_eq_one_iff.1 hr
                  exact specApp_Eok a ca xs t v l0 w ha lx hs h0 f0 f1 [f2] ho he hm f2 rfl
                · rw [if_neg (show ¬ f1.size = 3 by omega)]
                  exact specApp_Esz a ca xs t v l0 w ha lx hs h0 f0 f1 rest ho m he hm hr h1
              · have hn : (if f1.size = 3 then if f0 = str1 99 ∧ rest = [] ∧ inB (n0F f1) 0 ((xs.length : Int) - 1) = true then chkS t v (xs.take (n0F f1).toNat) else if f0 = str1 101 ∧ rest.length = 1 then chkS t v (xs ++ [(n0F f1, rest.headD (str1 0))]) else none else none) = none := by
                  by_cases h3 : f1.size = 3
                  · rw [if_pos h3, if_neg (fun h => hc h.1), if_neg (fun h => hr h.2)]
                  · rw [if_neg h3]
                rw [hn]
                exact specApp_Erest a ca xs t v l0 w ha lx hs h0 f0 f1 rest ho m he hm hr
            · have hn : (if f1.size = 3 then if f0 = str1 99 ∧ rest = [] ∧ inB (n0F f1) 0 ((xs.length : Int) - 1) = true then chkS t v (xs.take (n0F f1).toNat) else if f0 = str1 101 ∧ rest.length = 1 then chkS t v (xs ++ [(n0F f1, rest.headD (str1 0))]) else none else none) = none := by
                by_cases h3 : f1.size = 3
                · rw [if_pos h3, if_neg (fun h => hc h.1), if_neg (fun h => he h.1)]
                · rw [if_neg h3]
              rw [hn]
              exact specApp_other a ca xs t v l0 w ha lx hs h0 f0 f1 rest ho m hT hc he hm
      · have hn : (if f0 = str1 116 then if f1.size = 6 ∧ rest = [] ∧ t ≤ n0F f1 then chkS (n0F f1) (n1F f1) xs else none else if f1.size = 3 then if f0 = str1 99 ∧ rest = [] ∧ inB (n0F f1) 0 ((xs.length : Int) - 1) = true then chkS t v (xs.take (n0F f1).toNat) else if f0 = str1 101 ∧ rest.length = 1 then chkS t v (xs ++ [(n0F f1, rest.headD (str1 0))]) else none else none) = none := by
          rw [if_neg (show ¬ f1.size = 3 by omega), if_neg (show ¬ (f1.size = 6 ∧ rest = [] ∧ t ≤ n0F f1) from fun h => by omega)]
          simp
        rw [hn]
        exact specApp_nonum a ca xs t v l0 w ha lx hs h0 f0 f1 rest ho hm3
end
end Go.Proofs.Ytckaccadgbcohaa
