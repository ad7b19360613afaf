/- ApplyRecord of both sides. No conditions but sizes. -/
import Derived.Test.YtmdjcoeijlnloaaAppAll
import Derived.Test.YtmdjcoeijlnloaaSapAll
import Derived.Test.YtmdjcoeijlnloaaLong
namespace Go.Proofs.Ytmdjcoeijlnloaa
set_option linter.unusedVariables false
set_option linter.unusedSimpArgs false
open Go.RowKit
/-- What ApplyRecord returns: a state and a code. -/
noncomputable def arS (t v : Int) (xs : List Ent) (l0 : List UInt8) : Int × Int × List Ent :=
  if longP (strOf l0).size = true then (0, 0, []) else if stOK t v xs = true then (match apV t v xs (rdAll l0) with | some x => x | none => (t, v, xs)) else (0, 0, [])
noncomputable def arC (t v : Int) (xs : List Ent) (l0 : List UInt8) : Int :=
  if longP (strOf l0).size = true then 2 else if stOK t v xs = true then (match apV t v xs (rdAll l0) with | some _ => 0 | none => 3) else 1
def ArR (t1 v1 : Int) (L : List Ent) (c : Int) (w : World) (e : Ending) (w' : World) : Prop :=
  ∃ a ca, e = .returned (.tuple #[.agg #[.int .i64 t1, .int .i64 v1, .slice a L.length ca], .int .i64 c]) ∧ Fresh entE 109 2 w.heap.size (.slice a L.length ca) L w' ∧ Below w.heap.size w w'
theorem arS_length (t v : Int) (xs : List Ent) (l0 : List UInt8) : (arS t v xs l0).2.2.length ≤ 60 := by
  unfold arS
  split
  · simp
  split
  · next h =>
    split
    · next x hx => exact (stOK_facts (apV_ok hx)).2.2.2.2.1
    · exact (stOK_facts h).2.2.2.2.1
  · simp
theorem ArR.zero (c : Int) {w w' : World} (hb : Below w.heap.size w w') : ArR 0 0 [] c w (.returned (.tuple #[.agg #[.int .i64 0, .int .i64 0, .slice none 0 0], .int .i64 c])) w' :=
  ⟨none, 0, rfl, (FreshIn.nil _ _ _ _ 0 _).1, hb⟩
set_option maxRecDepth 100000 in
set_option maxHeartbeats 8000000 in
theorem implARec_c (a : Option Addr) (ca : Nat) (xs : List Ent) (t v : Int) (l0 : List UInt8) (w : World) (ha : Sl entE 2 w a xs) (lx : xs.length ≤ 1048576) (hs : ∀ e ∈ xs, e.2.size ≤ 1048576) (h0 : l0.length ≤ 1048576) :
    Calls Try.prog 21 #[.agg #[.int .i64 t, .int .i64 v, .slice a xs.length ca], .string (strOf l0)] w (ArR (arS t v xs l0).1 (arS t v xs l0).2.1 (arS t v xs l0).2.2 (arC t v xs l0) w) := by
  have SX := Lib.hid hs
  clear hs
  have hss : (strOf l0).size ≤ 1048576 := h0
  cases hl : longP (strOf l0).size
  case true =>
    have e1 : arS t v xs l0 = (0, 0, []) := by simp [arS, hl]
    have e2 : arC t v xs l0 = 2 := by simp [arC, hl]
    have HL := Lib.hid hl
    have hl2 : (65536 : Int) < ((strOf l0).size : Int) := by simpa [longP] using hl
    rw [e1, e2]
    clear e1 e2 hl
    generalize strOf l0 = S0 at *
    go_enter Try.func21, Try.ntmps21
    go_wp2_with fail
    refine Calls.mono (isLong1_c _ (S0.size) _ _ ?_ ?_) ?_
    · simp
    · simp [go_sem]
    rw [HL.out]
    rintro e w1 ⟨rfl, rfl⟩
    go_wp2_with fail
    refine bodyPost_ret (v := .tuple #[.agg #[.int .i64 0, .int .i64 0, .slice none 0 0], .int .i64 2]) (by simp [results, Try.results21, go_sem]) rfl ?_
    exact ArR.zero 2 (by repeat (first | exact Below.refl _ _ | (refine Below.setCell ?_ (by (try simp) <;> (try omega)) _) | (refine Below.alloc ?_ (by (try simp) <;> (try omega)) _)))
  case false =>
    have hl2 : ((strOf l0).size : Int) ≤ 65536 := by simpa [longP] using hl
    have h65 : l0.length ≤ 65536 := by
      have h1 : (strOf l0).size = l0.length := rfl
      omega
    have HL := Lib.hid hl
    cases h1 : stOK t v xs
    case false =>
      have e1 : arS t v xs l0 = (0, 0, []) := by simp [arS, hl, h1]
      have e2 : arC t v xs l0 = 1 := by simp [arC, hl, h1]
      have H1 := Lib.hid h1
      rw [e1, e2]
      clear e1 e2 hl h1
      go_enter Try.func21, Try.ntmps21
      go_wp2_with fail
      refine Calls.mono (isLong1_c _ ((strOf l0).size) _ _ ?_ ?_) ?_
      · simp
      · simp [go_sem]
      rw [HL.out]
      rintro e w1 ⟨rfl, rfl⟩
      go_wp2_with fail
      refine (isState_c a ca xs t v _ (((ha.alloc _).alloc _).alloc _) lx SX.out).mono ?_
      rw [H1.out]
      rintro e w1 ⟨rfl, hb1⟩
      have hz1 := hb1.size
      simp only [World.size_alloc] at hz1
      have HB1 : Hid (Below w.heap.size w w1) := (by repeat (first | exact Below.refl _ _ | (refine Below.alloc ?_ (by (try simp) <;> (try omega)) _) | (refine Below.setCell ?_ (by (try simp) <;> (try omega)) _) | (refine Below.drew ?_) | (refine Below.trans ?_ (Below.mono (by assumption) (by (try simp) <;> (try omega))))))
      have HA1 := Lib.hid (ha.keep HB1.out)
      have q1_0 : w1.cell? ⟨w.heap.size, 0, none⟩ = some (.int .i64 t) := by
        rw [hb1.cell (p := ⟨w.heap.size, 0, none⟩) (show w.heap.size < _ by (try simp) <;> (try omega))]
        first | assumption | (simp [go_sem, *])
      have q1_1 : w1.cell? ⟨w.heap.size, 1, none⟩ = some (.int .i64 v) := by
        rw [hb1.cell (p := ⟨w.heap.size, 1, none⟩) (show w.heap.size < _ by (try simp) <;> (try omega))]
        first | assumption | (simp [go_sem, *])
      have q1_2 : w1.cell? ⟨w.heap.size, 2, none⟩ = some (.slice a xs.length ca) := by
        rw [hb1.cell (p := ⟨w.heap.size, 2, none⟩) (show w.heap.size < _ by (try simp) <;> (try omega))]
        first | assumption | (simp [go_sem, *])
      have ql1 : w.heap.size < w1.heap.size := by omega
      have r1_0 : w1.cell? ⟨w.heap.size + 1, 0, none⟩ = some (.int .i64 0) := by
        rw [hb1.cell (p := ⟨w.heap.size + 1, 0, none⟩) (show w.heap.size + 1 < _ by (try simp) <;> (try omega))]
        first | assumption | (simp [go_sem, *])
      have r1_1 : w1.cell? ⟨w.heap.size + 1, 1, none⟩ = some (.int .i64 0) := by
        rw [hb1.cell (p := ⟨w.heap.size + 1, 1, none⟩) (show w.heap.size + 1 < _ by (try simp) <;> (try omega))]
        first | assumption | (simp [go_sem, *])
      have r1_2 : w1.cell? ⟨w.heap.size + 1, 2, none⟩ = some (.slice none 0 0) := by
        rw [hb1.cell (p := ⟨w.heap.size + 1, 2, none⟩) (show w.heap.size + 1 < _ by (try simp) <;> (try omega))]
        first | assumption | (simp [go_sem, *])
      have rf1 : ∀ o, w1.frozen? ⟨w.heap.size + 1, o, none⟩ = false := fun o => by
        rw [hb1.frozen (p := ⟨w.heap.size + 1, o, none⟩) (show w.heap.size + 1 < _ by (try simp) <;> (try omega))]
        simp [go_sem]
      have rl1 : w.heap.size + 1 < w1.heap.size := by omega
      clear hb1
      go_wp2_with fail
      refine bodyPost_ret (v := .tuple #[.agg #[.int .i64 0, .int .i64 0, .slice none 0 0], .int .i64 1]) (by simp [results, Try.results21, go_sem, r1_0, r1_1, r1_2]) rfl ?_
      exact ArR.zero 1 (((HB1.out.setCell (by simp) _).setCell (by simp) _).setCell (by simp) _)
    case true =>
      have G1 := stOK_facts h1
      have p5 := G1.2.2.2.2.1
      have P6 : Hid (∀ e ∈ xs, e.2.size ≤ 65536) := Lib.hid fun e he => by have := G1.2.2.2.2.2 e he; omega
      have H1 := Lib.hid h1
      have e1 : arS t v xs l0 = (match apV t v xs (rdAll l0) with | some x => x | none => (t, v, xs)) := by simp [arS, hl, h1]
      have e2 : arC t v xs l0 = (match apV t v xs (rdAll l0) with | some _ => 0 | none => 3) := by simp [arC, hl, h1]
      rw [e1, e2]
      clear e1 e2 hl h1 G1
      cases hap : apV t v xs (rdAll l0)
      case none =>
        go_enter Try.func21, Try.ntmps21
        go_wp2_with fail
        refine Calls.mono (isLong1_c _ ((strOf l0).size) _ _ ?_ ?_) ?_
        · simp
        · simp [go_sem]
        rw [HL.out]
        rintro e w1 ⟨rfl, rfl⟩
        go_wp2_with fail
        refine (isState_c a ca xs t v _ (((ha.alloc _).alloc _).alloc _) lx SX.out).mono ?_
        rw [H1.out]
        rintro e w1 ⟨rfl, hb1⟩
        have hz1 := hb1.size
        simp only [World.size_alloc] at hz1
        have HB1 : Hid (Below w.heap.size w w1) := (by repeat (first | exact Below.refl _ _ | (refine Below.alloc ?_ (by (try simp) <;> (try omega)) _) | (refine Below.setCell ?_ (by (try simp) <;> (try omega)) _) | (refine Below.drew ?_) | (refine Below.trans ?_ (Below.mono (by assumption) (by (try simp) <;> (try omega))))))
        have HA1 := Lib.hid (ha.keep HB1.out)
        have q1_0 : w1.cell? ⟨w.heap.size, 0, none⟩ = some (.int .i64 t) := by
          rw [hb1.cell (p := ⟨w.heap.size, 0, none⟩) (show w.heap.size < _ by (try simp) <;> (try omega))]
          first | assumption | (simp [go_sem, *])
        have q1_1 : w1.cell? ⟨w.heap.size, 1, none⟩ = some (.int .i64 v) := by
          rw [hb1.cell (p := ⟨w.heap.size, 1, none⟩) (show w.heap.size < _ by (try simp) <;> (try omega))]
          first | assumption | (simp [go_sem, *])
        have q1_2 : w1.cell? ⟨w.heap.size, 2, none⟩ = some (.slice a xs.length ca) := by
          rw [hb1.cell (p := ⟨w.heap.size, 2, none⟩) (show w.heap.size < _ by (try simp) <;> (try omega))]
          first | assumption | (simp [go_sem, *])
        have ql1 : w.heap.size < w1.heap.size := by omega
        have r1_0 : w1.cell? ⟨w.heap.size + 1, 0, none⟩ = some (.int .i64 0) := by
          rw [hb1.cell (p := ⟨w.heap.size + 1, 0, none⟩) (show w.heap.size + 1 < _ by (try simp) <;> (try omega))]
          first | assumption | (simp [go_sem, *])
        have r1_1 : w1.cell? ⟨w.heap.size + 1, 1, none⟩ = some (.int .i64 0) := by
          rw [hb1.cell (p := ⟨w.heap.size + 1, 1, none⟩) (show w.heap.size + 1 < _ by (try simp) <;> (try omega))]
          first | assumption | (simp [go_sem, *])
        have r1_2 : w1.cell? ⟨w.heap.size + 1, 2, none⟩ = some (.slice none 0 0) := by
          rw [hb1.cell (p := ⟨w.heap.size + 1, 2, none⟩) (show w.heap.size + 1 < _ by (try simp) <;> (try omega))]
          first | assumption | (simp [go_sem, *])
        have rf1 : ∀ o, w1.frozen? ⟨w.heap.size + 1, o, none⟩ = false := fun o => by
          rw [hb1.frozen (p := ⟨w.heap.size + 1, o, none⟩) (show w.heap.size + 1 < _ by (try simp) <;> (try omega))]
          simp [go_sem]
        have rl1 : w.heap.size + 1 < w1.heap.size := by omega
        clear hb1
        have HAP := Lib.hid hap
        clear hap
        go_wp2_with fail
        refine (implApplied_c a ca xs t v l0 _ HA1.out p5 P6.out h65).mono ?_
        rw [HAP.out]
        rintro e w2 ⟨t1, v1, a1, c1, L1, rfl, hx2, hb2⟩
        clear hx2
        have hz2 := hb2.size
        have HB2 : Hid (Below w.heap.size w w2) := HB1.out.trans (hb2.mono (by omega))
        have HA2 := Lib.hid (HA1.out.keep hb2)
        have q2_0 : w2.cell? ⟨w.heap.size, 0, none⟩ = some (.int .i64 t) := by
          rw [hb2.cell (p := ⟨w.heap.size, 0, none⟩) (show w.heap.size < _ by (try simp) <;> (try omega))]
          first | assumption | (simp [go_sem, *])
        have q2_1 : w2.cell? ⟨w.heap.size, 1, none⟩ = some (.int .i64 v) := by
          rw [hb2.cell (p := ⟨w.heap.size, 1, none⟩) (show w.heap.size < _ by (try simp) <;> (try omega))]
          first | assumption | (simp [go_sem, *])
        have q2_2 : w2.cell? ⟨w.heap.size, 2, none⟩ = some (.slice a xs.length ca) := by
          rw [hb2.cell (p := ⟨w.heap.size, 2, none⟩) (show w.heap.size < _ by (try simp) <;> (try omega))]
          first | assumption | (simp [go_sem, *])
        have ql2 : w.heap.size < w2.heap.size := by omega
        have r2_0 : w2.cell? ⟨w.heap.size + 1, 0, none⟩ = some (.int .i64 0) := by
          rw [hb2.cell (p := ⟨w.heap.size + 1, 0, none⟩) (show w.heap.size + 1 < _ by (try simp) <;> (try omega))]
          first | assumption | (simp [go_sem, *])
        have r2_1 : w2.cell? ⟨w.heap.size + 1, 1, none⟩ = some (.int .i64 0) := by
          rw [hb2.cell (p := ⟨w.heap.size + 1, 1, none⟩) (show w.heap.size + 1 < _ by (try simp) <;> (try omega))]
          first | assumption | (simp [go_sem, *])
        have r2_2 : w2.cell? ⟨w.heap.size + 1, 2, none⟩ = some (.slice none 0 0) := by
          rw [hb2.cell (p := ⟨w.heap.size + 1, 2, none⟩) (show w.heap.size + 1 < _ by (try simp) <;> (try omega))]
          first | assumption | (simp [go_sem, *])
        have rf2 : ∀ o, w2.frozen? ⟨w.heap.size + 1, o, none⟩ = false := fun o => by
          rw [hb2.frozen (p := ⟨w.heap.size + 1, o, none⟩) (show w.heap.size + 1 < _ by (try simp) <;> (try omega))]
          first | exact rf1 o | (simp [go_sem]; done) | (rw [((Below.refl _ _).alloc (Nat.le_refl _) _ : Below _ _ _).frozen (p := ⟨w.heap.size + 1, o, none⟩) (show w.heap.size + 1 < _ by omega)]; exact rf1 o)
        have rl2 : w.heap.size + 1 < w2.heap.size := by omega
        clear hb2 HB1 HA1 q1_0 q1_1 q1_2 r1_0 r1_1 r1_2 rf1
        have HA2' := Lib.hid (HA2.out.alloc (.cells #[.int .i64 t1, .int .i64 v1, .slice a1 L1.length c1] 31))
        go_wp2_with fail
        refine (cloneState_c a ca xs t v _ HA2'.out lx).mono ?_
        rintro e w3 ⟨a3, c3, rfl, hf3, hb3⟩
        have hz3 := hb3.size
        simp only [World.size_alloc] at hz3
        have HB3 : Hid (Below w.heap.size w w3) := (HB2.out.alloc (by omega) (.cells #[.int .i64 t1, .int .i64 v1, .slice a1 L1.length c1] 31)).trans (hb3.mono (by simp; omega))
        have r3_0 : w3.cell? ⟨w.heap.size + 1, 0, none⟩ = some (.int .i64 0) := by
          rw [hb3.cell (p := ⟨w.heap.size + 1, 0, none⟩) (show w.heap.size + 1 < _ by (try simp) <;> (try omega))]
          first | assumption | (simp [go_sem, *])
        have r3_1 : w3.cell? ⟨w.heap.size + 1, 1, none⟩ = some (.int .i64 0) := by
          rw [hb3.cell (p := ⟨w.heap.size + 1, 1, none⟩) (show w.heap.size + 1 < _ by (try simp) <;> (try omega))]
          first | assumption | (simp [go_sem, *])
        have r3_2 : w3.cell? ⟨w.heap.size + 1, 2, none⟩ = some (.slice none 0 0) := by
          rw [hb3.cell (p := ⟨w.heap.size + 1, 2, none⟩) (show w.heap.size + 1 < _ by (try simp) <;> (try omega))]
          first | assumption | (simp [go_sem, *])
        have rf3 : ∀ o, w3.frozen? ⟨w.heap.size + 1, o, none⟩ = false := fun o => by
          rw [hb3.frozen (p := ⟨w.heap.size + 1, o, none⟩) (show w.heap.size + 1 < _ by (try simp) <;> (try omega))]
          first | exact rf2 o | (simp [go_sem]; done) | (rw [((Below.refl _ _).alloc (Nat.le_refl _) _ : Below _ _ _).frozen (p := ⟨w.heap.size + 1, o, none⟩) (show w.heap.size + 1 < _ by omega)]; exact rf2 o)
        have rl3 : w.heap.size + 1 < w3.heap.size := by omega
        have hf9 : Fresh entE 109 2 (w.heap.size + 2) (.slice a3 xs.length c3) xs w3 := hf3.mono (by simp; omega)
        go_wp2_with fail
        refine bodyPost_ret (v := .tuple #[.agg #[.int .i64 t, .int .i64 v, .slice a3 xs.length c3], .int .i64 3]) (by simp [results, Try.results21, go_sem, r3_0, r3_1, r3_2, rf3, rl3]) rfl ?_
        refine ⟨_, _, rfl, ?_, ?_⟩
        · refine Fresh.mono (B := w.heap.size + 2) ?_ (by omega)
          repeat (first | exact hf9 | (refine Fresh.setCell ?_ (by show _ < _; (try simp) <;> (try omega)) _) | (refine Fresh.alloc ?_ _))
        · repeat (first | exact HB3.out | (refine Below.setCell ?_ (by (try simp) <;> (try omega)) _) | (refine Below.alloc ?_ (by (try simp) <;> (try omega)) _))
      case some x =>
        obtain ⟨t9, v9, L9⟩ := x
        have hok := stOK_facts (apV_ok hap)
        have hl1 : L9.length ≤ 60 := hok.2.2.2.2.1
        clear hok
        go_enter Try.func21, Try.ntmps21
        go_wp2_with fail
        refine Calls.mono (isLong1_c _ ((strOf l0).size) _ _ ?_ ?_) ?_
        · simp
        · simp [go_sem]
        rw [HL.out]
        rintro e w1 ⟨rfl, rfl⟩
        go_wp2_with fail
        refine (isState_c a ca xs t v _ (((ha.alloc _).alloc _).alloc _) lx SX.out).mono ?_
        rw [H1.out]
        rintro e w1 ⟨rfl, hb1⟩
        have hz1 := hb1.size
        simp only [World.size_alloc] at hz1
        have HB1 : Hid (Below w.heap.size w w1) := (by repeat (first | exact Below.refl _ _ | (refine Below.alloc ?_ (by (try simp) <;> (try omega)) _) | (refine Below.setCell ?_ (by (try simp) <;> (try omega)) _) | (refine Below.drew ?_) | (refine Below.trans ?_ (Below.mono (by assumption) (by (try simp) <;> (try omega))))))
        have HA1 := Lib.hid (ha.keep HB1.out)
        have q1_0 : w1.cell? ⟨w.heap.size, 0, none⟩ = some (.int .i64 t) := by
          rw [hb1.cell (p := ⟨w.heap.size, 0, none⟩) (show w.heap.size < _ by (try simp) <;> (try omega))]
          first | assumption | (simp [go_sem, *])
        have q1_1 : w1.cell? ⟨w.heap.size, 1, none⟩ = some (.int .i64 v) := by
          rw [hb1.cell (p := ⟨w.heap.size, 1, none⟩) (show w.heap.size < _ by (try simp) <;> (try omega))]
          first | assumption | (simp [go_sem, *])
        have q1_2 : w1.cell? ⟨w.heap.size, 2, none⟩ = some (.slice a xs.length ca) := by
          rw [hb1.cell (p := ⟨w.heap.size, 2, none⟩) (show w.heap.size < _ by (try simp) <;> (try omega))]
          first | assumption | (simp [go_sem, *])
        have ql1 : w.heap.size < w1.heap.size := by omega
        have r1_0 : w1.cell? ⟨w.heap.size + 1, 0, none⟩ = some (.int .i64 0) := by
          rw [hb1.cell (p := ⟨w.heap.size + 1, 0, none⟩) (show w.heap.size + 1 < _ by (try simp) <;> (try omega))]
          first | assumption | (simp [go_sem, *])
        have r1_1 : w1.cell? ⟨w.heap.size + 1, 1, none⟩ = some (.int .i64 0) := by
          rw [hb1.cell (p := ⟨w.heap.size + 1, 1, none⟩) (show w.heap.size + 1 < _ by (try simp) <;> (try omega))]
          first | assumption | (simp [go_sem, *])
        have r1_2 : w1.cell? ⟨w.heap.size + 1, 2, none⟩ = some (.slice none 0 0) := by
          rw [hb1.cell (p := ⟨w.heap.size + 1, 2, none⟩) (show w.heap.size + 1 < _ by (try simp) <;> (try omega))]
          first | assumption | (simp [go_sem, *])
        have rf1 : ∀ o, w1.frozen? ⟨w.heap.size + 1, o, none⟩ = false := fun o => by
          rw [hb1.frozen (p := ⟨w.heap.size + 1, o, none⟩) (show w.heap.size + 1 < _ by (try simp) <;> (try omega))]
          simp [go_sem]
        have rl1 : w.heap.size + 1 < w1.heap.size := by omega
        clear hb1
        have HAP := Lib.hid hap
        clear hap
        go_wp2_with fail
        refine (implApplied_c a ca xs t v l0 _ HA1.out p5 P6.out h65).mono ?_
        rw [HAP.out]
        rintro e w2 ⟨t1, v1, a1, c1, L1, rfl, hx2, hb2⟩
        obtain ⟨hx3, hf2⟩ := hx2 _ rfl
        cases hx3
        have hz2 := hb2.size
        have HB2 : Hid (Below w.heap.size w w2) := HB1.out.trans (hb2.mono (by omega))
        have HA2 := Lib.hid (HA1.out.keep hb2)
        have q2_0 : w2.cell? ⟨w.heap.size, 0, none⟩ = some (.int .i64 t) := by
          rw [hb2.cell (p := ⟨w.heap.size, 0, none⟩) (show w.heap.size < _ by (try simp) <;> (try omega))]
          first | assumption | (simp [go_sem, *])
        have q2_1 : w2.cell? ⟨w.heap.size, 1, none⟩ = some (.int .i64 v) := by
          rw [hb2.cell (p := ⟨w.heap.size, 1, none⟩) (show w.heap.size < _ by (try simp) <;> (try omega))]
          first | assumption | (simp [go_sem, *])
        have q2_2 : w2.cell? ⟨w.heap.size, 2, none⟩ = some (.slice a xs.length ca) := by
          rw [hb2.cell (p := ⟨w.heap.size, 2, none⟩) (show w.heap.size < _ by (try simp) <;> (try omega))]
          first | assumption | (simp [go_sem, *])
        have ql2 : w.heap.size < w2.heap.size := by omega
        have r2_0 : w2.cell? ⟨w.heap.size + 1, 0, none⟩ = some (.int .i64 0) := by
          rw [hb2.cell (p := ⟨w.heap.size + 1, 0, none⟩) (show w.heap.size + 1 < _ by (try simp) <;> (try omega))]
          first | assumption | (simp [go_sem, *])
        have r2_1 : w2.cell? ⟨w.heap.size + 1, 1, none⟩ = some (.int .i64 0) := by
          rw [hb2.cell (p := ⟨w.heap.size + 1, 1, none⟩) (show w.heap.size + 1 < _ by (try simp) <;> (try omega))]
          first | assumption | (simp [go_sem, *])
        have r2_2 : w2.cell? ⟨w.heap.size + 1, 2, none⟩ = some (.slice none 0 0) := by
          rw [hb2.cell (p := ⟨w.heap.size + 1, 2, none⟩) (show w.heap.size + 1 < _ by (try simp) <;> (try omega))]
          first | assumption | (simp [go_sem, *])
        have rf2 : ∀ o, w2.frozen? ⟨w.heap.size + 1, o, none⟩ = false := fun o => by
          rw [hb2.frozen (p := ⟨w.heap.size + 1, o, none⟩) (show w.heap.size + 1 < _ by (try simp) <;> (try omega))]
          first | exact rf1 o | (simp [go_sem]; done) | (rw [((Below.refl _ _).alloc (Nat.le_refl _) _ : Below _ _ _).frozen (p := ⟨w.heap.size + 1, o, none⟩) (show w.heap.size + 1 < _ by omega)]; exact rf1 o)
        have rl2 : w.heap.size + 1 < w2.heap.size := by omega
        clear hb2 HB1 HA1 q1_0 q1_1 q1_2 r1_0 r1_1 r1_2 rf1
        have hf9 : Fresh entE 109 2 (w.heap.size + 2) (.slice a1 L9.length c1) L9 w2 := hf2.mono (by omega)
        go_wp2_with fail
        refine bodyPost_ret (v := .tuple #[.agg #[.int .i64 t9, .int .i64 v9, .slice a1 L9.length c1], .int .i64 0]) (by simp [results, Try.results21, go_sem, r2_0, r2_1, r2_2, rf2, rl2]) rfl ?_
        refine ⟨_, _, rfl, ?_, ?_⟩
        · refine Fresh.mono (B := w.heap.size + 2) ?_ (by omega)
          repeat (first | exact hf9 | (refine Fresh.setCell ?_ (by show _ < _; (try simp) <;> (try omega)) _) | (refine Fresh.alloc ?_ _))
        · repeat (first | exact HB2.out | (refine Below.setCell ?_ (by (try simp) <;> (try omega)) _) | (refine Below.alloc ?_ (by (try simp) <;> (try omega)) _))
set_option maxRecDepth 100000 in
set_option maxHeartbeats 8000000 in
theorem specARec_c (a : Option Addr) (ca : Nat) (xs : List Ent) (t v : Int) (l0 : List UInt8) (w : World) (ha : Sl entE 2 w a xs) (lx : xs.length ≤ 1048576) (hs : ∀ e ∈ xs, e.2.size ≤ 1048576) (h0 : l0.length ≤ 1048576) :
    Calls Try.prog 20 #[.agg #[.int .i64 t, .int .i64 v, .slice a xs.length ca], .string (strOf l0)] w (ArR (arS t v xs l0).1 (arS t v xs l0).2.1 (arS t v xs l0).2.2 (arC t v xs l0) w) := by
  have SX := Lib.hid hs
  clear hs
  have hss : (strOf l0).size ≤ 1048576 := h0
  cases hl : longP (strOf l0).size
  case true =>
    have e1 : arS t v xs l0 = (0, 0, []) := by simp [arS, hl]
    have e2 : arC t v xs l0 = 2 := by simp [arC, hl]
    have HL := Lib.hid hl
    have hl2 : (65536 : Int) < ((strOf l0).size : Int) := by simpa [longP] using hl
    rw [e1, e2]
    clear e1 e2 hl
    generalize strOf l0 = S0 at *
    go_enter Try.func20, Try.ntmps20
    go_wp2_with fail
    refine bodyPost_ret (v := .tuple #[.agg #[.int .i64 0, .int .i64 0, .slice none 0 0], .int .i64 2]) (by simp [results, Try.results20, go_sem]) rfl ?_
    exact ArR.zero 2 (by repeat (first | exact Below.refl _ _ | (refine Below.setCell ?_ (by (try simp) <;> (try omega)) _) | (refine Below.alloc ?_ (by (try simp) <;> (try omega)) _)))
  case false =>
    have hl2 : ((strOf l0).size : Int) ≤ 65536 := by simpa [longP] using hl
    have h65 : l0.length ≤ 65536 := by
      have h1 : (strOf l0).size = l0.length := rfl
      omega
    have HL := Lib.hid hl
    cases h1 : stOK t v xs
    case false =>
      have e1 : arS t v xs l0 = (0, 0, []) := by simp [arS, hl, h1]
      have e2 : arC t v xs l0 = 1 := by simp [arC, hl, h1]
      have H1 := Lib.hid h1
      rw [e1, e2]
      clear e1 e2 hl h1
      go_enter Try.func20, Try.ntmps20
      go_wp2_with fail
      refine (specStateOK_c a ca xs t v _ ((ha.alloc _).alloc _) lx SX.out).mono ?_
      rw [H1.out]
      rintro e w1 ⟨rfl, hb1⟩
      have hz1 := hb1.size
      simp only [World.size_alloc] at hz1
      have HB1 : Hid (Below w.heap.size w w1) := (by repeat (first | exact Below.refl _ _ | (refine Below.alloc ?_ (by (try simp) <;> (try omega)) _) | (refine Below.setCell ?_ (by (try simp) <;> (try omega)) _) | (refine Below.drew ?_) | (refine Below.trans ?_ (Below.mono (by assumption) (by (try simp) <;> (try omega))))))
      have HA1 := Lib.hid (ha.keep HB1.out)
      have q1_0 : w1.cell? ⟨w.heap.size, 0, none⟩ = some (.int .i64 t) := by
        rw [hb1.cell (p := ⟨w.heap.size, 0, none⟩) (show w.heap.size < _ by (try simp) <;> (try omega))]
        first | assumption | (simp [go_sem, *])
      have q1_1 : w1.cell? ⟨w.heap.size, 1, none⟩ = some (.int .i64 v) := by
        rw [hb1.cell (p := ⟨w.heap.size, 1, none⟩) (show w.heap.size < _ by (try simp) <;> (try omega))]
        first | assumption | (simp [go_sem, *])
      have q1_2 : w1.cell? ⟨w.heap.size, 2, none⟩ = some (.slice a xs.length ca) := by
        rw [hb1.cell (p := ⟨w.heap.size, 2, none⟩) (show w.heap.size < _ by (try simp) <;> (try omega))]
        first | assumption | (simp [go_sem, *])
      have ql1 : w.heap.size < w1.heap.size := by omega
      have r1_0 : w1.cell? ⟨w.heap.size + 1, 0, none⟩ = some (.int .i64 0) := by
        rw [hb1.cell (p := ⟨w.heap.size + 1, 0, none⟩) (show w.heap.size + 1 < _ by (try simp) <;> (try omega))]
        first | assumption | (simp [go_sem, *])
      have r1_1 : w1.cell? ⟨w.heap.size + 1, 1, none⟩ = some (.int .i64 0) := by
        rw [hb1.cell (p := ⟨w.heap.size + 1, 1, none⟩) (show w.heap.size + 1 < _ by (try simp) <;> (try omega))]
        first | assumption | (simp [go_sem, *])
      have r1_2 : w1.cell? ⟨w.heap.size + 1, 2, none⟩ = some (.slice none 0 0) := by
        rw [hb1.cell (p := ⟨w.heap.size + 1, 2, none⟩) (show w.heap.size + 1 < _ by (try simp) <;> (try omega))]
        first | assumption | (simp [go_sem, *])
      have rf1 : ∀ o, w1.frozen? ⟨w.heap.size + 1, o, none⟩ = false := fun o => by
        rw [hb1.frozen (p := ⟨w.heap.size + 1, o, none⟩) (show w.heap.size + 1 < _ by (try simp) <;> (try omega))]
        simp [go_sem]
      have rl1 : w.heap.size + 1 < w1.heap.size := by omega
      clear hb1
      go_wp2_with fail
      refine bodyPost_ret (v := .tuple #[.agg #[.int .i64 0, .int .i64 0, .slice none 0 0], .int .i64 1]) (by simp [results, Try.results20, go_sem, r1_0, r1_1, r1_2]) rfl ?_
      exact ArR.zero 1 (((HB1.out.setCell (by simp) _).setCell (by simp) _).setCell (by simp) _)
    case true =>
      have G1 := stOK_facts h1
      have p5 := G1.2.2.2.2.1
      have P6 : Hid (∀ e ∈ xs, e.2.size ≤ 65536) := Lib.hid fun e he => by have := G1.2.2.2.2.2 e he; omega
      have H1 := Lib.hid h1
      have e1 : arS t v xs l0 = (match apV t v xs (rdAll l0) with | some x => x | none => (t, v, xs)) := by simp [arS, hl, h1]
      have e2 : arC t v xs l0 = (match apV t v xs (rdAll l0) with | some _ => 0 | none => 3) := by simp [arC, hl, h1]
      rw [e1, e2]
      clear e1 e2 hl h1 G1
      cases hap : apV t v xs (rdAll l0)
      case none =>
        go_enter Try.func20, Try.ntmps20
        go_wp2_with fail
        refine (specStateOK_c a ca xs t v _ ((ha.alloc _).alloc _) lx SX.out).mono ?_
        rw [H1.out]
        rintro e w1 ⟨rfl, hb1⟩
        have hz1 := hb1.size
        simp only [World.size_alloc] at hz1
        have HB1 : Hid (Below w.heap.size w w1) := (by repeat (first | exact Below.refl _ _ | (refine Below.alloc ?_ (by (try simp) <;> (try omega)) _) | (refine Below.setCell ?_ (by (try simp) <;> (try omega)) _) | (refine Below.drew ?_) | (refine Below.trans ?_ (Below.mono (by assumption) (by (try simp) <;> (try omega))))))
        have HA1 := Lib.hid (ha.keep HB1.out)
        have q1_0 : w1.cell? ⟨w.heap.size, 0, none⟩ = some (.int .i64 t) := by
          rw [hb1.cell (p := ⟨w.heap.size, 0, none⟩) (show w.heap.size < _ by (try simp) <;> (try omega))]
          first | assumption | (simp [go_sem, *])
        have q1_1 : w1.cell? ⟨w.heap.size, 1, none⟩ = some (.int .i64 v) := by
          rw [hb1.cell (p := ⟨w.heap.size, 1, none⟩) (show w.heap.size < _ by (try simp) <;> (try omega))]
          first | assumption | (simp [go_sem, *])
        have q1_2 : w1.cell? ⟨w.heap.size, 2, none⟩ = some (.slice a xs.length ca) := by
          rw [hb1.cell (p := ⟨w.heap.size, 2, none⟩) (show w.heap.size < _ by (try simp) <;> (try omega))]
          first | assumption | (simp [go_sem, *])
        have ql1 : w.heap.size < w1.heap.size := by omega
        have r1_0 : w1.cell? ⟨w.heap.size + 1, 0, none⟩ = some (.int .i64 0) := by
          rw [hb1.cell (p := ⟨w.heap.size + 1, 0, none⟩) (show w.heap.size + 1 < _ by (try simp) <;> (try omega))]
          first | assumption | (simp [go_sem, *])
        have r1_1 : w1.cell? ⟨w.heap.size + 1, 1, none⟩ = some (.int .i64 0) := by
          rw [hb1.cell (p := ⟨w.heap.size + 1, 1, none⟩) (show w.heap.size + 1 < _ by (try simp) <;> (try omega))]
          first | assumption | (simp [go_sem, *])
        have r1_2 : w1.cell? ⟨w.heap.size + 1, 2, none⟩ = some (.slice none 0 0) := by
          rw [hb1.cell (p := ⟨w.heap.size + 1, 2, none⟩) (show w.heap.size + 1 < _ by (try simp) <;> (try omega))]
          first | assumption | (simp [go_sem, *])
        have rf1 : ∀ o, w1.frozen? ⟨w.heap.size + 1, o, none⟩ = false := fun o => by
          rw [hb1.frozen (p := ⟨w.heap.size + 1, o, none⟩) (show w.heap.size + 1 < _ by (try simp) <;> (try omega))]
          simp [go_sem]
        have rl1 : w.heap.size + 1 < w1.heap.size := by omega
        clear hb1
        have HAP := Lib.hid hap
        clear hap
        go_wp2_with fail
        refine (specApply_c a ca xs t v l0 _ HA1.out p5 P6.out h65).mono ?_
        rw [HAP.out]
        rintro e w2 ⟨t1, v1, a1, c1, L1, rfl, hx2, hb2⟩
        clear hx2
        have hz2 := hb2.size
        have HB2 : Hid (Below w.heap.size w w2) := HB1.out.trans (hb2.mono (by omega))
        have HA2 := Lib.hid (HA1.out.keep hb2)
        have q2_0 : w2.cell? ⟨w.heap.size, 0, none⟩ = some (.int .i64 t) := by
          rw [hb2.cell (p := ⟨w.heap.size, 0, none⟩) (show w.heap.size < _ by (try simp) <;> (try omega))]
          first | assumption | (simp [go_sem, *])
        have q2_1 : w2.cell? ⟨w.heap.size, 1, none⟩ = some (.int .i64 v) := by
          rw [hb2.cell (p := ⟨w.heap.size, 1, none⟩) (show w.heap.size < _ by (try simp) <;> (try omega))]
          first | assumption | (simp [go_sem, *])
        have q2_2 : w2.cell? ⟨w.heap.size, 2, none⟩ = some (.slice a xs.length ca) := by
          rw [hb2.cell (p := ⟨w.heap.size, 2, none⟩) (show w.heap.size < _ by (try simp) <;> (try omega))]
          first | assumption | (simp [go_sem, *])
        have ql2 : w.heap.size < w2.heap.size := by omega
        have r2_0 : w2.cell? ⟨w.heap.size + 1, 0, none⟩ = some (.int .i64 0) := by
          rw [hb2.cell (p := ⟨w.heap.size + 1, 0, none⟩) (show w.heap.size + 1 < _ by (try simp) <;> (try omega))]
          first | assumption | (simp [go_sem, *])
        have r2_1 : w2.cell? ⟨w.heap.size + 1, 1, none⟩ = some (.int .i64 0) := by
          rw [hb2.cell (p := ⟨w.heap.size + 1, 1, none⟩) (show w.heap.size + 1 < _ by (try simp) <;> (try omega))]
          first | assumption | (simp [go_sem, *])
        have r2_2 : w2.cell? ⟨w.heap.size + 1, 2, none⟩ = some (.slice none 0 0) := by
          rw [hb2.cell (p := ⟨w.heap.size + 1, 2, none⟩) (show w.heap.size + 1 < _ by (try simp) <;> (try omega))]
          first | assumption | (simp [go_sem, *])
        have rf2 : ∀ o, w2.frozen? ⟨w.heap.size + 1, o, none⟩ = false := fun o => by
          rw [hb2.frozen (p := ⟨w.heap.size + 1, o, none⟩) (show w.heap.size + 1 < _ by (try simp) <;> (try omega))]
          first | exact rf1 o | (simp [go_sem]; done) | (rw [((Below.refl _ _).alloc (Nat.le_refl _) _ : Below _ _ _).frozen (p := ⟨w.heap.size + 1, o, none⟩) (show w.heap.size + 1 < _ by omega)]; exact rf1 o)
        have rl2 : w.heap.size + 1 < w2.heap.size := by omega
        clear hb2 HB1 HA1 q1_0 q1_1 q1_2 r1_0 r1_1 r1_2 rf1
        have HA2' := Lib.hid (HA2.out.alloc (.cells #[.int .i64 t1, .int .i64 v1, .slice a1 L1.length c1] 31))
        go_wp2_with fail
        refine (l07Own_c a ca xs t v _ HA2'.out lx).mono ?_
        rintro e w3 ⟨a3, c3, rfl, hf3, hb3⟩
        have hz3 := hb3.size
        simp only [World.size_alloc] at hz3
        have HB3 : Hid (Below w.heap.size w w3) := (HB2.out.alloc (by omega) (.cells #[.int .i64 t1, .int .i64 v1, .slice a1 L1.length c1] 31)).trans (hb3.mono (by simp; omega))
        have r3_0 : w3.cell? ⟨w.heap.size + 1, 0, none⟩ = some (.int .i64 0) := by
          rw [hb3.cell (p := ⟨w.heap.size + 1, 0, none⟩) (show w.heap.size + 1 < _ by (try simp) <;> (try omega))]
          first | assumption | (simp [go_sem, *])
        have r3_1 : w3.cell? ⟨w.heap.size + 1, 1, none⟩ = some (.int .i64 0) := by
          rw [hb3.cell (p := ⟨w.heap.size + 1, 1, none⟩) (show w.heap.size + 1 < _ by (try simp) <;> (try omega))]
          first | assumption | (simp [go_sem, *])
        have r3_2 : w3.cell? ⟨w.heap.size + 1, 2, none⟩ = some (.slice none 0 0) := by
          rw [hb3.cell (p := ⟨w.heap.size + 1, 2, none⟩) (show w.heap.size + 1 < _ by (try simp) <;> (try omega))]
          first | assumption | (simp [go_sem, *])
        have rf3 : ∀ o, w3.frozen? ⟨w.heap.size + 1, o, none⟩ = false := fun o => by
          rw [hb3.frozen (p := ⟨w.heap.size + 1, o, none⟩) (show w.heap.size + 1 < _ by (try simp) <;> (try omega))]
          first | exact rf2 o | (simp [go_sem]; done) | (rw [((Below.refl _ _).alloc (Nat.le_refl _) _ : Below _ _ _).frozen (p := ⟨w.heap.size + 1, o, none⟩) (show w.heap.size + 1 < _ by omega)]; exact rf2 o)
        have rl3 : w.heap.size + 1 < w3.heap.size := by omega
        have hf9 : Fresh entE 109 2 (w.heap.size + 2) (.slice a3 xs.length c3) xs w3 := hf3.mono (by simp; omega)
        go_wp2_with fail
        refine bodyPost_ret (v := .tuple #[.agg #[.int .i64 t, .int .i64 v, .slice a3 xs.length c3], .int .i64 3]) (by simp [results, Try.results20, go_sem, r3_0, r3_1, r3_2, rf3, rl3]) rfl ?_
        refine ⟨_, _, rfl, ?_, ?_⟩
        · refine Fresh.mono (B := w.heap.size + 2) ?_ (by omega)
          repeat (first | exact hf9 | (refine Fresh.setCell ?_ (by show _ < _; (try simp) <;> (try omega)) _) | (refine Fresh.alloc ?_ _))
        · repeat (first | exact HB3.out | (refine Below.setCell ?_ (by (try simp) <;> (try omega)) _) | (refine Below.alloc ?_ (by (try simp) <;> (try omega)) _))
      case some x =>
        obtain ⟨t9, v9, L9⟩ := x
        have hok := stOK_facts (apV_ok hap)
        have hl1 : L9.length ≤ 60 := hok.2.2.2.2.1
        clear hok
        go_enter Try.func20, Try.ntmps20
        go_wp2_with fail
        refine (specStateOK_c a ca xs t v _ ((ha.alloc _).alloc _) lx SX.out).mono ?_
        rw [H1.out]
        rintro e w1 ⟨rfl, hb1⟩
        have hz1 := hb1.size
        simp only [World.size_alloc] at hz1
        have HB1 : Hid (Below w.heap.size w w1) := (by repeat (first | exact Below.refl _ _ | (refine Below.alloc ?_ (by (try simp) <;> (try omega)) _) | (refine Below.setCell ?_ (by (try simp) <;> (try omega)) _) | (refine Below.drew ?_) | (refine Below.trans ?_ (Below.mono (by assumption) (by (try simp) <;> (try omega))))))
        have HA1 := Lib.hid (ha.keep HB1.out)
        have q1_0 : w1.cell? ⟨w.heap.size, 0, none⟩ = some (.int .i64 t) := by
          rw [hb1.cell (p := ⟨w.heap.size, 0, none⟩) (show w.heap.size < _ by (try simp) <;> (try omega))]
          first | assumption | (simp [go_sem, *])
        have q1_1 : w1.cell? ⟨w.heap.size, 1, none⟩ = some (.int .i64 v) := by
          rw [hb1.cell (p := ⟨w.heap.size, 1, none⟩) (show w.heap.size < _ by (try simp) <;> (try omega))]
          first | assumption | (simp [go_sem, *])
        have q1_2 : w1.cell? ⟨w.heap.size, 2, none⟩ = some (.slice a xs.length ca) := by
          rw [hb1.cell (p := ⟨w.heap.size, 2, none⟩) (show w.heap.size < _ by (try simp) <;> (try omega))]
          first | assumption | (simp [go_sem, *])
        have ql1 : w.heap.size < w1.heap.size := by omega
        have r1_0 : w1.cell? ⟨w.heap.size + 1, 0, none⟩ = some (.int .i64 0) := by
          rw [hb1.cell (p := ⟨w.heap.size + 1, 0, none⟩) (show w.heap.size + 1 < _ by (try simp) <;> (try omega))]
          first | assumption | (simp [go_sem, *])
        have r1_1 : w1.cell? ⟨w.heap.size + 1, 1, none⟩ = some (.int .i64 0) := by
          rw [hb1.cell (p := ⟨w.heap.size + 1, 1, none⟩) (show w.heap.size + 1 < _ by (try simp) <;> (try omega))]
          first | assumption | (simp [go_sem, *])
        have r1_2 : w1.cell? ⟨w.heap.size + 1, 2, none⟩ = some (.slice none 0 0) := by
          rw [hb1.cell (p := ⟨w.heap.size + 1, 2, none⟩) (show w.heap.size + 1 < _ by (try simp) <;> (try omega))]
          first | assumption | (simp [go_sem, *])
        have rf1 : ∀ o, w1.frozen? ⟨w.heap.size + 1, o, none⟩ = false := fun o => by
          rw [hb1.frozen (p := ⟨w.heap.size + 1, o, none⟩) (show w.heap.size + 1 < _ by (try simp) <;> (try omega))]
          simp [go_sem]
        have rl1 : w.heap.size + 1 < w1.heap.size := by omega
        clear hb1
        have HAP := Lib.hid hap
        clear hap
        go_wp2_with fail
        refine (specApply_c a ca xs t v l0 _ HA1.out p5 P6.out h65).mono ?_
        rw [HAP.out]
        rintro e w2 ⟨t1, v1, a1, c1, L1, rfl, hx2, hb2⟩
        obtain ⟨hx3, hf2⟩ := hx2 _ rfl
        cases hx3
        have hz2 := hb2.size
        have HB2 : Hid (Below w.heap.size w w2) := HB1.out.trans (hb2.mono (by omega))
        have HA2 := Lib.hid (HA1.out.keep hb2)
        have q2_0 : w2.cell? ⟨w.heap.size, 0, none⟩ = some (.int .i64 t) := by
          rw [hb2.cell (p := ⟨w.heap.size, 0, none⟩) (show w.heap.size < _ by (try simp) <;> (try omega))]
          first | assumption | (simp [go_sem, *])
        have q2_1 : w2.cell? ⟨w.heap.size, 1, none⟩ = some (.int .i64 v) := by
          rw [hb2.cell (p := ⟨w.heap.size, 1, none⟩) (show w.heap.size < _ by (try simp) <;> (try omega))]
          first | assumption | (simp [go_sem, *])
        have q2_2 : w2.cell? ⟨w.heap.size, 2, none⟩ = some (.slice a xs.length ca) := by
          rw [hb2.cell (p := ⟨w.heap.size, 2, none⟩) (show w.heap.size < _ by (try simp) <;> (try omega))]
          first | assumption | (simp [go_sem, *])
        have ql2 : w.heap.size < w2.heap.size := by omega
        have r2_0 : w2.cell? ⟨w.heap.size + 1, 0, none⟩ = some (.int .i64 0) := by
          rw [hb2.cell (p := ⟨w.heap.size + 1, 0, none⟩) (show w.heap.size + 1 < _ by (try simp) <;> (try omega))]
          first | assumption | (simp [go_sem, *])
        have r2_1 : w2.cell? ⟨w.heap.size + 1, 1, none⟩ = some (.int .i64 0) := by
          rw [hb2.cell (p := ⟨w.heap.size + 1, 1, none⟩) (show w.heap.size + 1 < _ by (try simp) <;> (try omega))]
          first | assumption | (simp [go_sem, *])
        have r2_2 : w2.cell? ⟨w.heap.size + 1, 2, none⟩ = some (.slice none 0 0) := by
          rw [hb2.cell (p := ⟨w.heap.size + 1, 2, none⟩) (show w.heap.size + 1 < _ by (try simp) <;> (try omega))]
          first | assumption | (simp [go_sem, *])
        have rf2 : ∀ o, w2.frozen? ⟨w.heap.size + 1, o, none⟩ = false := fun o => by
          rw [hb2.frozen (p := ⟨w.heap.size + 1, o, none⟩) (show w.heap.size + 1 < _ by (try simp) <;> (try omega))]
          first | exact rf1 o | (simp [go_sem]; done) | (rw [((Below.refl _ _).alloc (Nat.le_refl _) _ : Below _ _ _).frozen (p := ⟨w.heap.size + 1, o, none⟩) (show w.heap.size + 1 < _ by omega)]; exact rf1 o)
        have rl2 : w.heap.size + 1 < w2.heap.size := by omega
        clear hb2 HB1 HA1 q1_0 q1_1 q1_2 r1_0 r1_1 r1_2 rf1
        have HS2 := Lib.hid ((hf2.sl (enc := entE) (xs := L9) (fun _ => rfl)).alloc (.cells #[.int .i64 t9, .int .i64 v9, .slice a1 L9.length c1] 31))
        go_wp2_with fail
        refine (l07Own_c a1 c1 L9 t9 v9 _ HS2.out (by omega)).mono ?_
        rintro e w3 ⟨a3, c3, rfl, hf3, hb3⟩
        have hz3 := hb3.size
        simp only [World.size_alloc] at hz3
        have HB3 : Hid (Below w.heap.size w w3) := (HB2.out.alloc (by omega) (.cells #[.int .i64 t9, .int .i64 v9, .slice a1 L9.length c1] 31)).trans (hb3.mono (by simp; omega))
        have r3_0 : w3.cell? ⟨w.heap.size + 1, 0, none⟩ = some (.int .i64 0) := by
          rw [hb3.cell (p := ⟨w.heap.size + 1, 0, none⟩) (show w.heap.size + 1 < _ by (try simp) <;> (try omega))]
          first | assumption | (simp [go_sem, *])
        have r3_1 : w3.cell? ⟨w.heap.size + 1, 1, none⟩ = some (.int .i64 0) := by
          rw [hb3.cell (p := ⟨w.heap.size + 1, 1, none⟩) (show w.heap.size + 1 < _ by (try simp) <;> (try omega))]
          first | assumption | (simp [go_sem, *])
        have r3_2 : w3.cell? ⟨w.heap.size + 1, 2, none⟩ = some (.slice none 0 0) := by
          rw [hb3.cell (p := ⟨w.heap.size + 1, 2, none⟩) (show w.heap.size + 1 < _ by (try simp) <;> (try omega))]
          first | assumption | (simp [go_sem, *])
        have rf3 : ∀ o, w3.frozen? ⟨w.heap.size + 1, o, none⟩ = false := fun o => by
          rw [hb3.frozen (p := ⟨w.heap.size + 1, o, none⟩) (show w.heap.size + 1 < _ by (try simp) <;> (try omega))]
          first | exact rf2 o | (simp [go_sem]; done) | (rw [((Below.refl _ _).alloc (Nat.le_refl _) _ : Below _ _ _).frozen (p := ⟨w.heap.size + 1, o, none⟩) (show w.heap.size + 1 < _ by omega)]; exact rf2 o)
        have rl3 : w.heap.size + 1 < w3.heap.size := by omega
        have hf9 : Fresh entE 109 2 (w.heap.size + 2) (.slice a3 L9.length c3) L9 w3 := hf3.mono (by simp; omega)
        go_wp2_with fail
        refine bodyPost_ret (v := .tuple #[.agg #[.int .i64 t9, .int .i64 v9, .slice a3 L9.length c3], .int .i64 0]) (by simp [results, Try.results20, go_sem, r3_0, r3_1, r3_2, rf3, rl3]) rfl ?_
        refine ⟨_, _, rfl, ?_, ?_⟩
        · refine Fresh.mono (B := w.heap.size + 2) ?_ (by omega)
          repeat (first | exact hf9 | (refine Fresh.setCell ?_ (by show _ < _; (try simp) <;> (try omega)) _) | (refine Fresh.alloc ?_ _))
        · repeat (first | exact HB3.out | (refine Below.setCell ?_ (by (try simp) <;> (try omega)) _) | (refine Below.alloc ?_ (by (try simp) <;> (try omega)) _))
end Go.Proofs.Ytmdjcoeijlnloaa
