/- RecordsOf: what both return. No conditions but sizes. -/
import Derived.Test.YtmdjcoeijlnloaaRec2
import Derived.Test.YtmdjcoeijlnloaaState2
namespace Go.Proofs.Ytmdjcoeijlnloaa
set_option linter.unusedVariables false
set_option linter.unusedSimpArgs false
open Go.RowKit
noncomputable def recOL (t v : Int) (xs : List Ent) (t' v' : Int) (ys : List Ent) : List ByteArray := if stOK t v xs = true ∧ stOK t' v' ys = true then recsL t v xs t' v' ys else []
noncomputable def recOC (t v : Int) (xs : List Ent) (t' v' : Int) (ys : List Ent) : Int := if stOK t v xs = true ∧ stOK t' v' ys = true then 0 else 1
theorem stOK_facts {t v : Int} {xs : List Ent} (h : stOK t v xs = true) : 0 ≤ t ∧ t ≤ 1000 ∧ -1 ≤ v ∧ v ≤ 4 ∧ xs.length ≤ 60 ∧ ∀ e ∈ xs, 1 ≤ e.1 ∧ e.1 ≤ 1000 ∧ e.2.size ≤ 400 := by
  have h1 : StOK t v xs := by simpa [stOK] using h
  obtain ⟨h2, h3, h4, h5⟩ := h1
  simp [inB] at h2 h3
  refine ⟨by omega, by omega, by omega, by omega, h4, fun e he => ?_⟩
  obtain ⟨k, hk, rfl⟩ := List.getElem_of_mem he
  obtain ⟨_, k1, k2, k3, _⟩ := h5 k hk
  omega
theorem recsL_length (t v t' v' : Int) (xs ys : List Ent) (hy : ys.length ≤ 60) : (recsL t v xs t' v' ys).length ≤ 62 := by
  have h1 : (rec1 t v t' v').length ≤ 1 := by unfold rec1; split <;> simp
  have h2 : (rec2 xs ys).length ≤ 1 := by unfold rec2; split <;> simp
  have h3 : (rec3 xs ys).length ≤ 60 := by simp [rec3]; omega
  simp only [recsL, List.length_append]
  omega
theorem recOL_length (t v t' v' : Int) (xs ys : List Ent) : (recOL t v xs t' v' ys).length ≤ 62 := by
  unfold recOL
  split
  · next h => exact recsL_length _ _ _ _ _ _ (stOK_facts h.2).2.2.2.2.1
  · simp
set_option maxRecDepth 100000 in
set_option maxHeartbeats 4000000 in
theorem implRecords_c (a b : Option Addr) (ca cb : Nat) (t v t' v' : Int) (xs ys : List Ent) (w : World) (ha : Sl entE 2 w a xs) (hb : Sl entE 2 w b ys) (lx : xs.length ≤ 1048576) (ly : ys.length ≤ 1048576) (sx : ∀ s ∈ xs, s.2.size ≤ 1048576) (sy : ∀ s ∈ ys, s.2.size ≤ 1048576) (hcb : ys.length ≤ cb) :
    Calls Try.prog 14 #[.agg #[.int .i64 t, .int .i64 v, .slice a xs.length ca], .agg #[.int .i64 t', .int .i64 v', .slice b ys.length cb]] w (TupR (recOL t v xs t' v' ys) (recOC t v xs t' v' ys) w) := by
  have SX := Lib.hid sx
  have SY := Lib.hid sy
  clear sx sy
  cases h1 : stOK t v xs
  · have e1 : recOL t v xs t' v' ys = [] := by simp [recOL, h1]
    have e2 : recOC t v xs t' v' ys = 1 := by simp [recOC, h1]
    have H1 := Lib.hid h1
    rw [e1, e2]
    clear e1 e2 h1
    go_enter Try.func14, Try.ntmps14
    go_wp2_with fail
    refine (isState_c a ca xs t v _ ((ha.alloc _).alloc _) lx SX.out).mono ?_
    rw [H1.out]
    rintro e w1 ⟨rfl, hb1⟩
    have hz1 := hb1.size
    simp only [World.size_alloc] at hz1
    go_wp2_with fail
    go_ret2
    exact ⟨none, 0, rfl, (FreshIn.nil _ _ _ _ 0 _).1, (by repeat (first | exact Below.refl _ _ | (refine Below.alloc ?_ (by (try simp) <;> (try omega)) _) | (refine Below.setCell ?_ (by (try simp) <;> (try omega)) _) | (refine Below.drew ?_) | (refine Below.trans ?_ (Below.mono (by assumption) (by (try simp) <;> (try omega))))))⟩
  have H1 := Lib.hid h1
  have G1 := stOK_facts h1
  cases h2 : stOK t' v' ys
  · have e1 : recOL t v xs t' v' ys = [] := by simp [recOL, h2]
    have e2 : recOC t v xs t' v' ys = 1 := by simp [recOC, h2]
    have H2 := Lib.hid h2
    rw [e1, e2]
    clear e1 e2 h1 h2 G1
    go_enter Try.func14, Try.ntmps14
    go_wp2_with fail
    refine (isState_c a ca xs t v _ ((ha.alloc _).alloc _) lx SX.out).mono ?_
    rw [H1.out]
    rintro e w1 ⟨rfl, hb1⟩
    have hz1 := hb1.size
    try simp at hz1
    have q1_0_0 : w1.cell? ⟨w.heap.size, 0, none⟩ = some (.int .i64 t) := by
      rw [hb1.cell (p := ⟨w.heap.size, 0, none⟩) (show w.heap.size < _ by (try simp) <;> (try omega))]
      first | assumption | (simp [go_sem, *])
    have q1_0_1 : w1.cell? ⟨w.heap.size, 1, none⟩ = some (.int .i64 v) := by
      rw [hb1.cell (p := ⟨w.heap.size, 1, none⟩) (show w.heap.size < _ by (try simp) <;> (try omega))]
      first | assumption | (simp [go_sem, *])
    have q1_0_2 : w1.cell? ⟨w.heap.size, 2, none⟩ = some (.slice a xs.length ca) := by
      rw [hb1.cell (p := ⟨w.heap.size, 2, none⟩) (show w.heap.size < _ by (try simp) <;> (try omega))]
      first | assumption | (simp [go_sem, *])
    have hl1_0 : w.heap.size < w1.heap.size := by omega
    have q1_1_0 : w1.cell? ⟨w.heap.size + 1, 0, none⟩ = some (.int .i64 t') := by
      rw [hb1.cell (p := ⟨w.heap.size + 1, 0, none⟩) (show w.heap.size + 1 < _ by (try simp) <;> (try omega))]
      first | assumption | (simp [go_sem, *])
    have q1_1_1 : w1.cell? ⟨w.heap.size + 1, 1, none⟩ = some (.int .i64 v') := by
      rw [hb1.cell (p := ⟨w.heap.size + 1, 1, none⟩) (show w.heap.size + 1 < _ by (try simp) <;> (try omega))]
      first | assumption | (simp [go_sem, *])
    have q1_1_2 : w1.cell? ⟨w.heap.size + 1, 2, none⟩ = some (.slice b ys.length cb) := by
      rw [hb1.cell (p := ⟨w.heap.size + 1, 2, none⟩) (show w.heap.size + 1 < _ by (try simp) <;> (try omega))]
      first | assumption | (simp [go_sem, *])
    have hl1_1 : w.heap.size + 1 < w1.heap.size := by omega
    go_wp2_with fail
    refine (isState_c b cb ys t' v' _ (((hb.alloc _).alloc _).keep hb1) ly SY.out).mono ?_
    rw [H2.out]
    rintro e w2 ⟨rfl, hb2⟩
    have hz2 := hb2.size
    go_wp2_with fail
    go_ret2
    exact ⟨none, 0, rfl, (FreshIn.nil _ _ _ _ 0 _).1, (by repeat (first | exact Below.refl _ _ | (refine Below.alloc ?_ (by (try simp) <;> (try omega)) _) | (refine Below.setCell ?_ (by (try simp) <;> (try omega)) _) | (refine Below.drew ?_) | (refine Below.trans ?_ (Below.mono (by assumption) (by (try simp) <;> (try omega))))))⟩
  have e1 : recOL t v xs t' v' ys = recsL t v xs t' v' ys := by simp [recOL, h1, h2]
  have e2 : recOC t v xs t' v' ys = 0 := by simp [recOC, h1, h2]
  have H2 := Lib.hid h2
  obtain ⟨p1, p2, p3, p4, p5, p6⟩ := stOK_facts h2
  have P6 := Lib.hid p6
  have hx60 := G1.2.2.2.2.1
  rw [e1, e2]
  clear e1 e2 h1 h2 G1 p6
  go_enter Try.func14, Try.ntmps14
  go_wp2_with fail
  refine (isState_c a ca xs t v _ ((ha.alloc _).alloc _) lx SX.out).mono ?_
  rw [H1.out]
  rintro e w1 ⟨rfl, hb1⟩
  have HA1 := Lib.hid (((ha.alloc _).alloc _).keep hb1)
  have HB1 := Lib.hid (((hb.alloc _).alloc _).keep hb1)
  have hz1 := hb1.size
  try simp at hz1
  have q1_0_0 : w1.cell? ⟨w.heap.size, 0, none⟩ = some (.int .i64 t) := by
    rw [hb1.cell (p := ⟨w.heap.size, 0, none⟩) (show w.heap.size < _ by (try simp) <;> (try omega))]
    first | assumption | (simp [go_sem, *])
  have q1_0_1 : w1.cell? ⟨w.heap.size, 1, none⟩ = some (.int .i64 v) := by
    rw [hb1.cell (p := ⟨w.heap.size, 1, none⟩) (show w.heap.size < _ by (try simp) <;> (try omega))]
    first | assumption | (simp [go_sem, *])
  have q1_0_2 : w1.cell? ⟨w.heap.size, 2, none⟩ = some (.slice a xs.length ca) := by
    rw [hb1.cell (p := ⟨w.heap.size, 2, none⟩) (show w.heap.size < _ by (try simp) <;> (try omega))]
    first | assumption | (simp [go_sem, *])
  have hl1_0 : w.heap.size < w1.heap.size := by omega
  have q1_1_0 : w1.cell? ⟨w.heap.size + 1, 0, none⟩ = some (.int .i64 t') := by
    rw [hb1.cell (p := ⟨w.heap.size + 1, 0, none⟩) (show w.heap.size + 1 < _ by (try simp) <;> (try omega))]
    first | assumption | (simp [go_sem, *])
  have q1_1_1 : w1.cell? ⟨w.heap.size + 1, 1, none⟩ = some (.int .i64 v') := by
    rw [hb1.cell (p := ⟨w.heap.size + 1, 1, none⟩) (show w.heap.size + 1 < _ by (try simp) <;> (try omega))]
    first | assumption | (simp [go_sem, *])
  have q1_1_2 : w1.cell? ⟨w.heap.size + 1, 2, none⟩ = some (.slice b ys.length cb) := by
    rw [hb1.cell (p := ⟨w.heap.size + 1, 2, none⟩) (show w.heap.size + 1 < _ by (try simp) <;> (try omega))]
    first | assumption | (simp [go_sem, *])
  have hl1_1 : w.heap.size + 1 < w1.heap.size := by omega
  have HW1 : Hid (Below w.heap.size w w1) := (by repeat (first | exact Below.refl _ _ | (refine Below.alloc ?_ (by (try simp) <;> (try omega)) _) | (refine Below.setCell ?_ (by (try simp) <;> (try omega)) _) | (refine Below.drew ?_) | (refine Below.trans ?_ (Below.mono (by assumption) (by (try simp) <;> (try omega))))))
  clear hb1
  go_wp2_with fail
  refine (isState_c b cb ys t' v' _ HB1.out ly SY.out).mono ?_
  rw [H2.out]
  rintro e w2 ⟨rfl, hb2⟩
  have HA2 := Lib.hid (HA1.out.keep hb2)
  have HB2 := Lib.hid (HB1.out.keep hb2)
  have hz2 := hb2.size
  try simp at hz2
  have q2_0_0 : w2.cell? ⟨w.heap.size, 0, none⟩ = some (.int .i64 t) := by
    rw [hb2.cell (p := ⟨w.heap.size, 0, none⟩) (show w.heap.size < _ by (try simp) <;> (try omega))]
    first | assumption | (simp [go_sem, *])
  have q2_0_1 : w2.cell? ⟨w.heap.size, 1, none⟩ = some (.int .i64 v) := by
    rw [hb2.cell (p := ⟨w.heap.size, 1, none⟩) (show w.heap.size < _ by (try simp) <;> (try omega))]
    first | assumption | (simp [go_sem, *])
  have q2_0_2 : w2.cell? ⟨w.heap.size, 2, none⟩ = some (.slice a xs.length ca) := by
    rw [hb2.cell (p := ⟨w.heap.size, 2, none⟩) (show w.heap.size < _ by (try simp) <;> (try omega))]
    first | assumption | (simp [go_sem, *])
  have hl2_0 : w.heap.size < w2.heap.size := by omega
  have q2_1_0 : w2.cell? ⟨w.heap.size + 1, 0, none⟩ = some (.int .i64 t') := by
    rw [hb2.cell (p := ⟨w.heap.size + 1, 0, none⟩) (show w.heap.size + 1 < _ by (try simp) <;> (try omega))]
    first | assumption | (simp [go_sem, *])
  have q2_1_1 : w2.cell? ⟨w.heap.size + 1, 1, none⟩ = some (.int .i64 v') := by
    rw [hb2.cell (p := ⟨w.heap.size + 1, 1, none⟩) (show w.heap.size + 1 < _ by (try simp) <;> (try omega))]
    first | assumption | (simp [go_sem, *])
  have q2_1_2 : w2.cell? ⟨w.heap.size + 1, 2, none⟩ = some (.slice b ys.length cb) := by
    rw [hb2.cell (p := ⟨w.heap.size + 1, 2, none⟩) (show w.heap.size + 1 < _ by (try simp) <;> (try omega))]
    first | assumption | (simp [go_sem, *])
  have hl2_1 : w.heap.size + 1 < w2.heap.size := by omega
  clear q1_0_0 q1_0_1 q1_0_2 q1_1_0 q1_1_1 q1_1_2
  have HW2 : Hid (Below w.heap.size w w2) := HW1.out.trans (hb2.mono (by omega))
  clear hb2
  go_wp2_with fail
  refine (implRecordsOf_c a b ca cb t v t' v' xs ys _ HA2.out HB2.out hx60 p5 hcb p1 p2 p3 p4 P6.out).mono ?_
  rintro e w3 ⟨a3, c3, rfl, hf3, hb3⟩
  have HF := Lib.hid hf3
  have HBB := Lib.hid hb3
  clear hf3 hb3
  generalize recsL t v xs t' v' ys = R at *
  go_wp2_with fail
  go_ret2
  exact ⟨_, _, rfl, HF.out.mono (by omega), HW2.out.trans (HBB.out.mono (by omega))⟩
set_option maxRecDepth 100000 in
set_option maxHeartbeats 4000000 in
theorem specRecords_c (a b : Option Addr) (ca cb : Nat) (t v t' v' : Int) (xs ys : List Ent) (w : World) (ha : Sl entE 2 w a xs) (hb : Sl entE 2 w b ys) (lx : xs.length ≤ 1048576) (ly : ys.length ≤ 1048576) (sx : ∀ s ∈ xs, s.2.size ≤ 1048576) (sy : ∀ s ∈ ys, s.2.size ≤ 1048576) :
    Calls Try.prog 12 #[.agg #[.int .i64 t, .int .i64 v, .slice a xs.length ca], .agg #[.int .i64 t', .int .i64 v', .slice b ys.length cb]] w (TupR (recOL t v xs t' v' ys) (recOC t v xs t' v' ys) w) := by
  have SX := Lib.hid sx
  have SY := Lib.hid sy
  clear sx sy
  cases h1 : stOK t v xs
  · have e1 : recOL t v xs t' v' ys = [] := by simp [recOL, h1]
    have e2 : recOC t v xs t' v' ys = 1 := by simp [recOC, h1]
    have H1 := Lib.hid h1
    rw [e1, e2]
    clear e1 e2 h1
    go_enter Try.func12, Try.ntmps12
    go_wp2_with fail
    refine (specStateOK_c a ca xs t v _ ((ha.alloc _).alloc _) lx SX.out).mono ?_
    rw [H1.out]
    rintro e w1 ⟨rfl, hb1⟩
    have hz1 := hb1.size
    simp only [World.size_alloc] at hz1
    go_wp2_with fail
    go_ret2
    exact ⟨_, _, rfl, fresh_made _ w.heap.size (by omega), (by repeat (first | exact Below.refl _ _ | (refine Below.alloc ?_ (by (try simp) <;> (try omega)) _) | (refine Below.setCell ?_ (by (try simp) <;> (try omega)) _) | (refine Below.drew ?_) | (refine Below.trans ?_ (Below.mono (by assumption) (by (try simp) <;> (try omega))))))⟩
  have H1 := Lib.hid h1
  have G1 := stOK_facts h1
  cases h2 : stOK t' v' ys
  · have e1 : recOL t v xs t' v' ys = [] := by simp [recOL, h2]
    have e2 : recOC t v xs t' v' ys = 1 := by simp [recOC, h2]
    have H2 := Lib.hid h2
    rw [e1, e2]
    clear e1 e2 h1 h2 G1
    go_enter Try.func12, Try.ntmps12
    go_wp2_with fail
    refine (specStateOK_c a ca xs t v _ ((ha.alloc _).alloc _) lx SX.out).mono ?_
    rw [H1.out]
    rintro e w1 ⟨rfl, hb1⟩
    have hz1 := hb1.size
    try simp at hz1
    have q1_0_0 : w1.cell? ⟨w.heap.size, 0, none⟩ = some (.int .i64 t) := by
      rw [hb1.cell (p := ⟨w.heap.size, 0, none⟩) (show w.heap.size < _ by (try simp) <;> (try omega))]
      first | assumption | (simp [go_sem, *])
    have q1_0_1 : w1.cell? ⟨w.heap.size, 1, none⟩ = some (.int .i64 v) := by
      rw [hb1.cell (p := ⟨w.heap.size, 1, none⟩) (show w.heap.size < _ by (try simp) <;> (try omega))]
      first | assumption | (simp [go_sem, *])
    have q1_0_2 : w1.cell? ⟨w.heap.size, 2, none⟩ = some (.slice a xs.length ca) := by
      rw [hb1.cell (p := ⟨w.heap.size, 2, none⟩) (show w.heap.size < _ by (try simp) <;> (try omega))]
      first | assumption | (simp [go_sem, *])
    have hl1_0 : w.heap.size < w1.heap.size := by omega
    have q1_1_0 : w1.cell? ⟨w.heap.size + 1, 0, none⟩ = some (.int .i64 t') := by
      rw [hb1.cell (p := ⟨w.heap.size + 1, 0, none⟩) (show w.heap.size + 1 < _ by (try simp) <;> (try omega))]
      first | assumption | (simp [go_sem, *])
    have q1_1_1 : w1.cell? ⟨w.heap.size + 1, 1, none⟩ = some (.int .i64 v') := by
      rw [hb1.cell (p := ⟨w.heap.size + 1, 1, none⟩) (show w.heap.size + 1 < _ by (try simp) <;> (try omega))]
      first | assumption | (simp [go_sem, *])
    have q1_1_2 : w1.cell? ⟨w.heap.size + 1, 2, none⟩ = some (.slice b ys.length cb) := by
      rw [hb1.cell (p := ⟨w.heap.size + 1, 2, none⟩) (show w.heap.size + 1 < _ by (try simp) <;> (try omega))]
      first | assumption | (simp [go_sem, *])
    have hl1_1 : w.heap.size + 1 < w1.heap.size := by omega
    go_wp2_with fail
    refine (specStateOK_c b cb ys t' v' _ (((hb.alloc _).alloc _).keep hb1) ly SY.out).mono ?_
    rw [H2.out]
    rintro e w2 ⟨rfl, hb2⟩
    have hz2 := hb2.size
    go_wp2_with fail
    go_ret2
    exact ⟨_, _, rfl, fresh_made _ w.heap.size (by omega), (by repeat (first | exact Below.refl _ _ | (refine Below.alloc ?_ (by (try simp) <;> (try omega)) _) | (refine Below.setCell ?_ (by (try simp) <;> (try omega)) _) | (refine Below.drew ?_) | (refine Below.trans ?_ (Below.mono (by assumption) (by (try simp) <;> (try omega))))))⟩
  have e1 : recOL t v xs t' v' ys = recsL t v xs t' v' ys := by simp [recOL, h1, h2]
  have e2 : recOC t v xs t' v' ys = 0 := by simp [recOC, h1, h2]
  have H2 := Lib.hid h2
  obtain ⟨p1, p2, p3, p4, p5, p6⟩ := stOK_facts h2
  have P6 := Lib.hid p6
  have hx60 := G1.2.2.2.2.1
  rw [e1, e2]
  clear e1 e2 h1 h2 G1 p6
  go_enter Try.func12, Try.ntmps12
  go_wp2_with fail
  refine (specStateOK_c a ca xs t v _ ((ha.alloc _).alloc _) lx SX.out).mono ?_
  rw [H1.out]
  rintro e w1 ⟨rfl, hb1⟩
  have HA1 := Lib.hid (((ha.alloc _).alloc _).keep hb1)
  have HB1 := Lib.hid (((hb.alloc _).alloc _).keep hb1)
  have hz1 := hb1.size
  try simp at hz1
  have q1_0_0 : w1.cell? ⟨w.heap.size, 0, none⟩ = some (.int .i64 t) := by
    rw [hb1.cell (p := ⟨w.heap.size, 0, none⟩) (show w.heap.size < _ by (try simp) <;> (try omega))]
    first | assumption | (simp [go_sem, *])
  have q1_0_1 : w1.cell? ⟨w.heap.size, 1, none⟩ = some (.int .i64 v) := by
    rw [hb1.cell (p := ⟨w.heap.size, 1, none⟩) (show w.heap.size < _ by (try simp) <;> (try omega))]
    first | assumption | (simp [go_sem, *])
  have q1_0_2 : w1.cell? ⟨w.heap.size, 2, none⟩ = some (.slice a xs.length ca) := by
    rw [hb1.cell (p := ⟨w.heap.size, 2, none⟩) (show w.heap.size < _ by (try simp) <;> (try omega))]
    first | assumption | (simp [go_sem, *])
  have hl1_0 : w.heap.size < w1.heap.size := by omega
  have q1_1_0 : w1.cell? ⟨w.heap.size + 1, 0, none⟩ = some (.int .i64 t') := by
    rw [hb1.cell (p := ⟨w.heap.size + 1, 0, none⟩) (show w.heap.size + 1 < _ by (try simp) <;> (try omega))]
    first | assumption | (simp [go_sem, *])
  have q1_1_1 : w1.cell? ⟨w.heap.size + 1, 1, none⟩ = some (.int .i64 v') := by
    rw [hb1.cell (p := ⟨w.heap.size + 1, 1, none⟩) (show w.heap.size + 1 < _ by (try simp) <;> (try omega))]
    first | assumption | (simp [go_sem, *])
  have q1_1_2 : w1.cell? ⟨w.heap.size + 1, 2, none⟩ = some (.slice b ys.length cb) := by
    rw [hb1.cell (p := ⟨w.heap.size + 1, 2, none⟩) (show w.heap.size + 1 < _ by (try simp) <;> (try omega))]
    first | assumption | (simp [go_sem, *])
  have hl1_1 : w.heap.size + 1 < w1.heap.size := by omega
  have HW1 : Hid (Below w.heap.size w w1) := (by repeat (first | exact Below.refl _ _ | (refine Below.alloc ?_ (by (try simp) <;> (try omega)) _) | (refine Below.setCell ?_ (by (try simp) <;> (try omega)) _) | (refine Below.drew ?_) | (refine Below.trans ?_ (Below.mono (by assumption) (by (try simp) <;> (try omega))))))
  clear hb1
  go_wp2_with fail
  refine (specStateOK_c b cb ys t' v' _ HB1.out ly SY.out).mono ?_
  rw [H2.out]
  rintro e w2 ⟨rfl, hb2⟩
  have HA2 := Lib.hid (HA1.out.keep hb2)
  have HB2 := Lib.hid (HB1.out.keep hb2)
  have hz2 := hb2.size
  try simp at hz2
  have q2_0_0 : w2.cell? ⟨w.heap.size, 0, none⟩ = some (.int .i64 t) := by
    rw [hb2.cell (p := ⟨w.heap.size, 0, none⟩) (show w.heap.size < _ by (try simp) <;> (try omega))]
    first | assumption | (simp [go_sem, *])
  have q2_0_1 : w2.cell? ⟨w.heap.size, 1, none⟩ = some (.int .i64 v) := by
    rw [hb2.cell (p := ⟨w.heap.size, 1, none⟩) (show w.heap.size < _ by (try simp) <;> (try omega))]
    first | assumption | (simp [go_sem, *])
  have q2_0_2 : w2.cell? ⟨w.heap.size, 2, none⟩ = some (.slice a xs.length ca) := by
    rw [hb2.cell (p := ⟨w.heap.size, 2, none⟩) (show w.heap.size < _ by (try simp) <;> (try omega))]
    first | assumption | (simp [go_sem, *])
  have hl2_0 : w.heap.size < w2.heap.size := by omega
  have q2_1_0 : w2.cell? ⟨w.heap.size + 1, 0, none⟩ = some (.int .i64 t') := by
    rw [hb2.cell (p := ⟨w.heap.size + 1, 0, none⟩) (show w.heap.size + 1 < _ by (try simp) <;> (try omega))]
    first | assumption | (simp [go_sem, *])
  have q2_1_1 : w2.cell? ⟨w.heap.size + 1, 1, none⟩ = some (.int .i64 v') := by
    rw [hb2.cell (p := ⟨w.heap.size + 1, 1, none⟩) (show w.heap.size + 1 < _ by (try simp) <;> (try omega))]
    first | assumption | (simp [go_sem, *])
  have q2_1_2 : w2.cell? ⟨w.heap.size + 1, 2, none⟩ = some (.slice b ys.length cb) := by
    rw [hb2.cell (p := ⟨w.heap.size + 1, 2, none⟩) (show w.heap.size + 1 < _ by (try simp) <;> (try omega))]
    first | assumption | (simp [go_sem, *])
  have hl2_1 : w.heap.size + 1 < w2.heap.size := by omega
  clear q1_0_0 q1_0_1 q1_0_2 q1_1_0 q1_1_1 q1_1_2
  have HW2 : Hid (Below w.heap.size w w2) := HW1.out.trans (hb2.mono (by omega))
  clear hb2
  go_wp2_with fail
  refine (l07Records_c a b ca cb t v t' v' xs ys _ HA2.out HB2.out hx60 p5 p1 p2 p3 p4 P6.out).mono ?_
  rintro e w3 ⟨a3, c3, rfl, hf3, hb3⟩
  have HF := Lib.hid hf3
  have HBB := Lib.hid hb3
  clear hf3 hb3
  generalize recsL t v xs t' v' ys = R at *
  go_wp2_with fail
  go_ret2
  exact ⟨_, _, rfl, HF.out.mono (by omega), HW2.out.trans (HBB.out.mono (by omega))⟩
end Go.Proofs.Ytmdjcoeijlnloaa
