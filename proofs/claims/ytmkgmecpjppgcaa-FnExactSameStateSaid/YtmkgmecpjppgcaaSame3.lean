/- The law FnExactSameState: its walk. -/
import Derived.Test.YtmkgmecpjppgcaaSame2
import Derived.Deep.RegionHeld3
namespace Go.Proofs.Ytmkgmecpjppgcaa
set_option linter.unusedVariables false
set_option linter.unusedSimpArgs false
open Go.RowKit
theorem sameV_form (t v : Int) (xs : List Ent) (t' v' : Int) (ys : List Ent) : ∃ (p : Bool) (q : Int), sameV t v xs t' v' ys = .tuple #[.bool p, .int .i64 q] := by
  unfold sameV
  split <;> exact ⟨_, _, rfl⟩
set_option maxRecDepth 100000 in
set_option maxHeartbeats 4000000 in
theorem lawSameState_c (a b : Option Addr) (ca cb : Nat) (xs ys : List Ent) (t v t' v' : Int) (w : World) (ha : Sl entE 2 w a xs) (hb : Sl entE 2 w b ys) (la : xs.length ≤ 9223372036854775807) (lb : ys.length ≤ 9223372036854775807)
    (sa : ∀ s ∈ xs, s.2.size ≤ 9223372036854775807) (sb : ∀ s ∈ ys, s.2.size ≤ 9223372036854775807) :
    Calls Try.prog 8 #[.agg #[.int .i64 t, .int .i64 v, .slice a xs.length ca], .agg #[.int .i64 t', .int .i64 v', .slice b ys.length cb]] w
      fun e w' => e = .returned (.bool true) ∧ Below w.heap.size w w' := by
  have SA := Lib.hid sa
  have SB := Lib.hid sb
  clear sa sb
  obtain ⟨p, q, hpq⟩ := sameV_form t v xs t' v' ys
  have HP := Lib.hid hpq
  clear hpq
  go_enter Try.func8, Try.ntmps8
  go_wp2_with fail
  refine (szState_c a ca xs t v _ _ ((ha.alloc _).alloc _) la SA.out (by omega) (by omega)).mono ?_
  rintro e w1 ⟨⟨n, rfl, hn, himp⟩, hb1⟩
  have HI := Lib.hid himp
  clear himp
  have ha1 := ((ha.alloc _).alloc _).keep hb1
  have hbb1 := ((hb.alloc _).alloc _).keep hb1
  have hz1 := hb1.size
  try simp at hz1
  have q1_0_0 : w1.cell? ⟨w.heap.size, 0, none⟩ = some (.int .i64 t) := by
    rw [hb1.cell (p := ⟨w.heap.size, 0, none⟩) (show w.heap.size < _ by (try simp) <;> (try omega))]
    first | assumption | (simp [go_sem, *])
  have q1_0_1 : w1.cell? ⟨w.heap.size, 1, none⟩ = some (.int .i64 v) := by
    rw [hb1.cell (p := ⟨w.heap.size, 1, none⟩) (show w.heap.size < _ by (try simp) <;> (try omega))]
    first | assumption | (simp [go_sem, *])
  have q1_0_2 : w1.cell? ⟨w.heap.size, 2, none⟩ = some (.slice a xs.length ca) := by
    rw [hb1.cell (p := ⟨w.heap.size, 2, none⟩) (show w.heap.size < _ by (try simp) <;> (try omega))]
    first | assumption | (simp [go_sem, *])
  have hl1_0 : w.heap.size < w1.heap.size := by omega
  have q1_1_0 : w1.cell? ⟨w.heap.size + 1, 0, none⟩ = some (.int .i64 t') := by
    rw [hb1.cell (p := ⟨w.heap.size + 1, 0, none⟩) (show w.heap.size + 1 < _ by (try simp) <;> (try omega))]
    first | assumption | (simp [go_sem, *])
  have q1_1_1 : w1.cell? ⟨w.heap.size + 1, 1, none⟩ = some (.int .i64 v') := by
    rw [hb1.cell (p := ⟨w.heap.size + 1, 1, none⟩) (show w.heap.size + 1 < _ by (try simp) <;> (try omega))]
    first | assumption | (simp [go_sem, *])
  have q1_1_2 : w1.cell? ⟨w.heap.size + 1, 2, none⟩ = some (.slice b ys.length cb) := by
    rw [hb1.cell (p := ⟨w.heap.size + 1, 2, none⟩) (show w.heap.size + 1 < _ by (try simp) <;> (try omega))]
    first | assumption | (simp [go_sem, *])
  have hl1_1 : w.heap.size + 1 < w1.heap.size := by omega
  by_cases hneg : n < 0
  · go_wp2_with fail
    go_ret
    exact ⟨rfl, (by repeat (first | exact Below.refl _ _ | (refine Below.alloc ?_ (by (try simp) <;> (try omega)) _) | (refine Below.setCell ?_ (by (try simp) <;> (try omega)) _) | (refine Below.drew ?_) | (refine Below.trans ?_ (Below.mono (by assumption) (by (try simp) <;> (try omega))))))⟩
  obtain ⟨hl, hsz⟩ := HI.out (by omega)
  have ZA := Lib.hid hsz
  clear hsz HI
  go_wp2_with fail
  refine (szState_c b cb ys t' v' _ _ hbb1 lb SB.out (by omega) (by omega)).mono ?_
  rintro e w2 ⟨⟨n2, rfl, hn2, himp⟩, hb2⟩
  have HI := Lib.hid himp
  clear himp
  have ha2 := ha1.keep hb2
  have hbb2 := hbb1.keep hb2
  have hz2 := hb2.size
  try simp at hz2
  have q2_0_0 : w2.cell? ⟨w.heap.size, 0, none⟩ = some (.int .i64 t) := by
    rw [hb2.cell (p := ⟨w.heap.size, 0, none⟩) (show w.heap.size < _ by (try simp) <;> (try omega))]
    first | assumption | (simp [go_sem, *])
  have q2_0_1 : w2.cell? ⟨w.heap.size, 1, none⟩ = some (.int .i64 v) := by
    rw [hb2.cell (p := ⟨w.heap.size, 1, none⟩) (show w.heap.size < _ by (try simp) <;> (try omega))]
    first | assumption | (simp [go_sem, *])
  have q2_0_2 : w2.cell? ⟨w.heap.size, 2, none⟩ = some (.slice a xs.length ca) := by
    rw [hb2.cell (p := ⟨w.heap.size, 2, none⟩) (show w.heap.size < _ by (try simp) <;> (try omega))]
    first | assumption | (simp [go_sem, *])
  have hl2_0 : w.heap.size < w2.heap.size := by omega
  have q2_1_0 : w2.cell? ⟨w.heap.size + 1, 0, none⟩ = some (.int .i64 t') := by
    rw [hb2.cell (p := ⟨w.heap.size + 1, 0, none⟩) (show w.heap.size + 1 < _ by (try simp) <;> (try omega))]
    first | assumption | (simp [go_sem, *])
  have q2_1_1 : w2.cell? ⟨w.heap.size + 1, 1, none⟩ = some (.int .i64 v') := by
    rw [hb2.cell (p := ⟨w.heap.size + 1, 1, none⟩) (show w.heap.size + 1 < _ by (try simp) <;> (try omega))]
    first | assumption | (simp [go_sem, *])
  have q2_1_2 : w2.cell? ⟨w.heap.size + 1, 2, none⟩ = some (.slice b ys.length cb) := by
    rw [hb2.cell (p := ⟨w.heap.size + 1, 2, none⟩) (show w.heap.size + 1 < _ by (try simp) <;> (try omega))]
    first | assumption | (simp [go_sem, *])
  have hl2_1 : w.heap.size + 1 < w2.heap.size := by omega
  clear q1_0_0 q1_0_1 q1_0_2 q1_1_0 q1_1_1 q1_1_2
  by_cases hneg2 : n2 < 0
  · go_wp2_with fail
    go_ret
    exact ⟨rfl, (by repeat (first | exact Below.refl _ _ | (refine Below.alloc ?_ (by (try simp) <;> (try omega)) _) | (refine Below.setCell ?_ (by (try simp) <;> (try omega)) _) | (refine Below.drew ?_) | (refine Below.trans ?_ (Below.mono (by assumption) (by (try simp) <;> (try omega))))))⟩
  obtain ⟨hl2, hsz⟩ := HI.out (by omega)
  have ZB := Lib.hid hsz
  clear hsz HI
  go_wp2_with fail
  go_region_held3 (fun w' => w'.cell? ⟨w.heap.size, 0, none⟩ = some (.int .i64 t) ∧ w'.cell? ⟨w.heap.size, 1, none⟩ = some (.int .i64 v) ∧ w'.cell? ⟨w.heap.size, 2, none⟩ = some (.slice a xs.length ca) ∧ w'.cell? ⟨w.heap.size + 1, 0, none⟩ = some (.int .i64 t') ∧ w'.cell? ⟨w.heap.size + 1, 1, none⟩ = some (.int .i64 v') ∧ w'.cell? ⟨w.heap.size + 1, 2, none⟩ = some (.slice b ys.length cb))
    (first | go_keep | (repeat' apply And.intro) <;> assumption)
    (first
    | (go_at_call_of 31 ca
       refine (toState_c a ca xs t v _ ha2.drew hl).mono ?_
       rintro e w3 ⟨a3, c3, rfl, hf3, hb3⟩
       have kq0 := fun o => hb3.cell (p := ⟨w.heap.size, o, none⟩) (by simpa using hl2_0)
       have kq1 := fun o => hb3.cell (p := ⟨w.heap.size + 1, o, none⟩) (by simpa using hl2_1)
       have hz3 := hb3.size)
    | (go_at_call_of 31 cb
       refine (toState_c b cb ys t' v' _ (hbb2.drew.keep hb3) hl2).mono ?_
       rintro e w4 ⟨a4, c4, rfl, hf4, hb4⟩
       have kr0 := fun o => hb4.cell (p := ⟨w.heap.size, o, none⟩) (show w.heap.size < w3.heap.size by simp at hz3; omega)
       have kr1 := fun o => hb4.cell (p := ⟨w.heap.size + 1, o, none⟩) (show w.heap.size + 1 < w3.heap.size by simp at hz3; omega)
       have hz4 := hb4.size)
    | (go_at_call 34
       refine (specSame_c a3 a4 c3 c4 xs ys t v t' v' _ ((hf3.sl (enc := entE) (fun _ => rfl)).keep hb4) (hf4.sl (enc := entE) (fun _ => rfl)) hl hl2 ZA.out ZB.out).mono ?_
       rintro e w5 ⟨rfl, hb5⟩
       have ks0 := fun o => hb5.cell (p := ⟨w.heap.size, o, none⟩) (show w.heap.size < w4.heap.size by simp at hz3; omega)
       have ks1 := fun o => hb5.cell (p := ⟨w.heap.size + 1, o, none⟩) (show w.heap.size + 1 < w4.heap.size by simp at hz3; omega)
       rw [HP.out]))
  have ha5 := ((ha2.drew.keep hb3).keep hb4).keep hb5
  have hbb5 := ((hbb2.drew.keep hb3).keep hb4).keep hb5
  have hz5 := hb5.size
  simp at hz3
  have hb05 : Below w.heap.size w w5 := (by repeat (first | exact Below.refl _ _ | (refine Below.alloc ?_ (by (try simp) <;> (try omega)) _) | (refine Below.setCell ?_ (by (try simp) <;> (try omega)) _) | (refine Below.drew ?_) | (refine Below.trans ?_ (Below.mono (by assumption) (by (try simp) <;> (try omega))))))
  clear hb1 hb2 hb3 hb4 hb5 hf3 hf4 ha1 hbb1 ha2 hbb2 q2_0_0 q2_0_1 q2_0_2 q2_1_0 q2_1_1 q2_1_2 kq0 kq1 kr0 kr1 ks0 ks1
  go_wp2_with fail
  refine (toState_c a ca xs t v _ ha5 hl).mono ?_
  rintro e w6 ⟨a6, c6, rfl, hf6, hb6⟩
  have hs6 := hf6.sl (enc := entE) (fun _ => rfl)
  have hbb6 := hbb5.keep hb6
  have ha6 := ha5.keep hb6
  have hz6 := hb6.size
  try simp at hz6
  have q6_0_0 : w6.cell? ⟨w.heap.size, 0, none⟩ = some (.int .i64 t) := by
    rw [hb6.cell (p := ⟨w.heap.size, 0, none⟩) (show w.heap.size < _ by (try simp) <;> (try omega))]
    first | assumption | (simp [go_sem, *])
  have q6_0_1 : w6.cell? ⟨w.heap.size, 1, none⟩ = some (.int .i64 v) := by
    rw [hb6.cell (p := ⟨w.heap.size, 1, none⟩) (show w.heap.size < _ by (try simp) <;> (try omega))]
    first | assumption | (simp [go_sem, *])
  have q6_0_2 : w6.cell? ⟨w.heap.size, 2, none⟩ = some (.slice a xs.length ca) := by
    rw [hb6.cell (p := ⟨w.heap.size, 2, none⟩) (show w.heap.size < _ by (try simp) <;> (try omega))]
    first | assumption | (simp [go_sem, *])
  have hl6_0 : w.heap.size < w6.heap.size := by omega
  have q6_1_0 : w6.cell? ⟨w.heap.size + 1, 0, none⟩ = some (.int .i64 t') := by
    rw [hb6.cell (p := ⟨w.heap.size + 1, 0, none⟩) (show w.heap.size + 1 < _ by (try simp) <;> (try omega))]
    first | assumption | (simp [go_sem, *])
  have q6_1_1 : w6.cell? ⟨w.heap.size + 1, 1, none⟩ = some (.int .i64 v') := by
    rw [hb6.cell (p := ⟨w.heap.size + 1, 1, none⟩) (show w.heap.size + 1 < _ by (try simp) <;> (try omega))]
    first | assumption | (simp [go_sem, *])
  have q6_1_2 : w6.cell? ⟨w.heap.size + 1, 2, none⟩ = some (.slice b ys.length cb) := by
    rw [hb6.cell (p := ⟨w.heap.size + 1, 2, none⟩) (show w.heap.size + 1 < _ by (try simp) <;> (try omega))]
    first | assumption | (simp [go_sem, *])
  have hl6_1 : w.heap.size + 1 < w6.heap.size := by omega
  go_wp2_with fail
  refine (toState_c b cb ys t' v' _ (hbb6.alloc _) hl2).mono ?_
  rintro e w7 ⟨a7, c7, rfl, hf7, hb7⟩
  have hs7 := hf7.sl (enc := entE) (fun _ => rfl)
  have hs6b := (hs6.alloc _).keep hb7
  have hbb7 := (hbb6.alloc _).keep hb7
  have ha7 := (ha6.alloc _).keep hb7
  have hz7 := hb7.size
  try simp at hz7
  have q7_0_0 : w7.cell? ⟨w.heap.size, 0, none⟩ = some (.int .i64 t) := by
    rw [hb7.cell (p := ⟨w.heap.size, 0, none⟩) (show w.heap.size < _ by (try simp) <;> (try omega))]
    first | assumption | (simp [go_sem, *])
  have q7_0_1 : w7.cell? ⟨w.heap.size, 1, none⟩ = some (.int .i64 v) := by
    rw [hb7.cell (p := ⟨w.heap.size, 1, none⟩) (show w.heap.size < _ by (try simp) <;> (try omega))]
    first | assumption | (simp [go_sem, *])
  have q7_0_2 : w7.cell? ⟨w.heap.size, 2, none⟩ = some (.slice a xs.length ca) := by
    rw [hb7.cell (p := ⟨w.heap.size, 2, none⟩) (show w.heap.size < _ by (try simp) <;> (try omega))]
    first | assumption | (simp [go_sem, *])
  have hl7_0 : w.heap.size < w7.heap.size := by omega
  have q7_1_0 : w7.cell? ⟨w.heap.size + 1, 0, none⟩ = some (.int .i64 t') := by
    rw [hb7.cell (p := ⟨w.heap.size + 1, 0, none⟩) (show w.heap.size + 1 < _ by (try simp) <;> (try omega))]
    first | assumption | (simp [go_sem, *])
  have q7_1_1 : w7.cell? ⟨w.heap.size + 1, 1, none⟩ = some (.int .i64 v') := by
    rw [hb7.cell (p := ⟨w.heap.size + 1, 1, none⟩) (show w.heap.size + 1 < _ by (try simp) <;> (try omega))]
    first | assumption | (simp [go_sem, *])
  have q7_1_2 : w7.cell? ⟨w.heap.size + 1, 2, none⟩ = some (.slice b ys.length cb) := by
    rw [hb7.cell (p := ⟨w.heap.size + 1, 2, none⟩) (show w.heap.size + 1 < _ by (try simp) <;> (try omega))]
    first | assumption | (simp [go_sem, *])
  have hl7_1 : w.heap.size + 1 < w7.heap.size := by omega
  have q7_2_0 : w7.cell? ⟨w6.heap.size, 0, none⟩ = some (.int .i64 t) := by
    rw [hb7.cell (p := ⟨w6.heap.size, 0, none⟩) (show w6.heap.size < _ by (try simp) <;> (try omega))]
    first | assumption | (simp [go_sem, *])
  have q7_2_1 : w7.cell? ⟨w6.heap.size, 1, none⟩ = some (.int .i64 v) := by
    rw [hb7.cell (p := ⟨w6.heap.size, 1, none⟩) (show w6.heap.size < _ by (try simp) <;> (try omega))]
    first | assumption | (simp [go_sem, *])
  have q7_2_2 : w7.cell? ⟨w6.heap.size, 2, none⟩ = some (.slice a6 xs.length c6) := by
    rw [hb7.cell (p := ⟨w6.heap.size, 2, none⟩) (show w6.heap.size < _ by (try simp) <;> (try omega))]
    first | assumption | (simp [go_sem, *])
  have hl7_2 : w6.heap.size < w7.heap.size := by omega
  clear q6_0_0 q6_0_1 q6_0_2 q6_1_0 q6_1_1 q6_1_2
  go_wp2_with fail
  refine (implSame_c a6 a7 c6 c7 xs ys t v t' v' _ (hs6b.alloc _) (hs7.alloc _) hl hl2 ZA.out ZB.out).mono ?_
  rintro e w8 ⟨rfl, hb8⟩
  rw [HP.out]
  have hs6c := (hs6b.alloc _).keep hb8
  have hs7c := (hs7.alloc _).keep hb8
  have hbb8 := (hbb7.alloc _).keep hb8
  have ha8 := (ha7.alloc _).keep hb8
  have hz8 := hb8.size
  try simp at hz8
  have q8_0_0 : w8.cell? ⟨w.heap.size, 0, none⟩ = some (.int .i64 t) := by
    rw [hb8.cell (p := ⟨w.heap.size, 0, none⟩) (show w.heap.size < _ by (try simp) <;> (try omega))]
    first | assumption | (simp [go_sem, *])
  have q8_0_1 : w8.cell? ⟨w.heap.size, 1, none⟩ = some (.int .i64 v) := by
    rw [hb8.cell (p := ⟨w.heap.size, 1, none⟩) (show w.heap.size < _ by (try simp) <;> (try omega))]
    first | assumption | (simp [go_sem, *])
  have q8_0_2 : w8.cell? ⟨w.heap.size, 2, none⟩ = some (.slice a xs.length ca) := by
    rw [hb8.cell (p := ⟨w.heap.size, 2, none⟩) (show w.heap.size < _ by (try simp) <;> (try omega))]
    first | assumption | (simp [go_sem, *])
  have hl8_0 : w.heap.size < w8.heap.size := by omega
  have q8_1_0 : w8.cell? ⟨w.heap.size + 1, 0, none⟩ = some (.int .i64 t') := by
    rw [hb8.cell (p := ⟨w.heap.size + 1, 0, none⟩) (show w.heap.size + 1 < _ by (try simp) <;> (try omega))]
    first | assumption | (simp [go_sem, *])
  have q8_1_1 : w8.cell? ⟨w.heap.size + 1, 1, none⟩ = some (.int .i64 v') := by
    rw [hb8.cell (p := ⟨w.heap.size + 1, 1, none⟩) (show w.heap.size + 1 < _ by (try simp) <;> (try omega))]
    first | assumption | (simp [go_sem, *])
  have q8_1_2 : w8.cell? ⟨w.heap.size + 1, 2, none⟩ = some (.slice b ys.length cb) := by
    rw [hb8.cell (p := ⟨w.heap.size + 1, 2, none⟩) (show w.heap.size + 1 < _ by (try simp) <;> (try omega))]
    first | assumption | (simp [go_sem, *])
  have hl8_1 : w.heap.size + 1 < w8.heap.size := by omega
  have q8_2_0 : w8.cell? ⟨w6.heap.size, 0, none⟩ = some (.int .i64 t) := by
    rw [hb8.cell (p := ⟨w6.heap.size, 0, none⟩) (show w6.heap.size < _ by (try simp) <;> (try omega))]
    first | assumption | (simp [go_sem, *])
  have q8_2_1 : w8.cell? ⟨w6.heap.size, 1, none⟩ = some (.int .i64 v) := by
    rw [hb8.cell (p := ⟨w6.heap.size, 1, none⟩) (show w6.heap.size < _ by (try simp) <;> (try omega))]
    first | assumption | (simp [go_sem, *])
  have q8_2_2 : w8.cell? ⟨w6.heap.size, 2, none⟩ = some (.slice a6 xs.length c6) := by
    rw [hb8.cell (p := ⟨w6.heap.size, 2, none⟩) (show w6.heap.size < _ by (try simp) <;> (try omega))]
    first | assumption | (simp [go_sem, *])
  have hl8_2 : w6.heap.size < w8.heap.size := by omega
  have q8_3_0 : w8.cell? ⟨w7.heap.size, 0, none⟩ = some (.int .i64 t') := by
    rw [hb8.cell (p := ⟨w7.heap.size, 0, none⟩) (show w7.heap.size < _ by (try simp) <;> (try omega))]
    first | assumption | (simp [go_sem, *])
  have q8_3_1 : w8.cell? ⟨w7.heap.size, 1, none⟩ = some (.int .i64 v') := by
    rw [hb8.cell (p := ⟨w7.heap.size, 1, none⟩) (show w7.heap.size < _ by (try simp) <;> (try omega))]
    first | assumption | (simp [go_sem, *])
  have q8_3_2 : w8.cell? ⟨w7.heap.size, 2, none⟩ = some (.slice a7 ys.length c7) := by
    rw [hb8.cell (p := ⟨w7.heap.size, 2, none⟩) (show w7.heap.size < _ by (try simp) <;> (try omega))]
    first | assumption | (simp [go_sem, *])
  have hl8_3 : w7.heap.size < w8.heap.size := by omega
  clear q7_0_0 q7_0_1 q7_0_2 q7_1_0 q7_1_1 q7_1_2 q7_2_0 q7_2_1 q7_2_2
  go_wp2_with fail
  go_region_held3 (fun w' => w'.cell? ⟨w.heap.size, 0, none⟩ = some (.int .i64 t) ∧ w'.cell? ⟨w.heap.size, 1, none⟩ = some (.int .i64 v) ∧ w'.cell? ⟨w.heap.size, 2, none⟩ = some (.slice a xs.length ca) ∧ w'.cell? ⟨w.heap.size + 1, 0, none⟩ = some (.int .i64 t') ∧ w'.cell? ⟨w.heap.size + 1, 1, none⟩ = some (.int .i64 v') ∧ w'.cell? ⟨w.heap.size + 1, 2, none⟩ = some (.slice b ys.length cb) ∧ w'.cell? ⟨w6.heap.size, 0, none⟩ = some (.int .i64 t) ∧ w'.cell? ⟨w6.heap.size, 1, none⟩ = some (.int .i64 v) ∧ w'.cell? ⟨w6.heap.size, 2, none⟩ = some (.slice a6 xs.length c6) ∧ w'.cell? ⟨w7.heap.size, 0, none⟩ = some (.int .i64 t') ∧ w'.cell? ⟨w7.heap.size, 1, none⟩ = some (.int .i64 v') ∧ w'.cell? ⟨w7.heap.size, 2, none⟩ = some (.slice a7 ys.length c7))
    (first | go_keep | (repeat' apply And.intro) <;> assumption)
    (first
    | (go_at_call 31
       refine (toState_c a ca xs t v _ ha8.drew hl).mono ?_
       rintro e w9 ⟨a9, c9, rfl, hf9, hb9⟩
       have kq0 := fun o => hb9.cell (p := ⟨w.heap.size, o, none⟩) (by simpa using hl8_0)
       have kq1 := fun o => hb9.cell (p := ⟨w.heap.size + 1, o, none⟩) (by simpa using hl8_1)
       have kq2 := fun o => hb9.cell (p := ⟨w6.heap.size, o, none⟩) (by simpa using hl8_2)
       have kq3 := fun o => hb9.cell (p := ⟨w7.heap.size, o, none⟩) (by simpa using hl8_3)
       have hz9 := hb9.size)
    | (go_at_call 33
       refine (eqState_c a6 a9 c6 c9 xs xs t v t v _ (hs6c.drew.keep hb9) (hf9.sl (enc := entE) (fun _ => rfl)) hl hl).mono ?_
       rintro e w10 ⟨rfl, hb10⟩
       simp only [decide_true, Bool.and_self]
       have ks0 := fun o => hb10.cell (p := ⟨w.heap.size, o, none⟩) (show w.heap.size < w9.heap.size by simp at hz9; omega)
       have ks1 := fun o => hb10.cell (p := ⟨w.heap.size + 1, o, none⟩) (show w.heap.size + 1 < w9.heap.size by simp at hz9; omega)
       have ks2 := fun o => hb10.cell (p := ⟨w6.heap.size, o, none⟩) (show w6.heap.size < w9.heap.size by simp at hz9; omega)
       have ks3 := fun o => hb10.cell (p := ⟨w7.heap.size, o, none⟩) (show w7.heap.size < w9.heap.size by simp at hz9; omega)))
  have hs7d := (hs7c.drew.keep hb9).keep hb10
  have hbb10 := (hbb8.drew.keep hb9).keep hb10
  have hz10 := hb10.size
  simp at hz9
  have hb0x : Below w.heap.size w w10 := (by repeat (first | exact Below.refl _ _ | (refine Below.alloc ?_ (by (try simp) <;> (try omega)) _) | (refine Below.setCell ?_ (by (try simp) <;> (try omega)) _) | (refine Below.drew ?_) | (refine Below.trans ?_ (Below.mono (by assumption) (by (try simp) <;> (try omega))))))
  clear hb05 hb6 hb7 hb8 hb9 hb10 hf6 hf7 hf9 kq0 kq1 kq2 kq3 ks0 ks1 ks2 ks3 q8_0_0 q8_0_1 q8_0_2 q8_1_0 q8_1_1 q8_1_2 q8_2_0 q8_2_1 q8_2_2 q8_3_0 q8_3_1 q8_3_2
  go_wp2_with fail
  go_region_held3 (fun w' => w'.cell? ⟨w.heap.size + 1, 0, none⟩ = some (.int .i64 t') ∧ w'.cell? ⟨w.heap.size + 1, 1, none⟩ = some (.int .i64 v') ∧ w'.cell? ⟨w.heap.size + 1, 2, none⟩ = some (.slice b ys.length cb) ∧ w'.cell? ⟨w7.heap.size, 0, none⟩ = some (.int .i64 t') ∧ w'.cell? ⟨w7.heap.size, 1, none⟩ = some (.int .i64 v') ∧ w'.cell? ⟨w7.heap.size, 2, none⟩ = some (.slice a7 ys.length c7))
    (first | go_keep | (repeat' apply And.intro) <;> assumption)
    (first
    | (go_at_call 31
       refine (toState_c b cb ys t' v' _ hbb10.drew hl2).mono ?_
       rintro e w11 ⟨a11, c11, rfl, hf11, hb11⟩
       have hz11 := hb11.size
       try simp at hz11
       have q11_0_0 : w11.cell? ⟨w.heap.size + 1, 0, none⟩ = some (.int .i64 t') := by
         rw [hb11.cell (p := ⟨w.heap.size + 1, 0, none⟩) (show w.heap.size + 1 < _ by (try simp) <;> (try omega))]
         first | assumption | (simp [go_sem, *])
       have q11_0_1 : w11.cell? ⟨w.heap.size + 1, 1, none⟩ = some (.int .i64 v') := by
         rw [hb11.cell (p := ⟨w.heap.size + 1, 1, none⟩) (show w.heap.size + 1 < _ by (try simp) <;> (try omega))]
         first | assumption | (simp [go_sem, *])
       have q11_0_2 : w11.cell? ⟨w.heap.size + 1, 2, none⟩ = some (.slice b ys.length cb) := by
         rw [hb11.cell (p := ⟨w.heap.size + 1, 2, none⟩) (show w.heap.size + 1 < _ by (try simp) <;> (try omega))]
         first | assumption | (simp [go_sem, *])
       have hl11_0 : w.heap.size + 1 < w11.heap.size := by omega
       have q11_1_0 : w11.cell? ⟨w7.heap.size, 0, none⟩ = some (.int .i64 t') := by
         rw [hb11.cell (p := ⟨w7.heap.size, 0, none⟩) (show w7.heap.size < _ by (try simp) <;> (try omega))]
         first | assumption | (simp [go_sem, *])
       have q11_1_1 : w11.cell? ⟨w7.heap.size, 1, none⟩ = some (.int .i64 v') := by
         rw [hb11.cell (p := ⟨w7.heap.size, 1, none⟩) (show w7.heap.size < _ by (try simp) <;> (try omega))]
         first | assumption | (simp [go_sem, *])
       have q11_1_2 : w11.cell? ⟨w7.heap.size, 2, none⟩ = some (.slice a7 ys.length c7) := by
         rw [hb11.cell (p := ⟨w7.heap.size, 2, none⟩) (show w7.heap.size < _ by (try simp) <;> (try omega))]
         first | assumption | (simp [go_sem, *])
       have hl11_1 : w7.heap.size < w11.heap.size := by omega)
    | (go_at_call 33
       refine (eqState_c a7 a11 c7 c11 ys ys t' v' t' v' _ (hs7d.drew.keep hb11) (hf11.sl (enc := entE) (fun _ => rfl)) hl2 hl2).mono ?_
       rintro e w12 ⟨rfl, hb12⟩
       simp only [decide_true, Bool.and_self]
       have hz12 := hb12.size
       try simp at hz12
       have q12_0_0 : w12.cell? ⟨w.heap.size + 1, 0, none⟩ = some (.int .i64 t') := by
         rw [hb12.cell (p := ⟨w.heap.size + 1, 0, none⟩) (show w.heap.size + 1 < _ by (try simp) <;> (try omega))]
         first | assumption | (simp [go_sem, *])
       have q12_0_1 : w12.cell? ⟨w.heap.size + 1, 1, none⟩ = some (.int .i64 v') := by
         rw [hb12.cell (p := ⟨w.heap.size + 1, 1, none⟩) (show w.heap.size + 1 < _ by (try simp) <;> (try omega))]
         first | assumption | (simp [go_sem, *])
       have q12_0_2 : w12.cell? ⟨w.heap.size + 1, 2, none⟩ = some (.slice b ys.length cb) := by
         rw [hb12.cell (p := ⟨w.heap.size + 1, 2, none⟩) (show w.heap.size + 1 < _ by (try simp) <;> (try omega))]
         first | assumption | (simp [go_sem, *])
       have hl12_0 : w.heap.size + 1 < w12.heap.size := by omega
       have q12_1_0 : w12.cell? ⟨w7.heap.size, 0, none⟩ = some (.int .i64 t') := by
         rw [hb12.cell (p := ⟨w7.heap.size, 0, none⟩) (show w7.heap.size < _ by (try simp) <;> (try omega))]
         first | assumption | (simp [go_sem, *])
       have q12_1_1 : w12.cell? ⟨w7.heap.size, 1, none⟩ = some (.int .i64 v') := by
         rw [hb12.cell (p := ⟨w7.heap.size, 1, none⟩) (show w7.heap.size < _ by (try simp) <;> (try omega))]
         first | assumption | (simp [go_sem, *])
       have q12_1_2 : w12.cell? ⟨w7.heap.size, 2, none⟩ = some (.slice a7 ys.length c7) := by
         rw [hb12.cell (p := ⟨w7.heap.size, 2, none⟩) (show w7.heap.size < _ by (try simp) <;> (try omega))]
         first | assumption | (simp [go_sem, *])
       have hl12_1 : w7.heap.size < w12.heap.size := by omega))
  go_wp2_with fail
  go_ret
  exact ⟨rfl, (by repeat (first | exact Below.refl _ _ | (refine Below.alloc ?_ (by (try simp) <;> (try omega)) _) | (refine Below.setCell ?_ (by (try simp) <;> (try omega)) _) | (refine Below.drew ?_) | (refine Below.trans ?_ (Below.mono (by assumption) (by (try simp) <;> (try omega))))))⟩
end Go.Proofs.Ytmkgmecpjppgcaa
