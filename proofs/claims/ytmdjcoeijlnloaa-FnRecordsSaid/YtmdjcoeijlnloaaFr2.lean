/- The law FnRecords: its walk. -/
import Derived.Test.YtmdjcoeijlnloaaSrcAll
import Derived.Test.YtmdjcoeijlnloaaPln2
import Derived.Test.YtmdjcoeijlnloaaFr1
import Derived.Test.YtmdjcoeijlnloaaSame2
import Derived.Deep.RegionHeld3
namespace Go.Proofs.Ytmdjcoeijlnloaa
set_option linter.unusedVariables false
set_option linter.unusedSimpArgs false
open Go.RowKit
set_option maxRecDepth 100000 in
set_option maxHeartbeats 16000000 in
theorem lawRecs_c (a b : Option Addr) (ca cb : Nat) (xs ys : List UInt8) (w : World) (ha : Sl byteE 1 w a xs) (hb : Sl byteE 1 w b ys) (la : xs.length ≤ 9223372036854775807) (lb : ys.length ≤ 9223372036854775807) :
    Calls Try.prog 5 #[.slice a xs.length ca, .slice b ys.length cb] w fun e w' => e = .returned (.bool true) ∧ Below w.heap.size w w' := by
  by_cases hx : 1048576 < xs.length
  · have hx' : (1048576 : Int) < (xs.length : Int) := by omega
    go_enter Try.func5, Try.ntmps5
    go_wp2_with fail
    go_ret
    exact ⟨rfl, Below.refl _ _⟩
  have hx' : (xs.length : Int) ≤ 1048576 := by omega
  by_cases hy : 1048576 < ys.length
  · have hy' : (1048576 : Int) < (ys.length : Int) := by omega
    go_enter Try.func5, Try.ntmps5
    go_wp2_with fail
    go_ret
    exact ⟨rfl, Below.refl _ _⟩
  have hy' : (ys.length : Int) ≤ 1048576 := by omega
  have lx : xs.length ≤ 1048576 := by omega
  have ly : ys.length ≤ 1048576 := by omega
  clear hx hy
  go_enter Try.func5, Try.ntmps5
  go_wp2_with fail
  refine (stateOf_c a ca xs _ ha lx).mono ?_
  rintro e w1 ⟨t, v, S, a1, c1, rfl, hd, _, hf1, hb1⟩
  have hz1 := hb1.size
  have HS11 := Lib.hid (show FreshIn entE 109 2 (w.heap.size) w1.heap.size (.slice a1 S.length c1) S w1 from (by simpa using hf1.here))
  clear hf1
  have HB1 := Lib.hid hb1
  clear hb1
  go_wp2_with fail
  refine (laterOf_c b cb ys t v S a1 c1 3 5 _ ((hb.keep HB1.out).alloc _) ly hd (by omega) (by omega) ((HS11.out.alloc _).sl fun _ => rfl)).mono ?_
  rintro e w2 ⟨t', v', S', a2, c2, rfl, hd', hle, hf2, hb2⟩
  have hz2 := hb2.size
  simp only [World.size_alloc] at hz2
  have HS22 := Lib.hid (show FreshIn entE 109 2 (w1.heap.size + 1) w2.heap.size (.slice a2 S'.length c2) S' w2 from (by simpa using hf2.here))
  clear hf2
  have HS12 := Lib.hid ((HS11.out.alloc _).below hb2)
  clear HS11
  have q2_0_0 : w2.cell? ⟨w1.heap.size, 0, none⟩ = some (.int .i64 t) := by
    rw [hb2.cell (p := ⟨w1.heap.size, 0, none⟩) (show w1.heap.size < _ by (try simp) <;> (try omega))]
    first | assumption | (simp [go_sem, *])
  have q2_0_1 : w2.cell? ⟨w1.heap.size, 1, none⟩ = some (.int .i64 v) := by
    rw [hb2.cell (p := ⟨w1.heap.size, 1, none⟩) (show w1.heap.size < _ by (try simp) <;> (try omega))]
    first | assumption | (simp [go_sem, *])
  have q2_0_2 : w2.cell? ⟨w1.heap.size, 2, none⟩ = some (.slice a1 S.length c1) := by
    rw [hb2.cell (p := ⟨w1.heap.size, 2, none⟩) (show w1.heap.size < _ by (try simp) <;> (try omega))]
    first | assumption | (simp [go_sem, *])
  have hl2_0 : w1.heap.size < w2.heap.size := by omega
  have qf2_0 : ∀ o, w2.frozen? ⟨w1.heap.size, o, none⟩ = false := fun o => by
    rw [hb2.frozen (p := ⟨w1.heap.size, o, none⟩) (show w1.heap.size < _ by (try simp) <;> (try omega))]
    first | (simp [go_sem]; done) | (simp [go_sem, *]; done)
  have HB2 : Hid (Below w.heap.size w w2) := (HB1.out.alloc (by (try simp) <;> (try omega)) _).trans (hb2.mono (by (try simp) <;> (try omega)))
  clear hb2
  obtain ⟨ht0, ht3, hv0, hv2, hSl, hSu⟩ := hd
  obtain ⟨ht0', ht3', hv0', hv2', hSl', hSu'⟩ := hd'
  have HOK : Hid (stOK t v S = true) := hSu.ok ht0 (by omega) hv0 (by omega) (by omega)
  have HOK' : Hid (stOK t' v' S' = true) := hSu'.ok ht0' (by omega) hv0' (by omega) (by omega)
  have HLEAD := Lib.hid (recs_lead t v t' v' S S' HOK.out HOK'.out hle)
  have HRS := Lib.hid (rec_size t v t' v' S S' HOK'.out)
  have hRl := recsL_length t v t' v' S S' (by omega)
  have IP : Hid (∀ (a b : Option Addr) (ca cb : Nat) (w : World), Sl entE 2 w a S → Sl entE 2 w b S' → S'.length ≤ cb → Calls Try.prog 14 #[.agg #[.int .i64 t, .int .i64 v, .slice a S.length ca], .agg #[.int .i64 t', .int .i64 v', .slice b S'.length cb]] w (TupR (recsL t v S t' v' S') 0 w)) := Lib.hid (fun a b ca cb w ha hb hc => by
    have h1 := implRecords_c a b ca cb t v t' v' S S' w ha hb (by omega) (by omega) (fun e he => by have := (hSu.1 e he).2.2; omega) (fun e he => by have := (hSu'.1 e he).2.2; omega) hc
    rw [show recOL t v S t' v' S' = recsL t v S t' v' S' by simp [recOL, HOK.out, HOK'.out], show recOC t v S t' v' S' = 0 by simp [recOC, HOK.out, HOK'.out]] at h1
    exact h1)
  have SP : Hid (∀ (a b : Option Addr) (ca cb : Nat) (w : World), Sl entE 2 w a S → Sl entE 2 w b S' → Calls Try.prog 12 #[.agg #[.int .i64 t, .int .i64 v, .slice a S.length ca], .agg #[.int .i64 t', .int .i64 v', .slice b S'.length cb]] w (TupR (recsL t v S t' v' S') 0 w)) := Lib.hid (fun a b ca cb w ha hb => by
    have h1 := specRecords_c a b ca cb t v t' v' S S' w ha hb (by omega) (by omega) (fun e he => by have := (hSu.1 e he).2.2; omega) (fun e he => by have := (hSu'.1 e he).2.2; omega)
    rw [show recOL t v S t' v' S' = recsL t v S t' v' S' by simp [recOL, HOK.out, HOK'.out], show recOC t v S t' v' S' = 0 by simp [recOC, HOK.out, HOK'.out]] at h1
    exact h1)
  have HSZ' : Hid (∀ e ∈ S', e.2.size ≤ 1048576) := Lib.hid (fun e he => by have := (hSu'.1 e he).2.2; omega)
  clear hSu hSu'
  generalize recsL t v S t' v' S' = R at *
  go_wp2_with fail
  refine (IP.out a1 a2 c1 c2 _ ((HS12.out.alloc _).sl fun _ => rfl) ((HS22.out.alloc _).sl fun _ => rfl) (HS22.out.fits)).mono ?_
  rintro e w3 ⟨a3, c3, rfl, hf3, hb3⟩
  have hz3 := hb3.size
  simp only [World.size_alloc] at hz3
  have HR33 := Lib.hid (show FreshIn strE 9 1 (w2.heap.size + 1) w3.heap.size (.slice a3 R.length c3) R w3 from (by simpa using hf3.here))
  clear hf3
  have HS13 := Lib.hid ((HS12.out.alloc _).below hb3)
  clear HS12
  have HS23 := Lib.hid ((HS22.out.alloc _).below hb3)
  clear HS22
  have q3_0_0 : w3.cell? ⟨w1.heap.size, 0, none⟩ = some (.int .i64 t) := by
    rw [hb3.cell (p := ⟨w1.heap.size, 0, none⟩) (show w1.heap.size < _ by (try simp) <;> (try omega))]
    first | assumption | (simp [go_sem, *])
  have q3_0_1 : w3.cell? ⟨w1.heap.size, 1, none⟩ = some (.int .i64 v) := by
    rw [hb3.cell (p := ⟨w1.heap.size, 1, none⟩) (show w1.heap.size < _ by (try simp) <;> (try omega))]
    first | assumption | (simp [go_sem, *])
  have q3_0_2 : w3.cell? ⟨w1.heap.size, 2, none⟩ = some (.slice a1 S.length c1) := by
    rw [hb3.cell (p := ⟨w1.heap.size, 2, none⟩) (show w1.heap.size < _ by (try simp) <;> (try omega))]
    first | assumption | (simp [go_sem, *])
  have hl3_0 : w1.heap.size < w3.heap.size := by omega
  clear q2_0_0 q2_0_1 q2_0_2
  have qf3_0 : ∀ o, w3.frozen? ⟨w1.heap.size, o, none⟩ = false := fun o => by
    rw [hb3.frozen (p := ⟨w1.heap.size, o, none⟩) (show w1.heap.size < _ by (try simp) <;> (try omega))]
    first | exact qf2_0 o | (simp [go_sem, qf2_0]; done) | (rw [((Below.refl _ _).alloc (Nat.le_refl _) _ : Below _ _ _).frozen (p := ⟨w1.heap.size, o, none⟩) (by show w1.heap.size < _; omega)]; exact qf2_0 o)
  clear qf2_0
  have q3_1_0 : w3.cell? ⟨w2.heap.size, 0, none⟩ = some (.int .i64 t') := by
    rw [hb3.cell (p := ⟨w2.heap.size, 0, none⟩) (show w2.heap.size < _ by (try simp) <;> (try omega))]
    first | assumption | (simp [go_sem, *])
  have q3_1_1 : w3.cell? ⟨w2.heap.size, 1, none⟩ = some (.int .i64 v') := by
    rw [hb3.cell (p := ⟨w2.heap.size, 1, none⟩) (show w2.heap.size < _ by (try simp) <;> (try omega))]
    first | assumption | (simp [go_sem, *])
  have q3_1_2 : w3.cell? ⟨w2.heap.size, 2, none⟩ = some (.slice a2 S'.length c2) := by
    rw [hb3.cell (p := ⟨w2.heap.size, 2, none⟩) (show w2.heap.size < _ by (try simp) <;> (try omega))]
    first | assumption | (simp [go_sem, *])
  have hl3_1 : w2.heap.size < w3.heap.size := by omega
  have qf3_1 : ∀ o, w3.frozen? ⟨w2.heap.size, o, none⟩ = false := fun o => by
    rw [hb3.frozen (p := ⟨w2.heap.size, o, none⟩) (show w2.heap.size < _ by (try simp) <;> (try omega))]
    first | (simp [go_sem]; done) | (simp [go_sem, *]; done)
  have HB3 : Hid (Below w.heap.size w w3) := (HB2.out.alloc (by (try simp) <;> (try omega)) _).trans (hb3.mono (by (try simp) <;> (try omega)))
  clear hb3
  go_wp2_with fail
  refine (SP.out a1 a2 c1 c2 _ (HS13.out.sl fun _ => rfl) (HS23.out.sl fun _ => rfl)).mono ?_
  rintro e w4 ⟨a4, c4, rfl, hf4, hb4⟩
  have hz4 := hb4.size
  have HR44 := Lib.hid (show FreshIn strE 9 1 (w3.heap.size) w4.heap.size (.slice a4 R.length c4) R w4 from (by simpa using hf4.here))
  clear hf4
  have HS14 := Lib.hid (HS13.out.below hb4)
  clear HS13
  have HS24 := Lib.hid (HS23.out.below hb4)
  clear HS23
  have HR34 := Lib.hid (HR33.out.below hb4)
  clear HR33
  have q4_0_0 : w4.cell? ⟨w1.heap.size, 0, none⟩ = some (.int .i64 t) := by
    rw [hb4.cell (p := ⟨w1.heap.size, 0, none⟩) (show w1.heap.size < _ by (try simp) <;> (try omega))]
    exact q3_0_0
  have q4_0_1 : w4.cell? ⟨w1.heap.size, 1, none⟩ = some (.int .i64 v) := by
    rw [hb4.cell (p := ⟨w1.heap.size, 1, none⟩) (show w1.heap.size < _ by (try simp) <;> (try omega))]
    exact q3_0_1
  have q4_0_2 : w4.cell? ⟨w1.heap.size, 2, none⟩ = some (.slice a1 S.length c1) := by
    rw [hb4.cell (p := ⟨w1.heap.size, 2, none⟩) (show w1.heap.size < _ by (try simp) <;> (try omega))]
    exact q3_0_2
  have hl4_0 : w1.heap.size < w4.heap.size := by omega
  clear q3_0_0 q3_0_1 q3_0_2
  have qf4_0 : ∀ o, w4.frozen? ⟨w1.heap.size, o, none⟩ = false := fun o => by
    rw [hb4.frozen (p := ⟨w1.heap.size, o, none⟩) (show w1.heap.size < _ by (try simp) <;> (try omega))]
    first | exact qf3_0 o | (simp [go_sem, qf3_0]; done) | (rw [((Below.refl _ _).alloc (Nat.le_refl _) _ : Below _ _ _).frozen (p := ⟨w1.heap.size, o, none⟩) (by show w1.heap.size < _; omega)]; exact qf3_0 o)
  clear qf3_0
  have q4_1_0 : w4.cell? ⟨w2.heap.size, 0, none⟩ = some (.int .i64 t') := by
    rw [hb4.cell (p := ⟨w2.heap.size, 0, none⟩) (show w2.heap.size < _ by (try simp) <;> (try omega))]
    exact q3_1_0
  have q4_1_1 : w4.cell? ⟨w2.heap.size, 1, none⟩ = some (.int .i64 v') := by
    rw [hb4.cell (p := ⟨w2.heap.size, 1, none⟩) (show w2.heap.size < _ by (try simp) <;> (try omega))]
    exact q3_1_1
  have q4_1_2 : w4.cell? ⟨w2.heap.size, 2, none⟩ = some (.slice a2 S'.length c2) := by
    rw [hb4.cell (p := ⟨w2.heap.size, 2, none⟩) (show w2.heap.size < _ by (try simp) <;> (try omega))]
    exact q3_1_2
  have hl4_1 : w2.heap.size < w4.heap.size := by omega
  clear q3_1_0 q3_1_1 q3_1_2
  have qf4_1 : ∀ o, w4.frozen? ⟨w2.heap.size, o, none⟩ = false := fun o => by
    rw [hb4.frozen (p := ⟨w2.heap.size, o, none⟩) (show w2.heap.size < _ by (try simp) <;> (try omega))]
    first | exact qf3_1 o | (simp [go_sem, qf3_1]; done) | (rw [((Below.refl _ _).alloc (Nat.le_refl _) _ : Below _ _ _).frozen (p := ⟨w2.heap.size, o, none⟩) (by show w2.heap.size < _; omega)]; exact qf3_1 o)
  clear qf3_1
  have HB4 : Hid (Below w.heap.size w w4) := HB3.out.trans (hb4.mono (by (try simp) <;> (try omega)))
  clear hb4
  go_wp2_with fail
  refine (sameTexts_c a3 a4 c3 c4 R _ (HR34.out.sl fun _ => rfl) (HR44.out.sl fun _ => rfl) (by omega)).mono ?_
  rintro e w5 ⟨rfl, hb5⟩
  have hz5 := hb5.size
  have HS15 := Lib.hid (HS14.out.below hb5)
  clear HS14
  have HS25 := Lib.hid (HS24.out.below hb5)
  clear HS24
  have HR35 := Lib.hid (HR34.out.below hb5)
  clear HR34
  have HR45 := Lib.hid (HR44.out.below hb5)
  clear HR44
  have q5_0_0 : w5.cell? ⟨w1.heap.size, 0, none⟩ = some (.int .i64 t) := by
    rw [hb5.cell (p := ⟨w1.heap.size, 0, none⟩) (show w1.heap.size < _ by (try simp) <;> (try omega))]
    exact q4_0_0
  have q5_0_1 : w5.cell? ⟨w1.heap.size, 1, none⟩ = some (.int .i64 v) := by
    rw [hb5.cell (p := ⟨w1.heap.size, 1, none⟩) (show w1.heap.size < _ by (try simp) <;> (try omega))]
    exact q4_0_1
  have q5_0_2 : w5.cell? ⟨w1.heap.size, 2, none⟩ = some (.slice a1 S.length c1) := by
    rw [hb5.cell (p := ⟨w1.heap.size, 2, none⟩) (show w1.heap.size < _ by (try simp) <;> (try omega))]
    exact q4_0_2
  have hl5_0 : w1.heap.size < w5.heap.size := by omega
  clear q4_0_0 q4_0_1 q4_0_2
  have qf5_0 : ∀ o, w5.frozen? ⟨w1.heap.size, o, none⟩ = false := fun o => by
    rw [hb5.frozen (p := ⟨w1.heap.size, o, none⟩) (show w1.heap.size < _ by (try simp) <;> (try omega))]
    first | exact qf4_0 o | (simp [go_sem, qf4_0]; done) | (rw [((Below.refl _ _).alloc (Nat.le_refl _) _ : Below _ _ _).frozen (p := ⟨w1.heap.size, o, none⟩) (by show w1.heap.size < _; omega)]; exact qf4_0 o)
  clear qf4_0
  have q5_1_0 : w5.cell? ⟨w2.heap.size, 0, none⟩ = some (.int .i64 t') := by
    rw [hb5.cell (p := ⟨w2.heap.size, 0, none⟩) (show w2.heap.size < _ by (try simp) <;> (try omega))]
    exact q4_1_0
  have q5_1_1 : w5.cell? ⟨w2.heap.size, 1, none⟩ = some (.int .i64 v') := by
    rw [hb5.cell (p := ⟨w2.heap.size, 1, none⟩) (show w2.heap.size < _ by (try simp) <;> (try omega))]
    exact q4_1_1
  have q5_1_2 : w5.cell? ⟨w2.heap.size, 2, none⟩ = some (.slice a2 S'.length c2) := by
    rw [hb5.cell (p := ⟨w2.heap.size, 2, none⟩) (show w2.heap.size < _ by (try simp) <;> (try omega))]
    exact q4_1_2
  have hl5_1 : w2.heap.size < w5.heap.size := by omega
  clear q4_1_0 q4_1_1 q4_1_2
  have qf5_1 : ∀ o, w5.frozen? ⟨w2.heap.size, o, none⟩ = false := fun o => by
    rw [hb5.frozen (p := ⟨w2.heap.size, o, none⟩) (show w2.heap.size < _ by (try simp) <;> (try omega))]
    first | exact qf4_1 o | (simp [go_sem, qf4_1]; done) | (rw [((Below.refl _ _).alloc (Nat.le_refl _) _ : Below _ _ _).frozen (p := ⟨w2.heap.size, o, none⟩) (by show w2.heap.size < _; omega)]; exact qf4_1 o)
  clear qf4_1
  have HB5 : Hid (Below w.heap.size w w5) := HB4.out.trans (hb5.mono (by (try simp) <;> (try omega)))
  clear hb5
  go_wp2_with fail
  refine (implStateOK_c a2 c2 S' t' v' _ (HS25.out.sl fun _ => rfl) (by omega) HSZ'.out).mono ?_
  rw [HOK'.out]
  rintro e w6 ⟨rfl, hb6⟩
  have hz6 := hb6.size
  have HS16 := Lib.hid (HS15.out.below hb6)
  clear HS15
  have HS26 := Lib.hid (HS25.out.below hb6)
  clear HS25
  have HR36 := Lib.hid (HR35.out.below hb6)
  clear HR35
  have HR46 := Lib.hid (HR45.out.below hb6)
  clear HR45
  have q6_0_0 : w6.cell? ⟨w1.heap.size, 0, none⟩ = some (.int .i64 t) := by
    rw [hb6.cell (p := ⟨w1.heap.size, 0, none⟩) (show w1.heap.size < _ by (try simp) <;> (try omega))]
    exact q5_0_0
  have q6_0_1 : w6.cell? ⟨w1.heap.size, 1, none⟩ = some (.int .i64 v) := by
    rw [hb6.cell (p := ⟨w1.heap.size, 1, none⟩) (show w1.heap.size < _ by (try simp) <;> (try omega))]
    exact q5_0_1
  have q6_0_2 : w6.cell? ⟨w1.heap.size, 2, none⟩ = some (.slice a1 S.length c1) := by
    rw [hb6.cell (p := ⟨w1.heap.size, 2, none⟩) (show w1.heap.size < _ by (try simp) <;> (try omega))]
    exact q5_0_2
  have hl6_0 : w1.heap.size < w6.heap.size := by omega
  clear q5_0_0 q5_0_1 q5_0_2
  have qf6_0 : ∀ o, w6.frozen? ⟨w1.heap.size, o, none⟩ = false := fun o => by
    rw [hb6.frozen (p := ⟨w1.heap.size, o, none⟩) (show w1.heap.size < _ by (try simp) <;> (try omega))]
    first | exact qf5_0 o | (simp [go_sem, qf5_0]; done) | (rw [((Below.refl _ _).alloc (Nat.le_refl _) _ : Below _ _ _).frozen (p := ⟨w1.heap.size, o, none⟩) (by show w1.heap.size < _; omega)]; exact qf5_0 o)
  clear qf5_0
  have q6_1_0 : w6.cell? ⟨w2.heap.size, 0, none⟩ = some (.int .i64 t') := by
    rw [hb6.cell (p := ⟨w2.heap.size, 0, none⟩) (show w2.heap.size < _ by (try simp) <;> (try omega))]
    exact q5_1_0
  have q6_1_1 : w6.cell? ⟨w2.heap.size, 1, none⟩ = some (.int .i64 v') := by
    rw [hb6.cell (p := ⟨w2.heap.size, 1, none⟩) (show w2.heap.size < _ by (try simp) <;> (try omega))]
    exact q5_1_1
  have q6_1_2 : w6.cell? ⟨w2.heap.size, 2, none⟩ = some (.slice a2 S'.length c2) := by
    rw [hb6.cell (p := ⟨w2.heap.size, 2, none⟩) (show w2.heap.size < _ by (try simp) <;> (try omega))]
    exact q5_1_2
  have hl6_1 : w2.heap.size < w6.heap.size := by omega
  clear q5_1_0 q5_1_1 q5_1_2
  have qf6_1 : ∀ o, w6.frozen? ⟨w2.heap.size, o, none⟩ = false := fun o => by
    rw [hb6.frozen (p := ⟨w2.heap.size, o, none⟩) (show w2.heap.size < _ by (try simp) <;> (try omega))]
    first | exact qf5_1 o | (simp [go_sem, qf5_1]; done) | (rw [((Below.refl _ _).alloc (Nat.le_refl _) _ : Below _ _ _).frozen (p := ⟨w2.heap.size, o, none⟩) (by show w2.heap.size < _; omega)]; exact qf5_1 o)
  clear qf5_1
  have HB6 : Hid (Below w.heap.size w w6) := HB5.out.trans (hb6.mono (by (try simp) <;> (try omega)))
  clear hb6
  go_wp2_with fail
  go_loopw [11] (fun iv wr => ∃ (i : Nat) (t1 v1 : Int) (L1 : List Ent) (aL : Option Addr) (cL : Nat), iv = .int .i64 i ∧ i ≤ R.length ∧ Hid (rcL (t1, v1, L1) (R.drop i) = some (t', v', S')) ∧ Hid (stOK t1 v1 L1 = true) ∧ wr.cell? ⟨w1.heap.size, 0, none⟩ = some (.int .i64 t1) ∧ wr.cell? ⟨w1.heap.size, 1, none⟩ = some (.int .i64 v1) ∧ wr.cell? ⟨w1.heap.size, 2, none⟩ = some (.slice aL L1.length cL) ∧ (∀ o, wr.frozen? ⟨w1.heap.size, o, none⟩ = false) ∧ wr.cell? ⟨w2.heap.size, 0, none⟩ = some (.int .i64 t') ∧ wr.cell? ⟨w2.heap.size, 1, none⟩ = some (.int .i64 v') ∧ wr.cell? ⟨w2.heap.size, 2, none⟩ = some (.slice a2 S'.length c2) ∧ Fresh entE 109 2 w.heap.size (.slice aL L1.length cL) L1 wr ∧ (Value.slice aL L1.length cL).ownBlock ≠ some w1.heap.size ∧ FreshIn entE 109 2 (w1.heap.size + 1) (w2.heap.size) (.slice a2 S'.length c2) S' wr ∧ FreshIn strE 9 1 (w2.heap.size + 1) (w3.heap.size) (.slice a3 R.length c3) R wr ∧ Below w.heap.size w wr ∧ w3.heap.size ≤ wr.heap.size) (fun iv _ => R.length - (intOf iv).toNat)
  case atStart => exact ⟨0, t, v, S, a1, c1, rfl, Nat.zero_le _, (by show _ = _; rw [List.drop_zero]; exact HLEAD.out), HOK, q6_0_0, q6_0_1, q6_0_2, qf6_0, q6_1_0, q6_1_1, q6_1_2, HS16.out.1.mono (by omega), (fun e => by have := HS16.out.2 _ e; omega), HS26.out, HR36.out, HB6.out, by omega⟩
  case round =>
    obtain ⟨i, t1, v1, L1, aL, cL, rfl, hiR, hT, hOK, s_0, s_1, s_2, sf, b_0, b_1, b_2, hfL, hneL, hfS, hfR, hbel, hBw⟩ := hrel
    have HL := Lib.hid hfL
    have HNE := Lib.hid hneL
    have HS := Lib.hid hfS
    have HR := Lib.hid hfR
    have HBW := Lib.hid hbel
    have hz := hbel.size
    have hok := stOK_facts hOK.out
    have hL60 := hok.2.2.2.2.1
    have HLs : Hid (∀ e ∈ L1, e.2.size ≤ 1048576) := Lib.hid fun e he => by have := hok.2.2.2.2.2 e he; omega
    have hwB : w.heap.size ≤ w1.heap.size := by omega
    have hn56 : ¬ w1.heap.size = w2.heap.size := by omega
    have hn65 : ¬ w2.heap.size = w1.heap.size := by omega
    clear hok hfL hneL hfS hfR hbel
    by_cases hlt : i < R.length
    · skip
      obtain ⟨bF, oF, rfl, hbF, hcF⟩ := (HR.out.sl (enc := strE) (sz := 1) (fun _ => rfl)).at hlt
      have hbF1 := HR.out.2 bF rfl
      have hbF0 := (HR.out.1.lt (k := bF) rfl).1
      have c1' := hcF i hlt 0 (by omega)
      simp only [strE, Nat.mul_one, Nat.add_zero, List.getElem?_cons_zero] at c1'
      have hrs := HRS.out R[i] (List.getElem_mem hlt)
      have HDR := Lib.hid (List.drop_eq_getElem_cons hlt)
      have hi0 : (0 : Int) ≤ (i : Int) := by omega
      have hi1 : (i : Int) < (R.length : Int) := by omega
      clear hcF
      generalize R[i] = r at *
      obtain ⟨⟨t9, v9, L9⟩, hap, hT9⟩ := rcL_step (s := (t1, v1, L1)) (r := r) (rs := R.drop (i + 1)) (by rw [← HDR.out]; exact hT.out)
      have hst := ar_step (s := (t1, v1, L1)) hOK.out hrs hap
      have HOK9 : Hid (stOK t9 v9 L9 = true) := apV_ok hap
      have HT9 : Hid (rcL (t9, v9, L9) (R.drop (i + 1)) = some (t', v', S')) := hT9
      have HSL := Lib.hid (HL.out.sl (enc := entE) (sz := 2) (xs := L1) (fun _ => rfl))
      have HAP : Hid (∀ w', Below wr.heap.size wr w' → Calls Try.prog 21 #[.agg #[.int .i64 t1, .int .i64 v1, .slice aL L1.length cL], .string r] w' (ArR t9 v9 L9 0 w')) := Lib.hid (fun w' h => by
        have h1 := implARec_c aL cL L1 t1 v1 r.data.toList w' (HSL.out.keep h) (by omega) HLs.out (by show r.size ≤ _; omega)
        rw [hst.1, hst.2] at h1
        exact h1)
      clear hap hT9 hst hrs
      have rs_0 : ∀ x, (wr.alloc x).cell? ⟨w1.heap.size, 0, none⟩ = some (.int .i64 t1) := fun x => by
        rw [World.cell?_alloc_lt _ _ _ (by show w1.heap.size < _; omega)]
        exact s_0
      have rs_1 : ∀ x, (wr.alloc x).cell? ⟨w1.heap.size, 1, none⟩ = some (.int .i64 v1) := fun x => by
        rw [World.cell?_alloc_lt _ _ _ (by show w1.heap.size < _; omega)]
        exact s_1
      have rs_2 : ∀ x, (wr.alloc x).cell? ⟨w1.heap.size, 2, none⟩ = some (.slice aL L1.length cL) := fun x => by
        rw [World.cell?_alloc_lt _ _ _ (by show w1.heap.size < _; omega)]
        exact s_2
      have rb_0 : ∀ x, (wr.alloc x).cell? ⟨w2.heap.size, 0, none⟩ = some (.int .i64 t') := fun x => by
        rw [World.cell?_alloc_lt _ _ _ (by show w2.heap.size < _; omega)]
        exact b_0
      have rb_1 : ∀ x, (wr.alloc x).cell? ⟨w2.heap.size, 1, none⟩ = some (.int .i64 v') := fun x => by
        rw [World.cell?_alloc_lt _ _ _ (by show w2.heap.size < _; omega)]
        exact b_1
      have rb_2 : ∀ x, (wr.alloc x).cell? ⟨w2.heap.size, 2, none⟩ = some (.slice a2 S'.length c2) := fun x => by
        rw [World.cell?_alloc_lt _ _ _ (by show w2.heap.size < _; omega)]
        exact b_2
      have rc1 : ∀ x, (wr.alloc x).cell? ⟨bF, oF + i, none⟩ = some (.string r) := fun x => by
        rw [World.cell?_alloc_lt _ _ _ (by show bF < _; omega)]
        exact c1'
      have rsf : ∀ x o, (wr.alloc x).frozen? ⟨w1.heap.size, o, none⟩ = false := fun x o => by
        rw [((Below.refl _ _).alloc (Nat.le_refl _) _ : Below _ _ _).frozen (p := ⟨w1.heap.size, o, none⟩) (by show w1.heap.size < _; omega)]
        exact sf o
      have hwn0 : ¬ wr.heap.size = w1.heap.size := by omega
      have hwm0 : ¬ w1.heap.size = wr.heap.size := by omega
      have hwn1 : ¬ wr.heap.size = w2.heap.size := by omega
      have hwm1 : ¬ w2.heap.size = wr.heap.size := by omega
      have hwn2 : ¬ wr.heap.size = bF := by omega
      have hwm2 : ¬ bF = wr.heap.size := by omega
      go_wp2_with fail
      go_region_held3 (fun w' => w'.cell? ⟨w1.heap.size, 0, none⟩ = some (.int .i64 t1) ∧ w'.cell? ⟨w1.heap.size, 1, none⟩ = some (.int .i64 v1) ∧ w'.cell? ⟨w1.heap.size, 2, none⟩ = some (.slice aL L1.length cL) ∧ w'.cell? ⟨bF, oF + i, none⟩ = some (.string r))
        (first | ((repeat' apply And.intro) <;> (first | (simp [go_sem, s_0, s_1, s_2, c1', rs_0, rs_1, rs_2, rc1, sf, rsf, hwn0, hwm0, hwn2, hwm2]; done) | (simp [go_sem, s_0, s_1, s_2, c1', rs_0, rs_1, rs_2, rc1, sf, rsf, hwn0, hwm0, hwn2, hwm2, ns_0, ns_1, ns_2, nc1, hw2b, hw2F, u_0, u_1, u_2, uf]; done) | (simp [go_sem, s_0, s_1, s_2, c1', rs_0, rs_1, rs_2, rc1, sf, rsf, hwn0, hwm0, hwn2, hwm2, ns_0, ns_1, ns_2, nc1, hw2b, hw2F]; done))) | go_keep)
        (first
          | (go_at_call 21
             refine (HAP.out ((wr.alloc (.cells #[.int .i64 0, .int .i64 0, .slice none 0 0] 31)).drew) (((Below.refl _ _).alloc (Nat.le_refl _) _).drew)).mono ?_
             rintro e w7 ⟨a7, c7, rfl, hf7, hb7⟩
             have hz7 := hb7.size
             simp only [World.size_drew, World.size_alloc] at hz7
             have hw2b : w1.heap.size < w7.heap.size := by omega
             have hw2F : bF < w7.heap.size := by omega
             have ns_0 : w7.cell? ⟨w1.heap.size, 0, none⟩ = some (.int .i64 t1) := (hb7.cell (p := ⟨w1.heap.size, 0, none⟩) (by show w1.heap.size < (World.drew (World.alloc wr _)).heap.size; rw [World.size_drew, World.size_alloc]; omega)).trans (rs_0 _)
             have ns_1 : w7.cell? ⟨w1.heap.size, 1, none⟩ = some (.int .i64 v1) := (hb7.cell (p := ⟨w1.heap.size, 1, none⟩) (by show w1.heap.size < (World.drew (World.alloc wr _)).heap.size; rw [World.size_drew, World.size_alloc]; omega)).trans (rs_1 _)
             have ns_2 : w7.cell? ⟨w1.heap.size, 2, none⟩ = some (.slice aL L1.length cL) := (hb7.cell (p := ⟨w1.heap.size, 2, none⟩) (by show w1.heap.size < (World.drew (World.alloc wr _)).heap.size; rw [World.size_drew, World.size_alloc]; omega)).trans (rs_2 _)
             have nc1 : w7.cell? ⟨bF, oF + i, none⟩ = some (.string r) := (hb7.cell (p := ⟨bF, oF + i, none⟩) (by show bF < (World.drew (World.alloc wr _)).heap.size; rw [World.size_drew, World.size_alloc]; omega)).trans (rc1 _)
             have u_0 : w7.cell? ⟨wr.heap.size, 0, none⟩ = some (.int .i64 0) := (hb7.cell (p := ⟨wr.heap.size, 0, none⟩) (by show wr.heap.size < (World.drew (World.alloc wr _)).heap.size; rw [World.size_drew, World.size_alloc]; omega)).trans (World.cell?_alloc_new wr _ _ _)
             have u_1 : w7.cell? ⟨wr.heap.size, 1, none⟩ = some (.int .i64 0) := (hb7.cell (p := ⟨wr.heap.size, 1, none⟩) (by show wr.heap.size < (World.drew (World.alloc wr _)).heap.size; rw [World.size_drew, World.size_alloc]; omega)).trans (World.cell?_alloc_new wr _ _ _)
             have u_2 : w7.cell? ⟨wr.heap.size, 2, none⟩ = some (.slice none 0 0) := (hb7.cell (p := ⟨wr.heap.size, 2, none⟩) (by show wr.heap.size < (World.drew (World.alloc wr _)).heap.size; rw [World.size_drew, World.size_alloc]; omega)).trans (World.cell?_alloc_new wr _ _ _)
             have uf : ∀ o, w7.frozen? ⟨wr.heap.size, o, none⟩ = false := fun o => (hb7.frozen (p := ⟨wr.heap.size, o, none⟩) (by show wr.heap.size < (World.drew (World.alloc wr _)).heap.size; rw [World.size_drew, World.size_alloc]; omega)).trans (by simp [go_sem]))
          | (go_at_call 21
             refine (HAP.out wr.drew ((Below.refl _ _).drew)).mono ?_
             rintro e w7 ⟨a7, c7, rfl, hf7, hb7⟩
             have hz7 := hb7.size
             simp only [World.size_drew] at hz7
             have hw2b : w1.heap.size < w7.heap.size := by omega
             have hw2F : bF < w7.heap.size := by omega
             have ns_0 : w7.cell? ⟨w1.heap.size, 0, none⟩ = some (.int .i64 t1) := (hb7.cell (p := ⟨w1.heap.size, 0, none⟩) (by show w1.heap.size < wr.heap.size; omega)).trans (s_0)
             have ns_1 : w7.cell? ⟨w1.heap.size, 1, none⟩ = some (.int .i64 v1) := (hb7.cell (p := ⟨w1.heap.size, 1, none⟩) (by show w1.heap.size < wr.heap.size; omega)).trans (s_1)
             have ns_2 : w7.cell? ⟨w1.heap.size, 2, none⟩ = some (.slice aL L1.length cL) := (hb7.cell (p := ⟨w1.heap.size, 2, none⟩) (by show w1.heap.size < wr.heap.size; omega)).trans (s_2)
             have nc1 : w7.cell? ⟨bF, oF + i, none⟩ = some (.string r) := (hb7.cell (p := ⟨bF, oF + i, none⟩) (by show bF < wr.heap.size; omega)).trans (c1')))
      all_goals
        have HB7 : Hid (Below w.heap.size w w7) := by
          first
            | exact (HBW.out.alloc (by omega) _).drew.trans (hb7.mono (by rw [World.size_drew, World.size_alloc]; omega))
            | exact HBW.out.drew.trans (hb7.mono (by rw [World.size_drew]; omega))
        have nb_0 : w7.cell? ⟨w2.heap.size, 0, none⟩ = some (.int .i64 t') := (hb7.cell (p := ⟨w2.heap.size, 0, none⟩) (by first | (show w2.heap.size < (World.drew (World.alloc wr _)).heap.size; rw [World.size_drew, World.size_alloc]; omega) | (show w2.heap.size < wr.heap.size; omega))).trans (by first | exact b_0 | exact rb_0 _)
        have nb_1 : w7.cell? ⟨w2.heap.size, 1, none⟩ = some (.int .i64 v') := (hb7.cell (p := ⟨w2.heap.size, 1, none⟩) (by first | (show w2.heap.size < (World.drew (World.alloc wr _)).heap.size; rw [World.size_drew, World.size_alloc]; omega) | (show w2.heap.size < wr.heap.size; omega))).trans (by first | exact b_1 | exact rb_1 _)
        have nb_2 : w7.cell? ⟨w2.heap.size, 2, none⟩ = some (.slice a2 S'.length c2) := (hb7.cell (p := ⟨w2.heap.size, 2, none⟩) (by first | (show w2.heap.size < (World.drew (World.alloc wr _)).heap.size; rw [World.size_drew, World.size_alloc]; omega) | (show w2.heap.size < wr.heap.size; omega))).trans (by first | exact b_2 | exact rb_2 _)
        have nsf : ∀ o, w7.frozen? ⟨w1.heap.size, o, none⟩ = false := fun o => (hb7.frozen (p := ⟨w1.heap.size, o, none⟩) (by first | (show w1.heap.size < (World.drew (World.alloc wr _)).heap.size; rw [World.size_drew, World.size_alloc]; omega) | (show w1.heap.size < wr.heap.size; omega))).trans (by first | exact sf o | exact rsf _ o)
        have hw2d : w2.heap.size < w7.heap.size := by omega
        have ms_0 : ∀ x, (w7.alloc x).cell? ⟨w1.heap.size, 0, none⟩ = some (.int .i64 t1) := fun x => by
          rw [World.cell?_alloc_lt _ _ _ (by show w1.heap.size < _; omega)]
          exact ns_0
        have ms_1 : ∀ x, (w7.alloc x).cell? ⟨w1.heap.size, 1, none⟩ = some (.int .i64 v1) := fun x => by
          rw [World.cell?_alloc_lt _ _ _ (by show w1.heap.size < _; omega)]
          exact ns_1
        have ms_2 : ∀ x, (w7.alloc x).cell? ⟨w1.heap.size, 2, none⟩ = some (.slice aL L1.length cL) := fun x => by
          rw [World.cell?_alloc_lt _ _ _ (by show w1.heap.size < _; omega)]
          exact ns_2
        have mb_0 : ∀ x, (w7.alloc x).cell? ⟨w2.heap.size, 0, none⟩ = some (.int .i64 t') := fun x => by
          rw [World.cell?_alloc_lt _ _ _ (by show w2.heap.size < _; omega)]
          exact nb_0
        have mb_1 : ∀ x, (w7.alloc x).cell? ⟨w2.heap.size, 1, none⟩ = some (.int .i64 v') := fun x => by
          rw [World.cell?_alloc_lt _ _ _ (by show w2.heap.size < _; omega)]
          exact nb_1
        have mb_2 : ∀ x, (w7.alloc x).cell? ⟨w2.heap.size, 2, none⟩ = some (.slice a2 S'.length c2) := fun x => by
          rw [World.cell?_alloc_lt _ _ _ (by show w2.heap.size < _; omega)]
          exact nb_2
        have msf : ∀ x o, (w7.alloc x).frozen? ⟨w1.heap.size, o, none⟩ = false := fun x o => by
          rw [((Below.refl _ _).alloc (Nat.le_refl _) _ : Below _ _ _).frozen (p := ⟨w1.heap.size, o, none⟩) (by show w1.heap.size < _; omega)]
          exact nsf o
        have HL7 : Hid (Fresh entE 109 2 wr.heap.size (.slice a7 L9.length c7) L9 w7) := Lib.hid (Fresh.mono hf7 (by first | (rw [World.size_drew, World.size_alloc]; omega) | (rw [World.size_drew]; omega)))
        try have hNw := ownNe_alloc hf7
        have hN9 : (Value.slice a7 L9.length c7).ownBlock ≠ some w1.heap.size := fun e => by
          have := (HL7.out.lt e).1
          omega
        have HS7 : Hid (FreshIn entE 109 2 (w1.heap.size + 1) (w2.heap.size) (.slice a2 S'.length c2) S' w7) := by
          first
            | exact (HS.out.alloc _).drew.below hb7
            | exact HS.out.drew.below hb7
        have HR7 : Hid (FreshIn strE 9 1 (w2.heap.size + 1) (w3.heap.size) (.slice (some ⟨bF, oF, none⟩) R.length c3) R w7) := by
          first
            | exact (HR.out.alloc _).drew.below hb7
            | exact HR.out.drew.below hb7
        clear hf7 hb7
        go_wp2_with fail
        go_roundw
        case rel =>
          refine ⟨i + 1, t9, v9, L9, a7, c7, by go_num, by omega, HT9, HOK9, ?_, ?_, ?_, ?_, ?_, ?_, ?_, ?_, hN9, ?_, ?_, ?_, ?_⟩
          · simp [go_sem, ns_0, ns_1, ns_2, nb_0, nb_1, nb_2, ms_0, ms_1, ms_2, mb_0, mb_1, mb_2, nsf, msf, hw2b, hw2d, hn56, hn65, hwn0, hwm0, hwn1, hwm1]
          · simp [go_sem, ns_0, ns_1, ns_2, nb_0, nb_1, nb_2, ms_0, ms_1, ms_2, mb_0, mb_1, mb_2, nsf, msf, hw2b, hw2d, hn56, hn65, hwn0, hwm0, hwn1, hwm1]
          · simp [go_sem, ns_0, ns_1, ns_2, nb_0, nb_1, nb_2, ms_0, ms_1, ms_2, mb_0, mb_1, mb_2, nsf, msf, hw2b, hw2d, hn56, hn65, hwn0, hwm0, hwn1, hwm1]
          · intro o
            simp [go_sem, ns_0, ns_1, ns_2, nb_0, nb_1, nb_2, ms_0, ms_1, ms_2, mb_0, mb_1, mb_2, nsf, msf, hw2b, hw2d, hn56, hn65, hwn0, hwm0, hwn1, hwm1]
          · simp [go_sem, ns_0, ns_1, ns_2, nb_0, nb_1, nb_2, ms_0, ms_1, ms_2, mb_0, mb_1, mb_2, nsf, msf, hw2b, hw2d, hn56, hn65, hwn0, hwm0, hwn1, hwm1]
          · simp [go_sem, ns_0, ns_1, ns_2, nb_0, nb_1, nb_2, ms_0, ms_1, ms_2, mb_0, mb_1, mb_2, nsf, msf, hw2b, hw2d, hn56, hn65, hwn0, hwm0, hwn1, hwm1]
          · simp [go_sem, ns_0, ns_1, ns_2, nb_0, nb_1, nb_2, ms_0, ms_1, ms_2, mb_0, mb_1, mb_2, nsf, msf, hw2b, hw2d, hn56, hn65, hwn0, hwm0, hwn1, hwm1]
          · refine Fresh.mono (B := wr.heap.size) ?_ (by omega)
            repeat (first | (with_reducible exact HL7.out) | (with_reducible refine Fresh.setNe ?_ hN9 _ _) | (with_reducible refine Fresh.setNe ?_ hNw _ _) | (with_reducible refine Fresh.alloc ?_ _))
          · repeat (first | (with_reducible exact HS7.out) | (with_reducible refine FreshIn.setCell ?_ ?_ _; rotate_left; (show w1.heap.size < _; omega)) | (with_reducible refine FreshIn.setHi ?_ ?_ _; rotate_left; ((try simp) <;> (try omega))) | (with_reducible refine FreshIn.alloc ?_ _))
          · repeat (first | (with_reducible exact HR7.out) | (with_reducible refine FreshIn.setCell ?_ ?_ _; rotate_left; (show w1.heap.size < _; omega)) | (with_reducible refine FreshIn.setHi ?_ ?_ _; rotate_left; ((try simp) <;> (try omega))) | (with_reducible refine FreshIn.alloc ?_ _))
          · repeat (first | (with_reducible exact HB7.out) | (with_reducible refine Below.setCell ?_ ?_ _; rotate_left; ((try simp) <;> (try omega))) | (with_reducible refine Below.alloc ?_ ?_ _; rotate_left; ((try simp) <;> (try omega))))
          · simp; omega
        case measure => simp [intOf]; omega
    · obtain rfl : i = R.length := by omega
      have he := hT.out
      rw [List.drop_length, rcL_nil] at he
      cases he
      have HV : Hid (sameV t' v' S' t' v' S' = .tuple #[.bool true, .int .i64 0]) := Lib.hid (by simp [sameV, HOK'.out])
      go_wp2_with fail
      refine (implSame_c aL a2 cL c2 S' S' t' v' t' v' _ (HL.out.sl fun _ => rfl) (HS.out.sl fun _ => rfl) (by omega) (by omega) HLs.out HLs.out).mono ?_
      rw [HV.out]
      rintro e w9 ⟨rfl, hb9⟩
      have HB9 := Lib.hid (HBW.out.trans (hb9.mono hz))
      clear hb9
      go_wp2_with fail
      go_ret
      exact ⟨rfl, HB9.out⟩
end Go.Proofs.Ytmdjcoeijlnloaa
