/- The laws' helpers for parsers and actions; marks. No conditions but sizes. -/
import Derived.Test.YtlhhlmalihajcaaDoorQaD
import Derived.Test.YtlhhlmalihajcaaDoorQuiet
import Derived.Test.YtlhhlmalihajcaaDoorTo
import Derived.Test.YtlhhlmalihajcaaDoorSlInt
import Derived.Deep.RegionHeld3
import Derived.StillTailTactics
import Derived.Test.YtlhhlmalihajcaaDoorRw
import Derived.Test.YtlhhlmalihajcaaDoorPaA
namespace Go.Proofs.YtlhhlmalihajcaaDoor
set_option linter.unusedVariables false
set_option linter.unusedSimpArgs false
section
open Go.RowKit
def SzP (C : Prop) (w : World) (e : Ending) (w' : World) : Prop := (∃ n : Int, e = .returned (.int .i64 n) ∧ n ≤ 1048576 ∧ (0 ≤ n → C)) ∧ Below w.heap.size w w'
set_option maxHeartbeats 400000 in
theorem szInts_c (a : Option Addr) (ca n : Nat) (left : Int) (w : World) (la : n ≤ 9223372036854775807) (h0 : 0 ≤ left) (h1 : left ≤ 1048576) :
    Calls Tryd.prog 44 #[.slice a n ca, .int .i64 left] w (SzP (n ≤ 1048576) w) := by
  go_enter Tryd.func44, Tryd.ntmps44
  go_wp2_with fail
  all_goals
    go_ret
    exact ⟨⟨_, rfl, by omega, fun h => by omega⟩, Below.refl _ _⟩
set_option maxRecDepth 100000 in
set_option maxHeartbeats 2000000 in
theorem szParser_c (ap : Option Addr) (cp : Nat) (p : PV) (left : Int) (w : World) (hZ : PvSz p 9223372036854775807) (h0 : 0 ≤ left) (h1 : left ≤ 1048576) :
    Calls Tryd.prog 15 #[.agg #[.int .i64 p.state, .slice ap p.args.length cp, .bool p.priv, .string p.text, .string p.utf], .int .i64 left] w (SzP (PvSz p 1048576) w) := by
  have z1 := hZ.args
  have z2 := hZ.text
  have z3 := hZ.utf
  clear hZ
  go_enter Tryd.func15, Tryd.ntmps15
  go_wp2_with fail
  refine (szInts_c ap cp p.args.length left _ z1 h0 h1).mono ?_
  rintro e w1 ⟨⟨n1, rfl, hn1, himp1⟩, hb1⟩
  have HI1 := Lib.hid himp1
  clear himp1
  have hz1 := hb1.size
  try simp at hz1
  have q1_0_0 : w1.cell? ⟨w.heap.size, 0, none⟩ = some (.int .i64 p.state) := by
    rw [hb1.cell (p := ⟨w.heap.size, 0, none⟩) (show w.heap.size < _ by (try simp) <;> (try omega))]
    first | assumption | (simp [go_sem, *])
  have q1_0_1 : w1.cell? ⟨w.heap.size, 1, none⟩ = some (.slice ap p.args.length cp) := by
    rw [hb1.cell (p := ⟨w.heap.size, 1, none⟩) (show w.heap.size < _ by (try simp) <;> (try omega))]
    first | assumption | (simp [go_sem, *])
  have q1_0_2 : w1.cell? ⟨w.heap.size, 2, none⟩ = some (.bool p.priv) := by
    rw [hb1.cell (p := ⟨w.heap.size, 2, none⟩) (show w.heap.size < _ by (try simp) <;> (try omega))]
    first | assumption | (simp [go_sem, *])
  have q1_0_3 : w1.cell? ⟨w.heap.size, 3, none⟩ = some (.string p.text) := by
    rw [hb1.cell (p := ⟨w.heap.size, 3, none⟩) (show w.heap.size < _ by (try simp) <;> (try omega))]
    first | assumption | (simp [go_sem, *])
  have q1_0_4 : w1.cell? ⟨w.heap.size, 4, none⟩ = some (.string p.utf) := by
    rw [hb1.cell (p := ⟨w.heap.size, 4, none⟩) (show w.heap.size < _ by (try simp) <;> (try omega))]
    first | assumption | (simp [go_sem, *])
  have hl1_0 : w.heap.size < w1.heap.size := by omega
  have hbw : Below w.heap.size w w1 := ((Below.refl w.heap.size w).alloc (Nat.le_refl _) _).trans (hb1.mono (by simp))
  have HB := Lib.hid hbw
  clear hb1 hbw
  by_cases hneg : n1 < 0
  · go_wp2_with fail
    go_ret
    exact ⟨⟨_, rfl, by omega, fun h => by omega⟩, HB.out⟩
  have HA := Lib.hid (HI1.out (by omega))
  by_cases hn2 : n1 < (p.text.size : Int)
  · go_wp2_with fail
    all_goals first
      | (exfalso; omega)
      | (go_ret
         exact ⟨⟨_, rfl, by omega, fun h => by omega⟩, HB.out⟩)
  by_cases hn3 : n1 - (p.text.size : Int) < (p.utf.size : Int)
  · go_wp2_with fail
    all_goals first
      | (exfalso; omega)
      | (go_ret
         exact ⟨⟨_, rfl, by omega, fun h => by omega⟩, HB.out⟩)
  go_wp2_with fail
  all_goals first
    | (exfalso; omega)
    | (go_ret
       exact ⟨⟨_, rfl, by omega, fun h => ⟨HA.out, by omega, by omega⟩⟩, HB.out⟩)
set_option maxRecDepth 100000 in
set_option maxHeartbeats 2000000 in
theorem toParser_c (ap : Option Addr) (cp : Nat) (p : PV) (w : World) (ha : Sl intE 1 w ap p.args) (hZ : PvSz p 1048576) :
    Calls Tryd.prog 16 #[.agg #[.int .i64 p.state, .slice ap p.args.length cp, .bool p.priv, .string p.text, .string p.utf]] w (ParR p w) := by
  have HA := Lib.hid ha
  have HZ := Lib.hid hZ
  clear hZ
  go_enter Tryd.func16, Tryd.ntmps16
  go_wp2_with fail
  refine (toIntS_c ap cp p.args _ (((ha.alloc _).alloc _).alloc _) HZ.out.args).mono ?_
  rintro e w1 ⟨v, rfl, hf, hb⟩
  obtain ⟨a1, c1, rfl, _, _⟩ := id hf
  have HF := Lib.hid hf.here
  have hz := hb.size
  simp only [World.size_alloc] at hz
  have hl2 : w.heap.size + 2 < w1.heap.size := by omega
  have hl1 : w.heap.size + 1 < w1.heap.size := by omega
  have hl0 : w.heap.size < w1.heap.size := by omega
  have q0_0 : w1.cell? ⟨w.heap.size, 0, none⟩ = some (.int .i64 p.state) := (hb.cell (p := ⟨w.heap.size, 0, none⟩) (by show w.heap.size < _; (try simp) <;> omega)).trans (by simp [go_sem])
  have q0_1 : w1.cell? ⟨w.heap.size, 1, none⟩ = some (.slice ap p.args.length cp) := (hb.cell (p := ⟨w.heap.size, 1, none⟩) (by show w.heap.size < _; (try simp) <;> omega)).trans (by simp [go_sem])
  have q0_2 : w1.cell? ⟨w.heap.size, 2, none⟩ = some (.bool p.priv) := (hb.cell (p := ⟨w.heap.size, 2, none⟩) (by show w.heap.size < _; (try simp) <;> omega)).trans (by simp [go_sem])
  have q0_3 : w1.cell? ⟨w.heap.size, 3, none⟩ = some (.string p.text) := (hb.cell (p := ⟨w.heap.size, 3, none⟩) (by show w.heap.size < _; (try simp) <;> omega)).trans (by simp [go_sem])
  have q0_4 : w1.cell? ⟨w.heap.size, 4, none⟩ = some (.string p.utf) := (hb.cell (p := ⟨w.heap.size, 4, none⟩) (by show w.heap.size < _; (try simp) <;> omega)).trans (by simp [go_sem])
  have f0 : ∀ o, w1.frozen? ⟨w.heap.size, o, none⟩ = false := fun o => (hb.frozen (p := ⟨w.heap.size, o, none⟩) (by show w.heap.size < _; (try simp) <;> omega)).trans (by simp [go_sem])
  have q1_0 : w1.cell? ⟨w.heap.size + 1, 0, none⟩ = some (.int .i64 0) := (hb.cell (p := ⟨w.heap.size + 1, 0, none⟩) (by show w.heap.size + 1 < _; (try simp) <;> omega)).trans (by simp [go_sem])
  have q1_1 : w1.cell? ⟨w.heap.size + 1, 1, none⟩ = some (.slice none 0 0) := (hb.cell (p := ⟨w.heap.size + 1, 1, none⟩) (by show w.heap.size + 1 < _; (try simp) <;> omega)).trans (by simp [go_sem])
  have q1_2 : w1.cell? ⟨w.heap.size + 1, 2, none⟩ = some (.bool false) := (hb.cell (p := ⟨w.heap.size + 1, 2, none⟩) (by show w.heap.size + 1 < _; (try simp) <;> omega)).trans (by simp [go_sem])
  have q1_3 : w1.cell? ⟨w.heap.size + 1, 3, none⟩ = some (.string ⟨#[]⟩) := (hb.cell (p := ⟨w.heap.size + 1, 3, none⟩) (by show w.heap.size + 1 < _; (try simp) <;> omega)).trans (by simp [go_sem])
  have q1_4 : w1.cell? ⟨w.heap.size + 1, 4, none⟩ = some (.string ⟨#[]⟩) := (hb.cell (p := ⟨w.heap.size + 1, 4, none⟩) (by show w.heap.size + 1 < _; (try simp) <;> omega)).trans (by simp [go_sem])
  have f1 : ∀ o, w1.frozen? ⟨w.heap.size + 1, o, none⟩ = false := fun o => (hb.frozen (p := ⟨w.heap.size + 1, o, none⟩) (by show w.heap.size + 1 < _; (try simp) <;> omega)).trans (by simp [go_sem])
  have q2_0 : w1.cell? ⟨w.heap.size + 2, 0, none⟩ = some (.int .i64 p.state) := (hb.cell (p := ⟨w.heap.size + 2, 0, none⟩) (by show w.heap.size + 2 < _; (try simp) <;> omega)).trans (by simp [go_sem])
  have q2_1 : w1.cell? ⟨w.heap.size + 2, 1, none⟩ = some (.slice none 0 0) := (hb.cell (p := ⟨w.heap.size + 2, 1, none⟩) (by show w.heap.size + 2 < _; (try simp) <;> omega)).trans (by simp [go_sem])
  have q2_2 : w1.cell? ⟨w.heap.size + 2, 2, none⟩ = some (.bool false) := (hb.cell (p := ⟨w.heap.size + 2, 2, none⟩) (by show w.heap.size + 2 < _; (try simp) <;> omega)).trans (by simp [go_sem])
  have q2_3 : w1.cell? ⟨w.heap.size + 2, 3, none⟩ = some (.string ⟨#[]⟩) := (hb.cell (p := ⟨w.heap.size + 2, 3, none⟩) (by show w.heap.size + 2 < _; (try simp) <;> omega)).trans (by simp [go_sem])
  have q2_4 : w1.cell? ⟨w.heap.size + 2, 4, none⟩ = some (.string ⟨#[]⟩) := (hb.cell (p := ⟨w.heap.size + 2, 4, none⟩) (by show w.heap.size + 2 < _; (try simp) <;> omega)).trans (by simp [go_sem])
  have f2 : ∀ o, w1.frozen? ⟨w.heap.size + 2, o, none⟩ = false := fun o => (hb.frozen (p := ⟨w.heap.size + 2, o, none⟩) (by show w.heap.size + 2 < _; (try simp) <;> omega)).trans (by simp [go_sem])
  have HB := Lib.hid (hb.mono (by simp only [World.size_alloc]; omega : w.heap.size + 3 ≤ _))
  clear hf hb ha
  go_wp2_with fail
  refine bodyPost_ret (v := .agg #[.int .i64 p.state, .slice a1 p.args.length c1, .bool p.priv, .string p.text, .string p.utf]) (by simp [results, Tryd.results16, go_sem, q0_0, q0_1, q0_2, q0_3, q0_4, q1_0, q1_1, q1_2, q1_3, q1_4, q2_0, q2_1, q2_2, q2_3, q2_4, hl0, hl1, hl2]) rfl ?_
  have hF := HF.out
  have hFb := FreshIn.blks hF
  simp only [World.size_alloc] at hF hFb
  have hcs : ∀ wz, Ch (fun k => k = w.heap.size + 1 ∨ k = w.heap.size + 1 + 1) w1 wz → ParR p w (.returned (.agg #[.int .i64 p.state, .slice a1 p.args.length c1, .bool p.priv, .string p.text, .string p.utf])) wz := fun wz hc => by
    refine ⟨a1, c1, rfl, ?_, ?_⟩
    · exact (hF.ch hc (fun k hk h => by have := (hFb k hk).1; omega)).mono (by omega) (Nat.le_refl _)
    · exact ((((Below.refl w.heap.size w).alloc (Nat.le_refl _) _).alloc (by simp) _).alloc (by simp; omega) _ |>.trans (HB.out.mono (by omega))).trans (hc.below (by omega) (fun k h => by omega))
  refine hcs _ ?_
  repeat (first | (with_reducible exact Ch.refl) | (with_reducible refine Ch.setCell ?_ (.inl (.inl rfl)) _) | (with_reducible refine Ch.setCell ?_ (.inl (.inr rfl)) _))
theorem eqInts_same (a b : Option Addr) (ca cb : Nat) (xs : List Int) (w : World) (ha : Sl intE 1 w a xs) (hb : Sl intE 1 w b xs) (la : xs.length ≤ 1048576) :
    Calls Tryd.prog 46 #[.slice a xs.length ca, .slice b xs.length cb] w fun e w' => e = .returned (.bool true) ∧ Below w.heap.size w w' :=
  (eqIntS_c a b ca cb xs xs w ha hb la la).mono (by rintro e w' ⟨h, hb⟩; exact ⟨by rw [h]; simp, hb⟩)
set_option maxRecDepth 100000 in
set_option maxHeartbeats 2000000 in
theorem eqParser_same (ap aq : Option Addr) (cp cq : Nat) (p : PV) (w : World) (ha : Sl intE 1 w ap p.args) (hb : Sl intE 1 w aq p.args) (hl : p.args.length ≤ 1048576) :
    Calls Tryd.prog 18 #[.agg #[.int .i64 p.state, .slice ap p.args.length cp, .bool p.priv, .string p.text, .string p.utf], .agg #[.int .i64 p.state, .slice aq p.args.length cq, .bool p.priv, .string p.text, .string p.utf]] w fun e w' => e = .returned (.bool true) ∧ Below w.heap.size w w' := by
  have HA := Lib.hid ((ha.alloc (.cells #[.int .i64 p.state, .slice ap p.args.length cp, .bool p.priv, .string p.text, .string p.utf] 25)).alloc (.cells #[.int .i64 p.state, .slice aq p.args.length cq, .bool p.priv, .string p.text, .string p.utf] 25))
  have HB := Lib.hid ((hb.alloc (.cells #[.int .i64 p.state, .slice ap p.args.length cp, .bool p.priv, .string p.text, .string p.utf] 25)).alloc (.cells #[.int .i64 p.state, .slice aq p.args.length cq, .bool p.priv, .string p.text, .string p.utf] 25))
  have HC := Lib.hid (eqInts_same ap aq cp cq p.args _ HA.out HB.out hl)
  have s1 : (p.text.toList == p.text.toList) = true := by simp
  clear ha hb
  go_enter Tryd.func18, Tryd.ntmps18
  go_wp2_with fail
  refine HC.out.mono ?_
  rintro e w1 ⟨rfl, hb1⟩
  have hz1 := hb1.size
  try simp at hz1
  have q1_0_0 : w1.cell? ⟨w.heap.size, 0, none⟩ = some (.int .i64 p.state) := by
    rw [hb1.cell (p := ⟨w.heap.size, 0, none⟩) (show w.heap.size < _ by (try simp) <;> (try omega))]
    first | assumption | (simp [go_sem, *])
  have q1_0_1 : w1.cell? ⟨w.heap.size, 1, none⟩ = some (.slice ap p.args.length cp) := by
    rw [hb1.cell (p := ⟨w.heap.size, 1, none⟩) (show w.heap.size < _ by (try simp) <;> (try omega))]
    first | assumption | (simp [go_sem, *])
  have q1_0_2 : w1.cell? ⟨w.heap.size, 2, none⟩ = some (.bool p.priv) := by
    rw [hb1.cell (p := ⟨w.heap.size, 2, none⟩) (show w.heap.size < _ by (try simp) <;> (try omega))]
    first | assumption | (simp [go_sem, *])
  have q1_0_3 : w1.cell? ⟨w.heap.size, 3, none⟩ = some (.string p.text) := by
    rw [hb1.cell (p := ⟨w.heap.size, 3, none⟩) (show w.heap.size < _ by (try simp) <;> (try omega))]
    first | assumption | (simp [go_sem, *])
  have q1_0_4 : w1.cell? ⟨w.heap.size, 4, none⟩ = some (.string p.utf) := by
    rw [hb1.cell (p := ⟨w.heap.size, 4, none⟩) (show w.heap.size < _ by (try simp) <;> (try omega))]
    first | assumption | (simp [go_sem, *])
  have hl1_0 : w.heap.size < w1.heap.size := by omega
  have q1_1_0 : w1.cell? ⟨w.heap.size + 1, 0, none⟩ = some (.int .i64 p.state) := by
    rw [hb1.cell (p := ⟨w.heap.size + 1, 0, none⟩) (show w.heap.size + 1 < _ by (try simp) <;> (try omega))]
    first | assumption | (simp [go_sem, *])
  have q1_1_1 : w1.cell? ⟨w.heap.size + 1, 1, none⟩ = some (.slice aq p.args.length cq) := by
    rw [hb1.cell (p := ⟨w.heap.size + 1, 1, none⟩) (show w.heap.size + 1 < _ by (try simp) <;> (try omega))]
    first | assumption | (simp [go_sem, *])
  have q1_1_2 : w1.cell? ⟨w.heap.size + 1, 2, none⟩ = some (.bool p.priv) := by
    rw [hb1.cell (p := ⟨w.heap.size + 1, 2, none⟩) (show w.heap.size + 1 < _ by (try simp) <;> (try omega))]
    first | assumption | (simp [go_sem, *])
  have q1_1_3 : w1.cell? ⟨w.heap.size + 1, 3, none⟩ = some (.string p.text) := by
    rw [hb1.cell (p := ⟨w.heap.size + 1, 3, none⟩) (show w.heap.size + 1 < _ by (try simp) <;> (try omega))]
    first | assumption | (simp [go_sem, *])
  have q1_1_4 : w1.cell? ⟨w.heap.size + 1, 4, none⟩ = some (.string p.utf) := by
    rw [hb1.cell (p := ⟨w.heap.size + 1, 4, none⟩) (show w.heap.size + 1 < _ by (try simp) <;> (try omega))]
    first | assumption | (simp [go_sem, *])
  have hl1_1 : w.heap.size + 1 < w1.heap.size := by omega
  have hbw : Below w.heap.size w w1 := (((Below.refl w.heap.size w).alloc (Nat.le_refl _) _).alloc (by simp) _).trans (hb1.mono (by simp; omega))
  have HBW := Lib.hid hbw
  clear hb1 hbw
  go_wp2_with fail
  go_ret
  exact ⟨rfl, HBW.out⟩
set_option maxRecDepth 100000 in
set_option maxHeartbeats 2000000 in
theorem eqAction_same (aa ab : Option Addr) (ca cb : Nat) (A : AV) (w : World) (ha : Sl intE 1 w aa A.args) (hb : Sl intE 1 w ab A.args) (hl : A.args.length ≤ 1048576) :
    Calls Tryd.prog 47 #[.agg #[.int .i64 A.kind, .int .i64 A.n, .bool A.priv, .slice aa A.args.length ca, .string A.text], .agg #[.int .i64 A.kind, .int .i64 A.n, .bool A.priv, .slice ab A.args.length cb, .string A.text]] w fun e w' => e = .returned (.bool true) ∧ Below w.heap.size w w' := by
  have HA := Lib.hid ((ha.alloc (.cells #[.int .i64 A.kind, .int .i64 A.n, .bool A.priv, .slice aa A.args.length ca, .string A.text] 46)).alloc (.cells #[.int .i64 A.kind, .int .i64 A.n, .bool A.priv, .slice ab A.args.length cb, .string A.text] 46))
  have HB := Lib.hid ((hb.alloc (.cells #[.int .i64 A.kind, .int .i64 A.n, .bool A.priv, .slice aa A.args.length ca, .string A.text] 46)).alloc (.cells #[.int .i64 A.kind, .int .i64 A.n, .bool A.priv, .slice ab A.args.length cb, .string A.text] 46))
  have HC := Lib.hid (eqInts_same aa ab ca cb A.args _ HA.out HB.out hl)
  clear ha hb
  go_enter Tryd.func47, Tryd.ntmps47
  go_wp2_with fail
  refine HC.out.mono ?_
  rintro e w1 ⟨rfl, hb1⟩
  have hz1 := hb1.size
  try simp at hz1
  have q1_0_0 : w1.cell? ⟨w.heap.size, 0, none⟩ = some (.int .i64 A.kind) := by
    rw [hb1.cell (p := ⟨w.heap.size, 0, none⟩) (show w.heap.size < _ by (try simp) <;> (try omega))]
    first | assumption | (simp [go_sem, *])
  have q1_0_1 : w1.cell? ⟨w.heap.size, 1, none⟩ = some (.int .i64 A.n) := by
    rw [hb1.cell (p := ⟨w.heap.size, 1, none⟩) (show w.heap.size < _ by (try simp) <;> (try omega))]
    first | assumption | (simp [go_sem, *])
  have q1_0_2 : w1.cell? ⟨w.heap.size, 2, none⟩ = some (.bool A.priv) := by
    rw [hb1.cell (p := ⟨w.heap.size, 2, none⟩) (show w.heap.size < _ by (try simp) <;> (try omega))]
    first | assumption | (simp [go_sem, *])
  have q1_0_3 : w1.cell? ⟨w.heap.size, 3, none⟩ = some (.slice aa A.args.length ca) := by
    rw [hb1.cell (p := ⟨w.heap.size, 3, none⟩) (show w.heap.size < _ by (try simp) <;> (try omega))]
    first | assumption | (simp [go_sem, *])
  have q1_0_4 : w1.cell? ⟨w.heap.size, 4, none⟩ = some (.string A.text) := by
    rw [hb1.cell (p := ⟨w.heap.size, 4, none⟩) (show w.heap.size < _ by (try simp) <;> (try omega))]
    first | assumption | (simp [go_sem, *])
  have hl1_0 : w.heap.size < w1.heap.size := by omega
  have q1_1_0 : w1.cell? ⟨w.heap.size + 1, 0, none⟩ = some (.int .i64 A.kind) := by
    rw [hb1.cell (p := ⟨w.heap.size + 1, 0, none⟩) (show w.heap.size + 1 < _ by (try simp) <;> (try omega))]
    first | assumption | (simp [go_sem, *])
  have q1_1_1 : w1.cell? ⟨w.heap.size + 1, 1, none⟩ = some (.int .i64 A.n) := by
    rw [hb1.cell (p := ⟨w.heap.size + 1, 1, none⟩) (show w.heap.size + 1 < _ by (try simp) <;> (try omega))]
    first | assumption | (simp [go_sem, *])
  have q1_1_2 : w1.cell? ⟨w.heap.size + 1, 2, none⟩ = some (.bool A.priv) := by
    rw [hb1.cell (p := ⟨w.heap.size + 1, 2, none⟩) (show w.heap.size + 1 < _ by (try simp) <;> (try omega))]
    first | assumption | (simp [go_sem, *])
  have q1_1_3 : w1.cell? ⟨w.heap.size + 1, 3, none⟩ = some (.slice ab A.args.length cb) := by
    rw [hb1.cell (p := ⟨w.heap.size + 1, 3, none⟩) (show w.heap.size + 1 < _ by (try simp) <;> (try omega))]
    first | assumption | (simp [go_sem, *])
  have q1_1_4 : w1.cell? ⟨w.heap.size + 1, 4, none⟩ = some (.string A.text) := by
    rw [hb1.cell (p := ⟨w.heap.size + 1, 4, none⟩) (show w.heap.size + 1 < _ by (try simp) <;> (try omega))]
    first | assumption | (simp [go_sem, *])
  have hl1_1 : w.heap.size + 1 < w1.heap.size := by omega
  have hbw : Below w.heap.size w w1 := (((Below.refl w.heap.size w).alloc (Nat.le_refl _) _).alloc (by simp) _).trans (hb1.mono (by simp; omega))
  have HBW := Lib.hid hbw
  clear hb1 hbw
  go_wp2_with fail
  go_ret
  exact ⟨rfl, HBW.out⟩
/-- Actions that can be read. -/
def ActS (w : World) (a : Option Addr) (rs : List ActA) : Prop := Sl actE 5 w a rs ∧ ∀ r ∈ rs, Sl intE 1 w r.aa r.A.args
theorem ActS.keep {w w' : World} {a : Option Addr} {rs : List ActA} (h : ActS w a rs) (hb : Below w.heap.size w w') : ActS w' a rs := ⟨h.1.keep hb, fun r hr => (h.2 r hr).keep hb⟩
theorem mapA_len {rs ts : List ActA} (h : ts.map (·.A) = rs.map (·.A)) : ts.length = rs.length := by have := congrArg List.length h; simpa using this
theorem mapA_at {rs ts : List ActA} (h : ts.map (·.A) = rs.map (·.A)) (k : Nat) (h1 : k < ts.length) (h2 : k < rs.length) : ts[k].A = rs[k].A := by
  have h3 : (ts.map (·.A))[k]? = (rs.map (·.A))[k]? := by rw [h]
  simpa [List.getElem?_eq_getElem h1, List.getElem?_eq_getElem h2] using h3
set_option maxRecDepth 100000 in
set_option maxHeartbeats 4000000 in
theorem eqActionS_same (a b : Option Addr) (ca cb : Nat) (rs ts : List ActA) (w : World) (ha : ActS w a rs) (hb : ActS w b ts) (he : ts.map (·.A) = rs.map (·.A)) (hs : ∀ r ∈ rs, r.A.args.length ≤ 1048576) (la : rs.length ≤ 1048576) :
    Calls Tryd.prog 19 #[.slice a rs.length ca, .slice b ts.length cb] w fun e w' => e = .returned (.bool true) ∧ Below w.heap.size w w' := by
  have hl : ts.length = rs.length := mapA_len he
  rw [hl]
  have HS := Lib.hid hs
  have HE := Lib.hid he
  have HL := Lib.hid hl
  clear hs he hl
  go_enter Tryd.func19, Tryd.ntmps19
  go_wp2_with fail
  go_loopw [5] (fun i wr => ∃ k : Nat, k ≤ rs.length ∧ i = .int .i64 k ∧ Below w.heap.size w wr) (fun i _ => rs.length - (intOf i).toNat)
  case atStart => exact ⟨0, Nat.zero_le _, rfl, Below.refl _ _⟩
  case round =>
    obtain ⟨k, hk, rfl, hbel⟩ := hrel
    by_cases hlt : k < rs.length
    · obtain ⟨b1, o1, rfl, hb1, hc1⟩ := (ha.1.keep hbel).at hlt
      have hlt2 : k < ts.length := by have := HL.out; omega
      obtain ⟨b2, o2, rfl, hb2, hc2⟩ := (hb.1.keep hbel).at hlt2
      have c0 := hc1 k hlt 0 (by omega)
      have c1 := hc1 k hlt 1 (by omega)
      have c2 := hc1 k hlt 2 (by omega)
      have c3 := hc1 k hlt 3 (by omega)
      have c4 := hc1 k hlt 4 (by omega)
      simp only [actE, Nat.add_zero, List.getElem?_cons_zero, List.getElem?_cons_succ] at c0 c1 c2 c3 c4
      have d0 := hc2 k hlt2 0 (by omega)
      have d1 := hc2 k hlt2 1 (by omega)
      have d2 := hc2 k hlt2 2 (by omega)
      have d3 := hc2 k hlt2 3 (by omega)
      have d4 := hc2 k hlt2 4 (by omega)
      simp only [actE, Nat.add_zero, List.getElem?_cons_zero, List.getElem?_cons_succ] at d0 d1 d2 d3 d4
      clear hc1 hc2
      have hsz := HS.out rs[k] (List.getElem_mem _)
      have ok1 := (ha.2 rs[k] (List.getElem_mem _)).keep hbel
      have ok2 := (hb.2 ts[k] (List.getElem_mem _)).keep hbel
      have hm := mapA_at HE.out k hlt2 hlt
      generalize rs[k] = r at *
      generalize ts[k] = t at *
      rw [hm] at d0 d1 d2 d3 d4
      have hM2 : Sl intE 1 wr t.aa r.A.args := by rw [hm] at ok2; exact ok2
      clear hm ok2
      go_wp2_with fail
      go_still_tail 8, (by kernel_rfl)
      change wpList _ _ _ _ _ wr.drew
      have hb0 := hbel.drew
      have ok1 := ok1.keep ((Below.refl wr.heap.size wr).drew)
      have hM2 := hM2.keep ((Below.refl wr.heap.size wr).drew)
      generalize wr.drew = wd at *
      go_wp2_with fail
      refine (eqAction_same r.aa t.aa r.ca t.ca r.A _ ok1 hM2 hsz).mono ?_
      rintro e w1 ⟨rfl, hb1'⟩
      go_wp2_with fail
      go_roundw
      case rel => exact ⟨k + 1, by omega, by go_num, hb0.trans (hb1'.mono hb0.size)⟩
      case measure => simp [intOf]; omega
    · obtain rfl : k = rs.length := by omega
      go_wp2_with fail
      go_ret
      exact ⟨rfl, hbel⟩
end
section
open Go.RowKit
def actionBlk (r : ActA) : List Nat := blkOf r.aa
def actionOwn (B : Nat) (w : World) (r : ActA) : Prop := FreshIn intE 3 1 B w.heap.size (.slice r.aa r.A.args.length r.ca) r.A.args w
def actionCnt (r : ActA) : Nat := 3 + 1 * r.A.args.length + 1
def actionNum (K : Nat) : List ActA → Nat
  | [] => K
  | r :: rs => actionNum (K + actionCnt r) rs
def actionMk (r : ActA) (K : Nat) : ActA := ⟨⟨((K : Nat) : Int), ((K + 1 : Nat) : Int), (((K + 2 : Nat) : Int) % 3 == 0), (List.range r.A.args.length).map (markI (K + 3)), mt (K + 3 + 1 * r.A.args.length)⟩, r.aa, r.ca⟩
def actionF (rs : List ActA) (K j : Nat) : ActA := actionMk (rs.getD j (⟨⟨0, 0, false, [], ⟨#[]⟩⟩, none, 0⟩ : ActA)) (actionNum K (rs.take j))
theorem actionNum_step (K : Nat) (rs : List ActA) (q : Nat) (hq : q < rs.length) : actionNum K (rs.take (q + 1)) = actionNum K (rs.take q) + actionCnt rs[q] := by
  induction rs generalizing K q with
  | nil => simp at hq
  | cons r rs ih =>
    cases q with
    | zero => simp [actionNum]
    | succ q => simp only [List.take_succ_cons, actionNum, List.getElem_cons_succ]; exact ih _ q (by simpa using hq)
theorem actionNum_mono (K : Nat) (rs : List ActA) : K ≤ actionNum K rs := by
  induction rs generalizing K with
  | nil => exact Nat.le_refl _
  | cons r rs ih => exact Nat.le_trans (Nat.le_add_right _ _) (ih _)
theorem actionNum_le (K : Nat) (rs : List ActA) (q : Nat) (hq : q < rs.length) : actionNum K (rs.take q) + actionCnt rs[q] ≤ actionNum K rs := by
  rw [← actionNum_step K rs q hq]
  conv => rhs; rw [← List.take_append_drop (q + 1) rs]
  generalize rs.take (q + 1) = a
  generalize rs.drop (q + 1) = b
  clear hq
  induction a generalizing K with
  | nil => exact actionNum_mono _ _
  | cons r a ih => exact ih _
theorem actionNum_len (K : Nat) (rs : List ActA) : K + rs.length ≤ actionNum K rs := by
  induction rs generalizing K with
  | nil => exact Nat.le_refl _
  | cons r rs ih =>
    have := ih (K + actionCnt r)
    have h1 : 1 ≤ actionCnt r := by unfold actionCnt; omega
    simp only [List.length_cons, actionNum]
    omega
theorem actionF_at (rs : List ActA) (K q : Nat) (hq : q < rs.length) : actionF rs K q = actionMk rs[q] (actionNum K (rs.take q)) := by
  unfold actionF
  rw [List.getD_eq_getElem?_getD, List.getElem?_eq_getElem hq]
  rfl
theorem actionOwn.upd {B g lo hi : Nat} {S : Nat → Prop} {w w' : World} {r : ActA} (h : actionOwn B w r) (hu : Upd g lo hi S w w') (hd : ∀ k ∈ actionBlk r, k ≠ g ∧ ¬ S k) : actionOwn B w' r :=
  FreshIn.upd h hu (fun k hk => hd k (by simpa [actionBlk] using hk))
set_option maxRecDepth 100000 in
set_option maxHeartbeats 8000000 in
theorem markActionS_c (g ca B : Nat) (rs : List ActA) (K : Nat) (w : World) (h : RowsR actE 5 actionOwn actionBlk B w g rs) (hK : actionNum K rs ≤ 17592186044416) :
    Calls Tryd.prog 23 #[.slice (some ⟨g, 0, none⟩) rs.length ca, .int .i64 K] w fun e w' => e = .returned (.int .i64 ((actionNum K rs : Nat))) ∧ RowsR actE 5 actionOwn actionBlk B w' g ((List.range rs.length).map (actionF rs K)) ∧ Upd g 0 (rs.length * 5) (allBlk actionBlk rs) w w' := by
  have hlen : rs.length ≤ 17592186044416 := by have := actionNum_len K rs; omega
  have HK := Lib.hid hK
  clear hK
  go_enter Tryd.func23, Tryd.ntmps23
  go_wp2_with fail
  go_loopw [1, 5] (fun m i wr => ∃ q : Nat, q ≤ rs.length ∧ i = .int .i64 q ∧ m = .int .i64 ((actionNum K (rs.take q) : Nat)) ∧ RowsR actE 5 actionOwn actionBlk B wr g (over (actionF rs K) rs q) ∧ Upd g 0 (rs.length * 5) (allBlk actionBlk rs) w wr) (fun _ i _ => rs.length - (intOf i).toNat)
  case atStart => exact ⟨0, Nat.zero_le _, rfl, rfl, by rw [over_zero]; exact h, Upd.refl⟩
  case round =>
    obtain ⟨q, hq, rfl, rfl, hr, hw⟩ := hrel
    have HR := Lib.hid hr
    have HW := Lib.hid hw
    clear hw
    have hlt0 := hr.lt
    by_cases hlt : q < rs.length
    · have hol : q < (over (actionF rs K) rs q).length := by rw [over_length _ _ _ hq]; exact hlt
      have hoa := over_at (f := actionF rs K) hlt hol
      obtain ⟨b1, o1, he1, hb1, hc1⟩ := hr.sl.at hol
      simp only [Option.some.injEq, Addr.mk.injEq] at he1
      obtain ⟨rfl, rfl, _⟩ := he1
      have c0_0 := hc1 q hol 0 (by omega)
      have c0_1 := hc1 q hol 1 (by omega)
      have c0_2 := hc1 q hol 2 (by omega)
      have c0_3 := hc1 q hol 3 (by omega)
      have c0_4 := hc1 q hol 4 (by omega)
      rw [hoa] at c0_0 c0_1 c0_2 c0_3 c0_4
      simp only [actE, Nat.zero_add, Nat.add_zero, List.getElem?_cons_zero, List.getElem?_cons_succ] at c0_0 c0_1 c0_2 c0_3 c0_4
      clear hc1
      have f0 := hr.fz
      have hin := hr.in hol
      have hok := hr.ok q hol
      have HF := Lib.hid (actionF_at rs K q hlt)
      have HNS := Lib.hid (actionNum_step K rs q hlt)
      have HKM : Hid (actionNum K (rs.take q) + actionCnt rs[q] ≤ 17592186044416) := Lib.hid (Nat.le_trans (actionNum_le K rs q hlt) HK.out)
      have HALL : Hid (∀ k ∈ actionBlk rs[q], allBlk actionBlk rs k) := Lib.hid (fun k hk => ⟨_, List.getElem_mem hlt, hk⟩)
      have HOS : Hid ((over (actionF rs K) rs q).set q (actionF rs K q) = over (actionF rs K) rs (q + 1)) := over_step _ rs q hlt
      have hbq : actionBlk (over (actionF rs K) rs q)[q] = actionBlk rs[q] := by rw [hoa]
      rw [hoa] at hin hok
      have HBQ := Lib.hid hbq
      clear hr hoa hbq
      generalize rs[q] = r at *
      generalize actionNum K (rs.take q) = K0 at *
      have HIN := Lib.hid hin
      clear hin
      have sg_0 : Hid (∀ k ∈ blkOf r.aa, k ≠ g) := fun k hk e => HIN.out.1 (by subst e; simp [actionBlk, hk])
      unfold actionOwn at hok
      have HG0_0 := Lib.hid (hok)
      have HU0 : Hid (Upd g (q * 5) (q * 5 + 5) (· ∈ actionBlk r) wr wr) := Lib.hid Upd.refl
      have hKM := HKM.out
      unfold actionCnt at hKM
      have HKM2 := Lib.hid hKM
      have hbK0 : K0 ≤ 17592186044416 := by omega
      clear hok hKM
      have hsz1 : g < wr.heap.size := by omega
      go_wp2_with fail
      have hbd1 : K0 + 3 + 1 * r.A.args.length ≤ 17592186044416 := (by have h1 := HKM2.out; skip; omega)
      have HC1 := Lib.hid (flat_upd (lo := q * 5) (hi := q * 5 + 5) (fun b W h2 h3 => markIntSB_c r.aa r.ca r.A.args (K0 + 3) b (b + 1) W h2 h3 (by omega)) HG0_0.out sg_0.out (show g < wr.heap.size by omega))
      clear hbd1
      refine (HC1.out _ (by (repeat (first | (with_reducible exact Upd.refl) | (refine Upd.setCell ?_ _ (by omega) (by omega) _))))).mono ?_
      clear HC1
      rintro e w1 ⟨rfl, hf1, hu1', hcg1⟩
      have hz1 := hu1'.size
      try simp at hz1
      have hu1 : Upd g (q * 5) (q * 5 + 5) (· ∈ blkOf r.aa) wr w1 := Upd.trans (by (repeat (first | (with_reducible exact Upd.refl) | (refine Upd.setCell ?_ _ (by omega) (by omega) _)))) hu1'
      have c1_0 : w1.cell? ⟨g, q * 5, none⟩ = some (.int .i64 ((K0 : Int))) := (hcg1 _).trans (by simp [go_sem, c0_0] <;> (first | omega | (congr 2 <;> omega)))
      have c1_1 : w1.cell? ⟨g, q * 5 + 1, none⟩ = some (.int .i64 ((K0 : Int) + 1)) := (hcg1 _).trans (by simp [go_sem, c0_1] <;> (first | omega | (congr 2 <;> omega)))
      have c1_2 : w1.cell? ⟨g, q * 5 + 2, none⟩ = some (.bool (((K0 : Int) + 2) % 3 == 0)) := (hcg1 _).trans (by simp [go_sem, c0_2] <;> (first | omega | (congr 2 <;> omega)))
      have c1_3 : w1.cell? ⟨g, q * 5 + 3, none⟩ = some (.slice r.aa r.A.args.length r.ca) := (hcg1 _).trans (by simp [go_sem, c0_3] <;> (first | omega | (congr 2 <;> omega)))
      have c1_4 : w1.cell? ⟨g, q * 5 + 4, none⟩ = some (.string r.A.text) := (hcg1 _).trans (by simp [go_sem, c0_4] <;> (first | omega | (congr 2 <;> omega)))
      have f1 : ∀ o, w1.frozen? ⟨g, o, none⟩ = false := fun o => (hu1.fz o).trans (f0 o)
      have HG1_0 := Lib.hid hf1
      clear hf1
      have HU1 : Hid (Upd g (q * 5) (q * 5 + 5) (· ∈ actionBlk r) wr w1) := Lib.hid (HU0.out.trans (hu1.mono (Nat.le_refl _) (Nat.le_refl _) (fun k hk => by simp [actionBlk, hk])))
      clear c0_0 c0_1 c0_2 c0_3 c0_4 f0 HG0_0 HU0
      clear hu1 hu1' hcg1
      obtain ⟨K1, hk1⟩ : ∃ k, K0 + 3 + 1 * r.A.args.length = k := ⟨_, rfl⟩
      have HE1 := Lib.hid hk1
      rw [hk1]
      clear hk1
      have hbK1 : K1 ≤ 17592186044416 := (by have h1 := HKM2.out; skip; have eHE1 := HE1.out; omega)
      have hsz2 : g < w1.heap.size := by omega
      go_wp2_with fail
      refine (markTextB_c (K1) _ (by have h1 := HKM2.out; skip; have eHE1 := HE1.out; omega)).mono ?_
      rintro e w2 ⟨rfl, hb2⟩
      have hz2 := hb2.size
      try simp at hz2
      have hu2 : Upd g (q * 5) (q * 5 + 5) (fun _ => False) w1 w2 := Upd.below (by (repeat (first | (with_reducible exact Upd.refl) | (refine Upd.setCell ?_ _ (by omega) (by omega) _)))) hb2 (by (try simp) <;> omega)
      have c2_0 : w2.cell? ⟨g, q * 5, none⟩ = some (.int .i64 ((K0 : Int))) := (hb2.cell (p := ⟨g, q * 5, none⟩) (by show g < _; (try simp) <;> omega)).trans (by simp [go_sem, c1_0] <;> (first | omega | (congr 2 <;> omega)))
      have c2_1 : w2.cell? ⟨g, q * 5 + 1, none⟩ = some (.int .i64 ((K0 : Int) + 1)) := (hb2.cell (p := ⟨g, q * 5 + 1, none⟩) (by show g < _; (try simp) <;> omega)).trans (by simp [go_sem, c1_1] <;> (first | omega | (congr 2 <;> omega)))
      have c2_2 : w2.cell? ⟨g, q * 5 + 2, none⟩ = some (.bool (((K0 : Int) + 2) % 3 == 0)) := (hb2.cell (p := ⟨g, q * 5 + 2, none⟩) (by show g < _; (try simp) <;> omega)).trans (by simp [go_sem, c1_2] <;> (first | omega | (congr 2 <;> omega)))
      have c2_3 : w2.cell? ⟨g, q * 5 + 3, none⟩ = some (.slice r.aa r.A.args.length r.ca) := (hb2.cell (p := ⟨g, q * 5 + 3, none⟩) (by show g < _; (try simp) <;> omega)).trans (by simp [go_sem, c1_3] <;> (first | omega | (congr 2 <;> omega)))
      have c2_4 : w2.cell? ⟨g, q * 5 + 4, none⟩ = some (.string r.A.text) := (hb2.cell (p := ⟨g, q * 5 + 4, none⟩) (by show g < _; (try simp) <;> omega)).trans (by simp [go_sem, c1_4] <;> (first | omega | (congr 2 <;> omega)))
      have f2 : ∀ o, w2.frozen? ⟨g, o, none⟩ = false := fun o => (hu2.fz o).trans (f1 o)
      have HG2_0 := Lib.hid (HG1_0.out.upd hu2 (fun k hk => ⟨sg_0.out k hk, fun e => e⟩))
      have HU2 : Hid (Upd g (q * 5) (q * 5 + 5) (· ∈ actionBlk r) wr w2) := Lib.hid (HU1.out.trans (hu2.mono (Nat.le_refl _) (Nat.le_refl _) (fun k hk => by exact False.elim hk)))
      clear c1_0 c1_1 c1_2 c1_3 c1_4 f1 HG1_0 HU1
      clear hb2 hu2
      have hszz : g < w2.heap.size := by omega
      go_wp2_with fail
      go_roundw
      case rel =>
        have hq2 : q * 5 + 5 ≤ rs.length * 5 := by have := Nat.mul_le_mul_right 5 (show q + 1 ≤ rs.length by omega); omega
        refine ⟨q + 1, by omega, by go_num, ?_, ?_, ?_⟩
        · rw [HNS.out]
          show Value.int .i64 _ = Value.int .i64 _
          congr 1 <;> (unfold actionCnt; have eHE1 := HE1.out; omega)
        · rw [← HOS.out, HF.out]
          refine RowsR.step HR.out hol (x := actionMk r K0) ?_ ?_ ?_ ?_ ?_
          · rw [HBQ.out]; rfl
          · rw [HBQ.out]; (repeat (first | (with_reducible exact HU2.out) | (refine Upd.setCell ?_ _ (by omega) (by omega) _)))
          · intro j hj
            match j, hj with
            | 0, _ => simp [go_sem, c2_0, actionMk, actE] <;> (have eHE1 := HE1.out; first | omega | (congr 2 <;> omega) | (subst_vars; rfl))
            | 1, _ => simp [go_sem, c2_1, actionMk, actE] <;> (have eHE1 := HE1.out; first | omega | (congr 2 <;> omega) | (subst_vars; rfl))
            | 2, _ => simp [go_sem, c2_2, actionMk, actE] <;> (have eHE1 := HE1.out; first | omega | (congr 2 <;> omega) | (subst_vars; rfl))
            | 3, _ => simp [go_sem, c2_3, actionMk, actE] <;> (have eHE1 := HE1.out; first | omega | (congr 2 <;> omega) | (subst_vars; rfl))
            | 4, _ => simp [go_sem, c2_4, actionMk, actE] <;> (have eHE1 := HE1.out; first | omega | (congr 2 <;> omega) | (subst_vars; rfl))
          · unfold actionOwn actionMk
            exact by
              have hh := HG2_0.out.upd (by (repeat (first | (with_reducible exact Upd.refl) | (refine Upd.setCell ?_ _ (by omega) (by omega) _))) : Upd g (q * 5) (q * 5 + 5) (fun _ => False) w2 (w2.setCell ⟨g, q * 5 + 4, none⟩ (.string (mt (K1))))) (fun k hk => ⟨sg_0.out k hk, fun e => e⟩)
              rw [show K0 + 3 = K0 + 3 from by have eHE1 := HE1.out; omega] at hh
              simpa using hh
          · intro r' h1 h2
            refine h1.upd (S := (· ∈ actionBlk r)) (g := g) (lo := q * 5) (hi := q * 5 + 5) (w := wr) (by (repeat (first | (with_reducible exact HU2.out) | (refine Upd.setCell ?_ _ (by omega) (by omega) _)))) (fun k hk => ⟨(h2 k hk).1, by have := (h2 k hk).2; rwa [HBQ.out] at this⟩)
        · refine HW.out.trans (Upd.mono (lo := q * 5) (hi := q * 5 + 5) (S := (· ∈ actionBlk r)) (by (repeat (first | (with_reducible exact HU2.out) | (refine Upd.setCell ?_ _ (by omega) (by omega) _)))) (Nat.zero_le _) hq2 (fun k hk => HALL.out k hk))
      case measure => simp [intOf]; omega
    · obtain rfl : q = rs.length := by omega
      go_wp2_with fail
      go_ret
      have h1 := HR.out
      rw [over_all] at h1
      refine ⟨by rw [List.take_length]; rfl, h1, HW.out⟩
set_option maxRecDepth 100000 in
set_option maxHeartbeats 8000000 in
theorem heldActionS_c (g ca B : Nat) (rs : List ActA) (K : Nat) (w : World) (h : RowsR actE 5 actionOwn actionBlk B w g ((List.range rs.length).map (actionF rs K))) (hK : actionNum K rs ≤ 17592186044416) :
    Calls Tryd.prog 25 #[.slice (some ⟨g, 0, none⟩) rs.length ca, .int .i64 K] w fun e w' => e = .returned (.int .i64 ((actionNum K rs : Nat))) ∧ Below w.heap.size w w' := by
  have hlen : rs.length ≤ 17592186044416 := by have := actionNum_len K rs; omega
  have HK := Lib.hid hK
  have H0 := Lib.hid h
  clear hK h
  go_enter Tryd.func25, Tryd.ntmps25
  go_wp2_with fail
  go_loopw [1, 5] (fun m i wr => ∃ q : Nat, q ≤ rs.length ∧ i = .int .i64 q ∧ m = .int .i64 ((actionNum K (rs.take q) : Nat)) ∧ Below w.heap.size w wr) (fun _ i _ => rs.length - (intOf i).toNat)
  case atStart => exact ⟨0, Nat.zero_le _, rfl, rfl, Below.refl _ _⟩
  case round =>
    obtain ⟨q, hq, rfl, rfl, hw⟩ := hrel
    have HW := Lib.hid hw
    have hwz := hw.size
    have hlt0 : g < wr.heap.size := by have := H0.out.lt; omega
    by_cases hlt : q < rs.length
    · have hol : q < ((List.range rs.length).map (actionF rs K)).length := by simpa using hlt
      obtain ⟨b1, o1, he1, hb1, hc1⟩ := (H0.out.sl.keep hw).at hol
      simp only [Option.some.injEq, Addr.mk.injEq] at he1
      obtain ⟨rfl, rfl, _⟩ := he1
      have hF : ((List.range rs.length).map (actionF rs K))[q] = actionMk rs[q] (actionNum K (rs.take q)) := by simpa using actionF_at rs K q hlt
      have HO := Lib.hid (H0.out.ok q hol)
      have HNS := Lib.hid (actionNum_step K rs q hlt)
      have HKM : Hid (actionNum K (rs.take q) + actionCnt rs[q] ≤ 17592186044416) := Lib.hid (Nat.le_trans (actionNum_le K rs q hlt) HK.out)
      rw [hF] at HO
      have e0_0 := hc1 q hol 0 (by omega)
      have e0_1 := hc1 q hol 1 (by omega)
      have e0_2 := hc1 q hol 2 (by omega)
      have e0_3 := hc1 q hol 3 (by omega)
      have e0_4 := hc1 q hol 4 (by omega)
      rw [hF] at e0_0 e0_1 e0_2 e0_3 e0_4
      clear hF hc1
      generalize rs[q] = r at *
      generalize actionNum K (rs.take q) = K0 at *
      simp only [actE, actionMk, Nat.zero_add, Nat.add_zero, List.length_map, List.length_range, List.getElem?_cons_zero, List.getElem?_cons_succ] at e0_0 e0_1 e0_2 e0_3 e0_4
      have E0_0 := Lib.hid e0_0
      have E0_1 := Lib.hid e0_1
      have E0_2 := Lib.hid e0_2
      have E0_3 := Lib.hid e0_3
      have E0_4 := Lib.hid e0_4
      clear e0_0 e0_1 e0_2 e0_3 e0_4
      have ho := HO.out
      unfold actionOwn actionMk at ho
      clear HO
      have HS_0 : Hid (Sl intE 1 w r.aa ((List.range r.A.args.length).map (markI (K0 + 3)))) := Lib.hid (FreshIn.slr2 (fun _ => rfl) (show FreshIn intE 3 1 B w.heap.size (.slice r.aa r.A.args.length r.ca) _ w from (by simpa using ho)))
      clear ho
      have hKM := HKM.out
      unfold actionCnt at hKM
      have HKM2 := Lib.hid hKM
      have hbK0 : K0 ≤ 17592186044416 := by omega
      clear hKM
      have c0_0 : wr.cell? ⟨g, q * 5, none⟩ = some (.int .i64 ((K0 : Int))) := E0_0.out.trans (by first | rfl | (congr 2; omega) | (congr 3; omega) | (simp; omega) | (simp) | (congr 2 <;> congr 1 <;> omega))
      have c0_1 : wr.cell? ⟨g, q * 5 + 1, none⟩ = some (.int .i64 ((K0 : Int) + 1)) := E0_1.out.trans (by first | rfl | (congr 2; omega) | (congr 3; omega) | (simp; omega) | (simp) | (congr 2 <;> congr 1 <;> omega))
      obtain ⟨v_2, hv_2⟩ : ∃ v, (((K0 : Int) + 1 + 1) % 3 == 0) = v := ⟨_, rfl⟩
      have hw_2 : (((K0 : Int) + 2) % 3 == 0) = v_2 := by rw [← hv_2]; congr 2 <;> omega
      have c0_2 : wr.cell? ⟨g, q * 5 + 2, none⟩ = some (.bool v_2) := E0_2.out.trans (by rw [← hv_2]; first | rfl | (congr 2; omega) | (congr 3 <;> omega) | (simp; omega) | simp)
      have c0_3 : wr.cell? ⟨g, q * 5 + 3, none⟩ = some (.slice r.aa r.A.args.length r.ca) := E0_3.out.trans (by first | rfl | (congr 2; omega) | (congr 3; omega) | (simp; omega) | (simp) | (congr 2 <;> congr 1 <;> omega))
      go_wp2_with fail
      have hS := HS_0.out.keep HW.out
      rw [show K0 + 3 = K0 + 3 from (by have h1 := HKM2.out; skip; omega)] at hS
      refine (heldIntSB_c r.aa r.ca r.A.args.length (K0 + 3) _ hS (by have h1 := HKM2.out; skip; omega)).mono ?_
      rintro e w1 ⟨rfl, hq0⟩
      clear hS
      have hbq : Below wr.heap.size wr w1 := hq0 ▸ Below.refl _ _
      clear hq0
      have hzq1 := hbq.size
      have HW1 : Hid (Below w.heap.size w w1) := Lib.hid (HW.out.trans (hbq.mono (by omega)))
      have E1_4 := Lib.hid ((hbq.cell (p := ⟨g, q * 5 + 4, none⟩) (by show g < wr.heap.size; omega)).trans E0_4.out)
      have hlq1 : g < w1.heap.size := by omega
      clear hbq
      clear E0_4
      obtain ⟨K1, hk1⟩ : ∃ k, K0 + 3 + r.A.args.length = k := ⟨_, rfl⟩
      have HE1 := Lib.hid hk1
      rw [hk1]
      clear hk1
      have hbK1 : K1 ≤ 17592186044416 := (by have h1 := HKM2.out; skip; have eHE1 := HE1.out; omega)
      have hnK1 : decide ((K1 : Int) < 0) = false := decide_eq_false (by omega)
      have c1_4 : w1.cell? ⟨g, q * 5 + 4, none⟩ = some (.string (mt (K1))) := E1_4.out.trans (by have eHE1 := HE1.out; first | rfl | (congr 2; omega) | (congr 3; omega) | (simp; omega) | (simp) | (congr 2 <;> congr 1 <;> omega))
      go_wp2_with fail
      have xq0 := extW_cell (w := w1) (b := g) (by (try simp) <;> (try omega))
      refine wp_region_quietx (w1) rfl (by kernel_rfl) (by kernel_rfl) ?_
      repeat (go_big_quiet_step ((go_at_call 49; exact Calls.quietx (markTextB_c (K1) _ (by have h1 := HKM2.out; skip; have eHE1 := HE1.out; omega)))))
      refine wpQuiet_nil ?_
      intro _ hw'
      obtain ⟨xq, hw''⟩ := hw'
      subst hw''
      have hbq := extW_below (w1) xq
      generalize extW (w1) xq = wq at hbq ⊢
      clear xq0
      obtain ⟨w2, rfl⟩ : ∃ W : World, W = wq := ⟨_, rfl⟩
      have hzq2 := hbq.size
      have HW2 : Hid (Below w.heap.size w w2) := Lib.hid (HW1.out.trans (hbq.mono (by omega)))
      have hlq2 : g < w2.heap.size := by omega
      clear hbq
      skip
      go_wp2_with fail
      go_roundw
      case rel =>
        refine ⟨q + 1, by omega, by go_num, ?_, HW2.out⟩
        rw [HNS.out]
        show Value.int .i64 _ = Value.int .i64 _
        congr 1 <;> (unfold actionCnt; have eHE1 := HE1.out; omega)
      case measure => simp [intOf]; omega
    · obtain rfl : q = rs.length := by omega
      go_wp2_with fail
      go_ret
      exact ⟨by rw [List.take_length]; rfl, HW.out⟩
end
section
open Go.RowKit
theorem flat_apart {R : Type} {f : R → List Nat} {L : List R} (h : (L.flatMap f).Nodup) : ∀ i j (hi : i < L.length) (hj : j < L.length), i ≠ j → ∀ b ∈ f L[i], b ∉ f L[j] := by
  induction L with
  | nil => intro i j hi; simp at hi
  | cons r L ih =>
    simp only [List.flatMap_cons, List.nodup_append] at h
    obtain ⟨_, h2, h3⟩ := h
    intro i j hi hj hij b hb hb2
    cases i with
    | zero =>
      cases j with
      | zero => exact hij rfl
      | succ j =>
        simp only [List.getElem_cons_zero, List.getElem_cons_succ] at hb hb2
        exact h3 b hb b (List.mem_flatMap.2 ⟨_, List.getElem_mem _, hb2⟩) rfl
    | succ i =>
      cases j with
      | zero =>
        simp only [List.getElem_cons_zero, List.getElem_cons_succ] at hb hb2
        exact h3 b hb2 b (List.mem_flatMap.2 ⟨_, List.getElem_mem _, hb⟩) rfl
      | succ j =>
        simp only [List.getElem_cons_succ] at hb hb2
        exact ih h2 i j (by simpa using hi) (by simpa using hj) (by omega) b hb hb2
/-- A result in blocks of [lo, hi): numbers and actions. -/
structure OutG (lo hi : Nat) (xs : List Int) (ap : Option Addr) (cp : Nat) (al : Option Addr) (cl : Nat) (L : List ActA) (w : World) : Prop where
  args : FreshIn intE 3 1 lo w.heap.size (.slice ap xs.length cp) xs w
  ro : ActO lo L al cl w
  nd : ∀ k ∈ blkOf ap, k ∉ acB al L
  up : ∀ k ∈ blkOf ap ++ acB al L, k < hi
  hw : hi ≤ w.heap.size
section
variable {lo hi l r cp cl : Nat} {xs : List Int} {ap al : Option Addr} {L : List ActA} {w w' : World} {M : Nat → Prop}
theorem OutG.ch (h : OutG lo hi xs ap cp al cl L w) (hc : Ch M w w') (hM : ∀ k, lo ≤ k → k < hi → ¬ M k) : OutG lo hi xs ap cp al cl L w' :=
  ⟨h.args.ch hc (fun k hk => hM k (FreshIn.blks h.args k hk).1 (h.up k (by simp [hk]))), h.ro.ch actL hc (fun k hk => hM k (h.ro.bd actL k hk).1 (h.up k (by rw [List.mem_append]; exact .inr hk))), h.nd, h.up, Nat.le_trans h.hw hc.size⟩
theorem OutG.below (h : OutG lo hi xs ap cp al cl L w) (hb : Below w.heap.size w w') : OutG lo hi xs ap cp al cl L w' := h.ch (M := fun _ => False) (Ch.of_below hb) (fun _ _ _ h => h)
theorem OutG.mid (h : OutG lo hi xs ap cp al cl L w) (hm : Mid l r w w') (hd : hi ≤ l ∨ r ≤ lo) : OutG lo hi xs ap cp al cl L w' := h.ch (M := fun k => l ≤ k ∧ k < r) (Ch.of_mid hm (fun k h1 h2 _ => ⟨h1, h2⟩)) (fun k h1 h2 h3 => by omega)
theorem OutG.alloc (h : OutG lo hi xs ap cp al cl L w) (o : Obj) : OutG lo hi xs ap cp al cl L (w.alloc o) := h.below ((Below.refl _ _).alloc (Nat.le_refl _) _)
theorem OutG.drew (h : OutG lo hi xs ap cp al cl L w) : OutG lo hi xs ap cp al cl L w.drew := h.below ((Below.refl _ _).drew)
theorem OutG.sl (h : OutG lo hi xs ap cp al cl L w) : Sl intE 1 w ap xs := h.args.sl (fun _ => rfl)
theorem OutG.acts (h : OutG lo hi xs ap cp al cl L w) : ActS w al L := ⟨h.ro.row.sl (fun _ => rfl), fun r hr => FreshIn.sl (enc := intE) (fun _ => rfl) (h.ro.ow r hr)⟩
/-- .. the actions marked or not, to be read alone. -/
structure OutH (lo hi : Nat) (xs : List Int) (ap : Option Addr) (cp : Nat) (al : Option Addr) (L : List ActA) (w : World) : Prop where
  args : FreshIn intE 3 1 lo w.heap.size (.slice ap xs.length cp) xs w
  rows : L = [] ∨ ∃ g, al = some ⟨g, 0, none⟩ ∧ RowsR actE 5 actionOwn actionBlk lo w g L
theorem OutH.below (h : OutH lo hi xs ap cp al L w) (hb : Below w.heap.size w w') : OutH lo hi xs ap cp al L w' :=
  ⟨h.args.ch (M := fun _ => False) (Ch.of_below hb) (fun _ _ h => h), h.rows.imp id (fun ⟨g, h1, h2⟩ => ⟨g, h1, h2.below hb (fun r hr => FreshIn.ch hr (M := fun _ => False) (Ch.of_below hb) (fun _ _ h => h))⟩)⟩
theorem OutH.alloc (h : OutH lo hi xs ap cp al L w) (o : Obj) : OutH lo hi xs ap cp al L (w.alloc o) := h.below ((Below.refl _ _).alloc (Nat.le_refl _) _)
theorem OutH.drew (h : OutH lo hi xs ap cp al L w) : OutH lo hi xs ap cp al L w.drew := h.below ((Below.refl _ _).drew)
/-- The list of a result as rows in a block. -/
theorem OutG.rowsR (h : OutG lo hi xs ap cp al cl L w) (h0 : 0 < L.length) : ∃ g, al = some ⟨g, 0, none⟩ ∧ g < hi ∧ RowsR actE 5 actionOwn actionBlk lo w g L := by
  obtain ⟨g, rfl, hg1, _, hg3, ho⟩ := h.ro.row.block h0
  have hs : Sl actE 5 w (some ⟨g, 0, none⟩) L := h.ro.row.sl (fun _ => rfl)
  have hnd := h.ro.nd
  simp only [roB, List.nodup_append] at hnd
  refine ⟨g, rfl, h.up g (by simp [acB, roB, blkOf]), ⟨hg1, hg3, hs, fun o => ho.frozenAt o, fun i hi => h.ro.ow _ (List.getElem_mem hi), ⟨fun i hi => ?_, fun i j hi hj hij b hb => ?_⟩⟩⟩
  · have hi' : i < L.length := by simpa using hi
    rw [List.getElem_map]
    refine ⟨fun hb => ?_, blkOf_nodup _⟩
    exact hnd.2.2 g (by simp [blkOf]) g (List.mem_flatMap.2 ⟨_, List.getElem_mem hi', hb⟩) rfl
  · have hi' : i < L.length := by simpa using hi
    have hj' : j < L.length := by simpa using hj
    rw [List.getElem_map] at hb ⊢
    have hp := flat_apart hnd.2.1
    exact hp i j hi' hj' hij b hb
end
def acMk (L : List ActA) (K : Nat) : List ActA := (List.range L.length).map (actionF L K)
def intMk (n K : Nat) : List Int := (List.range n).map (markI K)
theorem intMk_len (n K : Nat) : (intMk n K).length = n := by simp [intMk]
/-- Marks on a parser alone in memory of its own. -/
theorem markPar_c (lo hi : Nat) (p : PV) (ap : Option Addr) (cp K : Nat) (w : World) (h : FreshIn intE 3 1 lo hi (.slice ap p.args.length cp) p.args w) (hlo : lo ≤ w.heap.size) (hK : K + p.args.length ≤ 17592186044416) :
    Calls Tryd.prog 21 #[.agg #[.int .i64 p.state, .slice ap p.args.length cp, .bool p.priv, .string p.text, .string p.utf], .int .i64 K] w fun e w' => e = .returned (.int .i64 ((K + p.args.length : Nat))) ∧ FreshIn intE 3 1 lo hi (.slice ap p.args.length cp) (intMk p.args.length K) w' ∧ Mid lo hi w w' := by
  have H := Lib.hid (markIntSB_c ap cp p.args K lo hi (w.alloc (.cells #[.int .i64 p.state, .slice ap p.args.length cp, .bool p.priv, .string p.text, .string p.utf] 25)) (h.alloc _) (by simp; omega) hK)
  clear h
  go_enter Tryd.func21, Tryd.ntmps21
  go_wp2_with fail
  refine H.out.mono ?_
  rintro e w1 ⟨rfl, hf, hm⟩
  have HF := Lib.hid hf
  have HM := Lib.hid hm
  rw [Nat.one_mul]
  clear hf hm
  go_wp2_with fail
  go_ret
  exact ⟨rfl, HF.out, (Mid.of_below _ _ ((Below.refl _ _).alloc (Nat.le_refl _) _)).trans HM.out⟩
theorem heldPar_c (p : PV) (ap : Option Addr) (cp K : Nat) (w : World) (h : Sl intE 1 w ap (intMk p.args.length K)) (hK : K + p.args.length ≤ 17592186044416) :
    Calls Tryd.prog 24 #[.agg #[.int .i64 p.state, .slice ap p.args.length cp, .bool p.priv, .string p.text, .string p.utf], .int .i64 K] w fun e w' => e = .returned (.int .i64 ((K + p.args.length : Nat))) ∧ Below w.heap.size w w' := by
  have H := Lib.hid (heldIntSB_c ap cp p.args.length K (w.alloc (.cells #[.int .i64 p.state, .slice ap p.args.length cp, .bool p.priv, .string p.text, .string p.utf] 25)) (h.alloc _) hK)
  have g0 : decide (((K + p.args.length : Nat) : Int) < 0) = false := decide_eq_false (by omega)
  have g1 : ¬ ((K : Int) + (p.args.length : Int)) < 0 := by omega
  clear h
  go_enter Tryd.func24, Tryd.ntmps24
  go_wp2_with fail
  refine H.out.mono ?_
  rintro e w1 ⟨rfl, hb⟩
  have HB := Lib.hid hb
  clear hb
  go_wp2_with fail
  all_goals first
    | (exfalso; omega)
    | (go_ret
       refine ⟨rfl, ?_⟩
       first
         | (rw [← HB.out]; exact (Below.refl _ _).alloc (Nat.le_refl _) _)
         | exact ((Below.refl w.heap.size w).alloc (Nat.le_refl _) _).trans (HB.out.mono (by simp)))
theorem markG_c (lo hi : Nat) (p : PV) (ap al : Option Addr) (cp cl K : Nat) (L : List ActA) (w : World) (h : OutG lo hi p.args ap cp al cl L w) (hlh : lo ≤ hi) (hK : K + p.args.length ≤ 17592186044416) :
    Calls Tryd.prog 21 #[.agg #[.int .i64 p.state, .slice ap p.args.length cp, .bool p.priv, .string p.text, .string p.utf], .int .i64 K] w fun e w' => e = .returned (.int .i64 ((K + p.args.length : Nat))) ∧ OutG lo hi (intMk p.args.length K) ap cp al cl L w' ∧ Mid lo hi w w' := by
  obtain ⟨b, t1, t2, t3, t4⟩ := h.args.tight
  have hin : b < w.heap.size → lo ≤ b ∧ b < hi := fun hb => ⟨(t4 hb).2, h.up b (by simp [(t4 hb).1])⟩
  refine (markPar_c b (b + 1) p ap cp K w t1 t2 hK).mono ?_
  rintro e w' ⟨rfl, hf, hm⟩
  have hc : Ch (· ∈ blkOf ap) w w' := Ch.of_mid hm t3
  have hlen := intMk_len p.args.length K
  refine ⟨rfl, ⟨?_, h.ro.ch actL hc (fun k hk hk2 => h.nd k hk2 hk), h.nd, h.up, Nat.le_trans h.hw hc.size⟩, ?_⟩
  · have h1 : FreshIn intE 3 1 lo w'.heap.size (.slice ap p.args.length cp) (intMk p.args.length K) w' := FreshIn.nilB hf (FreshIn.ownB h.args)
    rwa [hlen]
  · refine ⟨hm.os, hm.tape, hm.output, hm.size, fun k hk hd => hc.block k hk (fun hk2 => ?_)⟩
    have h1 := (FreshIn.blks h.args k hk2).1
    have h2 := h.up k (by simp [hk2])
    omega
set_option maxRecDepth 100000 in
set_option maxHeartbeats 1000000 in
theorem markActionS_0 (a : Option Addr) (c : Nat) (n : Int) (w : World) : Calls Tryd.prog 23 #[.slice a 0 c, .int .i64 n] w fun e w' => e = .returned (.int .i64 n) ∧ w = w' := by
  go_enter Tryd.func23, Tryd.ntmps23
  go_wp2_with fail
  go_loop [1, 5] (fun m i => ∃ k : Nat, k ≤ 0 ∧ i = .int .i64 k ∧ m = .int .i64 n) (fun _ i => 0)
  case atStart => exact ⟨0, Nat.le_refl _, rfl, rfl⟩
  case round =>
    obtain ⟨k, hk, rfl, rfl⟩ := hrel
    obtain rfl : k = 0 := by omega
    go_wp2_with fail
    go_ret
    exact ⟨rfl, rfl⟩
set_option maxRecDepth 100000 in
set_option maxHeartbeats 1000000 in
theorem heldActionS_0 (a : Option Addr) (c : Nat) (n : Int) (w : World) : Calls Tryd.prog 25 #[.slice a 0 c, .int .i64 n] w fun e w' => e = .returned (.int .i64 n) ∧ w = w' := by
  go_enter Tryd.func25, Tryd.ntmps25
  go_wp2_with fail
  go_loop [1, 5] (fun m i => ∃ k : Nat, k ≤ 0 ∧ i = .int .i64 k ∧ m = .int .i64 n) (fun _ i => 0)
  case atStart => exact ⟨0, Nat.le_refl _, rfl, rfl⟩
  case round =>
    obtain ⟨k, hk, rfl, rfl⟩ := hrel
    obtain rfl : k = 0 := by omega
    go_wp2_with fail
    go_ret
    exact ⟨rfl, rfl⟩
theorem markA_c (lo hi : Nat) (xs : List Int) (ap al : Option Addr) (cp cl K : Nat) (L : List ActA) (w : World) (h : OutG lo hi xs ap cp al cl L w) (hK : actionNum K L ≤ 17592186044416) :
    Calls Tryd.prog 23 #[.slice al L.length cl, .int .i64 K] w fun e w' => e = .returned (.int .i64 ((actionNum K L : Nat))) ∧ OutH lo hi xs ap cp al (acMk L K) w' ∧ Mid lo hi w w' := by
  rcases Nat.eq_zero_or_pos L.length with h0 | h0
  · have hL : L = [] := List.eq_nil_of_length_eq_zero h0
    subst hL
    refine (markActionS_0 al cl K w).mono ?_
    rintro e w' ⟨rfl, rfl⟩
    exact ⟨rfl, ⟨h.args, .inl rfl⟩, Mid.refl _ _ _⟩
  · obtain ⟨g, rfl, hg, hr⟩ := h.rowsR h0
    refine (markActionS_c g cl lo L K w hr hK).mono ?_
    rintro e w' ⟨rfl, h1, h2⟩
    have hin : ∀ k, k = g ∨ allBlk actionBlk L k → k ∈ acB (some ⟨g, 0, none⟩) L := fun k hk => by
      rcases hk with rfl | ⟨r, hr, hk⟩
      · simp [acB, roB, blkOf]
      · simp only [acB, roB, List.mem_append, List.mem_flatMap]
        exact .inr ⟨r, hr, hk⟩
    have hc : Ch (fun k => k = g ∨ allBlk actionBlk L k) w w' := ⟨h2.os, h2.tape, h2.output, h2.size, fun k hk hn => h2.block k hk (fun e => hn (.inl e)) (fun e => hn (.inr e))⟩
    refine ⟨rfl, ⟨h.args.ch hc (fun k hk hk2 => h.nd k hk (hin k hk2)), .inr ⟨g, rfl, h1⟩⟩, ?_⟩
    refine h2.toMid hr.low hg (fun k hk => ?_)
    have h3 := hin k (.inr hk)
    exact ⟨(h.ro.bd actL k h3).1, h.up k (by rw [List.mem_append]; exact .inr h3)⟩
theorem heldA_c (lo hi : Nat) (xs : List Int) (ap al : Option Addr) (cp cl K : Nat) (L : List ActA) (w : World) (h : OutH lo hi xs ap cp al (acMk L K) w) (hK : actionNum K L ≤ 17592186044416) :
    Calls Tryd.prog 25 #[.slice al L.length cl, .int .i64 K] w fun e w' => e = .returned (.int .i64 ((actionNum K L : Nat))) ∧ Below w.heap.size w w' := by
  rcases h.rows with h0 | ⟨g, rfl, hr⟩
  · have hL : L = [] := by
      have := congrArg List.length h0
      simp [acMk] at this
      exact this
    subst hL
    refine (heldActionS_0 al cl K w).mono ?_
    rintro e w' ⟨rfl, rfl⟩
    exact ⟨rfl, Below.refl _ _⟩
  · exact heldActionS_c g cl lo L K w hr hK
theorem heldH_c (lo hi : Nat) (p : PV) (ap al : Option Addr) (cp K : Nat) (L : List ActA) (w : World) (h : OutH lo hi (intMk p.args.length K) ap cp al L w) (hK : K + p.args.length ≤ 17592186044416) :
    Calls Tryd.prog 24 #[.agg #[.int .i64 p.state, .slice ap p.args.length cp, .bool p.priv, .string p.text, .string p.utf], .int .i64 K] w fun e w' => e = .returned (.int .i64 ((K + p.args.length : Nat))) ∧ Below w.heap.size w w' :=
  heldPar_c p ap cp K w (h.args.sl (fun _ => rfl)) hK
/-- The reference's results, which lie below block b. -/
def SpP (b : Nat) (w : World) (xs : List Int) (ap al : Option Addr) (L : List ActA) : Prop := ∃ w0 : World, w0.heap.size = b ∧ Sl intE 1 w0 ap xs ∧ ActS w0 al L ∧ Below b w0 w
section
variable {b l r : Nat} {w w' : World} {xs : List Int} {ap al : Option Addr} {L : List ActA}
theorem SpP.start (h : Sl intE 1 w ap xs) (k : ActS w al L) : SpP w.heap.size w xs ap al L := ⟨w, rfl, h, k, Below.refl _ _⟩
theorem SpP.below (h : SpP b w xs ap al L) (hb : Below w.heap.size w w') : SpP b w' xs ap al L := by
  obtain ⟨w0, rfl, h1, h2, h3⟩ := h
  exact ⟨w0, rfl, h1, h2, h3.trans (hb.mono h3.size)⟩
theorem SpP.mid (h : SpP b w xs ap al L) (hm : Mid l r w w') (hd : b ≤ l) : SpP b w' xs ap al L := by
  obtain ⟨w0, rfl, h1, h2, h3⟩ := h
  exact ⟨w0, rfl, h1, h2, h3.trans (hm.below hd h3.size)⟩
theorem SpP.alloc (h : SpP b w xs ap al L) (o : Obj) : SpP b (w.alloc o) xs ap al L := h.below ((Below.refl _ _).alloc (Nat.le_refl _) _)
theorem SpP.drew (h : SpP b w xs ap al L) : SpP b w.drew xs ap al L := h.below ((Below.refl _ _).drew)
theorem SpP.sl (h : SpP b w xs ap al L) : Sl intE 1 w ap xs := by
  obtain ⟨w0, rfl, h1, h2, h3⟩ := h
  exact h1.keep h3
theorem SpP.acts (h : SpP b w xs ap al L) : ActS w al L := by
  obtain ⟨w0, rfl, h1, h2, h3⟩ := h
  exact h2.keep h3
end
/-- How large results are. -/
theorem step_args {p : PV} (h : PvOK p) (b : UInt8) : ∀ a ∈ (pstep p b).2, a.args.length ≤ 8 := by
  have hp := h.len
  have hg : ∀ a ∈ (gstep b).2, a.args.length ≤ 8 := by unfold gstep; (repeat' split) <;> simp [pr]
  have he : ∀ a ∈ (estep b).2, a.args.length ≤ 8 := by unfold estep; (repeat' split) <;> simp
  have hc : ∀ a ∈ (cstep p b).2, a.args.length ≤ 8 := by unfold cstep; (repeat' split) <;> simp <;> exact hp
  have hs : ∀ a ∈ (sstep p b).2, a.args.length ≤ 8 := by unfold sstep; (repeat' split) <;> simp
  have ho : ∀ a ∈ (ostep p b).2, a.args.length ≤ 8 := by unfold ostep; (repeat' split) <;> simp
  have hq : ∀ a ∈ (qstep p b).2, a.args.length ≤ 8 := by unfold qstep; (repeat' split) <;> first | exact he | simp
  have hu : ∀ a ∈ (ustep p b).2, a.args.length ≤ 8 := by
    unfold ustep
    (repeat' split)
    · intro a ha
      simp only [List.mem_cons] at ha
      rcases ha with rfl | ha
      · simp [pr]
      · exact hg a ha
    · simp
    · simp [pr]
  unfold pstep
  (repeat' split) <;> assumption
theorem run_args (l : List UInt8) {p : PV} (h : PvOK p) : ∀ a ∈ (prun p l).2, a.args.length ≤ 8 := by
  induction l generalizing p with
  | nil => simp [prun]
  | cons b l ih =>
    intro a ha
    simp only [prun, List.mem_append] at ha
    rcases ha with ha | ha
    · exact step_args h b a ha
    · exact ih (pstep_ok h b) a ha
structure OutSz (R : (PV × List AV) × Int) : Prop where
  args : R.1.1.args.length ≤ 8
  acts : R.1.2.length ≤ 131072
  each : ∀ a ∈ R.1.2, a.args.length ≤ 8
theorem pbytes_sz (p : PV) (l : List UInt8) : OutSz (pbytes p l) := by
  unfold pbytes
  split
  · exact ⟨by simp [pz], by simp, by simp⟩
  · split
    · exact ⟨by simp [pz], by simp, by simp⟩
    · rename_i h1 h2
      have ok : PvOK p := pvB_iff.1 (by cases h : pvB p; exact absurd h h2; rfl)
      refine ⟨(prun_ok l ok).len, ?_, run_args l ok⟩
      have := run_len l p
      show (prun p l).2.length ≤ _
      omega
theorem actionNum_bd (K C : Nat) (rs : List ActA) (h : ∀ r ∈ rs, actionCnt r ≤ C) : actionNum K rs ≤ K + rs.length * C := by
  induction rs generalizing K with
  | nil => simp [actionNum]
  | cons r rs ih =>
    have h1 := ih (K + actionCnt r) (fun s hs => h s (by simp [hs]))
    have h2 := h r (by simp)
    simp only [actionNum, List.length_cons, Nat.add_mul]
    omega
theorem OutSz.num {R : (PV × List AV) × Int} (h : OutSz R) {L : List ActA} (hL : L.map (·.A) = R.1.2) {K : Nat} (hK : K ≤ 1048576) : actionNum K L ≤ 17592186044416 := by
  have hl : L.length = R.1.2.length := by rw [← hL]; simp
  have h1 := actionNum_bd K 12 L (fun r hr => by
    have := h.each r.A (by rw [← hL]; exact List.mem_map_of_mem hr)
    unfold actionCnt
    omega)
  have h2 := h.acts
  have h3 : L.length * 12 ≤ 131072 * 12 := Nat.mul_le_mul_right _ (by omega)
  omega
theorem OutSz.ar {R : (PV × List AV) × Int} (h : OutSz R) {L : List ActA} (hL : L.map (·.A) = R.1.2) : ∀ r ∈ L, r.A.args.length ≤ 1048576 := fun r hr => by
  have := h.each r.A (by rw [← hL]; exact List.mem_map_of_mem hr)
  omega
theorem OutSz.ln {R : (PV × List AV) × Int} (h : OutSz R) {L : List ActA} (hL : L.map (·.A) = R.1.2) : L.length ≤ 1048576 := by
  have hl : L.length = R.1.2.length := by rw [← hL]; simp
  have := h.acts
  omega
end
end Go.Proofs.YtlhhlmalihajcaaDoor
