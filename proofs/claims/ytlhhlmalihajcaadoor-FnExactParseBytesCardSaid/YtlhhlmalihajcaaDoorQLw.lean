/- The law FnExactParseBytes: its objects and its walk. -/
import Derived.Test.YtlhhlmalihajcaaDoorQaD
import Derived.Test.YtlhhlmalihajcaaDoorQuiet
import Derived.Test.YtlhhlmalihajcaaDoorTo
import Derived.Test.YtlhhlmalihajcaaDoorSlInt
import Derived.Deep.RegionHeld3
import Derived.StillTailTactics
import Derived.Test.YtlhhlmalihajcaaDoorRw
import Derived.Test.YtlhhlmalihajcaaDoorPaA
namespace Go.Proofs.YtlhhlmalihajcaaDoor
set_option linter.unusedVariables false
set_option linter.unusedSimpArgs false
section
open Go.RowKit
def SzP (C : Prop) (w : World) (e : Ending) (w' : World) : Prop := (∃ n : Int, e = .returned (.int .i64 n) ∧ n ≤ 1048576 ∧ (0 ≤ n → C)) ∧ Below w.heap.size w w'
set_option maxHeartbeats 400000 in
theorem szInts_c (a : Option Addr) (ca n : Nat) (left : Int) (w : World) (la : n ≤ 9223372036854775807) (h0 : 0 ≤ left) (h1 : left ≤ 1048576) :
    Calls Tryd.prog 44 #[.slice a n ca, .int .i64 left] w (SzP (n ≤ 1048576) w) := by
  go_enter Tryd.func44, Tryd.ntmps44
  go_wp2_with fail
  all_goals
    go_ret
    exact ⟨⟨_, rfl, by omega, fun h => by omega⟩, Below.refl _ _⟩
set_option maxRecDepth 100000 in
set_option maxHeartbeats 2000000 in
theorem szParser_c (ap : Option Addr) (cp : Nat) (p : PV) (left : Int) (w : World) (hZ : PvSz p 9223372036854775807) (h0 : 0 ≤ left) (h1 : left ≤ 1048576) :
    Calls Tryd.prog 15 #[.agg #[.int .i64 p.state, .slice ap p.args.length cp, .bool p.priv, .string p.text, .string p.utf], .int .i64 left] w (SzP (PvSz p 1048576) w) := by
  have z1 := hZ.args
  have z2 := hZ.text
  have z3 := hZ.utf
  clear hZ
  go_enter Tryd.func15, Tryd.ntmps15
  go_wp2_with fail
  refine (szInts_c ap cp p.args.length left _ z1 h0 h1).mono ?_
  rintro e w1 ⟨⟨n1, rfl, hn1, himp1⟩, hb1⟩
  have HI1 := Lib.hid himp1
  clear himp1
  have hz1 := hb1.size
  try simp at hz1
  have q1_0_0 : w1.cell? ⟨w.heap.size, 0, none⟩ = some (.int .i64 p.state) := by
    rw [hb1.cell (p := ⟨w.heap.size, 0, none⟩) (show w.heap.size < _ by (try simp) <;> (try omega))]
    first | assumption | (simp [go_sem, *])
  have q1_0_1 : w1.cell? ⟨w.heap.size, 1, none⟩ = some (.slice ap p.args.length cp) := by
    rw [hb1.cell (p := ⟨w.heap.size, 1, none⟩) (show w.heap.size < _ by (try simp) <;> (try omega))]
    first | assumption | (simp [go_sem, *])
  have q1_0_2 : w1.cell? ⟨w.heap.size, 2, none⟩ = some (.bool p.priv) := by
    rw [hb1.cell (p := ⟨w.heap.size, 2, none⟩) (show w.heap.size < _ by (try simp) <;> (try omega))]
    first | assumption | (simp [go_sem, *])
  have q1_0_3 : w1.cell? ⟨w.heap.size, 3, none⟩ = some (.string p.text) := by
    rw [hb1.cell (p := ⟨w.heap.size, 3, none⟩) (show w.heap.size < _ by (try simp) <;> (try omega))]
    first | assumption | (simp [go_sem, *])
  have q1_0_4 : w1.cell? ⟨w.heap.size, 4, none⟩ = some (.string p.utf) := by
    rw [hb1.cell (p := ⟨w.heap.size, 4, none⟩) (show w.heap.size < _ by (try simp) <;> (try omega))]
    first | assumption | (simp [go_sem, *])
  have hl1_0 : w.heap.size < w1.heap.size := by omega
  have hbw : Below w.heap.size w w1 := ((Below.refl w.heap.size w).alloc (Nat.le_refl _) _).trans (hb1.mono (by simp))
  have HB := Lib.hid hbw
  clear hb1 hbw
  by_cases hneg : n1 < 0
  · go_wp2_with fail
    go_ret
    exact ⟨⟨_, rfl, by omega, fun h => by omega⟩, HB.out⟩
  have HA := Lib.hid (HI1.out (by omega))
  by_cases hn2 : n1 < (p.text.size : Int)
  · go_wp2_with fail
    all_goals first
      | (exfalso; omega)
      | (go_ret
         exact ⟨⟨_, rfl, by omega, fun h => by omega⟩, HB.out⟩)
  by_cases hn3 : n1 - (p.text.size : Int) < (p.utf.size : Int)
  · go_wp2_with fail
    all_goals first
      | (exfalso; omega)
      | (go_ret
         exact ⟨⟨_, rfl, by omega, fun h => by omega⟩, HB.out⟩)
  go_wp2_with fail
  all_goals first
    | (exfalso; omega)
    | (go_ret
       exact ⟨⟨_, rfl, by omega, fun h => ⟨HA.out, by omega, by omega⟩⟩, HB.out⟩)
set_option maxRecDepth 100000 in
set_option maxHeartbeats 2000000 in
theorem toParser_c (ap : Option Addr) (cp : Nat) (p : PV) (w : World) (ha : Sl intE 1 w ap p.args) (hZ : PvSz p 1048576) :
    Calls Tryd.prog 16 #[.agg #[.int .i64 p.state, .slice ap p.args.length cp, .bool p.priv, .string p.text, .string p.utf]] w (ParR p w) := by
  have HA := Lib.hid ha
  have HZ := Lib.hid hZ
  clear hZ
  go_enter Tryd.func16, Tryd.ntmps16
  go_wp2_with fail
  refine (toIntS_c ap cp p.args _ (((ha.alloc _).alloc _).alloc _) HZ.out.args).mono ?_
  rintro e w1 ⟨v, rfl, hf, hb⟩
  obtain ⟨a1, c1, rfl, _, _⟩ := id hf
  have HF := Lib.hid hf.here
  have hz := hb.size
  simp only [World.size_alloc] at hz
  have hl2 : w.heap.size + 2 < w1.heap.size := by omega
  have hl1 : w.heap.size + 1 < w1.heap.size := by omega
  have hl0 : w.heap.size < w1.heap.size := by omega
  have q0_0 : w1.cell? ⟨w.heap.size, 0, none⟩ = some (.int .i64 p.state) := (hb.cell (p := ⟨w.heap.size, 0, none⟩) (by show w.heap.size < _; (try simp) <;> omega)).trans (by simp [go_sem])
  have q0_1 : w1.cell? ⟨w.heap.size, 1, none⟩ = some (.slice ap p.args.length cp) := (hb.cell (p := ⟨w.heap.size, 1, none⟩) (by show w.heap.size < _; (try simp) <;> omega)).trans (by simp [go_sem])
  have q0_2 : w1.cell? ⟨w.heap.size, 2, none⟩ = some (.bool p.priv) := (hb.cell (p := ⟨w.heap.size, 2, none⟩) (by show w.heap.size < _; (try simp) <;> omega)).trans (by simp [go_sem])
  have q0_3 : w1.cell? ⟨w.heap.size, 3, none⟩ = some (.string p.text) := (hb.cell (p := ⟨w.heap.size, 3, none⟩) (by show w.heap.size < _; (try simp) <;> omega)).trans (by simp [go_sem])
  have q0_4 : w1.cell? ⟨w.heap.size, 4, none⟩ = some (.string p.utf) := (hb.cell (p := ⟨w.heap.size, 4, none⟩) (by show w.heap.size < _; (try simp) <;> omega)).trans (by simp [go_sem])
  have f0 : ∀ o, w1.frozen? ⟨w.heap.size, o, none⟩ = false := fun o => (hb.frozen (p := ⟨w.heap.size, o, none⟩) (by show w.heap.size < _; (try simp) <;> omega)).trans (by simp [go_sem])
  have q1_0 : w1.cell? ⟨w.heap.size + 1, 0, none⟩ = some (.int .i64 0) := (hb.cell (p := ⟨w.heap.size + 1, 0, none⟩) (by show w.heap.size + 1 < _; (try simp) <;> omega)).trans (by simp [go_sem])
  have q1_1 : w1.cell? ⟨w.heap.size + 1, 1, none⟩ = some (.slice none 0 0) := (hb.cell (p := ⟨w.heap.size + 1, 1, none⟩) (by show w.heap.size + 1 < _; (try simp) <;> omega)).trans (by simp [go_sem])
  have q1_2 : w1.cell? ⟨w.heap.size + 1, 2, none⟩ = some (.bool false) := (hb.cell (p := ⟨w.heap.size + 1, 2, none⟩) (by show w.heap.size + 1 < _; (try simp) <;> omega)).trans (by simp [go_sem])
  have q1_3 : w1.cell? ⟨w.heap.size + 1, 3, none⟩ = some (.string ⟨#[]⟩) := (hb.cell (p := ⟨w.heap.size + 1, 3, none⟩) (by show w.heap.size + 1 < _; (try simp) <;> omega)).trans (by simp [go_sem])
  have q1_4 : w1.cell? ⟨w.heap.size + 1, 4, none⟩ = some (.string ⟨#[]⟩) := (hb.cell (p := ⟨w.heap.size + 1, 4, none⟩) (by show w.heap.size + 1 < _; (try simp) <;> omega)).trans (by simp [go_sem])
  have f1 : ∀ o, w1.frozen? ⟨w.heap.size + 1, o, none⟩ = false := fun o => (hb.frozen (p := ⟨w.heap.size + 1, o, none⟩) (by show w.heap.size + 1 < _; (try simp) <;> omega)).trans (by simp [go_sem])
  have q2_0 : w1.cell? ⟨w.heap.size + 2, 0, none⟩ = some (.int .i64 p.state) := (hb.cell (p := ⟨w.heap.size + 2, 0, none⟩) (by show w.heap.size + 2 < _; (try simp) <;> omega)).trans (by simp [go_sem])
  have q2_1 : w1.cell? ⟨w.heap.size + 2, 1, none⟩ = some (.slice none 0 0) := (hb.cell (p := ⟨w.heap.size + 2, 1, none⟩) (by show w.heap.size + 2 < _; (try simp) <;> omega)).trans (by simp [go_sem])
  have q2_2 : w1.cell? ⟨w.heap.size + 2, 2, none⟩ = some (.bool false) := (hb.cell (p := ⟨w.heap.size + 2, 2, none⟩) (by show w.heap.size + 2 < _; (try simp) <;> omega)).trans (by simp [go_sem])
  have q2_3 : w1.cell? ⟨w.heap.size + 2, 3, none⟩ = some (.string ⟨#[]⟩) := (hb.cell (p := ⟨w.heap.size + 2, 3, none⟩) (by show w.heap.size + 2 < _; (try simp) <;> omega)).trans (by simp [go_sem])
  have q2_4 : w1.cell? ⟨w.heap.size + 2, 4, none⟩ = some (.string ⟨#[]⟩) := (hb.cell (p := ⟨w.heap.size + 2, 4, none⟩) (by show w.heap.size + 2 < _; (try simp) <;> omega)).trans (by simp [go_sem])
  have f2 : ∀ o, w1.frozen? ⟨w.heap.size + 2, o, none⟩ = false := fun o => (hb.frozen (p := ⟨w.heap.size + 2, o, none⟩) (by show w.heap.size + 2 < _; (try simp) <;> omega)).trans (by simp [go_sem])
  have HB := Lib.hid (hb.mono (by simp only [World.size_alloc]; omega : w.heap.size + 3 ≤ _))
  clear hf hb ha
  go_wp2_with fail
  refine bodyPost_ret (v := .agg #[.int .i64 p.state, .slice a1 p.args.length c1, .bool p.priv, .string p.text, .string p.utf]) (by simp [results, Tryd.results16, go_sem, q0_0, q0_1, q0_2, q0_3, q0_4, q1_0, q1_1, q1_2, q1_3, q1_4, q2_0, q2_1, q2_2, q2_3, q2_4, hl0, hl1, hl2]) rfl ?_
  have hF := HF.out
  have hFb := FreshIn.blks hF
  simp only [World.size_alloc] at hF hFb
  have hcs : ∀ wz, Ch (fun k => k = w.heap.size + 1 ∨ k = w.heap.size + 1 + 1) w1 wz → ParR p w (.returned (.agg #[.int .i64 p.state, .slice a1 p.args.length c1, .bool p.priv, .string p.text, .string p.utf])) wz := fun wz hc => by
    refine ⟨a1, c1, rfl, ?_, ?_⟩
    · exact (hF.ch hc (fun k hk h => by have := (hFb k hk).1; omega)).mono (by omega) (Nat.le_refl _)
    · exact ((((Below.refl w.heap.size w).alloc (Nat.le_refl _) _).alloc (by simp) _).alloc (by simp; omega) _ |>.trans (HB.out.mono (by omega))).trans (hc.below (by omega) (fun k h => by omega))
  refine hcs _ ?_
  repeat (first | (with_reducible exact Ch.refl) | (with_reducible refine Ch.setCell ?_ (.inl (.inl rfl)) _) | (with_reducible refine Ch.setCell ?_ (.inl (.inr rfl)) _))
theorem eqInts_same (a b : Option Addr) (ca cb : Nat) (xs : List Int) (w : World) (ha : Sl intE 1 w a xs) (hb : Sl intE 1 w b xs) (la : xs.length ≤ 1048576) :
    Calls Tryd.prog 46 #[.slice a xs.length ca, .slice b xs.length cb] w fun e w' => e = .returned (.bool true) ∧ Below w.heap.size w w' :=
  (eqIntS_c a b ca cb xs xs w ha hb la la).mono (by rintro e w' ⟨h, hb⟩; exact ⟨by rw [h]; simp, hb⟩)
set_option maxRecDepth 100000 in
set_option maxHeartbeats 2000000 in
theorem eqParser_same (ap aq : Option Addr) (cp cq : Nat) (p : PV) (w : World) (ha : Sl intE 1 w ap p.args) (hb : Sl intE 1 w aq p.args) (hl : p.args.length ≤ 1048576) :
    Calls Tryd.prog 18 #[.agg #[.int .i64 p.state, .slice ap p.args.length cp, .bool p.priv, .string p.text, .string p.utf], .agg #[.int .i64 p.state, .slice aq p.args.length cq, .bool p.priv, .string p.text, .string p.utf]] w fun e w' => e = .returned (.bool true) ∧ Below w.heap.size w w' := by
  have HA := Lib.hid ((ha.alloc (.cells #[.int .i64 p.state, .slice ap p.args.length cp, .bool p.priv, .string p.text, .string p.utf] 25)).alloc (.cells #[.int .i64 p.state, .slice aq p.args.length cq, .bool p.priv, .string p.text, .string p.utf] 25))
  have HB := Lib.hid ((hb.alloc (.cells #[.int .i64 p.state, .slice ap p.args.length cp, .bool p.priv, .string p.text, .string p.utf] 25)).alloc (.cells #[.int .i64 p.state, .slice aq p.args.length cq, .bool p.priv, .string p.text, .string p.utf] 25))
  have HC := Lib.hid (eqInts_same ap aq cp cq p.args _ HA.out HB.out hl)
  have s1 : (p.text.toList == p.text.toList) = true := by simp
  clear ha hb
  go_enter Tryd.func18, Tryd.ntmps18
  go_wp2_with fail
  refine HC.out.mono ?_
  rintro e w1 ⟨rfl, hb1⟩
  have hz1 := hb1.size
  try simp at hz1
  have q1_0_0 : w1.cell? ⟨w.heap.size, 0, none⟩ = some (.int .i64 p.state) := by
    rw [hb1.cell (p := ⟨w.heap.size, 0, none⟩) (show w.heap.size < _ by (try simp) <;> (try omega))]
    first | assumption | (simp [go_sem, *])
  have q1_0_1 : w1.cell? ⟨w.heap.size, 1, none⟩ = some (.slice ap p.args.length cp) := by
    rw [hb1.cell (p := ⟨w.heap.size, 1, none⟩) (show w.heap.size < _ by (try simp) <;> (try omega))]
    first | assumption | (simp [go_sem, *])
  have q1_0_2 : w1.cell? ⟨w.heap.size, 2, none⟩ = some (.bool p.priv) := by
    rw [hb1.cell (p := ⟨w.heap.size, 2, none⟩) (show w.heap.size < _ by (try simp) <;> (try omega))]
    first | assumption | (simp [go_sem, *])
  have q1_0_3 : w1.cell? ⟨w.heap.size, 3, none⟩ = some (.string p.text) := by
    rw [hb1.cell (p := ⟨w.heap.size, 3, none⟩) (show w.heap.size < _ by (try simp) <;> (try omega))]
    first | assumption | (simp [go_sem, *])
  have q1_0_4 : w1.cell? ⟨w.heap.size, 4, none⟩ = some (.string p.utf) := by
    rw [hb1.cell (p := ⟨w.heap.size, 4, none⟩) (show w.heap.size < _ by (try simp) <;> (try omega))]
    first | assumption | (simp [go_sem, *])
  have hl1_0 : w.heap.size < w1.heap.size := by omega
  have q1_1_0 : w1.cell? ⟨w.heap.size + 1, 0, none⟩ = some (.int .i64 p.state) := by
    rw [hb1.cell (p := ⟨w.heap.size + 1, 0, none⟩) (show w.heap.size + 1 < _ by (try simp) <;> (try omega))]
    first | assumption | (simp [go_sem, *])
  have q1_1_1 : w1.cell? ⟨w.heap.size + 1, 1, none⟩ = some (.slice aq p.args.length cq) := by
    rw [hb1.cell (p := ⟨w.heap.size + 1, 1, none⟩) (show w.heap.size + 1 < _ by (try simp) <;> (try omega))]
    first | assumption | (simp [go_sem, *])
  have q1_1_2 : w1.cell? ⟨w.heap.size + 1, 2, none⟩ = some (.bool p.priv) := by
    rw [hb1.cell (p := ⟨w.heap.size + 1, 2, none⟩) (show w.heap.size + 1 < _ by (try simp) <;> (try omega))]
    first | assumption | (simp [go_sem, *])
  have q1_1_3 : w1.cell? ⟨w.heap.size + 1, 3, none⟩ = some (.string p.text) := by
    rw [hb1.cell (p := ⟨w.heap.size + 1, 3, none⟩) (show w.heap.size + 1 < _ by (try simp) <;> (try omega))]
    first | assumption | (simp [go_sem, *])
  have q1_1_4 : w1.cell? ⟨w.heap.size + 1, 4, none⟩ = some (.string p.utf) := by
    rw [hb1.cell (p := ⟨w.heap.size + 1, 4, none⟩) (show w.heap.size + 1 < _ by (try simp) <;> (try omega))]
    first | assumption | (simp [go_sem, *])
  have hl1_1 : w.heap.size + 1 < w1.heap.size := by omega
  have hbw : Below w.heap.size w w1 := (((Below.refl w.heap.size w).alloc (Nat.le_refl _) _).alloc (by simp) _).trans (hb1.mono (by simp; omega))
  have HBW := Lib.hid hbw
  clear hb1 hbw
  go_wp2_with fail
  go_ret
  exact ⟨rfl, HBW.out⟩
set_option maxRecDepth 100000 in
set_option maxHeartbeats 2000000 in
theorem eqAction_same (aa ab : Option Addr) (ca cb : Nat) (A : AV) (w : World) (ha : Sl intE 1 w aa A.args) (hb : Sl intE 1 w ab A.args) (hl : A.args.length ≤ 1048576) :
    Calls Tryd.prog 47 #[.agg #[.int .i64 A.kind, .int .i64 A.n, .bool A.priv, .slice aa A.args.length ca, .string A.text], .agg #[.int .i64 A.kind, .int .i64 A.n, .bool A.priv, .slice ab A.args.length cb, .string A.text]] w fun e w' => e = .returned (.bool true) ∧ Below w.heap.size w w' := by
  have HA := Lib.hid ((ha.alloc (.cells #[.int .i64 A.kind, .int .i64 A.n, .bool A.priv, .slice aa A.args.length ca, .string A.text] 46)).alloc (.cells #[.int .i64 A.kind, .int .i64 A.n, .bool A.priv, .slice ab A.args.length cb, .string A.text] 46))
  have HB := Lib.hid ((hb.alloc (.cells #[.int .i64 A.kind, .int .i64 A.n, .bool A.priv, .slice aa A.args.length ca, .string A.text] 46)).alloc (.cells #[.int .i64 A.kind, .int .i64 A.n, .bool A.priv, .slice ab A.args.length cb, .string A.text] 46))
  have HC := Lib.hid (eqInts_same aa ab ca cb A.args _ HA.out HB.out hl)
  clear ha hb
  go_enter Tryd.func47, Tryd.ntmps47
  go_wp2_with fail
  refine HC.out.mono ?_
  rintro e w1 ⟨rfl, hb1⟩
  have hz1 := hb1.size
  try simp at hz1
  have q1_0_0 : w1.cell? ⟨w.heap.size, 0, none⟩ = some (.int .i64 A.kind) := by
    rw [hb1.cell (p := ⟨w.heap.size, 0, none⟩) (show w.heap.size < _ by (try simp) <;> (try omega))]
    first | assumption | (simp [go_sem, *])
  have q1_0_1 : w1.cell? ⟨w.heap.size, 1, none⟩ = some (.int .i64 A.n) := by
    rw [hb1.cell (p := ⟨w.heap.size, 1, none⟩) (show w.heap.size < _ by (try simp) <;> (try omega))]
    first | assumption | (simp [go_sem, *])
  have q1_0_2 : w1.cell? ⟨w.heap.size, 2, none⟩ = some (.bool A.priv) := by
    rw [hb1.cell (p := ⟨w.heap.size, 2, none⟩) (show w.heap.size < _ by (try simp) <;> (try omega))]
    first | assumption | (simp [go_sem, *])
  have q1_0_3 : w1.cell? ⟨w.heap.size, 3, none⟩ = some (.slice aa A.args.length ca) := by
    rw [hb1.cell (p := ⟨w.heap.size, 3, none⟩) (show w.heap.size < _ by (try simp) <;> (try omega))]
    first | assumption | (simp [go_sem, *])
  have q1_0_4 : w1.cell? ⟨w.heap.size, 4, none⟩ = some (.string A.text) := by
    rw [hb1.cell (p := ⟨w.heap.size, 4, none⟩) (show w.heap.size < _ by (try simp) <;> (try omega))]
    first | assumption | (simp [go_sem, *])
  have hl1_0 : w.heap.size < w1.heap.size := by omega
  have q1_1_0 : w1.cell? ⟨w.heap.size + 1, 0, none⟩ = some (.int .i64 A.kind) := by
    rw [hb1.cell (p := ⟨w.heap.size + 1, 0, none⟩) (show w.heap.size + 1 < _ by (try simp) <;> (try omega))]
    first | assumption | (simp [go_sem, *])
  have q1_1_1 : w1.cell? ⟨w.heap.size + 1, 1, none⟩ = some (.int .i64 A.n) := by
    rw [hb1.cell (p := ⟨w.heap.size + 1, 1, none⟩) (show w.heap.size + 1 < _ by (try simp) <;> (try omega))]
    first | assumption | (simp [go_sem, *])
  have q1_1_2 : w1.cell? ⟨w.heap.size + 1, 2, none⟩ = some (.bool A.priv) := by
    rw [hb1.cell (p := ⟨w.heap.size + 1, 2, none⟩) (show w.heap.size + 1 < _ by (try simp) <;> (try omega))]
    first | assumption | (simp [go_sem, *])
  have q1_1_3 : w1.cell? ⟨w.heap.size + 1, 3, none⟩ = some (.slice ab A.args.length cb) := by
    rw [hb1.cell (p := ⟨w.heap.size + 1, 3, none⟩) (show w.heap.size + 1 < _ by (try simp) <;> (try omega))]
    first | assumption | (simp [go_sem, *])
  have q1_1_4 : w1.cell? ⟨w.heap.size + 1, 4, none⟩ = some (.string A.text) := by
    rw [hb1.cell (p := ⟨w.heap.size + 1, 4, none⟩) (show w.heap.size + 1 < _ by (try simp) <;> (try omega))]
    first | assumption | (simp [go_sem, *])
  have hl1_1 : w.heap.size + 1 < w1.heap.size := by omega
  have hbw : Below w.heap.size w w1 := (((Below.refl w.heap.size w).alloc (Nat.le_refl _) _).alloc (by simp) _).trans (hb1.mono (by simp; omega))
  have HBW := Lib.hid hbw
  clear hb1 hbw
  go_wp2_with fail
  go_ret
  exact ⟨rfl, HBW.out⟩
/-- Actions that can be read. -/
def ActS (w : World) (a : Option Addr) (rs : List ActA) : Prop := Sl actE 5 w a rs ∧ ∀ r ∈ rs, Sl intE 1 w r.aa r.A.args
theorem ActS.keep {w w' : World} {a : Option Addr} {rs : List ActA} (h : ActS w a rs) (hb : Below w.heap.size w w') : ActS w' a rs := ⟨h.1.keep hb, fun r hr => (h.2 r hr).keep hb⟩
theorem mapA_len {rs ts : List ActA} (h : ts.map (·.A) = rs.map (·.A)) : ts.length = rs.length := by have := congrArg List.length h; simpa using this
theorem mapA_at {rs ts : List ActA} (h : ts.map (·.A) = rs.map (·.A)) (k : Nat) (h1 : k < ts.length) (h2 : k < rs.length) : ts[k].A = rs[k].A := by
  have h3 : (ts.map (·.A))[k]? = (rs.map (·.A))[k]? := by rw [h]
  simpa [List.getElem?_eq_getElem h1, List.getElem?_eq_getElem h2] using h3
set_option maxRecDepth 100000 in
set_option maxHeartbeats 4000000 in
theorem eqActionS_same (a b : Option Addr) (ca cb : Nat) (rs ts : List ActA) (w : World) (ha : ActS w a rs) (hb : ActS w b ts) (he : ts.map (·.A) = rs.map (·.A)) (hs : ∀ r ∈ rs, r.A.args.length ≤ 1048576) (la : rs.length ≤ 1048576) :
    Calls Tryd.prog 19 #[.slice a rs.length ca, .slice b ts.length cb] w fun e w' => e = .returned (.bool true) ∧ Below w.heap.size w w' := by
  have hl : ts.length = rs.length := mapA_len he
  rw [hl]
  have HS := Lib.hid hs
  have HE := Lib.hid he
  have HL := Lib.hid hl
  clear hs he hl
  go_enter Tryd.func19, Tryd.ntmps19
  go_wp2_with fail
  go_loopw [5] (fun i wr => ∃ k : Nat, k ≤ rs.length ∧ i = .int .i64 k ∧ Below w.heap.size w wr) (fun i _ => rs.length - (intOf i).toNat)
  case atStart => exact ⟨0, Nat.zero_le _, rfl, Below.refl _ _⟩
  case round =>
    obtain ⟨k, hk, rfl, hbel⟩ := hrel
    by_cases hlt : k < rs.length
    · obtain ⟨b1, o1, rfl, hb1, hc1⟩ := (ha.1.keep hbel).at hlt
      have hlt2 : k < ts.length := by have := HL.out; omega
      obtain ⟨b2, o2, rfl, hb2, hc2⟩ := (hb.1.keep hbel).at hlt2
      have c0 := hc1 k hlt 0 (by omega)
      have c1 := hc1 k hlt 1 (by omega)
      have c2 := hc1 k hlt 2 (by omega)
      have c3 := hc1 k hlt 3 (by omega)
      have c4 := hc1 k hlt 4 (by omega)
      simp only [actE, Nat.add_zero, List.getElem?_cons_zero, List.getElem?_cons_succ] at c0 c1 c2 c3 c4
      have d0 := hc2 k hlt2 0 (by omega)
      have d1 := hc2 k hlt2 1 (by omega)
      have d2 := hc2 k hlt2 2 (by omega)
      have d3 := hc2 k hlt2 3 (by omega)
      have d4 := hc2 k hlt2 4 (by omega)
      simp only [actE, Nat.add_zero, List.getElem?_cons_zero, List.getElem?_cons_succ] at d0 d1 d2 d3 d4
      clear hc1 hc2
      have hsz := HS.out rs[k] (List.getElem_mem _)
      have ok1 := (ha.2 rs[k] (List.getElem_mem _)).keep hbel
      have ok2 := (hb.2 ts[k] (List.getElem_mem _)).keep hbel
      have hm := mapA_at HE.out k hlt2 hlt
      generalize rs[k] = r at *
      generalize ts[k] = t at *
      rw [hm] at d0 d1 d2 d3 d4
      have hM2 : Sl intE 1 wr t.aa r.A.args := by rw [hm] at ok2; exact ok2
      clear hm ok2
      go_wp2_with fail
      go_still_tail 8, (by kernel_rfl)
      change wpList _ _ _ _ _ wr.drew
      have hb0 := hbel.drew
      have ok1 := ok1.keep ((Below.refl wr.heap.size wr).drew)
      have hM2 := hM2.keep ((Below.refl wr.heap.size wr).drew)
      generalize wr.drew = wd at *
      go_wp2_with fail
      refine (eqAction_same r.aa t.aa r.ca t.ca r.A _ ok1 hM2 hsz).mono ?_
      rintro e w1 ⟨rfl, hb1'⟩
      go_wp2_with fail
      go_roundw
      case rel => exact ⟨k + 1, by omega, by go_num, hb0.trans (hb1'.mono hb0.size)⟩
      case measure => simp [intOf]; omega
    · obtain rfl : k = rs.length := by omega
      go_wp2_with fail
      go_ret
      exact ⟨rfl, hbel⟩
end
section
open Go.RowKit
def actionBlk (r : ActA) : List Nat := blkOf r.aa
def actionOwn (B : Nat) (w : World) (r : ActA) : Prop := FreshIn intE 3 1 B w.heap.size (.slice r.aa r.A.args.length r.ca) r.A.args w
def actionCnt (r : ActA) : Nat := 3 + 1 * r.A.args.length + 1
def actionNum (K : Nat) : List ActA → Nat
  | [] => K
  | r :: rs => actionNum (K + actionCnt r) rs
def actionMk (r : ActA) (K : Nat) : ActA := ⟨⟨((K : Nat) : Int), ((K + 1 : Nat) : Int), (((K + 2 : Nat) : Int) % 3 == 0), (List.range r.A.args.length).map (markI (K + 3)), mt (K + 3 + 1 * r.A.args.length)⟩, r.aa, r.ca⟩
def actionF (rs : List ActA) (K j : Nat) : ActA := actionMk (rs.getD j (⟨⟨0, 0, false, [], ⟨#[]⟩⟩, none, 0⟩ : ActA)) (actionNum K (rs.take j))
theorem actionNum_step (K : Nat) (rs : List ActA) (q : Nat) (hq : q < rs.length) : actionNum K (rs.take (q + 1)) = actionNum K (rs.take q) + actionCnt rs[q] := by
  induction rs generalizing K q with
  | nil => simp at hq
  | cons r rs ih =>
    cases q with
    | zero => simp [actionNum]
    | succ q => simp only [List.take_succ_cons, actionNum, List.getElem_cons_succ]; exact ih _ q (by simpa using hq)
theorem actionNum_mono (K : Nat) (rs : List ActA) : K ≤ actionNum K rs := by
  induction rs generalizing K with
  | nil => exact Nat.le_refl _
  | cons r rs ih => exact Nat.le_trans (Nat.le_add_right _ _) (ih _)
theorem actionNum_le (K : Nat) (rs : List ActA) (q : Nat) (hq : q < rs.length) : actionNum K (rs.take q) + actionCnt rs[q] ≤ actionNum K rs := by
  rw [← actionNum_step K rs q hq]
  conv => rhs; rw [← List.take_append_drop (q + 1) rs]
  generalize rs.take (q + 1) = a
  generalize rs.drop (q + 1) = b
  clear hq
  induction a generalizing K with
  | nil => exact actionNum_mono _ _
  | cons r a ih => exact ih _
theorem actionNum_len (K : Nat) (rs : List ActA) : K + rs.length ≤ actionNum K rs := by
  induction rs generalizing K with
  | nil => exact Nat.le_refl _
  | cons r rs ih =>
    have := ih (K + actionCnt r)
    have h1 : 1 ≤ actionCnt r := by unfold actionCnt; omega
    simp only [List.length_cons, actionNum]
    omega
theorem actionF_at (rs : List ActA) (K q : Nat) (hq : q < rs.length) : actionF rs K q = actionMk rs[q] (actionNum K (rs.take q)) := by
  unfold actionF
  rw [List.getD_eq_getElem?_getD, List.getElem?_eq_getElem hq]
  rfl
theorem actionOwn.upd {B g lo hi : Nat} {S : Nat → Prop} {w w' : World} {r : ActA} (h : actionOwn B w r) (hu : Upd g lo hi S w w') (hd : ∀ k ∈ actionBlk r, k ≠ g ∧ ¬ S k) : actionOwn B w' r :=
  FreshIn.upd h hu (fun k hk => hd k (by simpa [actionBlk] using hk))
set_option maxRecDepth 100000 in
set_option maxHeartbeats 8000000 in
theorem markActionS_c (g ca B : Nat) (rs : List ActA) (K : Nat) (w : World) (h : RowsR actE 5 actionOwn actionBlk B w g rs) (hK : actionNum K rs ≤ 17592186044416) :
    Calls Tryd.prog 23 #[.slice (some ⟨g, 0, none⟩) rs.length ca, .int .i64 K] w fun e w' => e = .returned (.int .i64 ((actionNum K rs : Nat))) ∧ RowsR actE 5 actionOwn actionBlk B w' g ((List.range rs.length).map (actionF rs K)) ∧ Upd g 0 (rs.length * 5) (allBlk actionBlk rs) w w' := by
  have hlen : rs.length ≤ 17592186044416 := by have := actionNum_len K rs; omega
  have HK := Lib.hid hK
  clear hK
  go_enter Tryd.func23, Tryd.ntmps23
  go_wp2_with fail
  go_loopw [1, 5] (fun m i wr => ∃ q : Nat, q ≤ rs.length ∧ i = .int .i64 q ∧ m = .int .i64 ((actionNum K (rs.take q) : Nat)) ∧ RowsR actE 5 actionOwn actionBlk B wr g (over (actionF rs K) rs q) ∧ Upd g 0 (rs.length * 5) (allBlk actionBlk rs) w wr) (fun _ i _ => rs.length - (intOf i).toNat)
  case atStart => exact ⟨0, Nat.zero_le _, rfl, rfl, by rw [over_zero]; exact h, Upd.refl⟩
  case round =>
    obtain ⟨q, hq, rfl, rfl, hr, hw⟩ := hrel
    have HR := Lib.hid hr
    have HW := Lib.hid hw
    clear hw
    have hlt0 := hr.lt
    by_cases hlt : q < rs.length
    · have hol : q < (over (actionF rs K) rs q).length := by rw [over_length _ _ _ hq]; exact hlt
      have hoa := over_at (f := actionF rs K) hlt hol
      obtain ⟨b1, o1, he1, hb1, hc1⟩ := hr.sl.at hol
      simp only [Option.some.injEq, Addr.mk.injEq] at he1
      obtain ⟨rfl, rfl, _⟩ := he1
      have c0_0 := hc1 q hol 0 (by omega)
      have c0_1 := hc1 q hol 1 (by omega)
      have c0_2 := hc1 q hol 2 (by omega)
      have c0_3 := hc1 q hol 3 (by omega)
      have c0_4 := hc1 q hol 4 (by omega)
      rw [hoa] at c0_0 c0_1 c0_2 c0_3 c0_4
      simp only [actE, Nat.zero_add, Nat.add_zero, List.getElem?_cons_zero, List.getElem?_cons_succ] at c0_0 c0_1 c0_2 c0_3 c0_4
      clear hc1
      have f0 := hr.fz
      have hin := hr.in hol
      have hok := hr.ok q hol
      have HF := Lib.hid (actionF_at rs K q hlt)
      have HNS := Lib.hid (actionNum_step K rs q hlt)
      have HKM : Hid (actionNum K (rs.take q) + actionCnt rs[q] ≤ 17592186044416) := Lib.hid (Nat.le_trans (actionNum_le K rs q hlt) HK.out)
      have HALL : Hid (∀ k ∈ actionBlk rs[q], allBlk actionBlk rs k) := Lib.hid (fun k hk => ⟨_, List.getElem_mem hlt, hk⟩)
      have HOS : Hid ((over (actionF rs K) rs q).set q (actionF rs K q) = over (actionF rs K) rs (q + 1)) := over_step _ rs q hlt
      have hbq : actionBlk (over (actionF rs K) rs q)[q] = actionBlk rs[q] := by rw [hoa]
      rw [hoa] at hin hok
      have HBQ := Lib.hid hbq
      clear hr hoa hbq
      generalize rs[q] = r at *
      generalize actionNum K (rs.take q) = K0 at *
      have HIN := Lib.hid hin
      clear hin
      have sg_0 : Hid (∀ k ∈ blkOf r.aa, k ≠ g) := fun k hk e => HIN.out.1 (by subst e; simp [actionBlk, hk])
      unfold actionOwn at hok
      have HG0_0 := Lib.hid (hok)
      have HU0 : Hid (Upd g (q * 5) (q * 5 + 5) (· ∈ actionBlk r) wr wr) := Lib.hid Upd.refl
      have hKM := HKM.out
      unfold actionCnt at hKM
      have HKM2 := Lib.hid hKM
      have hbK0 : K0 ≤ 17592186044416 := by omega
      clear hok hKM
      have hsz1 : g < wr.heap.size := by omega
      go_wp2_with fail
      have hbd1 : K0 + 3 + 1 * r.A.args.length ≤ 17592186044416 := (by have h1 := HKM2.out; skip; omega)
      have HC1 := Lib.hid (flat_upd (lo := q * 5) (hi := q * 5 + 5) (fun b W h2 h3 => markIntSB_c r.aa r.ca r.A.args (K0 + 3) b (b + 1) W h2 h3 (by omega)) HG0_0.out sg_0.out (show g < wr.heap.size by omega))
      clear hbd1
      refine (HC1.out _ (by (repeat (first | (with_reducible exact Upd.refl) | (refine Upd.setCell ?_ _ (by omega) (by omega) _))))).mono ?_
      clear HC1
      rintro e w1 ⟨rfl, hf1, hu1', hcg1⟩
      have hz1 := hu1'.size
      try simp at hz1
      have hu1 : Upd g (q * 5) (q * 5 + 5) (· ∈ blkOf r.aa) wr w1 := Upd.trans (by (repeat (first | (with_reducible exact Upd.refl) | (refine Upd.setCell ?_ _ (by omega) (by omega) _)))) hu1'
      have c1_0 : w1.cell? ⟨g, q * 5, none⟩ = some (.int .i64 ((K0 : Int))) := (hcg1 _).trans (by simp [go_sem, c0_0] <;> (first | omega | (congr 2 <;> omega)))
      have c1_1 : w1.cell? ⟨g, q * 5 + 1, none⟩ = some (.int .i64 ((K0 : Int) + 1)) := (hcg1 _).trans (by simp [go_sem, c0_1] <;> (first | omega | (congr 2 <;> omega)))
      have c1_2 : w1.cell? ⟨g, q * 5 + 2, none⟩ = some (.bool (((K0 : Int) + 2) % 3 == 0)) := (hcg1 _).trans (by simp [go_sem, c0_2] <;> (first | omega | (congr 2 <;> omega)))
      have c1_3 : w1.cell? ⟨g, q * 5 + 3, none⟩ = some (.slice r.aa r.A.args.length r.ca) := (hcg1 _).trans (by simp [go_sem, c0_3] <;> (first | omega | (congr 2 <;> omega)))
      have c1_4 : w1.cell? ⟨g, q * 5 + 4, none⟩ = some (.string r.A.text) := (hcg1 _).trans (by simp [go_sem, c0_4] <;> (first | omega | (congr 2 <;> omega)))
      have f1 : ∀ o, w1.frozen? ⟨g, o, none⟩ = false := fun o => (hu1.fz o).trans (f0 o)
      have HG1_0 := Lib.hid hf1
      clear hf1
      have HU1 : Hid (Upd g (q * 5) (q * 5 + 5) (· ∈ actionBlk r) wr w1) := Lib.hid (HU0.out.trans (hu1.mono (Nat.le_refl _) (Nat.le_refl _) (fun k hk => by simp [actionBlk, hk])))
      clear c0_0 c0_1 c0_2 c0_3 c0_4 f0 HG0_0 HU0
      clear hu1 hu1' hcg1
      obtain ⟨K1, hk1⟩ : ∃ k, K0 + 3 + 1 * r.A.args.length = k := ⟨_, rfl⟩
      have HE1 := Lib.hid hk1
      rw [hk1]
      clear hk1
      have hbK1 : K1 ≤ 17592186044416 := (by have h1 := HKM2.out; skip; have eHE1 := HE1.out; omega)
      have hsz2 : g < w1.heap.size := by omega
      go_wp2_with fail
      refine (markTextB_c (K1) _ (by have h1 := HKM2.out; skip; have eHE1 := HE1.out; omega)).mono ?_
      rintro e w2 ⟨rfl, hb2⟩
      have hz2 := hb2.size
      try simp at hz2
      have hu2 : Upd g (q * 5) (q * 5 + 5) (fun _ => False) w1 w2 := Upd.below (by (repeat (first | (with_reducible exact Upd.refl) | (refine Upd.setCell ?_ _ (by omega) (by omega) _)))) hb2 (by (try simp) <;> omega)
      have c2_0 : w2.cell? ⟨g, q * 5, none⟩ = some (.int .i64 ((K0 : Int))) := (hb2.cell (p := ⟨g, q * 5, none⟩) (by show g < _; (try simp) <;> omega)).trans (by simp [go_sem, c1_0] <;> (first | omega | (congr 2 <;> omega)))
      have c2_1 : w2.cell? ⟨g, q * 5 + 1, none⟩ = some (.int .i64 ((K0 : Int) + 1)) := (hb2.cell (p := ⟨g, q * 5 + 1, none⟩) (by show g < _; (try simp) <;> omega)).trans (by simp [go_sem, c1_1] <;> (first | omega | (congr 2 <;> omega)))
      have c2_2 : w2.cell? ⟨g, q * 5 + 2, none⟩ = some (.bool (((K0 : Int) + 2) % 3 == 0)) := (hb2.cell (p := ⟨g, q * 5 + 2, none⟩) (by show g < _; (try simp) <;> omega)).trans (by simp [go_sem, c1_2] <;> (first | omega | (congr 2 <;> omega)))
      have c2_3 : w2.cell? ⟨g, q * 5 + 3, none⟩ = some (.slice r.aa r.A.args.length r.ca) := (hb2.cell (p := ⟨g, q * 5 + 3, none⟩) (by show g < _; (try simp) <;> omega)).trans (by simp [go_sem, c1_3] <;> (first | omega | (congr 2 <;> omega)))
      have c2_4 : w2.cell? ⟨g, q * 5 + 4, none⟩ = some (.string r.A.text) := (hb2.cell (p := ⟨g, q * 5 + 4, none⟩) (by show g < _; (try simp) <;> omega)).trans (by simp [go_sem, c1_4] <;> (first | omega | (congr 2 <;> omega)))
      have f2 : ∀ o, w2.frozen? ⟨g, o, none⟩ = false := fun o => (hu2.fz o).trans (f1 o)
      have HG2_0 := Lib.hid (HG1_0.out.upd hu2 (fun k hk => ⟨sg_0.out k hk, fun e => e⟩))
      have HU2 : Hid (Upd g (q * 5) (q * 5 + 5) (· ∈ actionBlk r) wr w2) := Lib.hid (HU1.out.trans (hu2.mono (Nat.le_refl _) (Nat.le_refl _) (fun k hk => by exact False.elim hk)))
      clear c1_0 c1_1 c1_2 c1_3 c1_4 f1 HG1_0 HU1
      clear hb2 hu2
      have hszz : g < w2.heap.size := by omega
      go_wp2_with fail
      go_roundw
      case rel =>
        have hq2 : q * 5 + 5 ≤ rs.length * 5 := by have := Nat.mul_le_mul_right 5 (show q + 1 ≤ rs.length by omega); omega
        refine ⟨q + 1, by omega, by go_num, ?_, ?_, ?_⟩
        · rw [HNS.out]
          show Value.int .i64 _ = Value.int .i64 _
          congr 1 <;> (unfold actionCnt; have eHE1 := HE1.out; omega)
        · rw [← HOS.out, HF.out]
          refine RowsR.step HR.out hol (x := actionMk r K0) ?_ ?_ ?_ ?_ ?_
          · rw [HBQ.out]; rfl
          · rw [HBQ.out]; (repeat (first | (with_reducible exact HU2.out) | (refine Upd.setCell ?_ _ (by omega) (by omega) _)))
          · intro j hj
            match j, hj with
            | 0, _ => simp [go_sem, c2_0, actionMk, actE] <;> (have eHE1 := HE1.out; first | omega | (congr 2 <;> omega) | (subst_vars; rfl))
            | 1, _ => simp [go_sem, c2_1, actionMk, actE] <;> (have eHE1 := HE1.out; first | omega | (congr 2 <;> omega) | (subst_vars; rfl))
            | 2, _ => simp [go_sem, c2_2, actionMk, actE] <;> (have eHE1 := HE1.out; first | omega | (congr 2 <;> omega) | (subst_vars; rfl))
            | 3, _ => simp [go_sem, c2_3, actionMk, actE] <;> (have eHE1 := HE1.out; first | omega | (congr 2 <;> omega) | (subst_vars; rfl))
            | 4, _ => simp [go_sem, c2_4, actionMk, actE] <;> (have eHE1 := HE1.out; first | omega | (congr 2 <;> omega) | (subst_vars; rfl))
          · unfold actionOwn actionMk
            exact by
              have hh := HG2_0.out.upd (by (repeat (first | (with_reducible exact Upd.refl) | (refine Upd.setCell ?_ _ (by omega) (by omega) _))) : Upd g (q * 5) (q * 5 + 5) (fun _ => False) w2 (w2.setCell ⟨g, q * 5 + 4, none⟩ (.string (mt (K1))))) (fun k hk => ⟨sg_0.out k hk, fun e => e⟩)
              rw [show K0 + 3 = K0 + 3 from by have eHE1 := HE1.out; omega] at hh
              simpa using hh
          · intro r' h1 h2
            refine h1.upd (S := (· ∈ actionBlk r)) (g := g) (lo := q * 5) (hi := q * 5 + 5) (w := wr) (by (repeat (first | (with_reducible exact HU2.out) | (refine Upd.setCell ?_ _ (by omega) (by omega) _)))) (fun k hk => ⟨(h2 k hk).1, by have := (h2 k hk).2; rwa [HBQ.out] at this⟩)
        · refine HW.out.trans (Upd.mono (lo := q * 5) (hi := q * 5 + 5) (S := (· ∈ actionBlk r)) (by (repeat (first | (with_reducible exact HU2.out) | (refine Upd.setCell ?_ _ (by omega) (by omega) _)))) (Nat.zero_le _) hq2 (fun k hk => HALL.out k hk))
      case measure => simp [intOf]; omega
    · obtain rfl : q = rs.length := by omega
      go_wp2_with fail
      go_ret
      have h1 := HR.out
      rw [over_all] at h1
      refine ⟨by rw [List.take_length]; rfl, h1, HW.out⟩
set_option maxRecDepth 100000 in
set_option maxHeartbeats 8000000 in
theorem heldActionS_c (g ca B : Nat) (rs : List ActA) (K : Nat) (w : World) (h : RowsR actE 5 actionOwn actionBlk B w g ((List.range rs.length).map (actionF rs K))) (hK : actionNum K rs ≤ 17592186044416) :
    Calls Tryd.prog 25 #[.slice (some ⟨g, 0, none⟩) rs.length ca, .int .i64 K] w fun e w' => e = .returned (.int .i64 ((actionNum K rs : Nat))) ∧ Below w.heap.size w w' := by
  have hlen : rs.length ≤ 17592186044416 := by have := actionNum_len K rs; omega
  have HK := Lib.hid hK
  have H0 := Lib.hid h
  clear hK h
  go_enter Tryd.func25, Tryd.ntmps25
  go_wp2_with fail
  go_loopw [1, 5] (fun m i wr => ∃ q : Nat, q ≤ rs.length ∧ i = .int .i64 q ∧ m = .int .i64 ((actionNum K (rs.take q) : Nat)) ∧ Below w.heap.size w wr) (fun _ i _ => rs.length - (intOf i).toNat)
  case atStart => exact ⟨0, Nat.zero_le _, rfl, rfl, Below.refl _ _⟩
  case round =>
    obtain ⟨q, hq, rfl, rfl, hw⟩ := hrel
    have HW := Lib.hid hw
    have hwz := hw.size
    have hlt0 : g < wr.heap.size := by have := H0.out.lt; omega
    by_cases hlt : q < rs.length
    · have hol : q < ((List.range rs.length).map (actionF rs K)).length := by simpa using hlt
      obtain ⟨b1, o1, he1, hb1, hc1⟩ := (H0.out.sl.keep hw).at hol
      simp only [Option.some.injEq, Addr.mk.injEq] at he1
      obtain ⟨rfl, rfl, _⟩ := he1
      have hF : ((List.range rs.length).map (actionF rs K))[q] = actionMk rs[q] (actionNum K (rs.take q)) := by simpa using actionF_at rs K q hlt
      have HO := Lib.hid (H0.out.ok q hol)
      have HNS := Lib.hid (actionNum_step K rs q hlt)
      have HKM : Hid (actionNum K (rs.take q) + actionCnt rs[q] ≤ 17592186044416) := Lib.hid (Nat.le_trans (actionNum_le K rs q hlt) HK.out)
      rw [hF] at HO
      have e0_0 := hc1 q hol 0 (by omega)
      have e0_1 := hc1 q hol 1 (by omega)
      have e0_2 := hc1 q hol 2 (by omega)
      have e0_3 := hc1 q hol 3 (by omega)
      have e0_4 := hc1 q hol 4 (by omega)
      rw [hF] at e0_0 e0_1 e0_2 e0_3 e0_4
      clear hF hc1
      generalize rs[q] = r at *
      generalize actionNum K (rs.take q) = K0 at *
      simp only [actE, actionMk, Nat.zero_add, Nat.add_zero, List.length_map, List.length_range, List.getElem?_cons_zero, List.getElem?_cons_succ] at e0_0 e0_1 e0_2 e0_3 e0_4
      have E0_0 := Lib.hid e0_0
      have E0_1 := Lib.hid e0_1
      have E0_2 := Lib.hid e0_2
      have E0_3 := Lib.hid e0_3
      have E0_4 := Lib.hid e0_4
      clear e0_0 e0_1 e0_2 e0_3 e0_4
      have ho := HO.out
      unfold actionOwn actionMk at ho
      clear HO
      have HS_0 : Hid (Sl intE 1 w r.aa ((List.range r.A.args.length).map (markI (K0 + 3)))) := Lib.hid (FreshIn.slr2 (fun _ => rfl) (show FreshIn intE 3 1 B w.heap.size (.slice r.aa r.A.args.length r.ca) _ w from (by simpa using ho)))
      clear ho
      have hKM := HKM.out
      unfold actionCnt at hKM
      have HKM2 := Lib.hid hKM
      have hbK0 : K0 ≤ 17592186044416 := by omega
      clear hKM
      have c0_0 : wr.cell? ⟨g, q * 5, none⟩ = some (.int .i64 ((K0 : Int))) := E0_0.out.trans (by first | rfl | (congr 2; omega) | (congr 3; omega) | (simp; omega) | (simp) | (congr 2 <;> congr 1 <;> omega))
      have c0_1 : wr.cell? ⟨g, q * 5 + 1, none⟩ = some (.int .i64 ((K0 : Int) + 1)) := E0_1.out.trans (by first | rfl | (congr 2; omega) | (congr 3; omega) | (simp; omega) | (simp) | (congr 2 <;> congr 1 <;> omega))
      obtain ⟨v_2, hv_2⟩ : ∃ v, (((K0 : Int) + 1 + 1) % 3 == 0) = v := ⟨_, rfl⟩
      have hw_2 : (((K0 : Int) + 2) % 3 == 0) = v_2 := by rw [← hv_2]; congr 2 <;> omega
      have c0_2 : wr.cell? ⟨g, q * 5 + 2, none⟩ = some (.bool v_2) := E0_2.out.trans (by rw [← hv_2]; first | rfl | (congr 2; omega) | (congr 3 <;> omega) | (simp; omega) | simp)
      have c0_3 : wr.cell? ⟨g, q * 5 + 3, none⟩ = some (.slice r.aa r.A.args.length r.ca) := E0_3.out.trans (by first | rfl | (congr 2; omega) | (congr 3; omega) | (simp; omega) | (simp) | (congr 2 <;> congr 1 <;> omega))
      go_wp2_with fail
      have hS := HS_0.out.keep HW.out
      rw [show K0 + 3 = K0 + 3 from (by have h1 := HKM2.out; skip; omega)] at hS
      refine (heldIntSB_c r.aa r.ca r.A.args.length (K0 + 3) _ hS (by have h1 := HKM2.out; skip; omega)).mono ?_
      rintro e w1 ⟨rfl, hq0⟩
      clear hS
      have hbq : Below wr.heap.size wr w1 := hq0 ▸ Below.refl _ _
      clear hq0
      have hzq1 := hbq.size
      have HW1 : Hid (Below w.heap.size w w1) := Lib.hid (HW.out.trans (hbq.mono (by omega)))
      have E1_4 := Lib.hid ((hbq.cell (p := ⟨g, q * 5 + 4, none⟩) (by show g < wr.heap.size; omega)).trans E0_4.out)
      have hlq1 : g < w1.heap.size := by omega
      clear hbq
      clear E0_4
      obtain ⟨K1, hk1⟩ : ∃ k, K0 + 3 + r.A.args.length = k := ⟨_, rfl⟩
      have HE1 := Lib.hid hk1
      rw [hk1]
      clear hk1
      have hbK1 : K1 ≤ 17592186044416 := (by have h1 := HKM2.out; skip; have eHE1 := HE1.out; omega)
      have hnK1 : decide ((K1 : Int) < 0) = false := decide_eq_false (by omega)
      have c1_4 : w1.cell? ⟨g, q * 5 + 4, none⟩ = some (.string (mt (K1))) := E1_4.out.trans (by have eHE1 := HE1.out; first | rfl | (congr 2; omega) | (congr 3; omega) | (simp; omega) | (simp) | (congr 2 <;> congr 1 <;> omega))
      go_wp2_with fail
      have xq0 := extW_cell (w := w1) (b := g) (by (try simp) <;> (try omega))
      refine wp_region_quietx (w1) rfl (by kernel_rfl) (by kernel_rfl) ?_
      repeat (go_big_quiet_step ((go_at_call 49; exact Calls.quietx (markTextB_c (K1) _ (by have h1 := HKM2.out; skip; have eHE1 := HE1.out; omega)))))
      refine wpQuiet_nil ?_
      intro _ hw'
      obtain ⟨xq, hw''⟩ := hw'
      subst hw''
      have hbq := extW_below (w1) xq
      generalize extW (w1) xq = wq at hbq ⊢
      clear xq0
      obtain ⟨w2, rfl⟩ : ∃ W : World, W = wq := ⟨_, rfl⟩
      have hzq2 := hbq.size
      have HW2 : Hid (Below w.heap.size w w2) := Lib.hid (HW1.out.trans (hbq.mono (by omega)))
      have hlq2 : g < w2.heap.size := by omega
      clear hbq
      skip
      go_wp2_with fail
      go_roundw
      case rel =>
        refine ⟨q + 1, by omega, by go_num, ?_, HW2.out⟩
        rw [HNS.out]
        show Value.int .i64 _ = Value.int .i64 _
        congr 1 <;> (unfold actionCnt; have eHE1 := HE1.out; omega)
      case measure => simp [intOf]; omega
    · obtain rfl : q = rs.length := by omega
      go_wp2_with fail
      go_ret
      exact ⟨by rw [List.take_length]; rfl, HW.out⟩
end
section
open Go.RowKit
theorem flat_apart {R : Type} {f : R → List Nat} {L : List R} (h : (L.flatMap f).Nodup) : ∀ i j (hi : i < L.length) (hj : j < L.length), i ≠ j → ∀ b ∈ f L[i], b ∉ f L[j] := by
  induction L with
  | nil => intro i j hi; simp at hi
  | cons r L ih =>
    simp only [List.flatMap_cons, List.nodup_append] at h
    obtain ⟨_, h2, h3⟩ := h
    intro i j hi hj hij b hb hb2
    cases i with
    | zero =>
      cases j with
      | zero => exact hij rfl
      | succ j =>
        simp only [List.getElem_cons_zero, List.getElem_cons_succ] at hb hb2
        exact h3 b hb b (List.mem_flatMap.2 ⟨_, List.getElem_mem _, hb2⟩) rfl
    | succ i =>
      cases j with
      | zero =>
        simp only [List.getElem_cons_zero, List.getElem_cons_succ] at hb hb2
        exact h3 b hb2 b (List.mem_flatMap.2 ⟨_, List.getElem_mem _, hb⟩) rfl
      | succ j =>
        simp only [List.getElem_cons_succ] at hb hb2
        exact ih h2 i j (by simpa using hi) (by simpa using hj) (by omega) b hb hb2
/-- A result in blocks of [lo, hi): numbers and actions. -/
structure OutG (lo hi : Nat) (xs : List Int) (ap : Option Addr) (cp : Nat) (al : Option Addr) (cl : Nat) (L : List ActA) (w : World) : Prop where
  args : FreshIn intE 3 1 lo w.heap.size (.slice ap xs.length cp) xs w
  ro : ActO lo L al cl w
  nd : ∀ k ∈ blkOf ap, k ∉ acB al L
  up : ∀ k ∈ blkOf ap ++ acB al L, k < hi
  hw : hi ≤ w.heap.size
section
variable {lo hi l r cp cl : Nat} {xs : List Int} {ap al : Option Addr} {L : List ActA} {w w' : World} {M : Nat → Prop}
theorem OutG.ch (h : OutG lo hi xs ap cp al cl L w) (hc : Ch M w w') (hM : ∀ k, lo ≤ k → k < hi → ¬ M k) : OutG lo hi xs ap cp al cl L w' :=
  ⟨h.args.ch hc (fun k hk => hM k (FreshIn.blks h.args k hk).1 (h.up k (by simp [hk]))), h.ro.ch actL hc (fun k hk => hM k (h.ro.bd actL k hk).1 (h.up k (by rw [List.mem_append]; exact .inr hk))), h.nd, h.up, Nat.le_trans h.hw hc.size⟩
theorem OutG.below (h : OutG lo hi xs ap cp al cl L w) (hb : Below w.heap.size w w') : OutG lo hi xs ap cp al cl L w' := h.ch (M := fun _ => False) (Ch.of_below hb) (fun _ _ _ h => h)
theorem OutG.mid (h : OutG lo hi xs ap cp al cl L w) (hm : Mid l r w w') (hd : hi ≤ l ∨ r ≤ lo) : OutG lo hi xs ap cp al cl L w' := h.ch (M := fun k => l ≤ k ∧ k < r) (Ch.of_mid hm (fun k h1 h2 _ => ⟨h1, h2⟩)) (fun k h1 h2 h3 => by omega)
theorem OutG.alloc (h : OutG lo hi xs ap cp al cl L w) (o : Obj) : OutG lo hi xs ap cp al cl L (w.alloc o) := h.below ((Below.refl _ _).alloc (Nat.le_refl _) _)
theorem OutG.drew (h : OutG lo hi xs ap cp al cl L w) : OutG lo hi xs ap cp al cl L w.drew := h.below ((Below.refl _ _).drew)
theorem OutG.sl (h : OutG lo hi xs ap cp al cl L w) : Sl intE 1 w ap xs := h.args.sl (fun _ => rfl)
theorem OutG.acts (h : OutG lo hi xs ap cp al cl L w) : ActS w al L := ⟨h.ro.row.sl (fun _ => rfl), fun r hr => FreshIn.sl (enc := intE) (fun _ => rfl) (h.ro.ow r hr)⟩
/-- .. the actions marked or not, to be read alone. -/
structure OutH (lo hi : Nat) (xs : List Int) (ap : Option Addr) (cp : Nat) (al : Option Addr) (L : List ActA) (w : World) : Prop where
  args : FreshIn intE 3 1 lo w.heap.size (.slice ap xs.length cp) xs w
  rows : L = [] ∨ ∃ g, al = some ⟨g, 0, none⟩ ∧ RowsR actE 5 actionOwn actionBlk lo w g L
theorem OutH.below (h : OutH lo hi xs ap cp al L w) (hb : Below w.heap.size w w') : OutH lo hi xs ap cp al L w' :=
  ⟨h.args.ch (M := fun _ => False) (Ch.of_below hb) (fun _ _ h => h), h.rows.imp id (fun ⟨g, h1, h2⟩ => ⟨g, h1, h2.below hb (fun r hr => FreshIn.ch hr (M := fun _ => False) (Ch.of_below hb) (fun _ _ h => h))⟩)⟩
theorem OutH.alloc (h : OutH lo hi xs ap cp al L w) (o : Obj) : OutH lo hi xs ap cp al L (w.alloc o) := h.below ((Below.refl _ _).alloc (Nat.le_refl _) _)
theorem OutH.drew (h : OutH lo hi xs ap cp al L w) : OutH lo hi xs ap cp al L w.drew := h.below ((Below.refl _ _).drew)
/-- The list of a result as rows in a block. -/
theorem OutG.rowsR (h : OutG lo hi xs ap cp al cl L w) (h0 : 0 < L.length) : ∃ g, al = some ⟨g, 0, none⟩ ∧ g < hi ∧ RowsR actE 5 actionOwn actionBlk lo w g L := by
  obtain ⟨g, rfl, hg1, _, hg3, ho⟩ := h.ro.row.block h0
  have hs : Sl actE 5 w (some ⟨g, 0, none⟩) L := h.ro.row.sl (fun _ => rfl)
  have hnd := h.ro.nd
  simp only [roB, List.nodup_append] at hnd
  refine ⟨g, rfl, h.up g (by simp [acB, roB, blkOf]), ⟨hg1, hg3, hs, fun o => ho.frozenAt o, fun i hi => h.ro.ow _ (List.getElem_mem hi), ⟨fun i hi => ?_, fun i j hi hj hij b hb => ?_⟩⟩⟩
  · have hi' : i < L.length := by simpa using hi
    rw [List.getElem_map]
    refine ⟨fun hb => ?_, blkOf_nodup _⟩
    exact hnd.2.2 g (by simp [blkOf]) g (List.mem_flatMap.2 ⟨_, List.getElem_mem hi', hb⟩) rfl
  · have hi' : i < L.length := by simpa using hi
    have hj' : j < L.length := by simpa using hj
    rw [List.getElem_map] at hb ⊢
    have hp := flat_apart hnd.2.1
    exact hp i j hi' hj' hij b hb
end
def acMk (L : List ActA) (K : Nat) : List ActA := (List.range L.length).map (actionF L K)
def intMk (n K : Nat) : List Int := (List.range n).map (markI K)
theorem intMk_len (n K : Nat) : (intMk n K).length = n := by simp [intMk]
/-- Marks on a parser alone in memory of its own. -/
theorem markPar_c (lo hi : Nat) (p : PV) (ap : Option Addr) (cp K : Nat) (w : World) (h : FreshIn intE 3 1 lo hi (.slice ap p.args.length cp) p.args w) (hlo : lo ≤ w.heap.size) (hK : K + p.args.length ≤ 17592186044416) :
    Calls Tryd.prog 21 #[.agg #[.int .i64 p.state, .slice ap p.args.length cp, .bool p.priv, .string p.text, .string p.utf], .int .i64 K] w fun e w' => e = .returned (.int .i64 ((K + p.args.length : Nat))) ∧ FreshIn intE 3 1 lo hi (.slice ap p.args.length cp) (intMk p.args.length K) w' ∧ Mid lo hi w w' := by
  have H := Lib.hid (markIntSB_c ap cp p.args K lo hi (w.alloc (.cells #[.int .i64 p.state, .slice ap p.args.length cp, .bool p.priv, .string p.text, .string p.utf] 25)) (h.alloc _) (by simp; omega) hK)
  clear h
  go_enter Tryd.func21, Tryd.ntmps21
  go_wp2_with fail
  refine H.out.mono ?_
  rintro e w1 ⟨rfl, hf, hm⟩
  have HF := Lib.hid hf
  have HM := Lib.hid hm
  rw [Nat.one_mul]
  clear hf hm
  go_wp2_with fail
  go_ret
  exact ⟨rfl, HF.out, (Mid.of_below _ _ ((Below.refl _ _).alloc (Nat.le_refl _) _)).trans HM.out⟩
theorem heldPar_c (p : PV) (ap : Option Addr) (cp K : Nat) (w : World) (h : Sl intE 1 w ap (intMk p.args.length K)) (hK : K + p.args.length ≤ 17592186044416) :
    Calls Tryd.prog 24 #[.agg #[.int .i64 p.state, .slice ap p.args.length cp, .bool p.priv, .string p.text, .string p.utf], .int .i64 K] w fun e w' => e = .returned (.int .i64 ((K + p.args.length : Nat))) ∧ Below w.heap.size w w' := by
  have H := Lib.hid (heldIntSB_c ap cp p.args.length K (w.alloc (.cells #[.int .i64 p.state, .slice ap p.args.length cp, .bool p.priv, .string p.text, .string p.utf] 25)) (h.alloc _) hK)
  have g0 : decide (((K + p.args.length : Nat) : Int) < 0) = false := decide_eq_false (by omega)
  have g1 : ¬ ((K : Int) + (p.args.length : Int)) < 0 := by omega
  clear h
  go_enter Tryd.func24, Tryd.ntmps24
  go_wp2_with fail
  refine H.out.mono ?_
  rintro e w1 ⟨rfl, hb⟩
  have HB := Lib.hid hb
  clear hb
  go_wp2_with fail
  all_goals first
    | (exfalso; omega)
    | (go_ret
       refine ⟨rfl, ?_⟩
       first
         | (rw [← HB.out]; exact (Below.refl _ _).alloc (Nat.le_refl _) _)
         | exact ((Below.refl w.heap.size w).alloc (Nat.le_refl _) _).trans (HB.out.mono (by simp)))
theorem markG_c (lo hi : Nat) (p : PV) (ap al : Option Addr) (cp cl K : Nat) (L : List ActA) (w : World) (h : OutG lo hi p.args ap cp al cl L w) (hlh : lo ≤ hi) (hK : K + p.args.length ≤ 17592186044416) :
    Calls Tryd.prog 21 #[.agg #[.int .i64 p.state, .slice ap p.args.length cp, .bool p.priv, .string p.text, .string p.utf], .int .i64 K] w fun e w' => e = .returned (.int .i64 ((K + p.args.length : Nat))) ∧ OutG lo hi (intMk p.args.length K) ap cp al cl L w' ∧ Mid lo hi w w' := by
  obtain ⟨b, t1, t2, t3, t4⟩ := h.args.tight
  have hin : b < w.heap.size → lo ≤ b ∧ b < hi := fun hb => ⟨(t4 hb).2, h.up b (by simp [(t4 hb).1])⟩
  refine (markPar_c b (b + 1) p ap cp K w t1 t2 hK).mono ?_
  rintro e w' ⟨rfl, hf, hm⟩
  have hc : Ch (· ∈ blkOf ap) w w' := Ch.of_mid hm t3
  have hlen := intMk_len p.args.length K
  refine ⟨rfl, ⟨?_, h.ro.ch actL hc (fun k hk hk2 => h.nd k hk2 hk), h.nd, h.up, Nat.le_trans h.hw hc.size⟩, ?_⟩
  · have h1 : FreshIn intE 3 1 lo w'.heap.size (.slice ap p.args.length cp) (intMk p.args.length K) w' := FreshIn.nilB hf (FreshIn.ownB h.args)
    rwa [hlen]
  · refine ⟨hm.os, hm.tape, hm.output, hm.size, fun k hk hd => hc.block k hk (fun hk2 => ?_)⟩
    have h1 := (FreshIn.blks h.args k hk2).1
    have h2 := h.up k (by simp [hk2])
    omega
set_option maxRecDepth 100000 in
set_option maxHeartbeats 1000000 in
theorem markActionS_0 (a : Option Addr) (c : Nat) (n : Int) (w : World) : Calls Tryd.prog 23 #[.slice a 0 c, .int .i64 n] w fun e w' => e = .returned (.int .i64 n) ∧ w = w' := by
  go_enter Tryd.func23, Tryd.ntmps23
  go_wp2_with fail
  go_loop [1, 5] (fun m i => ∃ k : Nat, k ≤ 0 ∧ i = .int .i64 k ∧ m = .int .i64 n) (fun _ i => 0)
  case atStart => exact ⟨0, Nat.le_refl _, rfl, rfl⟩
  case round =>
    obtain ⟨k, hk, rfl, rfl⟩ := hrel
    obtain rfl : k = 0 := by omega
    go_wp2_with fail
    go_ret
    exact ⟨rfl, rfl⟩
set_option maxRecDepth 100000 in
set_option maxHeartbeats 1000000 in
theorem heldActionS_0 (a : Option Addr) (c : Nat) (n : Int) (w : World) : Calls Tryd.prog 25 #[.slice a 0 c, .int .i64 n] w fun e w' => e = .returned (.int .i64 n) ∧ w = w' := by
  go_enter Tryd.func25, Tryd.ntmps25
  go_wp2_with fail
  go_loop [1, 5] (fun m i => ∃ k : Nat, k ≤ 0 ∧ i = .int .i64 k ∧ m = .int .i64 n) (fun _ i => 0)
  case atStart => exact ⟨0, Nat.le_refl _, rfl, rfl⟩
  case round =>
    obtain ⟨k, hk, rfl, rfl⟩ := hrel
    obtain rfl : k = 0 := by omega
    go_wp2_with fail
    go_ret
    exact ⟨rfl, rfl⟩
theorem markA_c (lo hi : Nat) (xs : List Int) (ap al : Option Addr) (cp cl K : Nat) (L : List ActA) (w : World) (h : OutG lo hi xs ap cp al cl L w) (hK : actionNum K L ≤ 17592186044416) :
    Calls Tryd.prog 23 #[.slice al L.length cl, .int .i64 K] w fun e w' => e = .returned (.int .i64 ((actionNum K L : Nat))) ∧ OutH lo hi xs ap cp al (acMk L K) w' ∧ Mid lo hi w w' := by
  rcases Nat.eq_zero_or_pos L.length with h0 | h0
  · have hL : L = [] := List.eq_nil_of_length_eq_zero h0
    subst hL
    refine (markActionS_0 al cl K w).mono ?_
    rintro e w' ⟨rfl, rfl⟩
    exact ⟨rfl, ⟨h.args, .inl rfl⟩, Mid.refl _ _ _⟩
  · obtain ⟨g, rfl, hg, hr⟩ := h.rowsR h0
    refine (markActionS_c g cl lo L K w hr hK).mono ?_
    rintro e w' ⟨rfl, h1, h2⟩
    have hin : ∀ k, k = g ∨ allBlk actionBlk L k → k ∈ acB (some ⟨g, 0, none⟩) L := fun k hk => by
      rcases hk with rfl | ⟨r, hr, hk⟩
      · simp [acB, roB, blkOf]
      · simp only [acB, roB, List.mem_append, List.mem_flatMap]
        exact .inr ⟨r, hr, hk⟩
    have hc : Ch (fun k => k = g ∨ allBlk actionBlk L k) w w' := ⟨h2.os, h2.tape, h2.output, h2.size, fun k hk hn => h2.block k hk (fun e => hn (.inl e)) (fun e => hn (.inr e))⟩
    refine ⟨rfl, ⟨h.args.ch hc (fun k hk hk2 => h.nd k hk (hin k hk2)), .inr ⟨g, rfl, h1⟩⟩, ?_⟩
    refine h2.toMid hr.low hg (fun k hk => ?_)
    have h3 := hin k (.inr hk)
    exact ⟨(h.ro.bd actL k h3).1, h.up k (by rw [List.mem_append]; exact .inr h3)⟩
theorem heldA_c (lo hi : Nat) (xs : List Int) (ap al : Option Addr) (cp cl K : Nat) (L : List ActA) (w : World) (h : OutH lo hi xs ap cp al (acMk L K) w) (hK : actionNum K L ≤ 17592186044416) :
    Calls Tryd.prog 25 #[.slice al L.length cl, .int .i64 K] w fun e w' => e = .returned (.int .i64 ((actionNum K L : Nat))) ∧ Below w.heap.size w w' := by
  rcases h.rows with h0 | ⟨g, rfl, hr⟩
  · have hL : L = [] := by
      have := congrArg List.length h0
      simp [acMk] at this
      exact this
    subst hL
    refine (heldActionS_0 al cl K w).mono ?_
    rintro e w' ⟨rfl, rfl⟩
    exact ⟨rfl, Below.refl _ _⟩
  · exact heldActionS_c g cl lo L K w hr hK
theorem heldH_c (lo hi : Nat) (p : PV) (ap al : Option Addr) (cp K : Nat) (L : List ActA) (w : World) (h : OutH lo hi (intMk p.args.length K) ap cp al L w) (hK : K + p.args.length ≤ 17592186044416) :
    Calls Tryd.prog 24 #[.agg #[.int .i64 p.state, .slice ap p.args.length cp, .bool p.priv, .string p.text, .string p.utf], .int .i64 K] w fun e w' => e = .returned (.int .i64 ((K + p.args.length : Nat))) ∧ Below w.heap.size w w' :=
  heldPar_c p ap cp K w (h.args.sl (fun _ => rfl)) hK
/-- The reference's results, which lie below block b. -/
def SpP (b : Nat) (w : World) (xs : List Int) (ap al : Option Addr) (L : List ActA) : Prop := ∃ w0 : World, w0.heap.size = b ∧ Sl intE 1 w0 ap xs ∧ ActS w0 al L ∧ Below b w0 w
section
variable {b l r : Nat} {w w' : World} {xs : List Int} {ap al : Option Addr} {L : List ActA}
theorem SpP.start (h : Sl intE 1 w ap xs) (k : ActS w al L) : SpP w.heap.size w xs ap al L := ⟨w, rfl, h, k, Below.refl _ _⟩
theorem SpP.below (h : SpP b w xs ap al L) (hb : Below w.heap.size w w') : SpP b w' xs ap al L := by
  obtain ⟨w0, rfl, h1, h2, h3⟩ := h
  exact ⟨w0, rfl, h1, h2, h3.trans (hb.mono h3.size)⟩
theorem SpP.mid (h : SpP b w xs ap al L) (hm : Mid l r w w') (hd : b ≤ l) : SpP b w' xs ap al L := by
  obtain ⟨w0, rfl, h1, h2, h3⟩ := h
  exact ⟨w0, rfl, h1, h2, h3.trans (hm.below hd h3.size)⟩
theorem SpP.alloc (h : SpP b w xs ap al L) (o : Obj) : SpP b (w.alloc o) xs ap al L := h.below ((Below.refl _ _).alloc (Nat.le_refl _) _)
theorem SpP.drew (h : SpP b w xs ap al L) : SpP b w.drew xs ap al L := h.below ((Below.refl _ _).drew)
theorem SpP.sl (h : SpP b w xs ap al L) : Sl intE 1 w ap xs := by
  obtain ⟨w0, rfl, h1, h2, h3⟩ := h
  exact h1.keep h3
theorem SpP.acts (h : SpP b w xs ap al L) : ActS w al L := by
  obtain ⟨w0, rfl, h1, h2, h3⟩ := h
  exact h2.keep h3
end
/-- How large results are. -/
theorem step_args {p : PV} (h : PvOK p) (b : UInt8) : ∀ a ∈ (pstep p b).2, a.args.length ≤ 8 := by
  have hp := h.len
  have hg : ∀ a ∈ (gstep b).2, a.args.length ≤ 8 := by unfold gstep; (repeat' split) <;> simp [pr]
  have he : ∀ a ∈ (estep b).2, a.args.length ≤ 8 := by unfold estep; (repeat' split) <;> simp
  have hc : ∀ a ∈ (cstep p b).2, a.args.length ≤ 8 := by unfold cstep; (repeat' split) <;> simp <;> exact hp
  have hs : ∀ a ∈ (sstep p b).2, a.args.length ≤ 8 := by unfold sstep; (repeat' split) <;> simp
  have ho : ∀ a ∈ (ostep p b).2, a.args.length ≤ 8 := by unfold ostep; (repeat' split) <;> simp
  have hq : ∀ a ∈ (qstep p b).2, a.args.length ≤ 8 := by unfold qstep; (repeat' split) <;> first | exact he | simp
  have hu : ∀ a ∈ (ustep p b).2, a.args.length ≤ 8 := by
    unfold ustep
    (repeat' split)
    · intro a ha
      simp only [List.mem_cons] at ha
      rcases ha with rfl | ha
      · simp [pr]
      · exact hg a ha
    · simp
    · simp [pr]
  unfold pstep
  (repeat' split) <;> assumption
theorem run_args (l : List UInt8) {p : PV} (h : PvOK p) : ∀ a ∈ (prun p l).2, a.args.length ≤ 8 := by
  induction l generalizing p with
  | nil => simp [prun]
  | cons b l ih =>
    intro a ha
    simp only [prun, List.mem_append] at ha
    rcases ha with ha | ha
    · exact step_args h b a ha
    · exact ih (pstep_ok h b) a ha
structure OutSz (R : (PV × List AV) × Int) : Prop where
  args : R.1.1.args.length ≤ 8
  acts : R.1.2.length ≤ 131072
  each : ∀ a ∈ R.1.2, a.args.length ≤ 8
theorem pbytes_sz (p : PV) (l : List UInt8) : OutSz (pbytes p l) := by
  unfold pbytes
  split
  · exact ⟨by simp [pz], by simp, by simp⟩
  · split
    · exact ⟨by simp [pz], by simp, by simp⟩
    · rename_i h1 h2
      have ok : PvOK p := pvB_iff.1 (by cases h : pvB p; exact absurd h h2; rfl)
      refine ⟨(prun_ok l ok).len, ?_, run_args l ok⟩
      have := run_len l p
      show (prun p l).2.length ≤ _
      omega
theorem actionNum_bd (K C : Nat) (rs : List ActA) (h : ∀ r ∈ rs, actionCnt r ≤ C) : actionNum K rs ≤ K + rs.length * C := by
  induction rs generalizing K with
  | nil => simp [actionNum]
  | cons r rs ih =>
    have h1 := ih (K + actionCnt r) (fun s hs => h s (by simp [hs]))
    have h2 := h r (by simp)
    simp only [actionNum, List.length_cons, Nat.add_mul]
    omega
theorem OutSz.num {R : (PV × List AV) × Int} (h : OutSz R) {L : List ActA} (hL : L.map (·.A) = R.1.2) {K : Nat} (hK : K ≤ 1048576) : actionNum K L ≤ 17592186044416 := by
  have hl : L.length = R.1.2.length := by rw [← hL]; simp
  have h1 := actionNum_bd K 12 L (fun r hr => by
    have := h.each r.A (by rw [← hL]; exact List.mem_map_of_mem hr)
    unfold actionCnt
    omega)
  have h2 := h.acts
  have h3 : L.length * 12 ≤ 131072 * 12 := Nat.mul_le_mul_right _ (by omega)
  omega
theorem OutSz.ar {R : (PV × List AV) × Int} (h : OutSz R) {L : List ActA} (hL : L.map (·.A) = R.1.2) : ∀ r ∈ L, r.A.args.length ≤ 1048576 := fun r hr => by
  have := h.each r.A (by rw [← hL]; exact List.mem_map_of_mem hr)
  omega
theorem OutSz.ln {R : (PV × List AV) × Int} (h : OutSz R) {L : List ActA} (hL : L.map (·.A) = R.1.2) : L.length ≤ 1048576 := by
  have hl : L.length = R.1.2.length := by rw [← hL]; simp
  have := h.acts
  omega
end
section
open Go.RowKit
theorem eqBytes_same (a b : Option Addr) (ca cb : Nat) (xs : List UInt8) (w : World) (ha : Sl byteE 1 w a xs) (hb : Sl byteE 1 w b xs) (la : xs.length ≤ 1048576) :
    Calls Tryd.prog 20 #[.slice a xs.length ca, .slice b xs.length cb] w fun e w' => e = .returned (.bool true) ∧ Below w.heap.size w w' :=
  (eqByteS_c a b ca cb xs xs w ha hb la la).mono (by rintro e w' ⟨h, hb⟩; exact ⟨by rw [h]; simp, hb⟩)
theorem markBytes_c (lo hi : Nat) (a : Option Addr) (c K : Nat) (xs : List UInt8) (w : World) (h : FreshIn byteE 5 1 lo hi (.slice a xs.length c) xs w) (hlo : lo ≤ w.heap.size) (hK : K + xs.length ≤ 1099511627776) :
    Calls Tryd.prog 22 #[.slice a xs.length c, .int .i64 K] w fun e w' => e = .returned (.int .i64 ((K + xs.length : Nat))) ∧ True ∧ Mid lo hi w w' :=
  (markByteS_c a c xs K lo hi w h hlo hK).mono (by rintro e w' ⟨h1, h2, h3⟩; exact ⟨by rw [h1, Nat.one_mul], trivial, h3⟩)
set_option maxRecDepth 100000 in
set_option maxHeartbeats 16000000 in
theorem lawPB_c (ap : Option Addr) (cp : Nat) (p : PV) (b : Option Addr) (cb : Nat) (l : List UInt8) (w : World) (ha : Sl intE 1 w ap p.args) (hb : Sl byteE 1 w b l) (hZ : PvSz p 9223372036854775807) (hl : l.length ≤ 9223372036854775807) (hUT : UT w) :
    Calls Tryd.prog 4 #[.agg #[.int .i64 p.state, .slice ap p.args.length cp, .bool p.priv, .string p.text, .string p.utf], .slice b l.length cb] w fun e w' => e = .returned (.bool true) ∧ Below w.heap.size w w' := by
  have HZ0 := Lib.hid hZ
  have HA0 := Lib.hid ha
  have HBY := Lib.hid hb
  have HUT := Lib.hid hUT
  clear hZ hUT hb
  by_cases hd : 1048576 < l.length
  · have hd1 : (1048576 : Int) < (l.length : Int) := by omega
    go_enter Tryd.func4, Tryd.ntmps4
    go_wp2_with fail
    go_ret
    exact ⟨rfl, (by repeat (first | exact Below.refl _ _ | (refine Below.alloc ?_ (by (try simp) <;> (try omega)) _) | (refine Below.setCell ?_ (by (try simp) <;> (try omega)) _) | (refine Below.drew ?_) | (refine Below.trans ?_ (Below.mono (by assumption) (by (try simp) <;> (try omega))))))⟩
  have hd1 : (l.length : Int) ≤ 1048576 := by omega
  have hd2 : l.length ≤ 1048576 := by omega
  clear hd
  obtain ⟨R, hR⟩ : ∃ R, pbytes p l = R := ⟨_, rfl⟩
  have HR := Lib.hid hR
  have HSZ : Hid (OutSz R) := Lib.hid (by rw [← hR]; exact pbytes_sz p l)
  clear hR
  go_enter Tryd.func4, Tryd.ntmps4
  go_wp2_with fail
  refine (szParser_c ap cp p _ _ HZ0.out (by omega) (by omega)).mono ?_
  rintro e w1 ⟨⟨n, rfl, hn, himp⟩, hb1⟩
  have hz1 := hb1.size
  simp only [World.size_alloc] at hz1
  have HI := Lib.hid himp
  clear himp
  have q1_0_0 : w1.cell? ⟨w.heap.size, 0, none⟩ = some (.int .i64 p.state) := by
    rw [hb1.cell (p := ⟨w.heap.size, 0, none⟩) (show w.heap.size < _ by (try simp) <;> (try omega))]
    first | assumption | (simp [go_sem, *])
  have q1_0_1 : w1.cell? ⟨w.heap.size, 1, none⟩ = some (.slice ap p.args.length cp) := by
    rw [hb1.cell (p := ⟨w.heap.size, 1, none⟩) (show w.heap.size < _ by (try simp) <;> (try omega))]
    first | assumption | (simp [go_sem, *])
  have q1_0_2 : w1.cell? ⟨w.heap.size, 2, none⟩ = some (.bool p.priv) := by
    rw [hb1.cell (p := ⟨w.heap.size, 2, none⟩) (show w.heap.size < _ by (try simp) <;> (try omega))]
    first | assumption | (simp [go_sem, *])
  have q1_0_3 : w1.cell? ⟨w.heap.size, 3, none⟩ = some (.string p.text) := by
    rw [hb1.cell (p := ⟨w.heap.size, 3, none⟩) (show w.heap.size < _ by (try simp) <;> (try omega))]
    first | assumption | (simp [go_sem, *])
  have q1_0_4 : w1.cell? ⟨w.heap.size, 4, none⟩ = some (.string p.utf) := by
    rw [hb1.cell (p := ⟨w.heap.size, 4, none⟩) (show w.heap.size < _ by (try simp) <;> (try omega))]
    first | assumption | (simp [go_sem, *])
  have hl1_0 : w.heap.size < w1.heap.size := by omega
  have HB1 : Hid (Below w.heap.size w w1) := ((Below.refl w.heap.size w).alloc (by (try simp) <;> (try omega)) _).trans (hb1.mono (by (try simp) <;> (try omega)))
  clear hb1
  by_cases hneg : n < 0
  · go_wp2_with fail
    go_ret
    exact ⟨rfl, HB1.out⟩
  have HZ := Lib.hid (HI.out (by omega))
  have HMK : Hid (1 + p.args.length + l.length ≤ 1099511627776) := Lib.hid (by have h1 := HZ.out.args; omega)
  obtain ⟨K0, hK0⟩ : ∃ K, 1 + p.args.length = K := ⟨_, rfl⟩
  obtain ⟨K1, hK1⟩ : ∃ K, K0 + l.length = K := ⟨_, rfl⟩
  obtain ⟨M0, hM0⟩ : ∃ K, 1 + R.1.1.args.length = K := ⟨_, rfl⟩
  have HK0 := Lib.hid hK0
  have HK1 := Lib.hid hK1
  have HM0 := Lib.hid hM0
  have HK0b : Hid (K0 ≤ 1048577) := Lib.hid (by have h1 := HZ.out.args; omega)
  have HM0b : Hid (M0 ≤ 9) := Lib.hid (by have h1 := HSZ.out.args; omega)
  have g0 : decide ((K1 : Int) < 0) = false := decide_eq_false (by omega)
  have g1 : decide ((M0 : Int) < 0) = false := decide_eq_false (by omega)
  clear HI hK0 hK1 hM0
  go_wp2_with fail
  refine (toParser_c ap cp p _ (HA0.out.keep HB1.out) HZ.out).mono ?_
  rintro e w2 ⟨a2, c2, rfl, hf2, hb2⟩
  have hz2 := hb2.size
  have HX22 := Lib.hid (show FreshIn intE 3 1 (w1.heap.size) w2.heap.size (.slice a2 p.args.length c2) p.args w2 from (by simpa using hf2))
  clear hf2
  have q2_0_0 : w2.cell? ⟨w.heap.size, 0, none⟩ = some (.int .i64 p.state) := by
    rw [hb2.cell (p := ⟨w.heap.size, 0, none⟩) (show w.heap.size < _ by (try simp) <;> (try omega))]
    exact q1_0_0
  have q2_0_1 : w2.cell? ⟨w.heap.size, 1, none⟩ = some (.slice ap p.args.length cp) := by
    rw [hb2.cell (p := ⟨w.heap.size, 1, none⟩) (show w.heap.size < _ by (try simp) <;> (try omega))]
    exact q1_0_1
  have q2_0_2 : w2.cell? ⟨w.heap.size, 2, none⟩ = some (.bool p.priv) := by
    rw [hb2.cell (p := ⟨w.heap.size, 2, none⟩) (show w.heap.size < _ by (try simp) <;> (try omega))]
    exact q1_0_2
  have q2_0_3 : w2.cell? ⟨w.heap.size, 3, none⟩ = some (.string p.text) := by
    rw [hb2.cell (p := ⟨w.heap.size, 3, none⟩) (show w.heap.size < _ by (try simp) <;> (try omega))]
    exact q1_0_3
  have q2_0_4 : w2.cell? ⟨w.heap.size, 4, none⟩ = some (.string p.utf) := by
    rw [hb2.cell (p := ⟨w.heap.size, 4, none⟩) (show w.heap.size < _ by (try simp) <;> (try omega))]
    exact q1_0_4
  have hl2_0 : w.heap.size < w2.heap.size := by omega
  clear q1_0_0 q1_0_1 q1_0_2 q1_0_3 q1_0_4
  have HB2 : Hid (Below w.heap.size w w2) := HB1.out.trans (hb2.mono (by (try simp) <;> (try omega)))
  clear hb2
  go_wp2_with fail
  refine (toByteS_c b cb l _ (HBY.out.keep HB2.out) hd2).mono ?_
  rintro e w3 ⟨v3, rfl, hf3, hb3⟩
  have hz3 := hb3.size
  obtain ⟨a3, c3, rfl, hq3, hr3⟩ := hf3
  have HY33 := Lib.hid (show FreshIn byteE 5 1 (w2.heap.size) w3.heap.size (.slice a3 l.length c3) l w3 from Fresh.here ⟨_, _, rfl, hq3, by simpa using hr3⟩)
  clear hq3 hr3
  have HX23 := Lib.hid (HX22.out.below hb3)
  clear HX22
  have q3_0_0 : w3.cell? ⟨w.heap.size, 0, none⟩ = some (.int .i64 p.state) := by
    rw [hb3.cell (p := ⟨w.heap.size, 0, none⟩) (show w.heap.size < _ by (try simp) <;> (try omega))]
    exact q2_0_0
  have q3_0_1 : w3.cell? ⟨w.heap.size, 1, none⟩ = some (.slice ap p.args.length cp) := by
    rw [hb3.cell (p := ⟨w.heap.size, 1, none⟩) (show w.heap.size < _ by (try simp) <;> (try omega))]
    exact q2_0_1
  have q3_0_2 : w3.cell? ⟨w.heap.size, 2, none⟩ = some (.bool p.priv) := by
    rw [hb3.cell (p := ⟨w.heap.size, 2, none⟩) (show w.heap.size < _ by (try simp) <;> (try omega))]
    exact q2_0_2
  have q3_0_3 : w3.cell? ⟨w.heap.size, 3, none⟩ = some (.string p.text) := by
    rw [hb3.cell (p := ⟨w.heap.size, 3, none⟩) (show w.heap.size < _ by (try simp) <;> (try omega))]
    exact q2_0_3
  have q3_0_4 : w3.cell? ⟨w.heap.size, 4, none⟩ = some (.string p.utf) := by
    rw [hb3.cell (p := ⟨w.heap.size, 4, none⟩) (show w.heap.size < _ by (try simp) <;> (try omega))]
    exact q2_0_4
  have hl3_0 : w.heap.size < w3.heap.size := by omega
  clear q2_0_0 q2_0_1 q2_0_2 q2_0_3 q2_0_4
  have HB3 : Hid (Below w.heap.size w w3) := HB2.out.trans (hb3.mono (by (try simp) <;> (try omega)))
  clear hb3
  go_wp2_with fail
  refine (specParseBytes_c a2 c2 p a3 c3 l _ (HX23.out.sl (fun _ => rfl)) (HY33.out.sl (fun _ => rfl)) hd2 HZ.out).mono ?_
  rw [HR.out]
  rintro e w4 ⟨a4, c4, al4, cl4, rs4, rfl, hfa4, hro4, hnd4, hrs4, hb4⟩
  have hz4 := hb4.size
  have HRS4 : Hid (rs4.map (·.A) = R.1.2) := Lib.hid hrs4
  have HS4 : Hid (SpP w4.heap.size w4 R.1.1.args a4 al4 rs4) := Lib.hid (SpP.start (FreshIn.sl (enc := intE) (fun _ => rfl) hfa4) ⟨hro4.row.sl (fun _ => rfl), fun r hr => FreshIn.sl (enc := intE) (fun _ => rfl) (hro4.ow r hr)⟩)
  clear hrs4 hfa4 hro4 hnd4
  have HX24 := Lib.hid (HX23.out.below hb4)
  clear HX23
  have HY34 := Lib.hid (HY33.out.below hb4)
  clear HY33
  have q4_0_0 : w4.cell? ⟨w.heap.size, 0, none⟩ = some (.int .i64 p.state) := by
    rw [hb4.cell (p := ⟨w.heap.size, 0, none⟩) (show w.heap.size < _ by (try simp) <;> (try omega))]
    exact q3_0_0
  have q4_0_1 : w4.cell? ⟨w.heap.size, 1, none⟩ = some (.slice ap p.args.length cp) := by
    rw [hb4.cell (p := ⟨w.heap.size, 1, none⟩) (show w.heap.size < _ by (try simp) <;> (try omega))]
    exact q3_0_1
  have q4_0_2 : w4.cell? ⟨w.heap.size, 2, none⟩ = some (.bool p.priv) := by
    rw [hb4.cell (p := ⟨w.heap.size, 2, none⟩) (show w.heap.size < _ by (try simp) <;> (try omega))]
    exact q3_0_2
  have q4_0_3 : w4.cell? ⟨w.heap.size, 3, none⟩ = some (.string p.text) := by
    rw [hb4.cell (p := ⟨w.heap.size, 3, none⟩) (show w.heap.size < _ by (try simp) <;> (try omega))]
    exact q3_0_3
  have q4_0_4 : w4.cell? ⟨w.heap.size, 4, none⟩ = some (.string p.utf) := by
    rw [hb4.cell (p := ⟨w.heap.size, 4, none⟩) (show w.heap.size < _ by (try simp) <;> (try omega))]
    exact q3_0_4
  have hl4_0 : w.heap.size < w4.heap.size := by omega
  clear q3_0_0 q3_0_1 q3_0_2 q3_0_3 q3_0_4
  have HB4 : Hid (Below w.heap.size w w4) := HB3.out.trans (hb4.mono (by (try simp) <;> (try omega)))
  clear hb4
  clear HX24
  clear HY34
  go_wp2_with fail
  refine (toParser_c ap cp p _ ((HA0.out.keep HB4.out).alloc _) HZ.out).mono ?_
  rintro e w5 ⟨a5, c5, rfl, hf5, hb5⟩
  have hz5 := hb5.size
  simp only [World.size_alloc] at hz5
  have HX55 := Lib.hid (show FreshIn intE 3 1 (w4.heap.size + 1) w5.heap.size (.slice a5 p.args.length c5) p.args w5 from (by simpa using hf5))
  clear hf5
  have HS5 := Lib.hid ((HS4.out.alloc _).below hb5)
  clear HS4
  have q5_0_0 : w5.cell? ⟨w.heap.size, 0, none⟩ = some (.int .i64 p.state) := by
    rw [hb5.cell (p := ⟨w.heap.size, 0, none⟩) (show w.heap.size < _ by (try simp) <;> (try omega))]
    first | assumption | (simp [go_sem, *])
  have q5_0_1 : w5.cell? ⟨w.heap.size, 1, none⟩ = some (.slice ap p.args.length cp) := by
    rw [hb5.cell (p := ⟨w.heap.size, 1, none⟩) (show w.heap.size < _ by (try simp) <;> (try omega))]
    first | assumption | (simp [go_sem, *])
  have q5_0_2 : w5.cell? ⟨w.heap.size, 2, none⟩ = some (.bool p.priv) := by
    rw [hb5.cell (p := ⟨w.heap.size, 2, none⟩) (show w.heap.size < _ by (try simp) <;> (try omega))]
    first | assumption | (simp [go_sem, *])
  have q5_0_3 : w5.cell? ⟨w.heap.size, 3, none⟩ = some (.string p.text) := by
    rw [hb5.cell (p := ⟨w.heap.size, 3, none⟩) (show w.heap.size < _ by (try simp) <;> (try omega))]
    first | assumption | (simp [go_sem, *])
  have q5_0_4 : w5.cell? ⟨w.heap.size, 4, none⟩ = some (.string p.utf) := by
    rw [hb5.cell (p := ⟨w.heap.size, 4, none⟩) (show w.heap.size < _ by (try simp) <;> (try omega))]
    first | assumption | (simp [go_sem, *])
  have hl5_0 : w.heap.size < w5.heap.size := by omega
  clear q4_0_0 q4_0_1 q4_0_2 q4_0_3 q4_0_4
  have q5_1_0 : w5.cell? ⟨w4.heap.size, 0, none⟩ = some (.int .i64 R.1.1.state) := by
    rw [hb5.cell (p := ⟨w4.heap.size, 0, none⟩) (show w4.heap.size < _ by (try simp) <;> (try omega))]
    first | assumption | (simp [go_sem, *])
  have q5_1_1 : w5.cell? ⟨w4.heap.size, 1, none⟩ = some (.slice a4 R.1.1.args.length c4) := by
    rw [hb5.cell (p := ⟨w4.heap.size, 1, none⟩) (show w4.heap.size < _ by (try simp) <;> (try omega))]
    first | assumption | (simp [go_sem, *])
  have q5_1_2 : w5.cell? ⟨w4.heap.size, 2, none⟩ = some (.bool R.1.1.priv) := by
    rw [hb5.cell (p := ⟨w4.heap.size, 2, none⟩) (show w4.heap.size < _ by (try simp) <;> (try omega))]
    first | assumption | (simp [go_sem, *])
  have q5_1_3 : w5.cell? ⟨w4.heap.size, 3, none⟩ = some (.string R.1.1.text) := by
    rw [hb5.cell (p := ⟨w4.heap.size, 3, none⟩) (show w4.heap.size < _ by (try simp) <;> (try omega))]
    first | assumption | (simp [go_sem, *])
  have q5_1_4 : w5.cell? ⟨w4.heap.size, 4, none⟩ = some (.string R.1.1.utf) := by
    rw [hb5.cell (p := ⟨w4.heap.size, 4, none⟩) (show w4.heap.size < _ by (try simp) <;> (try omega))]
    first | assumption | (simp [go_sem, *])
  have hl5_1 : w4.heap.size < w5.heap.size := by omega
  have HB5 : Hid (Below w.heap.size w w5) := (HB4.out.alloc (by (try simp) <;> (try omega)) _).trans (hb5.mono (by (try simp) <;> (try omega)))
  clear hb5
  go_wp2_with fail
  refine (toByteS_c b cb l _ ((HBY.out.keep HB5.out).alloc _) hd2).mono ?_
  rintro e w6 ⟨v6, rfl, hf6, hb6⟩
  have hz6 := hb6.size
  simp only [World.size_alloc] at hz6
  obtain ⟨a6, c6, rfl, hq6, hr6⟩ := hf6
  have HY66 := Lib.hid (show FreshIn byteE 5 1 (w5.heap.size + 1) w6.heap.size (.slice a6 l.length c6) l w6 from Fresh.here ⟨_, _, rfl, hq6, by simpa using hr6⟩)
  clear hq6 hr6
  have HS6 := Lib.hid ((HS5.out.alloc _).below hb6)
  clear HS5
  have HX56 := Lib.hid ((HX55.out.alloc _).below hb6)
  clear HX55
  have q6_0_0 : w6.cell? ⟨w.heap.size, 0, none⟩ = some (.int .i64 p.state) := by
    rw [hb6.cell (p := ⟨w.heap.size, 0, none⟩) (show w.heap.size < _ by (try simp) <;> (try omega))]
    first | assumption | (simp [go_sem, *])
  have q6_0_1 : w6.cell? ⟨w.heap.size, 1, none⟩ = some (.slice ap p.args.length cp) := by
    rw [hb6.cell (p := ⟨w.heap.size, 1, none⟩) (show w.heap.size < _ by (try simp) <;> (try omega))]
    first | assumption | (simp [go_sem, *])
  have q6_0_2 : w6.cell? ⟨w.heap.size, 2, none⟩ = some (.bool p.priv) := by
    rw [hb6.cell (p := ⟨w.heap.size, 2, none⟩) (show w.heap.size < _ by (try simp) <;> (try omega))]
    first | assumption | (simp [go_sem, *])
  have q6_0_3 : w6.cell? ⟨w.heap.size, 3, none⟩ = some (.string p.text) := by
    rw [hb6.cell (p := ⟨w.heap.size, 3, none⟩) (show w.heap.size < _ by (try simp) <;> (try omega))]
    first | assumption | (simp [go_sem, *])
  have q6_0_4 : w6.cell? ⟨w.heap.size, 4, none⟩ = some (.string p.utf) := by
    rw [hb6.cell (p := ⟨w.heap.size, 4, none⟩) (show w.heap.size < _ by (try simp) <;> (try omega))]
    first | assumption | (simp [go_sem, *])
  have hl6_0 : w.heap.size < w6.heap.size := by omega
  clear q5_0_0 q5_0_1 q5_0_2 q5_0_3 q5_0_4
  have q6_1_0 : w6.cell? ⟨w4.heap.size, 0, none⟩ = some (.int .i64 R.1.1.state) := by
    rw [hb6.cell (p := ⟨w4.heap.size, 0, none⟩) (show w4.heap.size < _ by (try simp) <;> (try omega))]
    first | assumption | (simp [go_sem, *])
  have q6_1_1 : w6.cell? ⟨w4.heap.size, 1, none⟩ = some (.slice a4 R.1.1.args.length c4) := by
    rw [hb6.cell (p := ⟨w4.heap.size, 1, none⟩) (show w4.heap.size < _ by (try simp) <;> (try omega))]
    first | assumption | (simp [go_sem, *])
  have q6_1_2 : w6.cell? ⟨w4.heap.size, 2, none⟩ = some (.bool R.1.1.priv) := by
    rw [hb6.cell (p := ⟨w4.heap.size, 2, none⟩) (show w4.heap.size < _ by (try simp) <;> (try omega))]
    first | assumption | (simp [go_sem, *])
  have q6_1_3 : w6.cell? ⟨w4.heap.size, 3, none⟩ = some (.string R.1.1.text) := by
    rw [hb6.cell (p := ⟨w4.heap.size, 3, none⟩) (show w4.heap.size < _ by (try simp) <;> (try omega))]
    first | assumption | (simp [go_sem, *])
  have q6_1_4 : w6.cell? ⟨w4.heap.size, 4, none⟩ = some (.string R.1.1.utf) := by
    rw [hb6.cell (p := ⟨w4.heap.size, 4, none⟩) (show w4.heap.size < _ by (try simp) <;> (try omega))]
    first | assumption | (simp [go_sem, *])
  have hl6_1 : w4.heap.size < w6.heap.size := by omega
  clear q5_1_0 q5_1_1 q5_1_2 q5_1_3 q5_1_4
  have q6_2_0 : w6.cell? ⟨w5.heap.size, 0, none⟩ = some (.int .i64 p.state) := by
    rw [hb6.cell (p := ⟨w5.heap.size, 0, none⟩) (show w5.heap.size < _ by (try simp) <;> (try omega))]
    first | assumption | (simp [go_sem, *])
  have q6_2_1 : w6.cell? ⟨w5.heap.size, 1, none⟩ = some (.slice a5 p.args.length c5) := by
    rw [hb6.cell (p := ⟨w5.heap.size, 1, none⟩) (show w5.heap.size < _ by (try simp) <;> (try omega))]
    first | assumption | (simp [go_sem, *])
  have q6_2_2 : w6.cell? ⟨w5.heap.size, 2, none⟩ = some (.bool p.priv) := by
    rw [hb6.cell (p := ⟨w5.heap.size, 2, none⟩) (show w5.heap.size < _ by (try simp) <;> (try omega))]
    first | assumption | (simp [go_sem, *])
  have q6_2_3 : w6.cell? ⟨w5.heap.size, 3, none⟩ = some (.string p.text) := by
    rw [hb6.cell (p := ⟨w5.heap.size, 3, none⟩) (show w5.heap.size < _ by (try simp) <;> (try omega))]
    first | assumption | (simp [go_sem, *])
  have q6_2_4 : w6.cell? ⟨w5.heap.size, 4, none⟩ = some (.string p.utf) := by
    rw [hb6.cell (p := ⟨w5.heap.size, 4, none⟩) (show w5.heap.size < _ by (try simp) <;> (try omega))]
    first | assumption | (simp [go_sem, *])
  have hl6_2 : w5.heap.size < w6.heap.size := by omega
  have HB6 : Hid (Below w.heap.size w w6) := (HB5.out.alloc (by (try simp) <;> (try omega)) _).trans (hb6.mono (by (try simp) <;> (try omega)))
  clear hb6
  go_wp2_with fail
  refine (implParseBytes_c a5 c5 p a6 c6 l _ (HX56.out.sl (fun _ => rfl)) (HY66.out.sl (fun _ => rfl)) hd2 HZ.out (HUT.out.keep HB6.out)).mono ?_
  rw [HR.out]
  rintro e w7 ⟨a7, c7, al7, cl7, rs7, rfl, hfa7, hro7, hnd7, hrs7, hb7⟩
  have hz7 := hb7.size
  have HRS7 : Hid (rs7.map (·.A) = R.1.2) := Lib.hid hrs7
  have HI7 : Hid (OutG (w6.heap.size) w7.heap.size R.1.1.args a7 c7 al7 cl7 rs7 w7) := Lib.hid ⟨by simpa using hfa7, by simpa using hro7, hnd7, fun q hq => by
    rcases List.mem_append.1 hq with hq | hq
    · exact (FreshIn.blks hfa7 q hq).2
    · exact (hro7.bd actL q hq).2, Nat.le_refl _⟩
  clear hrs7 hfa7 hro7 hnd7
  have HS7 := Lib.hid (HS6.out.below hb7)
  clear HS6
  have HX57 := Lib.hid (HX56.out.below hb7)
  clear HX56
  have HY67 := Lib.hid (HY66.out.below hb7)
  clear HY66
  have q7_0_0 : w7.cell? ⟨w.heap.size, 0, none⟩ = some (.int .i64 p.state) := by
    rw [hb7.cell (p := ⟨w.heap.size, 0, none⟩) (show w.heap.size < _ by (try simp) <;> (try omega))]
    exact q6_0_0
  have q7_0_1 : w7.cell? ⟨w.heap.size, 1, none⟩ = some (.slice ap p.args.length cp) := by
    rw [hb7.cell (p := ⟨w.heap.size, 1, none⟩) (show w.heap.size < _ by (try simp) <;> (try omega))]
    exact q6_0_1
  have q7_0_2 : w7.cell? ⟨w.heap.size, 2, none⟩ = some (.bool p.priv) := by
    rw [hb7.cell (p := ⟨w.heap.size, 2, none⟩) (show w.heap.size < _ by (try simp) <;> (try omega))]
    exact q6_0_2
  have q7_0_3 : w7.cell? ⟨w.heap.size, 3, none⟩ = some (.string p.text) := by
    rw [hb7.cell (p := ⟨w.heap.size, 3, none⟩) (show w.heap.size < _ by (try simp) <;> (try omega))]
    exact q6_0_3
  have q7_0_4 : w7.cell? ⟨w.heap.size, 4, none⟩ = some (.string p.utf) := by
    rw [hb7.cell (p := ⟨w.heap.size, 4, none⟩) (show w.heap.size < _ by (try simp) <;> (try omega))]
    exact q6_0_4
  have hl7_0 : w.heap.size < w7.heap.size := by omega
  clear q6_0_0 q6_0_1 q6_0_2 q6_0_3 q6_0_4
  have q7_1_0 : w7.cell? ⟨w4.heap.size, 0, none⟩ = some (.int .i64 R.1.1.state) := by
    rw [hb7.cell (p := ⟨w4.heap.size, 0, none⟩) (show w4.heap.size < _ by (try simp) <;> (try omega))]
    exact q6_1_0
  have q7_1_1 : w7.cell? ⟨w4.heap.size, 1, none⟩ = some (.slice a4 R.1.1.args.length c4) := by
    rw [hb7.cell (p := ⟨w4.heap.size, 1, none⟩) (show w4.heap.size < _ by (try simp) <;> (try omega))]
    exact q6_1_1
  have q7_1_2 : w7.cell? ⟨w4.heap.size, 2, none⟩ = some (.bool R.1.1.priv) := by
    rw [hb7.cell (p := ⟨w4.heap.size, 2, none⟩) (show w4.heap.size < _ by (try simp) <;> (try omega))]
    exact q6_1_2
  have q7_1_3 : w7.cell? ⟨w4.heap.size, 3, none⟩ = some (.string R.1.1.text) := by
    rw [hb7.cell (p := ⟨w4.heap.size, 3, none⟩) (show w4.heap.size < _ by (try simp) <;> (try omega))]
    exact q6_1_3
  have q7_1_4 : w7.cell? ⟨w4.heap.size, 4, none⟩ = some (.string R.1.1.utf) := by
    rw [hb7.cell (p := ⟨w4.heap.size, 4, none⟩) (show w4.heap.size < _ by (try simp) <;> (try omega))]
    exact q6_1_4
  have hl7_1 : w4.heap.size < w7.heap.size := by omega
  clear q6_1_0 q6_1_1 q6_1_2 q6_1_3 q6_1_4
  have q7_2_0 : w7.cell? ⟨w5.heap.size, 0, none⟩ = some (.int .i64 p.state) := by
    rw [hb7.cell (p := ⟨w5.heap.size, 0, none⟩) (show w5.heap.size < _ by (try simp) <;> (try omega))]
    exact q6_2_0
  have q7_2_1 : w7.cell? ⟨w5.heap.size, 1, none⟩ = some (.slice a5 p.args.length c5) := by
    rw [hb7.cell (p := ⟨w5.heap.size, 1, none⟩) (show w5.heap.size < _ by (try simp) <;> (try omega))]
    exact q6_2_1
  have q7_2_2 : w7.cell? ⟨w5.heap.size, 2, none⟩ = some (.bool p.priv) := by
    rw [hb7.cell (p := ⟨w5.heap.size, 2, none⟩) (show w5.heap.size < _ by (try simp) <;> (try omega))]
    exact q6_2_2
  have q7_2_3 : w7.cell? ⟨w5.heap.size, 3, none⟩ = some (.string p.text) := by
    rw [hb7.cell (p := ⟨w5.heap.size, 3, none⟩) (show w5.heap.size < _ by (try simp) <;> (try omega))]
    exact q6_2_3
  have q7_2_4 : w7.cell? ⟨w5.heap.size, 4, none⟩ = some (.string p.utf) := by
    rw [hb7.cell (p := ⟨w5.heap.size, 4, none⟩) (show w5.heap.size < _ by (try simp) <;> (try omega))]
    exact q6_2_4
  have hl7_2 : w5.heap.size < w7.heap.size := by omega
  clear q6_2_0 q6_2_1 q6_2_2 q6_2_3 q6_2_4
  have HB7 : Hid (Below w.heap.size w w7) := HB6.out.trans (hb7.mono (by (try simp) <;> (try omega)))
  clear hb7
  go_wp2_with fail
  refine (eqParser_same a7 a4 c7 c4 R.1.1 _ (HI7.out.alloc _).sl (HS7.out.alloc _).sl (by have := HSZ.out.args; omega)).mono ?_
  rintro e w8 ⟨rfl, hb8⟩
  have hz8 := hb8.size
  simp only [World.size_alloc] at hz8
  have HS8 := Lib.hid ((HS7.out.alloc _).below hb8)
  clear HS7
  have HX58 := Lib.hid ((HX57.out.alloc _).below hb8)
  clear HX57
  have HY68 := Lib.hid ((HY67.out.alloc _).below hb8)
  clear HY67
  have HI78 := Lib.hid ((HI7.out.alloc _).below hb8)
  clear HI7
  have q8_0_0 : w8.cell? ⟨w.heap.size, 0, none⟩ = some (.int .i64 p.state) := by
    rw [hb8.cell (p := ⟨w.heap.size, 0, none⟩) (show w.heap.size < _ by (try simp) <;> (try omega))]
    first | assumption | (simp [go_sem, *])
  have q8_0_1 : w8.cell? ⟨w.heap.size, 1, none⟩ = some (.slice ap p.args.length cp) := by
    rw [hb8.cell (p := ⟨w.heap.size, 1, none⟩) (show w.heap.size < _ by (try simp) <;> (try omega))]
    first | assumption | (simp [go_sem, *])
  have q8_0_2 : w8.cell? ⟨w.heap.size, 2, none⟩ = some (.bool p.priv) := by
    rw [hb8.cell (p := ⟨w.heap.size, 2, none⟩) (show w.heap.size < _ by (try simp) <;> (try omega))]
    first | assumption | (simp [go_sem, *])
  have q8_0_3 : w8.cell? ⟨w.heap.size, 3, none⟩ = some (.string p.text) := by
    rw [hb8.cell (p := ⟨w.heap.size, 3, none⟩) (show w.heap.size < _ by (try simp) <;> (try omega))]
    first | assumption | (simp [go_sem, *])
  have q8_0_4 : w8.cell? ⟨w.heap.size, 4, none⟩ = some (.string p.utf) := by
    rw [hb8.cell (p := ⟨w.heap.size, 4, none⟩) (show w.heap.size < _ by (try simp) <;> (try omega))]
    first | assumption | (simp [go_sem, *])
  have hl8_0 : w.heap.size < w8.heap.size := by omega
  clear q7_0_0 q7_0_1 q7_0_2 q7_0_3 q7_0_4
  have q8_1_0 : w8.cell? ⟨w4.heap.size, 0, none⟩ = some (.int .i64 R.1.1.state) := by
    rw [hb8.cell (p := ⟨w4.heap.size, 0, none⟩) (show w4.heap.size < _ by (try simp) <;> (try omega))]
    first | assumption | (simp [go_sem, *])
  have q8_1_1 : w8.cell? ⟨w4.heap.size, 1, none⟩ = some (.slice a4 R.1.1.args.length c4) := by
    rw [hb8.cell (p := ⟨w4.heap.size, 1, none⟩) (show w4.heap.size < _ by (try simp) <;> (try omega))]
    first | assumption | (simp [go_sem, *])
  have q8_1_2 : w8.cell? ⟨w4.heap.size, 2, none⟩ = some (.bool R.1.1.priv) := by
    rw [hb8.cell (p := ⟨w4.heap.size, 2, none⟩) (show w4.heap.size < _ by (try simp) <;> (try omega))]
    first | assumption | (simp [go_sem, *])
  have q8_1_3 : w8.cell? ⟨w4.heap.size, 3, none⟩ = some (.string R.1.1.text) := by
    rw [hb8.cell (p := ⟨w4.heap.size, 3, none⟩) (show w4.heap.size < _ by (try simp) <;> (try omega))]
    first | assumption | (simp [go_sem, *])
  have q8_1_4 : w8.cell? ⟨w4.heap.size, 4, none⟩ = some (.string R.1.1.utf) := by
    rw [hb8.cell (p := ⟨w4.heap.size, 4, none⟩) (show w4.heap.size < _ by (try simp) <;> (try omega))]
    first | assumption | (simp [go_sem, *])
  have hl8_1 : w4.heap.size < w8.heap.size := by omega
  clear q7_1_0 q7_1_1 q7_1_2 q7_1_3 q7_1_4
  have q8_2_0 : w8.cell? ⟨w5.heap.size, 0, none⟩ = some (.int .i64 p.state) := by
    rw [hb8.cell (p := ⟨w5.heap.size, 0, none⟩) (show w5.heap.size < _ by (try simp) <;> (try omega))]
    first | assumption | (simp [go_sem, *])
  have q8_2_1 : w8.cell? ⟨w5.heap.size, 1, none⟩ = some (.slice a5 p.args.length c5) := by
    rw [hb8.cell (p := ⟨w5.heap.size, 1, none⟩) (show w5.heap.size < _ by (try simp) <;> (try omega))]
    first | assumption | (simp [go_sem, *])
  have q8_2_2 : w8.cell? ⟨w5.heap.size, 2, none⟩ = some (.bool p.priv) := by
    rw [hb8.cell (p := ⟨w5.heap.size, 2, none⟩) (show w5.heap.size < _ by (try simp) <;> (try omega))]
    first | assumption | (simp [go_sem, *])
  have q8_2_3 : w8.cell? ⟨w5.heap.size, 3, none⟩ = some (.string p.text) := by
    rw [hb8.cell (p := ⟨w5.heap.size, 3, none⟩) (show w5.heap.size < _ by (try simp) <;> (try omega))]
    first | assumption | (simp [go_sem, *])
  have q8_2_4 : w8.cell? ⟨w5.heap.size, 4, none⟩ = some (.string p.utf) := by
    rw [hb8.cell (p := ⟨w5.heap.size, 4, none⟩) (show w5.heap.size < _ by (try simp) <;> (try omega))]
    first | assumption | (simp [go_sem, *])
  have hl8_2 : w5.heap.size < w8.heap.size := by omega
  clear q7_2_0 q7_2_1 q7_2_2 q7_2_3 q7_2_4
  have q8_3_0 : w8.cell? ⟨w7.heap.size, 0, none⟩ = some (.int .i64 R.1.1.state) := by
    rw [hb8.cell (p := ⟨w7.heap.size, 0, none⟩) (show w7.heap.size < _ by (try simp) <;> (try omega))]
    first | assumption | (simp [go_sem, *])
  have q8_3_1 : w8.cell? ⟨w7.heap.size, 1, none⟩ = some (.slice a7 R.1.1.args.length c7) := by
    rw [hb8.cell (p := ⟨w7.heap.size, 1, none⟩) (show w7.heap.size < _ by (try simp) <;> (try omega))]
    first | assumption | (simp [go_sem, *])
  have q8_3_2 : w8.cell? ⟨w7.heap.size, 2, none⟩ = some (.bool R.1.1.priv) := by
    rw [hb8.cell (p := ⟨w7.heap.size, 2, none⟩) (show w7.heap.size < _ by (try simp) <;> (try omega))]
    first | assumption | (simp [go_sem, *])
  have q8_3_3 : w8.cell? ⟨w7.heap.size, 3, none⟩ = some (.string R.1.1.text) := by
    rw [hb8.cell (p := ⟨w7.heap.size, 3, none⟩) (show w7.heap.size < _ by (try simp) <;> (try omega))]
    first | assumption | (simp [go_sem, *])
  have q8_3_4 : w8.cell? ⟨w7.heap.size, 4, none⟩ = some (.string R.1.1.utf) := by
    rw [hb8.cell (p := ⟨w7.heap.size, 4, none⟩) (show w7.heap.size < _ by (try simp) <;> (try omega))]
    first | assumption | (simp [go_sem, *])
  have hl8_3 : w7.heap.size < w8.heap.size := by omega
  have HB8 : Hid (Below w.heap.size w w8) := (HB7.out.alloc (by (try simp) <;> (try omega)) _).trans (hb8.mono (by (try simp) <;> (try omega)))
  clear hb8
  go_wp2_with fail
  refine (eqActionS_same al7 al4 cl7 cl4 rs7 rs4 _ HI78.out.acts HS8.out.acts (HRS4.out.trans HRS7.out.symm) (HSZ.out.ar HRS7.out) (HSZ.out.ln HRS7.out)).mono ?_
  rintro e w9 ⟨rfl, hb9⟩
  have hz9 := hb9.size
  have HS9 := Lib.hid (HS8.out.below hb9)
  clear HS8
  have HX59 := Lib.hid (HX58.out.below hb9)
  clear HX58
  have HY69 := Lib.hid (HY68.out.below hb9)
  clear HY68
  have HI79 := Lib.hid (HI78.out.below hb9)
  clear HI78
  have q9_0_0 : w9.cell? ⟨w.heap.size, 0, none⟩ = some (.int .i64 p.state) := by
    rw [hb9.cell (p := ⟨w.heap.size, 0, none⟩) (show w.heap.size < _ by (try simp) <;> (try omega))]
    exact q8_0_0
  have q9_0_1 : w9.cell? ⟨w.heap.size, 1, none⟩ = some (.slice ap p.args.length cp) := by
    rw [hb9.cell (p := ⟨w.heap.size, 1, none⟩) (show w.heap.size < _ by (try simp) <;> (try omega))]
    exact q8_0_1
  have q9_0_2 : w9.cell? ⟨w.heap.size, 2, none⟩ = some (.bool p.priv) := by
    rw [hb9.cell (p := ⟨w.heap.size, 2, none⟩) (show w.heap.size < _ by (try simp) <;> (try omega))]
    exact q8_0_2
  have q9_0_3 : w9.cell? ⟨w.heap.size, 3, none⟩ = some (.string p.text) := by
    rw [hb9.cell (p := ⟨w.heap.size, 3, none⟩) (show w.heap.size < _ by (try simp) <;> (try omega))]
    exact q8_0_3
  have q9_0_4 : w9.cell? ⟨w.heap.size, 4, none⟩ = some (.string p.utf) := by
    rw [hb9.cell (p := ⟨w.heap.size, 4, none⟩) (show w.heap.size < _ by (try simp) <;> (try omega))]
    exact q8_0_4
  have hl9_0 : w.heap.size < w9.heap.size := by omega
  clear q8_0_0 q8_0_1 q8_0_2 q8_0_3 q8_0_4
  have q9_1_0 : w9.cell? ⟨w4.heap.size, 0, none⟩ = some (.int .i64 R.1.1.state) := by
    rw [hb9.cell (p := ⟨w4.heap.size, 0, none⟩) (show w4.heap.size < _ by (try simp) <;> (try omega))]
    exact q8_1_0
  have q9_1_1 : w9.cell? ⟨w4.heap.size, 1, none⟩ = some (.slice a4 R.1.1.args.length c4) := by
    rw [hb9.cell (p := ⟨w4.heap.size, 1, none⟩) (show w4.heap.size < _ by (try simp) <;> (try omega))]
    exact q8_1_1
  have q9_1_2 : w9.cell? ⟨w4.heap.size, 2, none⟩ = some (.bool R.1.1.priv) := by
    rw [hb9.cell (p := ⟨w4.heap.size, 2, none⟩) (show w4.heap.size < _ by (try simp) <;> (try omega))]
    exact q8_1_2
  have q9_1_3 : w9.cell? ⟨w4.heap.size, 3, none⟩ = some (.string R.1.1.text) := by
    rw [hb9.cell (p := ⟨w4.heap.size, 3, none⟩) (show w4.heap.size < _ by (try simp) <;> (try omega))]
    exact q8_1_3
  have q9_1_4 : w9.cell? ⟨w4.heap.size, 4, none⟩ = some (.string R.1.1.utf) := by
    rw [hb9.cell (p := ⟨w4.heap.size, 4, none⟩) (show w4.heap.size < _ by (try simp) <;> (try omega))]
    exact q8_1_4
  have hl9_1 : w4.heap.size < w9.heap.size := by omega
  clear q8_1_0 q8_1_1 q8_1_2 q8_1_3 q8_1_4
  have q9_2_0 : w9.cell? ⟨w5.heap.size, 0, none⟩ = some (.int .i64 p.state) := by
    rw [hb9.cell (p := ⟨w5.heap.size, 0, none⟩) (show w5.heap.size < _ by (try simp) <;> (try omega))]
    exact q8_2_0
  have q9_2_1 : w9.cell? ⟨w5.heap.size, 1, none⟩ = some (.slice a5 p.args.length c5) := by
    rw [hb9.cell (p := ⟨w5.heap.size, 1, none⟩) (show w5.heap.size < _ by (try simp) <;> (try omega))]
    exact q8_2_1
  have q9_2_2 : w9.cell? ⟨w5.heap.size, 2, none⟩ = some (.bool p.priv) := by
    rw [hb9.cell (p := ⟨w5.heap.size, 2, none⟩) (show w5.heap.size < _ by (try simp) <;> (try omega))]
    exact q8_2_2
  have q9_2_3 : w9.cell? ⟨w5.heap.size, 3, none⟩ = some (.string p.text) := by
    rw [hb9.cell (p := ⟨w5.heap.size, 3, none⟩) (show w5.heap.size < _ by (try simp) <;> (try omega))]
    exact q8_2_3
  have q9_2_4 : w9.cell? ⟨w5.heap.size, 4, none⟩ = some (.string p.utf) := by
    rw [hb9.cell (p := ⟨w5.heap.size, 4, none⟩) (show w5.heap.size < _ by (try simp) <;> (try omega))]
    exact q8_2_4
  have hl9_2 : w5.heap.size < w9.heap.size := by omega
  clear q8_2_0 q8_2_1 q8_2_2 q8_2_3 q8_2_4
  have q9_3_0 : w9.cell? ⟨w7.heap.size, 0, none⟩ = some (.int .i64 R.1.1.state) := by
    rw [hb9.cell (p := ⟨w7.heap.size, 0, none⟩) (show w7.heap.size < _ by (try simp) <;> (try omega))]
    exact q8_3_0
  have q9_3_1 : w9.cell? ⟨w7.heap.size, 1, none⟩ = some (.slice a7 R.1.1.args.length c7) := by
    rw [hb9.cell (p := ⟨w7.heap.size, 1, none⟩) (show w7.heap.size < _ by (try simp) <;> (try omega))]
    exact q8_3_1
  have q9_3_2 : w9.cell? ⟨w7.heap.size, 2, none⟩ = some (.bool R.1.1.priv) := by
    rw [hb9.cell (p := ⟨w7.heap.size, 2, none⟩) (show w7.heap.size < _ by (try simp) <;> (try omega))]
    exact q8_3_2
  have q9_3_3 : w9.cell? ⟨w7.heap.size, 3, none⟩ = some (.string R.1.1.text) := by
    rw [hb9.cell (p := ⟨w7.heap.size, 3, none⟩) (show w7.heap.size < _ by (try simp) <;> (try omega))]
    exact q8_3_3
  have q9_3_4 : w9.cell? ⟨w7.heap.size, 4, none⟩ = some (.string R.1.1.utf) := by
    rw [hb9.cell (p := ⟨w7.heap.size, 4, none⟩) (show w7.heap.size < _ by (try simp) <;> (try omega))]
    exact q8_3_4
  have hl9_3 : w7.heap.size < w9.heap.size := by omega
  clear q8_3_0 q8_3_1 q8_3_2 q8_3_3 q8_3_4
  have HB9 : Hid (Below w.heap.size w w9) := HB8.out.trans (hb9.mono (by (try simp) <;> (try omega)))
  clear hb9
  go_wp2_with fail
  go_region_held3 (fun w' => w'.cell? ⟨w.heap.size, 0, none⟩ = some (.int .i64 p.state) ∧ w'.cell? ⟨w.heap.size, 1, none⟩ = some (.slice ap p.args.length cp) ∧ w'.cell? ⟨w.heap.size, 2, none⟩ = some (.bool p.priv) ∧ w'.cell? ⟨w.heap.size, 3, none⟩ = some (.string p.text) ∧ w'.cell? ⟨w.heap.size, 4, none⟩ = some (.string p.utf) ∧ w'.cell? ⟨w4.heap.size, 0, none⟩ = some (.int .i64 R.1.1.state) ∧ w'.cell? ⟨w4.heap.size, 1, none⟩ = some (.slice a4 R.1.1.args.length c4) ∧ w'.cell? ⟨w4.heap.size, 2, none⟩ = some (.bool R.1.1.priv) ∧ w'.cell? ⟨w4.heap.size, 3, none⟩ = some (.string R.1.1.text) ∧ w'.cell? ⟨w4.heap.size, 4, none⟩ = some (.string R.1.1.utf) ∧ w'.cell? ⟨w5.heap.size, 0, none⟩ = some (.int .i64 p.state) ∧ w'.cell? ⟨w5.heap.size, 1, none⟩ = some (.slice a5 p.args.length c5) ∧ w'.cell? ⟨w5.heap.size, 2, none⟩ = some (.bool p.priv) ∧ w'.cell? ⟨w5.heap.size, 3, none⟩ = some (.string p.text) ∧ w'.cell? ⟨w5.heap.size, 4, none⟩ = some (.string p.utf) ∧ w'.cell? ⟨w7.heap.size, 0, none⟩ = some (.int .i64 R.1.1.state) ∧ w'.cell? ⟨w7.heap.size, 1, none⟩ = some (.slice a7 R.1.1.args.length c7) ∧ w'.cell? ⟨w7.heap.size, 2, none⟩ = some (.bool R.1.1.priv) ∧ w'.cell? ⟨w7.heap.size, 3, none⟩ = some (.string R.1.1.text) ∧ w'.cell? ⟨w7.heap.size, 4, none⟩ = some (.string R.1.1.utf))
    (first | go_keep | (repeat' apply And.intro) <;> assumption)
    (first
    | (have tok11 := hb10
       clear tok11
       go_at_call 18
       refine (eqParser_same a5 a10 c5 c10 p _ ((HX59.out.drew.below hb10).sl (fun _ => rfl)) (hf10.sl (fun _ => rfl)) HZ.out.args).mono ?_
       rintro e w11 ⟨rfl, hb11⟩
       have hz11 := hb11.size
       try simp at hz11
       have q11_0_0 : w11.cell? ⟨w.heap.size, 0, none⟩ = some (.int .i64 p.state) := by
         rw [hb11.cell (p := ⟨w.heap.size, 0, none⟩) (show w.heap.size < _ by (try simp) <;> (try omega))]
         first | assumption | (simp [go_sem, *])
       have q11_0_1 : w11.cell? ⟨w.heap.size, 1, none⟩ = some (.slice ap p.args.length cp) := by
         rw [hb11.cell (p := ⟨w.heap.size, 1, none⟩) (show w.heap.size < _ by (try simp) <;> (try omega))]
         first | assumption | (simp [go_sem, *])
       have q11_0_2 : w11.cell? ⟨w.heap.size, 2, none⟩ = some (.bool p.priv) := by
         rw [hb11.cell (p := ⟨w.heap.size, 2, none⟩) (show w.heap.size < _ by (try simp) <;> (try omega))]
         first | assumption | (simp [go_sem, *])
       have q11_0_3 : w11.cell? ⟨w.heap.size, 3, none⟩ = some (.string p.text) := by
         rw [hb11.cell (p := ⟨w.heap.size, 3, none⟩) (show w.heap.size < _ by (try simp) <;> (try omega))]
         first | assumption | (simp [go_sem, *])
       have q11_0_4 : w11.cell? ⟨w.heap.size, 4, none⟩ = some (.string p.utf) := by
         rw [hb11.cell (p := ⟨w.heap.size, 4, none⟩) (show w.heap.size < _ by (try simp) <;> (try omega))]
         first | assumption | (simp [go_sem, *])
       have hl11_0 : w.heap.size < w11.heap.size := by omega
       have q11_1_0 : w11.cell? ⟨w4.heap.size, 0, none⟩ = some (.int .i64 R.1.1.state) := by
         rw [hb11.cell (p := ⟨w4.heap.size, 0, none⟩) (show w4.heap.size < _ by (try simp) <;> (try omega))]
         first | assumption | (simp [go_sem, *])
       have q11_1_1 : w11.cell? ⟨w4.heap.size, 1, none⟩ = some (.slice a4 R.1.1.args.length c4) := by
         rw [hb11.cell (p := ⟨w4.heap.size, 1, none⟩) (show w4.heap.size < _ by (try simp) <;> (try omega))]
         first | assumption | (simp [go_sem, *])
       have q11_1_2 : w11.cell? ⟨w4.heap.size, 2, none⟩ = some (.bool R.1.1.priv) := by
         rw [hb11.cell (p := ⟨w4.heap.size, 2, none⟩) (show w4.heap.size < _ by (try simp) <;> (try omega))]
         first | assumption | (simp [go_sem, *])
       have q11_1_3 : w11.cell? ⟨w4.heap.size, 3, none⟩ = some (.string R.1.1.text) := by
         rw [hb11.cell (p := ⟨w4.heap.size, 3, none⟩) (show w4.heap.size < _ by (try simp) <;> (try omega))]
         first | assumption | (simp [go_sem, *])
       have q11_1_4 : w11.cell? ⟨w4.heap.size, 4, none⟩ = some (.string R.1.1.utf) := by
         rw [hb11.cell (p := ⟨w4.heap.size, 4, none⟩) (show w4.heap.size < _ by (try simp) <;> (try omega))]
         first | assumption | (simp [go_sem, *])
       have hl11_1 : w4.heap.size < w11.heap.size := by omega
       have q11_2_0 : w11.cell? ⟨w5.heap.size, 0, none⟩ = some (.int .i64 p.state) := by
         rw [hb11.cell (p := ⟨w5.heap.size, 0, none⟩) (show w5.heap.size < _ by (try simp) <;> (try omega))]
         first | assumption | (simp [go_sem, *])
       have q11_2_1 : w11.cell? ⟨w5.heap.size, 1, none⟩ = some (.slice a5 p.args.length c5) := by
         rw [hb11.cell (p := ⟨w5.heap.size, 1, none⟩) (show w5.heap.size < _ by (try simp) <;> (try omega))]
         first | assumption | (simp [go_sem, *])
       have q11_2_2 : w11.cell? ⟨w5.heap.size, 2, none⟩ = some (.bool p.priv) := by
         rw [hb11.cell (p := ⟨w5.heap.size, 2, none⟩) (show w5.heap.size < _ by (try simp) <;> (try omega))]
         first | assumption | (simp [go_sem, *])
       have q11_2_3 : w11.cell? ⟨w5.heap.size, 3, none⟩ = some (.string p.text) := by
         rw [hb11.cell (p := ⟨w5.heap.size, 3, none⟩) (show w5.heap.size < _ by (try simp) <;> (try omega))]
         first | assumption | (simp [go_sem, *])
       have q11_2_4 : w11.cell? ⟨w5.heap.size, 4, none⟩ = some (.string p.utf) := by
         rw [hb11.cell (p := ⟨w5.heap.size, 4, none⟩) (show w5.heap.size < _ by (try simp) <;> (try omega))]
         first | assumption | (simp [go_sem, *])
       have hl11_2 : w5.heap.size < w11.heap.size := by omega
       have q11_3_0 : w11.cell? ⟨w7.heap.size, 0, none⟩ = some (.int .i64 R.1.1.state) := by
         rw [hb11.cell (p := ⟨w7.heap.size, 0, none⟩) (show w7.heap.size < _ by (try simp) <;> (try omega))]
         first | assumption | (simp [go_sem, *])
       have q11_3_1 : w11.cell? ⟨w7.heap.size, 1, none⟩ = some (.slice a7 R.1.1.args.length c7) := by
         rw [hb11.cell (p := ⟨w7.heap.size, 1, none⟩) (show w7.heap.size < _ by (try simp) <;> (try omega))]
         first | assumption | (simp [go_sem, *])
       have q11_3_2 : w11.cell? ⟨w7.heap.size, 2, none⟩ = some (.bool R.1.1.priv) := by
         rw [hb11.cell (p := ⟨w7.heap.size, 2, none⟩) (show w7.heap.size < _ by (try simp) <;> (try omega))]
         first | assumption | (simp [go_sem, *])
       have q11_3_3 : w11.cell? ⟨w7.heap.size, 3, none⟩ = some (.string R.1.1.text) := by
         rw [hb11.cell (p := ⟨w7.heap.size, 3, none⟩) (show w7.heap.size < _ by (try simp) <;> (try omega))]
         first | assumption | (simp [go_sem, *])
       have q11_3_4 : w11.cell? ⟨w7.heap.size, 4, none⟩ = some (.string R.1.1.utf) := by
         rw [hb11.cell (p := ⟨w7.heap.size, 4, none⟩) (show w7.heap.size < _ by (try simp) <;> (try omega))]
         first | assumption | (simp [go_sem, *])
       have hl11_3 : w7.heap.size < w11.heap.size := by omega)
    | (go_at_call 16
       refine (toParser_c ap cp p _ (HA0.out.keep (HB9.out.drew)) HZ.out).mono ?_
       rintro e w10 ⟨a10, c10, rfl, hf10, hb10⟩
       have hz10 := hb10.size
       try simp at hz10
       have q10_0_0 : w10.cell? ⟨w.heap.size, 0, none⟩ = some (.int .i64 p.state) := by
         rw [hb10.cell (p := ⟨w.heap.size, 0, none⟩) (show w.heap.size < _ by (try simp) <;> (try omega))]
         first | assumption | (simp [go_sem, *])
       have q10_0_1 : w10.cell? ⟨w.heap.size, 1, none⟩ = some (.slice ap p.args.length cp) := by
         rw [hb10.cell (p := ⟨w.heap.size, 1, none⟩) (show w.heap.size < _ by (try simp) <;> (try omega))]
         first | assumption | (simp [go_sem, *])
       have q10_0_2 : w10.cell? ⟨w.heap.size, 2, none⟩ = some (.bool p.priv) := by
         rw [hb10.cell (p := ⟨w.heap.size, 2, none⟩) (show w.heap.size < _ by (try simp) <;> (try omega))]
         first | assumption | (simp [go_sem, *])
       have q10_0_3 : w10.cell? ⟨w.heap.size, 3, none⟩ = some (.string p.text) := by
         rw [hb10.cell (p := ⟨w.heap.size, 3, none⟩) (show w.heap.size < _ by (try simp) <;> (try omega))]
         first | assumption | (simp [go_sem, *])
       have q10_0_4 : w10.cell? ⟨w.heap.size, 4, none⟩ = some (.string p.utf) := by
         rw [hb10.cell (p := ⟨w.heap.size, 4, none⟩) (show w.heap.size < _ by (try simp) <;> (try omega))]
         first | assumption | (simp [go_sem, *])
       have hl10_0 : w.heap.size < w10.heap.size := by omega
       have q10_1_0 : w10.cell? ⟨w4.heap.size, 0, none⟩ = some (.int .i64 R.1.1.state) := by
         rw [hb10.cell (p := ⟨w4.heap.size, 0, none⟩) (show w4.heap.size < _ by (try simp) <;> (try omega))]
         first | assumption | (simp [go_sem, *])
       have q10_1_1 : w10.cell? ⟨w4.heap.size, 1, none⟩ = some (.slice a4 R.1.1.args.length c4) := by
         rw [hb10.cell (p := ⟨w4.heap.size, 1, none⟩) (show w4.heap.size < _ by (try simp) <;> (try omega))]
         first | assumption | (simp [go_sem, *])
       have q10_1_2 : w10.cell? ⟨w4.heap.size, 2, none⟩ = some (.bool R.1.1.priv) := by
         rw [hb10.cell (p := ⟨w4.heap.size, 2, none⟩) (show w4.heap.size < _ by (try simp) <;> (try omega))]
         first | assumption | (simp [go_sem, *])
       have q10_1_3 : w10.cell? ⟨w4.heap.size, 3, none⟩ = some (.string R.1.1.text) := by
         rw [hb10.cell (p := ⟨w4.heap.size, 3, none⟩) (show w4.heap.size < _ by (try simp) <;> (try omega))]
         first | assumption | (simp [go_sem, *])
       have q10_1_4 : w10.cell? ⟨w4.heap.size, 4, none⟩ = some (.string R.1.1.utf) := by
         rw [hb10.cell (p := ⟨w4.heap.size, 4, none⟩) (show w4.heap.size < _ by (try simp) <;> (try omega))]
         first | assumption | (simp [go_sem, *])
       have hl10_1 : w4.heap.size < w10.heap.size := by omega
       have q10_2_0 : w10.cell? ⟨w5.heap.size, 0, none⟩ = some (.int .i64 p.state) := by
         rw [hb10.cell (p := ⟨w5.heap.size, 0, none⟩) (show w5.heap.size < _ by (try simp) <;> (try omega))]
         first | assumption | (simp [go_sem, *])
       have q10_2_1 : w10.cell? ⟨w5.heap.size, 1, none⟩ = some (.slice a5 p.args.length c5) := by
         rw [hb10.cell (p := ⟨w5.heap.size, 1, none⟩) (show w5.heap.size < _ by (try simp) <;> (try omega))]
         first | assumption | (simp [go_sem, *])
       have q10_2_2 : w10.cell? ⟨w5.heap.size, 2, none⟩ = some (.bool p.priv) := by
         rw [hb10.cell (p := ⟨w5.heap.size, 2, none⟩) (show w5.heap.size < _ by (try simp) <;> (try omega))]
         first | assumption | (simp [go_sem, *])
       have q10_2_3 : w10.cell? ⟨w5.heap.size, 3, none⟩ = some (.string p.text) := by
         rw [hb10.cell (p := ⟨w5.heap.size, 3, none⟩) (show w5.heap.size < _ by (try simp) <;> (try omega))]
         first | assumption | (simp [go_sem, *])
       have q10_2_4 : w10.cell? ⟨w5.heap.size, 4, none⟩ = some (.string p.utf) := by
         rw [hb10.cell (p := ⟨w5.heap.size, 4, none⟩) (show w5.heap.size < _ by (try simp) <;> (try omega))]
         first | assumption | (simp [go_sem, *])
       have hl10_2 : w5.heap.size < w10.heap.size := by omega
       have q10_3_0 : w10.cell? ⟨w7.heap.size, 0, none⟩ = some (.int .i64 R.1.1.state) := by
         rw [hb10.cell (p := ⟨w7.heap.size, 0, none⟩) (show w7.heap.size < _ by (try simp) <;> (try omega))]
         first | assumption | (simp [go_sem, *])
       have q10_3_1 : w10.cell? ⟨w7.heap.size, 1, none⟩ = some (.slice a7 R.1.1.args.length c7) := by
         rw [hb10.cell (p := ⟨w7.heap.size, 1, none⟩) (show w7.heap.size < _ by (try simp) <;> (try omega))]
         first | assumption | (simp [go_sem, *])
       have q10_3_2 : w10.cell? ⟨w7.heap.size, 2, none⟩ = some (.bool R.1.1.priv) := by
         rw [hb10.cell (p := ⟨w7.heap.size, 2, none⟩) (show w7.heap.size < _ by (try simp) <;> (try omega))]
         first | assumption | (simp [go_sem, *])
       have q10_3_3 : w10.cell? ⟨w7.heap.size, 3, none⟩ = some (.string R.1.1.text) := by
         rw [hb10.cell (p := ⟨w7.heap.size, 3, none⟩) (show w7.heap.size < _ by (try simp) <;> (try omega))]
         first | assumption | (simp [go_sem, *])
       have q10_3_4 : w10.cell? ⟨w7.heap.size, 4, none⟩ = some (.string R.1.1.utf) := by
         rw [hb10.cell (p := ⟨w7.heap.size, 4, none⟩) (show w7.heap.size < _ by (try simp) <;> (try omega))]
         first | assumption | (simp [go_sem, *])
       have hl10_3 : w7.heap.size < w10.heap.size := by omega))
  have hr11 : Below w9.heap.size w9 w11 := ((((Below.refl _ _).drew).trans (hb10.mono (by (try simp) <;> (try omega)))).trans (hb11.mono (by (try simp) <;> (try omega))))
  have hzr11 := hr11.size
  have HS11 := Lib.hid (HS9.out.below hr11)
  clear HS9
  have HX511 := Lib.hid (HX59.out.below hr11)
  clear HX59
  have HY611 := Lib.hid (HY69.out.below hr11)
  clear HY69
  have HI711 := Lib.hid (HI79.out.below hr11)
  clear HI79
  have HB11 : Hid (Below w.heap.size w w11) := HB9.out.trans (hr11.mono (by omega))
  clear q9_0_0 q9_0_1 q9_0_2 q9_0_3 q9_0_4 q10_0_0 q10_0_1 q10_0_2 q10_0_3 q10_0_4 q9_1_0 q9_1_1 q9_1_2 q9_1_3 q9_1_4 q10_1_0 q10_1_1 q10_1_2 q10_1_3 q10_1_4 q9_2_0 q9_2_1 q9_2_2 q9_2_3 q9_2_4 q10_2_0 q10_2_1 q10_2_2 q10_2_3 q10_2_4 q9_3_0 q9_3_1 q9_3_2 q9_3_3 q9_3_4 q10_3_0 q10_3_1 q10_3_2 q10_3_3 q10_3_4 hb10 hb11 hr11
  go_wp2_with fail
  refine (toByteS_c b cb l _ (HBY.out.keep HB11.out) hd2).mono ?_
  rintro e w12 ⟨v12, rfl, hf12, hb12⟩
  have hz12 := hb12.size
  obtain ⟨a12, c12, rfl, hq12, hr12⟩ := hf12
  have HZ1212 := Lib.hid (show FreshIn byteE 5 1 (w11.heap.size) w12.heap.size (.slice a12 l.length c12) l w12 from Fresh.here ⟨_, _, rfl, hq12, by simpa using hr12⟩)
  clear hq12 hr12
  have HS12 := Lib.hid (HS11.out.below hb12)
  clear HS11
  have HX512 := Lib.hid (HX511.out.below hb12)
  clear HX511
  have HY612 := Lib.hid (HY611.out.below hb12)
  clear HY611
  have HI712 := Lib.hid (HI711.out.below hb12)
  clear HI711
  have q12_0_0 : w12.cell? ⟨w.heap.size, 0, none⟩ = some (.int .i64 p.state) := by
    rw [hb12.cell (p := ⟨w.heap.size, 0, none⟩) (show w.heap.size < _ by (try simp) <;> (try omega))]
    exact q11_0_0
  have q12_0_1 : w12.cell? ⟨w.heap.size, 1, none⟩ = some (.slice ap p.args.length cp) := by
    rw [hb12.cell (p := ⟨w.heap.size, 1, none⟩) (show w.heap.size < _ by (try simp) <;> (try omega))]
    exact q11_0_1
  have q12_0_2 : w12.cell? ⟨w.heap.size, 2, none⟩ = some (.bool p.priv) := by
    rw [hb12.cell (p := ⟨w.heap.size, 2, none⟩) (show w.heap.size < _ by (try simp) <;> (try omega))]
    exact q11_0_2
  have q12_0_3 : w12.cell? ⟨w.heap.size, 3, none⟩ = some (.string p.text) := by
    rw [hb12.cell (p := ⟨w.heap.size, 3, none⟩) (show w.heap.size < _ by (try simp) <;> (try omega))]
    exact q11_0_3
  have q12_0_4 : w12.cell? ⟨w.heap.size, 4, none⟩ = some (.string p.utf) := by
    rw [hb12.cell (p := ⟨w.heap.size, 4, none⟩) (show w.heap.size < _ by (try simp) <;> (try omega))]
    exact q11_0_4
  have hl12_0 : w.heap.size < w12.heap.size := by omega
  clear q11_0_0 q11_0_1 q11_0_2 q11_0_3 q11_0_4
  have q12_1_0 : w12.cell? ⟨w4.heap.size, 0, none⟩ = some (.int .i64 R.1.1.state) := by
    rw [hb12.cell (p := ⟨w4.heap.size, 0, none⟩) (show w4.heap.size < _ by (try simp) <;> (try omega))]
    exact q11_1_0
  have q12_1_1 : w12.cell? ⟨w4.heap.size, 1, none⟩ = some (.slice a4 R.1.1.args.length c4) := by
    rw [hb12.cell (p := ⟨w4.heap.size, 1, none⟩) (show w4.heap.size < _ by (try simp) <;> (try omega))]
    exact q11_1_1
  have q12_1_2 : w12.cell? ⟨w4.heap.size, 2, none⟩ = some (.bool R.1.1.priv) := by
    rw [hb12.cell (p := ⟨w4.heap.size, 2, none⟩) (show w4.heap.size < _ by (try simp) <;> (try omega))]
    exact q11_1_2
  have q12_1_3 : w12.cell? ⟨w4.heap.size, 3, none⟩ = some (.string R.1.1.text) := by
    rw [hb12.cell (p := ⟨w4.heap.size, 3, none⟩) (show w4.heap.size < _ by (try simp) <;> (try omega))]
    exact q11_1_3
  have q12_1_4 : w12.cell? ⟨w4.heap.size, 4, none⟩ = some (.string R.1.1.utf) := by
    rw [hb12.cell (p := ⟨w4.heap.size, 4, none⟩) (show w4.heap.size < _ by (try simp) <;> (try omega))]
    exact q11_1_4
  have hl12_1 : w4.heap.size < w12.heap.size := by omega
  clear q11_1_0 q11_1_1 q11_1_2 q11_1_3 q11_1_4
  have q12_2_0 : w12.cell? ⟨w5.heap.size, 0, none⟩ = some (.int .i64 p.state) := by
    rw [hb12.cell (p := ⟨w5.heap.size, 0, none⟩) (show w5.heap.size < _ by (try simp) <;> (try omega))]
    exact q11_2_0
  have q12_2_1 : w12.cell? ⟨w5.heap.size, 1, none⟩ = some (.slice a5 p.args.length c5) := by
    rw [hb12.cell (p := ⟨w5.heap.size, 1, none⟩) (show w5.heap.size < _ by (try simp) <;> (try omega))]
    exact q11_2_1
  have q12_2_2 : w12.cell? ⟨w5.heap.size, 2, none⟩ = some (.bool p.priv) := by
    rw [hb12.cell (p := ⟨w5.heap.size, 2, none⟩) (show w5.heap.size < _ by (try simp) <;> (try omega))]
    exact q11_2_2
  have q12_2_3 : w12.cell? ⟨w5.heap.size, 3, none⟩ = some (.string p.text) := by
    rw [hb12.cell (p := ⟨w5.heap.size, 3, none⟩) (show w5.heap.size < _ by (try simp) <;> (try omega))]
    exact q11_2_3
  have q12_2_4 : w12.cell? ⟨w5.heap.size, 4, none⟩ = some (.string p.utf) := by
    rw [hb12.cell (p := ⟨w5.heap.size, 4, none⟩) (show w5.heap.size < _ by (try simp) <;> (try omega))]
    exact q11_2_4
  have hl12_2 : w5.heap.size < w12.heap.size := by omega
  clear q11_2_0 q11_2_1 q11_2_2 q11_2_3 q11_2_4
  have q12_3_0 : w12.cell? ⟨w7.heap.size, 0, none⟩ = some (.int .i64 R.1.1.state) := by
    rw [hb12.cell (p := ⟨w7.heap.size, 0, none⟩) (show w7.heap.size < _ by (try simp) <;> (try omega))]
    exact q11_3_0
  have q12_3_1 : w12.cell? ⟨w7.heap.size, 1, none⟩ = some (.slice a7 R.1.1.args.length c7) := by
    rw [hb12.cell (p := ⟨w7.heap.size, 1, none⟩) (show w7.heap.size < _ by (try simp) <;> (try omega))]
    exact q11_3_1
  have q12_3_2 : w12.cell? ⟨w7.heap.size, 2, none⟩ = some (.bool R.1.1.priv) := by
    rw [hb12.cell (p := ⟨w7.heap.size, 2, none⟩) (show w7.heap.size < _ by (try simp) <;> (try omega))]
    exact q11_3_2
  have q12_3_3 : w12.cell? ⟨w7.heap.size, 3, none⟩ = some (.string R.1.1.text) := by
    rw [hb12.cell (p := ⟨w7.heap.size, 3, none⟩) (show w7.heap.size < _ by (try simp) <;> (try omega))]
    exact q11_3_3
  have q12_3_4 : w12.cell? ⟨w7.heap.size, 4, none⟩ = some (.string R.1.1.utf) := by
    rw [hb12.cell (p := ⟨w7.heap.size, 4, none⟩) (show w7.heap.size < _ by (try simp) <;> (try omega))]
    exact q11_3_4
  have hl12_3 : w7.heap.size < w12.heap.size := by omega
  clear q11_3_0 q11_3_1 q11_3_2 q11_3_3 q11_3_4
  have HB12 : Hid (Below w.heap.size w w12) := HB11.out.trans (hb12.mono (by (try simp) <;> (try omega)))
  clear hb12
  go_wp2_with fail
  refine (eqBytes_same a6 a12 c6 c12 l _ (HY612.out.sl (fun _ => rfl)) (HZ1212.out.sl (fun _ => rfl)) hd2).mono ?_
  rintro e w13 ⟨rfl, hb13⟩
  have hz13 := hb13.size
  have HS13 := Lib.hid (HS12.out.below hb13)
  clear HS12
  have HX513 := Lib.hid (HX512.out.below hb13)
  clear HX512
  have HY613 := Lib.hid (HY612.out.below hb13)
  clear HY612
  have HI713 := Lib.hid (HI712.out.below hb13)
  clear HI712
  have HZ1213 := Lib.hid (HZ1212.out.below hb13)
  clear HZ1212
  have q13_0_0 : w13.cell? ⟨w.heap.size, 0, none⟩ = some (.int .i64 p.state) := by
    rw [hb13.cell (p := ⟨w.heap.size, 0, none⟩) (show w.heap.size < _ by (try simp) <;> (try omega))]
    exact q12_0_0
  have q13_0_1 : w13.cell? ⟨w.heap.size, 1, none⟩ = some (.slice ap p.args.length cp) := by
    rw [hb13.cell (p := ⟨w.heap.size, 1, none⟩) (show w.heap.size < _ by (try simp) <;> (try omega))]
    exact q12_0_1
  have q13_0_2 : w13.cell? ⟨w.heap.size, 2, none⟩ = some (.bool p.priv) := by
    rw [hb13.cell (p := ⟨w.heap.size, 2, none⟩) (show w.heap.size < _ by (try simp) <;> (try omega))]
    exact q12_0_2
  have q13_0_3 : w13.cell? ⟨w.heap.size, 3, none⟩ = some (.string p.text) := by
    rw [hb13.cell (p := ⟨w.heap.size, 3, none⟩) (show w.heap.size < _ by (try simp) <;> (try omega))]
    exact q12_0_3
  have q13_0_4 : w13.cell? ⟨w.heap.size, 4, none⟩ = some (.string p.utf) := by
    rw [hb13.cell (p := ⟨w.heap.size, 4, none⟩) (show w.heap.size < _ by (try simp) <;> (try omega))]
    exact q12_0_4
  have hl13_0 : w.heap.size < w13.heap.size := by omega
  clear q12_0_0 q12_0_1 q12_0_2 q12_0_3 q12_0_4
  have q13_1_0 : w13.cell? ⟨w4.heap.size, 0, none⟩ = some (.int .i64 R.1.1.state) := by
    rw [hb13.cell (p := ⟨w4.heap.size, 0, none⟩) (show w4.heap.size < _ by (try simp) <;> (try omega))]
    exact q12_1_0
  have q13_1_1 : w13.cell? ⟨w4.heap.size, 1, none⟩ = some (.slice a4 R.1.1.args.length c4) := by
    rw [hb13.cell (p := ⟨w4.heap.size, 1, none⟩) (show w4.heap.size < _ by (try simp) <;> (try omega))]
    exact q12_1_1
  have q13_1_2 : w13.cell? ⟨w4.heap.size, 2, none⟩ = some (.bool R.1.1.priv) := by
    rw [hb13.cell (p := ⟨w4.heap.size, 2, none⟩) (show w4.heap.size < _ by (try simp) <;> (try omega))]
    exact q12_1_2
  have q13_1_3 : w13.cell? ⟨w4.heap.size, 3, none⟩ = some (.string R.1.1.text) := by
    rw [hb13.cell (p := ⟨w4.heap.size, 3, none⟩) (show w4.heap.size < _ by (try simp) <;> (try omega))]
    exact q12_1_3
  have q13_1_4 : w13.cell? ⟨w4.heap.size, 4, none⟩ = some (.string R.1.1.utf) := by
    rw [hb13.cell (p := ⟨w4.heap.size, 4, none⟩) (show w4.heap.size < _ by (try simp) <;> (try omega))]
    exact q12_1_4
  have hl13_1 : w4.heap.size < w13.heap.size := by omega
  clear q12_1_0 q12_1_1 q12_1_2 q12_1_3 q12_1_4
  have q13_2_0 : w13.cell? ⟨w5.heap.size, 0, none⟩ = some (.int .i64 p.state) := by
    rw [hb13.cell (p := ⟨w5.heap.size, 0, none⟩) (show w5.heap.size < _ by (try simp) <;> (try omega))]
    exact q12_2_0
  have q13_2_1 : w13.cell? ⟨w5.heap.size, 1, none⟩ = some (.slice a5 p.args.length c5) := by
    rw [hb13.cell (p := ⟨w5.heap.size, 1, none⟩) (show w5.heap.size < _ by (try simp) <;> (try omega))]
    exact q12_2_1
  have q13_2_2 : w13.cell? ⟨w5.heap.size, 2, none⟩ = some (.bool p.priv) := by
    rw [hb13.cell (p := ⟨w5.heap.size, 2, none⟩) (show w5.heap.size < _ by (try simp) <;> (try omega))]
    exact q12_2_2
  have q13_2_3 : w13.cell? ⟨w5.heap.size, 3, none⟩ = some (.string p.text) := by
    rw [hb13.cell (p := ⟨w5.heap.size, 3, none⟩) (show w5.heap.size < _ by (try simp) <;> (try omega))]
    exact q12_2_3
  have q13_2_4 : w13.cell? ⟨w5.heap.size, 4, none⟩ = some (.string p.utf) := by
    rw [hb13.cell (p := ⟨w5.heap.size, 4, none⟩) (show w5.heap.size < _ by (try simp) <;> (try omega))]
    exact q12_2_4
  have hl13_2 : w5.heap.size < w13.heap.size := by omega
  clear q12_2_0 q12_2_1 q12_2_2 q12_2_3 q12_2_4
  have q13_3_0 : w13.cell? ⟨w7.heap.size, 0, none⟩ = some (.int .i64 R.1.1.state) := by
    rw [hb13.cell (p := ⟨w7.heap.size, 0, none⟩) (show w7.heap.size < _ by (try simp) <;> (try omega))]
    exact q12_3_0
  have q13_3_1 : w13.cell? ⟨w7.heap.size, 1, none⟩ = some (.slice a7 R.1.1.args.length c7) := by
    rw [hb13.cell (p := ⟨w7.heap.size, 1, none⟩) (show w7.heap.size < _ by (try simp) <;> (try omega))]
    exact q12_3_1
  have q13_3_2 : w13.cell? ⟨w7.heap.size, 2, none⟩ = some (.bool R.1.1.priv) := by
    rw [hb13.cell (p := ⟨w7.heap.size, 2, none⟩) (show w7.heap.size < _ by (try simp) <;> (try omega))]
    exact q12_3_2
  have q13_3_3 : w13.cell? ⟨w7.heap.size, 3, none⟩ = some (.string R.1.1.text) := by
    rw [hb13.cell (p := ⟨w7.heap.size, 3, none⟩) (show w7.heap.size < _ by (try simp) <;> (try omega))]
    exact q12_3_3
  have q13_3_4 : w13.cell? ⟨w7.heap.size, 4, none⟩ = some (.string R.1.1.utf) := by
    rw [hb13.cell (p := ⟨w7.heap.size, 4, none⟩) (show w7.heap.size < _ by (try simp) <;> (try omega))]
    exact q12_3_4
  have hl13_3 : w7.heap.size < w13.heap.size := by omega
  clear q12_3_0 q12_3_1 q12_3_2 q12_3_3 q12_3_4
  have HB13 : Hid (Below w.heap.size w w13) := HB12.out.trans (hb13.mono (by (try simp) <;> (try omega)))
  clear hb13
  clear HZ1213
  go_wp2_with fail
  refine (markPar_c (w4.heap.size + 1) (w5.heap.size) p a5 c5 1 _ HX513.out (by omega) (by have := HZ.out.args; omega)).mono ?_
  rw [HK0.out]
  rintro e w14 ⟨rfl, _, hb14⟩
  have hz14 := hb14.size
  have HS14 := Lib.hid (HS13.out.mid hb14 (by omega))
  clear HS13
  have HY614 := Lib.hid (HY613.out.mid hb14 (by omega))
  clear HY613
  have HI714 := Lib.hid (HI713.out.mid hb14 (by omega))
  clear HI713
  have q14_0_0 : w14.cell? ⟨w.heap.size, 0, none⟩ = some (.int .i64 p.state) := by
    rw [hb14.cell (p := ⟨w.heap.size, 0, none⟩) (show w.heap.size < _ by (try simp) <;> (try omega)) (by show w.heap.size < _ ∨ _ ≤ w.heap.size; omega)]
    exact q13_0_0
  have q14_0_1 : w14.cell? ⟨w.heap.size, 1, none⟩ = some (.slice ap p.args.length cp) := by
    rw [hb14.cell (p := ⟨w.heap.size, 1, none⟩) (show w.heap.size < _ by (try simp) <;> (try omega)) (by show w.heap.size < _ ∨ _ ≤ w.heap.size; omega)]
    exact q13_0_1
  have q14_0_2 : w14.cell? ⟨w.heap.size, 2, none⟩ = some (.bool p.priv) := by
    rw [hb14.cell (p := ⟨w.heap.size, 2, none⟩) (show w.heap.size < _ by (try simp) <;> (try omega)) (by show w.heap.size < _ ∨ _ ≤ w.heap.size; omega)]
    exact q13_0_2
  have q14_0_3 : w14.cell? ⟨w.heap.size, 3, none⟩ = some (.string p.text) := by
    rw [hb14.cell (p := ⟨w.heap.size, 3, none⟩) (show w.heap.size < _ by (try simp) <;> (try omega)) (by show w.heap.size < _ ∨ _ ≤ w.heap.size; omega)]
    exact q13_0_3
  have q14_0_4 : w14.cell? ⟨w.heap.size, 4, none⟩ = some (.string p.utf) := by
    rw [hb14.cell (p := ⟨w.heap.size, 4, none⟩) (show w.heap.size < _ by (try simp) <;> (try omega)) (by show w.heap.size < _ ∨ _ ≤ w.heap.size; omega)]
    exact q13_0_4
  have hl14_0 : w.heap.size < w14.heap.size := by omega
  clear q13_0_0 q13_0_1 q13_0_2 q13_0_3 q13_0_4
  have q14_1_0 : w14.cell? ⟨w4.heap.size, 0, none⟩ = some (.int .i64 R.1.1.state) := by
    rw [hb14.cell (p := ⟨w4.heap.size, 0, none⟩) (show w4.heap.size < _ by (try simp) <;> (try omega)) (by show w4.heap.size < _ ∨ _ ≤ w4.heap.size; omega)]
    exact q13_1_0
  have q14_1_1 : w14.cell? ⟨w4.heap.size, 1, none⟩ = some (.slice a4 R.1.1.args.length c4) := by
    rw [hb14.cell (p := ⟨w4.heap.size, 1, none⟩) (show w4.heap.size < _ by (try simp) <;> (try omega)) (by show w4.heap.size < _ ∨ _ ≤ w4.heap.size; omega)]
    exact q13_1_1
  have q14_1_2 : w14.cell? ⟨w4.heap.size, 2, none⟩ = some (.bool R.1.1.priv) := by
    rw [hb14.cell (p := ⟨w4.heap.size, 2, none⟩) (show w4.heap.size < _ by (try simp) <;> (try omega)) (by show w4.heap.size < _ ∨ _ ≤ w4.heap.size; omega)]
    exact q13_1_2
  have q14_1_3 : w14.cell? ⟨w4.heap.size, 3, none⟩ = some (.string R.1.1.text) := by
    rw [hb14.cell (p := ⟨w4.heap.size, 3, none⟩) (show w4.heap.size < _ by (try simp) <;> (try omega)) (by show w4.heap.size < _ ∨ _ ≤ w4.heap.size; omega)]
    exact q13_1_3
  have q14_1_4 : w14.cell? ⟨w4.heap.size, 4, none⟩ = some (.string R.1.1.utf) := by
    rw [hb14.cell (p := ⟨w4.heap.size, 4, none⟩) (show w4.heap.size < _ by (try simp) <;> (try omega)) (by show w4.heap.size < _ ∨ _ ≤ w4.heap.size; omega)]
    exact q13_1_4
  have hl14_1 : w4.heap.size < w14.heap.size := by omega
  clear q13_1_0 q13_1_1 q13_1_2 q13_1_3 q13_1_4
  have q14_2_0 : w14.cell? ⟨w5.heap.size, 0, none⟩ = some (.int .i64 p.state) := by
    rw [hb14.cell (p := ⟨w5.heap.size, 0, none⟩) (show w5.heap.size < _ by (try simp) <;> (try omega)) (by show w5.heap.size < _ ∨ _ ≤ w5.heap.size; omega)]
    exact q13_2_0
  have q14_2_1 : w14.cell? ⟨w5.heap.size, 1, none⟩ = some (.slice a5 p.args.length c5) := by
    rw [hb14.cell (p := ⟨w5.heap.size, 1, none⟩) (show w5.heap.size < _ by (try simp) <;> (try omega)) (by show w5.heap.size < _ ∨ _ ≤ w5.heap.size; omega)]
    exact q13_2_1
  have q14_2_2 : w14.cell? ⟨w5.heap.size, 2, none⟩ = some (.bool p.priv) := by
    rw [hb14.cell (p := ⟨w5.heap.size, 2, none⟩) (show w5.heap.size < _ by (try simp) <;> (try omega)) (by show w5.heap.size < _ ∨ _ ≤ w5.heap.size; omega)]
    exact q13_2_2
  have q14_2_3 : w14.cell? ⟨w5.heap.size, 3, none⟩ = some (.string p.text) := by
    rw [hb14.cell (p := ⟨w5.heap.size, 3, none⟩) (show w5.heap.size < _ by (try simp) <;> (try omega)) (by show w5.heap.size < _ ∨ _ ≤ w5.heap.size; omega)]
    exact q13_2_3
  have q14_2_4 : w14.cell? ⟨w5.heap.size, 4, none⟩ = some (.string p.utf) := by
    rw [hb14.cell (p := ⟨w5.heap.size, 4, none⟩) (show w5.heap.size < _ by (try simp) <;> (try omega)) (by show w5.heap.size < _ ∨ _ ≤ w5.heap.size; omega)]
    exact q13_2_4
  have hl14_2 : w5.heap.size < w14.heap.size := by omega
  clear q13_2_0 q13_2_1 q13_2_2 q13_2_3 q13_2_4
  have q14_3_0 : w14.cell? ⟨w7.heap.size, 0, none⟩ = some (.int .i64 R.1.1.state) := by
    rw [hb14.cell (p := ⟨w7.heap.size, 0, none⟩) (show w7.heap.size < _ by (try simp) <;> (try omega)) (by show w7.heap.size < _ ∨ _ ≤ w7.heap.size; omega)]
    exact q13_3_0
  have q14_3_1 : w14.cell? ⟨w7.heap.size, 1, none⟩ = some (.slice a7 R.1.1.args.length c7) := by
    rw [hb14.cell (p := ⟨w7.heap.size, 1, none⟩) (show w7.heap.size < _ by (try simp) <;> (try omega)) (by show w7.heap.size < _ ∨ _ ≤ w7.heap.size; omega)]
    exact q13_3_1
  have q14_3_2 : w14.cell? ⟨w7.heap.size, 2, none⟩ = some (.bool R.1.1.priv) := by
    rw [hb14.cell (p := ⟨w7.heap.size, 2, none⟩) (show w7.heap.size < _ by (try simp) <;> (try omega)) (by show w7.heap.size < _ ∨ _ ≤ w7.heap.size; omega)]
    exact q13_3_2
  have q14_3_3 : w14.cell? ⟨w7.heap.size, 3, none⟩ = some (.string R.1.1.text) := by
    rw [hb14.cell (p := ⟨w7.heap.size, 3, none⟩) (show w7.heap.size < _ by (try simp) <;> (try omega)) (by show w7.heap.size < _ ∨ _ ≤ w7.heap.size; omega)]
    exact q13_3_3
  have q14_3_4 : w14.cell? ⟨w7.heap.size, 4, none⟩ = some (.string R.1.1.utf) := by
    rw [hb14.cell (p := ⟨w7.heap.size, 4, none⟩) (show w7.heap.size < _ by (try simp) <;> (try omega)) (by show w7.heap.size < _ ∨ _ ≤ w7.heap.size; omega)]
    exact q13_3_4
  have hl14_3 : w7.heap.size < w14.heap.size := by omega
  clear q13_3_0 q13_3_1 q13_3_2 q13_3_3 q13_3_4
  have HB14 : Hid (Below w.heap.size w w14) := HB13.out.trans (hb14.below (by omega) (by (try simp) <;> (try omega)))
  clear hb14
  clear HX513
  go_wp2_with fail
  refine (markBytes_c (w5.heap.size + 1) (w6.heap.size) a6 c6 K0 l _ HY614.out (by omega) (by have := HK0b.out; omega)).mono ?_
  rw [HK1.out]
  rintro e w15 ⟨rfl, _, hb15⟩
  have hz15 := hb15.size
  have HS15 := Lib.hid (HS14.out.mid hb15 (by omega))
  clear HS14
  have HI715 := Lib.hid (HI714.out.mid hb15 (by omega))
  clear HI714
  have q15_0_0 : w15.cell? ⟨w.heap.size, 0, none⟩ = some (.int .i64 p.state) := by
    rw [hb15.cell (p := ⟨w.heap.size, 0, none⟩) (show w.heap.size < _ by (try simp) <;> (try omega)) (by show w.heap.size < _ ∨ _ ≤ w.heap.size; omega)]
    exact q14_0_0
  have q15_0_1 : w15.cell? ⟨w.heap.size, 1, none⟩ = some (.slice ap p.args.length cp) := by
    rw [hb15.cell (p := ⟨w.heap.size, 1, none⟩) (show w.heap.size < _ by (try simp) <;> (try omega)) (by show w.heap.size < _ ∨ _ ≤ w.heap.size; omega)]
    exact q14_0_1
  have q15_0_2 : w15.cell? ⟨w.heap.size, 2, none⟩ = some (.bool p.priv) := by
    rw [hb15.cell (p := ⟨w.heap.size, 2, none⟩) (show w.heap.size < _ by (try simp) <;> (try omega)) (by show w.heap.size < _ ∨ _ ≤ w.heap.size; omega)]
    exact q14_0_2
  have q15_0_3 : w15.cell? ⟨w.heap.size, 3, none⟩ = some (.string p.text) := by
    rw [hb15.cell (p := ⟨w.heap.size, 3, none⟩) (show w.heap.size < _ by (try simp) <;> (try omega)) (by show w.heap.size < _ ∨ _ ≤ w.heap.size; omega)]
    exact q14_0_3
  have q15_0_4 : w15.cell? ⟨w.heap.size, 4, none⟩ = some (.string p.utf) := by
    rw [hb15.cell (p := ⟨w.heap.size, 4, none⟩) (show w.heap.size < _ by (try simp) <;> (try omega)) (by show w.heap.size < _ ∨ _ ≤ w.heap.size; omega)]
    exact q14_0_4
  have hl15_0 : w.heap.size < w15.heap.size := by omega
  clear q14_0_0 q14_0_1 q14_0_2 q14_0_3 q14_0_4
  have q15_1_0 : w15.cell? ⟨w4.heap.size, 0, none⟩ = some (.int .i64 R.1.1.state) := by
    rw [hb15.cell (p := ⟨w4.heap.size, 0, none⟩) (show w4.heap.size < _ by (try simp) <;> (try omega)) (by show w4.heap.size < _ ∨ _ ≤ w4.heap.size; omega)]
    exact q14_1_0
  have q15_1_1 : w15.cell? ⟨w4.heap.size, 1, none⟩ = some (.slice a4 R.1.1.args.length c4) := by
    rw [hb15.cell (p := ⟨w4.heap.size, 1, none⟩) (show w4.heap.size < _ by (try simp) <;> (try omega)) (by show w4.heap.size < _ ∨ _ ≤ w4.heap.size; omega)]
    exact q14_1_1
  have q15_1_2 : w15.cell? ⟨w4.heap.size, 2, none⟩ = some (.bool R.1.1.priv) := by
    rw [hb15.cell (p := ⟨w4.heap.size, 2, none⟩) (show w4.heap.size < _ by (try simp) <;> (try omega)) (by show w4.heap.size < _ ∨ _ ≤ w4.heap.size; omega)]
    exact q14_1_2
  have q15_1_3 : w15.cell? ⟨w4.heap.size, 3, none⟩ = some (.string R.1.1.text) := by
    rw [hb15.cell (p := ⟨w4.heap.size, 3, none⟩) (show w4.heap.size < _ by (try simp) <;> (try omega)) (by show w4.heap.size < _ ∨ _ ≤ w4.heap.size; omega)]
    exact q14_1_3
  have q15_1_4 : w15.cell? ⟨w4.heap.size, 4, none⟩ = some (.string R.1.1.utf) := by
    rw [hb15.cell (p := ⟨w4.heap.size, 4, none⟩) (show w4.heap.size < _ by (try simp) <;> (try omega)) (by show w4.heap.size < _ ∨ _ ≤ w4.heap.size; omega)]
    exact q14_1_4
  have hl15_1 : w4.heap.size < w15.heap.size := by omega
  clear q14_1_0 q14_1_1 q14_1_2 q14_1_3 q14_1_4
  have q15_2_0 : w15.cell? ⟨w5.heap.size, 0, none⟩ = some (.int .i64 p.state) := by
    rw [hb15.cell (p := ⟨w5.heap.size, 0, none⟩) (show w5.heap.size < _ by (try simp) <;> (try omega)) (by show w5.heap.size < _ ∨ _ ≤ w5.heap.size; omega)]
    exact q14_2_0
  have q15_2_1 : w15.cell? ⟨w5.heap.size, 1, none⟩ = some (.slice a5 p.args.length c5) := by
    rw [hb15.cell (p := ⟨w5.heap.size, 1, none⟩) (show w5.heap.size < _ by (try simp) <;> (try omega)) (by show w5.heap.size < _ ∨ _ ≤ w5.heap.size; omega)]
    exact q14_2_1
  have q15_2_2 : w15.cell? ⟨w5.heap.size, 2, none⟩ = some (.bool p.priv) := by
    rw [hb15.cell (p := ⟨w5.heap.size, 2, none⟩) (show w5.heap.size < _ by (try simp) <;> (try omega)) (by show w5.heap.size < _ ∨ _ ≤ w5.heap.size; omega)]
    exact q14_2_2
  have q15_2_3 : w15.cell? ⟨w5.heap.size, 3, none⟩ = some (.string p.text) := by
    rw [hb15.cell (p := ⟨w5.heap.size, 3, none⟩) (show w5.heap.size < _ by (try simp) <;> (try omega)) (by show w5.heap.size < _ ∨ _ ≤ w5.heap.size; omega)]
    exact q14_2_3
  have q15_2_4 : w15.cell? ⟨w5.heap.size, 4, none⟩ = some (.string p.utf) := by
    rw [hb15.cell (p := ⟨w5.heap.size, 4, none⟩) (show w5.heap.size < _ by (try simp) <;> (try omega)) (by show w5.heap.size < _ ∨ _ ≤ w5.heap.size; omega)]
    exact q14_2_4
  have hl15_2 : w5.heap.size < w15.heap.size := by omega
  clear q14_2_0 q14_2_1 q14_2_2 q14_2_3 q14_2_4
  have q15_3_0 : w15.cell? ⟨w7.heap.size, 0, none⟩ = some (.int .i64 R.1.1.state) := by
    rw [hb15.cell (p := ⟨w7.heap.size, 0, none⟩) (show w7.heap.size < _ by (try simp) <;> (try omega)) (by show w7.heap.size < _ ∨ _ ≤ w7.heap.size; omega)]
    exact q14_3_0
  have q15_3_1 : w15.cell? ⟨w7.heap.size, 1, none⟩ = some (.slice a7 R.1.1.args.length c7) := by
    rw [hb15.cell (p := ⟨w7.heap.size, 1, none⟩) (show w7.heap.size < _ by (try simp) <;> (try omega)) (by show w7.heap.size < _ ∨ _ ≤ w7.heap.size; omega)]
    exact q14_3_1
  have q15_3_2 : w15.cell? ⟨w7.heap.size, 2, none⟩ = some (.bool R.1.1.priv) := by
    rw [hb15.cell (p := ⟨w7.heap.size, 2, none⟩) (show w7.heap.size < _ by (try simp) <;> (try omega)) (by show w7.heap.size < _ ∨ _ ≤ w7.heap.size; omega)]
    exact q14_3_2
  have q15_3_3 : w15.cell? ⟨w7.heap.size, 3, none⟩ = some (.string R.1.1.text) := by
    rw [hb15.cell (p := ⟨w7.heap.size, 3, none⟩) (show w7.heap.size < _ by (try simp) <;> (try omega)) (by show w7.heap.size < _ ∨ _ ≤ w7.heap.size; omega)]
    exact q14_3_3
  have q15_3_4 : w15.cell? ⟨w7.heap.size, 4, none⟩ = some (.string R.1.1.utf) := by
    rw [hb15.cell (p := ⟨w7.heap.size, 4, none⟩) (show w7.heap.size < _ by (try simp) <;> (try omega)) (by show w7.heap.size < _ ∨ _ ≤ w7.heap.size; omega)]
    exact q14_3_4
  have hl15_3 : w7.heap.size < w15.heap.size := by omega
  clear q14_3_0 q14_3_1 q14_3_2 q14_3_3 q14_3_4
  have HB15 : Hid (Below w.heap.size w w15) := HB14.out.trans (hb15.below (by omega) (by (try simp) <;> (try omega)))
  clear hb15
  clear HY614
  go_wp2_with fail
  refine (eqParser_same a7 a4 c7 c4 R.1.1 _ HI715.out.sl HS15.out.sl (by have := HSZ.out.args; omega)).mono ?_
  rintro e w16 ⟨rfl, hb16⟩
  have hz16 := hb16.size
  have HS16 := Lib.hid (HS15.out.below hb16)
  clear HS15
  have HI716 := Lib.hid (HI715.out.below hb16)
  clear HI715
  have q16_0_0 : w16.cell? ⟨w.heap.size, 0, none⟩ = some (.int .i64 p.state) := by
    rw [hb16.cell (p := ⟨w.heap.size, 0, none⟩) (show w.heap.size < _ by (try simp) <;> (try omega))]
    exact q15_0_0
  have q16_0_1 : w16.cell? ⟨w.heap.size, 1, none⟩ = some (.slice ap p.args.length cp) := by
    rw [hb16.cell (p := ⟨w.heap.size, 1, none⟩) (show w.heap.size < _ by (try simp) <;> (try omega))]
    exact q15_0_1
  have q16_0_2 : w16.cell? ⟨w.heap.size, 2, none⟩ = some (.bool p.priv) := by
    rw [hb16.cell (p := ⟨w.heap.size, 2, none⟩) (show w.heap.size < _ by (try simp) <;> (try omega))]
    exact q15_0_2
  have q16_0_3 : w16.cell? ⟨w.heap.size, 3, none⟩ = some (.string p.text) := by
    rw [hb16.cell (p := ⟨w.heap.size, 3, none⟩) (show w.heap.size < _ by (try simp) <;> (try omega))]
    exact q15_0_3
  have q16_0_4 : w16.cell? ⟨w.heap.size, 4, none⟩ = some (.string p.utf) := by
    rw [hb16.cell (p := ⟨w.heap.size, 4, none⟩) (show w.heap.size < _ by (try simp) <;> (try omega))]
    exact q15_0_4
  have hl16_0 : w.heap.size < w16.heap.size := by omega
  clear q15_0_0 q15_0_1 q15_0_2 q15_0_3 q15_0_4
  have q16_1_0 : w16.cell? ⟨w4.heap.size, 0, none⟩ = some (.int .i64 R.1.1.state) := by
    rw [hb16.cell (p := ⟨w4.heap.size, 0, none⟩) (show w4.heap.size < _ by (try simp) <;> (try omega))]
    exact q15_1_0
  have q16_1_1 : w16.cell? ⟨w4.heap.size, 1, none⟩ = some (.slice a4 R.1.1.args.length c4) := by
    rw [hb16.cell (p := ⟨w4.heap.size, 1, none⟩) (show w4.heap.size < _ by (try simp) <;> (try omega))]
    exact q15_1_1
  have q16_1_2 : w16.cell? ⟨w4.heap.size, 2, none⟩ = some (.bool R.1.1.priv) := by
    rw [hb16.cell (p := ⟨w4.heap.size, 2, none⟩) (show w4.heap.size < _ by (try simp) <;> (try omega))]
    exact q15_1_2
  have q16_1_3 : w16.cell? ⟨w4.heap.size, 3, none⟩ = some (.string R.1.1.text) := by
    rw [hb16.cell (p := ⟨w4.heap.size, 3, none⟩) (show w4.heap.size < _ by (try simp) <;> (try omega))]
    exact q15_1_3
  have q16_1_4 : w16.cell? ⟨w4.heap.size, 4, none⟩ = some (.string R.1.1.utf) := by
    rw [hb16.cell (p := ⟨w4.heap.size, 4, none⟩) (show w4.heap.size < _ by (try simp) <;> (try omega))]
    exact q15_1_4
  have hl16_1 : w4.heap.size < w16.heap.size := by omega
  clear q15_1_0 q15_1_1 q15_1_2 q15_1_3 q15_1_4
  have q16_2_0 : w16.cell? ⟨w5.heap.size, 0, none⟩ = some (.int .i64 p.state) := by
    rw [hb16.cell (p := ⟨w5.heap.size, 0, none⟩) (show w5.heap.size < _ by (try simp) <;> (try omega))]
    exact q15_2_0
  have q16_2_1 : w16.cell? ⟨w5.heap.size, 1, none⟩ = some (.slice a5 p.args.length c5) := by
    rw [hb16.cell (p := ⟨w5.heap.size, 1, none⟩) (show w5.heap.size < _ by (try simp) <;> (try omega))]
    exact q15_2_1
  have q16_2_2 : w16.cell? ⟨w5.heap.size, 2, none⟩ = some (.bool p.priv) := by
    rw [hb16.cell (p := ⟨w5.heap.size, 2, none⟩) (show w5.heap.size < _ by (try simp) <;> (try omega))]
    exact q15_2_2
  have q16_2_3 : w16.cell? ⟨w5.heap.size, 3, none⟩ = some (.string p.text) := by
    rw [hb16.cell (p := ⟨w5.heap.size, 3, none⟩) (show w5.heap.size < _ by (try simp) <;> (try omega))]
    exact q15_2_3
  have q16_2_4 : w16.cell? ⟨w5.heap.size, 4, none⟩ = some (.string p.utf) := by
    rw [hb16.cell (p := ⟨w5.heap.size, 4, none⟩) (show w5.heap.size < _ by (try simp) <;> (try omega))]
    exact q15_2_4
  have hl16_2 : w5.heap.size < w16.heap.size := by omega
  clear q15_2_0 q15_2_1 q15_2_2 q15_2_3 q15_2_4
  have q16_3_0 : w16.cell? ⟨w7.heap.size, 0, none⟩ = some (.int .i64 R.1.1.state) := by
    rw [hb16.cell (p := ⟨w7.heap.size, 0, none⟩) (show w7.heap.size < _ by (try simp) <;> (try omega))]
    exact q15_3_0
  have q16_3_1 : w16.cell? ⟨w7.heap.size, 1, none⟩ = some (.slice a7 R.1.1.args.length c7) := by
    rw [hb16.cell (p := ⟨w7.heap.size, 1, none⟩) (show w7.heap.size < _ by (try simp) <;> (try omega))]
    exact q15_3_1
  have q16_3_2 : w16.cell? ⟨w7.heap.size, 2, none⟩ = some (.bool R.1.1.priv) := by
    rw [hb16.cell (p := ⟨w7.heap.size, 2, none⟩) (show w7.heap.size < _ by (try simp) <;> (try omega))]
    exact q15_3_2
  have q16_3_3 : w16.cell? ⟨w7.heap.size, 3, none⟩ = some (.string R.1.1.text) := by
    rw [hb16.cell (p := ⟨w7.heap.size, 3, none⟩) (show w7.heap.size < _ by (try simp) <;> (try omega))]
    exact q15_3_3
  have q16_3_4 : w16.cell? ⟨w7.heap.size, 4, none⟩ = some (.string R.1.1.utf) := by
    rw [hb16.cell (p := ⟨w7.heap.size, 4, none⟩) (show w7.heap.size < _ by (try simp) <;> (try omega))]
    exact q15_3_4
  have hl16_3 : w7.heap.size < w16.heap.size := by omega
  clear q15_3_0 q15_3_1 q15_3_2 q15_3_3 q15_3_4
  have HB16 : Hid (Below w.heap.size w w16) := HB15.out.trans (hb16.mono (by (try simp) <;> (try omega)))
  clear hb16
  go_wp2_with fail
  refine (eqActionS_same al7 al4 cl7 cl4 rs7 rs4 _ HI716.out.acts HS16.out.acts (HRS4.out.trans HRS7.out.symm) (HSZ.out.ar HRS7.out) (HSZ.out.ln HRS7.out)).mono ?_
  rintro e w17 ⟨rfl, hb17⟩
  have hz17 := hb17.size
  have HS17 := Lib.hid (HS16.out.below hb17)
  clear HS16
  have HI717 := Lib.hid (HI716.out.below hb17)
  clear HI716
  have q17_0_0 : w17.cell? ⟨w.heap.size, 0, none⟩ = some (.int .i64 p.state) := by
    rw [hb17.cell (p := ⟨w.heap.size, 0, none⟩) (show w.heap.size < _ by (try simp) <;> (try omega))]
    exact q16_0_0
  have q17_0_1 : w17.cell? ⟨w.heap.size, 1, none⟩ = some (.slice ap p.args.length cp) := by
    rw [hb17.cell (p := ⟨w.heap.size, 1, none⟩) (show w.heap.size < _ by (try simp) <;> (try omega))]
    exact q16_0_1
  have q17_0_2 : w17.cell? ⟨w.heap.size, 2, none⟩ = some (.bool p.priv) := by
    rw [hb17.cell (p := ⟨w.heap.size, 2, none⟩) (show w.heap.size < _ by (try simp) <;> (try omega))]
    exact q16_0_2
  have q17_0_3 : w17.cell? ⟨w.heap.size, 3, none⟩ = some (.string p.text) := by
    rw [hb17.cell (p := ⟨w.heap.size, 3, none⟩) (show w.heap.size < _ by (try simp) <;> (try omega))]
    exact q16_0_3
  have q17_0_4 : w17.cell? ⟨w.heap.size, 4, none⟩ = some (.string p.utf) := by
    rw [hb17.cell (p := ⟨w.heap.size, 4, none⟩) (show w.heap.size < _ by (try simp) <;> (try omega))]
    exact q16_0_4
  have hl17_0 : w.heap.size < w17.heap.size := by omega
  clear q16_0_0 q16_0_1 q16_0_2 q16_0_3 q16_0_4
  have q17_1_0 : w17.cell? ⟨w4.heap.size, 0, none⟩ = some (.int .i64 R.1.1.state) := by
    rw [hb17.cell (p := ⟨w4.heap.size, 0, none⟩) (show w4.heap.size < _ by (try simp) <;> (try omega))]
    exact q16_1_0
  have q17_1_1 : w17.cell? ⟨w4.heap.size, 1, none⟩ = some (.slice a4 R.1.1.args.length c4) := by
    rw [hb17.cell (p := ⟨w4.heap.size, 1, none⟩) (show w4.heap.size < _ by (try simp) <;> (try omega))]
    exact q16_1_1
  have q17_1_2 : w17.cell? ⟨w4.heap.size, 2, none⟩ = some (.bool R.1.1.priv) := by
    rw [hb17.cell (p := ⟨w4.heap.size, 2, none⟩) (show w4.heap.size < _ by (try simp) <;> (try omega))]
    exact q16_1_2
  have q17_1_3 : w17.cell? ⟨w4.heap.size, 3, none⟩ = some (.string R.1.1.text) := by
    rw [hb17.cell (p := ⟨w4.heap.size, 3, none⟩) (show w4.heap.size < _ by (try simp) <;> (try omega))]
    exact q16_1_3
  have q17_1_4 : w17.cell? ⟨w4.heap.size, 4, none⟩ = some (.string R.1.1.utf) := by
    rw [hb17.cell (p := ⟨w4.heap.size, 4, none⟩) (show w4.heap.size < _ by (try simp) <;> (try omega))]
    exact q16_1_4
  have hl17_1 : w4.heap.size < w17.heap.size := by omega
  clear q16_1_0 q16_1_1 q16_1_2 q16_1_3 q16_1_4
  have q17_2_0 : w17.cell? ⟨w5.heap.size, 0, none⟩ = some (.int .i64 p.state) := by
    rw [hb17.cell (p := ⟨w5.heap.size, 0, none⟩) (show w5.heap.size < _ by (try simp) <;> (try omega))]
    exact q16_2_0
  have q17_2_1 : w17.cell? ⟨w5.heap.size, 1, none⟩ = some (.slice a5 p.args.length c5) := by
    rw [hb17.cell (p := ⟨w5.heap.size, 1, none⟩) (show w5.heap.size < _ by (try simp) <;> (try omega))]
    exact q16_2_1
  have q17_2_2 : w17.cell? ⟨w5.heap.size, 2, none⟩ = some (.bool p.priv) := by
    rw [hb17.cell (p := ⟨w5.heap.size, 2, none⟩) (show w5.heap.size < _ by (try simp) <;> (try omega))]
    exact q16_2_2
  have q17_2_3 : w17.cell? ⟨w5.heap.size, 3, none⟩ = some (.string p.text) := by
    rw [hb17.cell (p := ⟨w5.heap.size, 3, none⟩) (show w5.heap.size < _ by (try simp) <;> (try omega))]
    exact q16_2_3
  have q17_2_4 : w17.cell? ⟨w5.heap.size, 4, none⟩ = some (.string p.utf) := by
    rw [hb17.cell (p := ⟨w5.heap.size, 4, none⟩) (show w5.heap.size < _ by (try simp) <;> (try omega))]
    exact q16_2_4
  have hl17_2 : w5.heap.size < w17.heap.size := by omega
  clear q16_2_0 q16_2_1 q16_2_2 q16_2_3 q16_2_4
  have q17_3_0 : w17.cell? ⟨w7.heap.size, 0, none⟩ = some (.int .i64 R.1.1.state) := by
    rw [hb17.cell (p := ⟨w7.heap.size, 0, none⟩) (show w7.heap.size < _ by (try simp) <;> (try omega))]
    exact q16_3_0
  have q17_3_1 : w17.cell? ⟨w7.heap.size, 1, none⟩ = some (.slice a7 R.1.1.args.length c7) := by
    rw [hb17.cell (p := ⟨w7.heap.size, 1, none⟩) (show w7.heap.size < _ by (try simp) <;> (try omega))]
    exact q16_3_1
  have q17_3_2 : w17.cell? ⟨w7.heap.size, 2, none⟩ = some (.bool R.1.1.priv) := by
    rw [hb17.cell (p := ⟨w7.heap.size, 2, none⟩) (show w7.heap.size < _ by (try simp) <;> (try omega))]
    exact q16_3_2
  have q17_3_3 : w17.cell? ⟨w7.heap.size, 3, none⟩ = some (.string R.1.1.text) := by
    rw [hb17.cell (p := ⟨w7.heap.size, 3, none⟩) (show w7.heap.size < _ by (try simp) <;> (try omega))]
    exact q16_3_3
  have q17_3_4 : w17.cell? ⟨w7.heap.size, 4, none⟩ = some (.string R.1.1.utf) := by
    rw [hb17.cell (p := ⟨w7.heap.size, 4, none⟩) (show w7.heap.size < _ by (try simp) <;> (try omega))]
    exact q16_3_4
  have hl17_3 : w7.heap.size < w17.heap.size := by omega
  clear q16_3_0 q16_3_1 q16_3_2 q16_3_3 q16_3_4
  have HB17 : Hid (Below w.heap.size w w17) := HB16.out.trans (hb17.mono (by (try simp) <;> (try omega)))
  clear hb17
  go_wp2_with fail
  refine (markG_c (w6.heap.size) (w7.heap.size) R.1.1 a7 al7 c7 cl7 1 rs7 _ HI717.out (by omega) (by have := HSZ.out.args; omega)).mono ?_
  rw [HM0.out]
  rintro e w18 ⟨rfl, hk18, hb18⟩
  have hz18 := hb18.size
  have HJ18 := Lib.hid hk18
  clear hk18
  have HS18 := Lib.hid (HS17.out.mid hb18 (by omega))
  clear HS17
  have q18_0_0 : w18.cell? ⟨w.heap.size, 0, none⟩ = some (.int .i64 p.state) := by
    rw [hb18.cell (p := ⟨w.heap.size, 0, none⟩) (show w.heap.size < _ by (try simp) <;> (try omega)) (by show w.heap.size < _ ∨ _ ≤ w.heap.size; omega)]
    exact q17_0_0
  have q18_0_1 : w18.cell? ⟨w.heap.size, 1, none⟩ = some (.slice ap p.args.length cp) := by
    rw [hb18.cell (p := ⟨w.heap.size, 1, none⟩) (show w.heap.size < _ by (try simp) <;> (try omega)) (by show w.heap.size < _ ∨ _ ≤ w.heap.size; omega)]
    exact q17_0_1
  have q18_0_2 : w18.cell? ⟨w.heap.size, 2, none⟩ = some (.bool p.priv) := by
    rw [hb18.cell (p := ⟨w.heap.size, 2, none⟩) (show w.heap.size < _ by (try simp) <;> (try omega)) (by show w.heap.size < _ ∨ _ ≤ w.heap.size; omega)]
    exact q17_0_2
  have q18_0_3 : w18.cell? ⟨w.heap.size, 3, none⟩ = some (.string p.text) := by
    rw [hb18.cell (p := ⟨w.heap.size, 3, none⟩) (show w.heap.size < _ by (try simp) <;> (try omega)) (by show w.heap.size < _ ∨ _ ≤ w.heap.size; omega)]
    exact q17_0_3
  have q18_0_4 : w18.cell? ⟨w.heap.size, 4, none⟩ = some (.string p.utf) := by
    rw [hb18.cell (p := ⟨w.heap.size, 4, none⟩) (show w.heap.size < _ by (try simp) <;> (try omega)) (by show w.heap.size < _ ∨ _ ≤ w.heap.size; omega)]
    exact q17_0_4
  have hl18_0 : w.heap.size < w18.heap.size := by omega
  clear q17_0_0 q17_0_1 q17_0_2 q17_0_3 q17_0_4
  have q18_1_0 : w18.cell? ⟨w4.heap.size, 0, none⟩ = some (.int .i64 R.1.1.state) := by
    rw [hb18.cell (p := ⟨w4.heap.size, 0, none⟩) (show w4.heap.size < _ by (try simp) <;> (try omega)) (by show w4.heap.size < _ ∨ _ ≤ w4.heap.size; omega)]
    exact q17_1_0
  have q18_1_1 : w18.cell? ⟨w4.heap.size, 1, none⟩ = some (.slice a4 R.1.1.args.length c4) := by
    rw [hb18.cell (p := ⟨w4.heap.size, 1, none⟩) (show w4.heap.size < _ by (try simp) <;> (try omega)) (by show w4.heap.size < _ ∨ _ ≤ w4.heap.size; omega)]
    exact q17_1_1
  have q18_1_2 : w18.cell? ⟨w4.heap.size, 2, none⟩ = some (.bool R.1.1.priv) := by
    rw [hb18.cell (p := ⟨w4.heap.size, 2, none⟩) (show w4.heap.size < _ by (try simp) <;> (try omega)) (by show w4.heap.size < _ ∨ _ ≤ w4.heap.size; omega)]
    exact q17_1_2
  have q18_1_3 : w18.cell? ⟨w4.heap.size, 3, none⟩ = some (.string R.1.1.text) := by
    rw [hb18.cell (p := ⟨w4.heap.size, 3, none⟩) (show w4.heap.size < _ by (try simp) <;> (try omega)) (by show w4.heap.size < _ ∨ _ ≤ w4.heap.size; omega)]
    exact q17_1_3
  have q18_1_4 : w18.cell? ⟨w4.heap.size, 4, none⟩ = some (.string R.1.1.utf) := by
    rw [hb18.cell (p := ⟨w4.heap.size, 4, none⟩) (show w4.heap.size < _ by (try simp) <;> (try omega)) (by show w4.heap.size < _ ∨ _ ≤ w4.heap.size; omega)]
    exact q17_1_4
  have hl18_1 : w4.heap.size < w18.heap.size := by omega
  clear q17_1_0 q17_1_1 q17_1_2 q17_1_3 q17_1_4
  have q18_2_0 : w18.cell? ⟨w5.heap.size, 0, none⟩ = some (.int .i64 p.state) := by
    rw [hb18.cell (p := ⟨w5.heap.size, 0, none⟩) (show w5.heap.size < _ by (try simp) <;> (try omega)) (by show w5.heap.size < _ ∨ _ ≤ w5.heap.size; omega)]
    exact q17_2_0
  have q18_2_1 : w18.cell? ⟨w5.heap.size, 1, none⟩ = some (.slice a5 p.args.length c5) := by
    rw [hb18.cell (p := ⟨w5.heap.size, 1, none⟩) (show w5.heap.size < _ by (try simp) <;> (try omega)) (by show w5.heap.size < _ ∨ _ ≤ w5.heap.size; omega)]
    exact q17_2_1
  have q18_2_2 : w18.cell? ⟨w5.heap.size, 2, none⟩ = some (.bool p.priv) := by
    rw [hb18.cell (p := ⟨w5.heap.size, 2, none⟩) (show w5.heap.size < _ by (try simp) <;> (try omega)) (by show w5.heap.size < _ ∨ _ ≤ w5.heap.size; omega)]
    exact q17_2_2
  have q18_2_3 : w18.cell? ⟨w5.heap.size, 3, none⟩ = some (.string p.text) := by
    rw [hb18.cell (p := ⟨w5.heap.size, 3, none⟩) (show w5.heap.size < _ by (try simp) <;> (try omega)) (by show w5.heap.size < _ ∨ _ ≤ w5.heap.size; omega)]
    exact q17_2_3
  have q18_2_4 : w18.cell? ⟨w5.heap.size, 4, none⟩ = some (.string p.utf) := by
    rw [hb18.cell (p := ⟨w5.heap.size, 4, none⟩) (show w5.heap.size < _ by (try simp) <;> (try omega)) (by show w5.heap.size < _ ∨ _ ≤ w5.heap.size; omega)]
    exact q17_2_4
  have hl18_2 : w5.heap.size < w18.heap.size := by omega
  clear q17_2_0 q17_2_1 q17_2_2 q17_2_3 q17_2_4
  have q18_3_0 : w18.cell? ⟨w7.heap.size, 0, none⟩ = some (.int .i64 R.1.1.state) := by
    rw [hb18.cell (p := ⟨w7.heap.size, 0, none⟩) (show w7.heap.size < _ by (try simp) <;> (try omega)) (by show w7.heap.size < _ ∨ _ ≤ w7.heap.size; omega)]
    exact q17_3_0
  have q18_3_1 : w18.cell? ⟨w7.heap.size, 1, none⟩ = some (.slice a7 R.1.1.args.length c7) := by
    rw [hb18.cell (p := ⟨w7.heap.size, 1, none⟩) (show w7.heap.size < _ by (try simp) <;> (try omega)) (by show w7.heap.size < _ ∨ _ ≤ w7.heap.size; omega)]
    exact q17_3_1
  have q18_3_2 : w18.cell? ⟨w7.heap.size, 2, none⟩ = some (.bool R.1.1.priv) := by
    rw [hb18.cell (p := ⟨w7.heap.size, 2, none⟩) (show w7.heap.size < _ by (try simp) <;> (try omega)) (by show w7.heap.size < _ ∨ _ ≤ w7.heap.size; omega)]
    exact q17_3_2
  have q18_3_3 : w18.cell? ⟨w7.heap.size, 3, none⟩ = some (.string R.1.1.text) := by
    rw [hb18.cell (p := ⟨w7.heap.size, 3, none⟩) (show w7.heap.size < _ by (try simp) <;> (try omega)) (by show w7.heap.size < _ ∨ _ ≤ w7.heap.size; omega)]
    exact q17_3_3
  have q18_3_4 : w18.cell? ⟨w7.heap.size, 4, none⟩ = some (.string R.1.1.utf) := by
    rw [hb18.cell (p := ⟨w7.heap.size, 4, none⟩) (show w7.heap.size < _ by (try simp) <;> (try omega)) (by show w7.heap.size < _ ∨ _ ≤ w7.heap.size; omega)]
    exact q17_3_4
  have hl18_3 : w7.heap.size < w18.heap.size := by omega
  clear q17_3_0 q17_3_1 q17_3_2 q17_3_3 q17_3_4
  have HB18 : Hid (Below w.heap.size w w18) := HB17.out.trans (hb18.below (by omega) (by (try simp) <;> (try omega)))
  clear hb18
  clear HI717
  obtain ⟨M1, hM1⟩ : ∃ K, actionNum M0 rs7 = K := ⟨_, rfl⟩
  have HM1 := Lib.hid hM1
  have HM1b : Hid (actionNum M0 rs7 ≤ 17592186044416) := Lib.hid (HSZ.out.num HRS7.out (by have := HM0b.out; omega))
  have g2 : decide ((M1 : Int) < 0) = false := decide_eq_false (by omega)
  clear hM1
  go_wp2_with fail
  refine (markA_c (w6.heap.size) (w7.heap.size) (intMk R.1.1.args.length 1) a7 al7 c7 cl7 M0 rs7 _ HJ18.out HM1b.out).mono ?_
  rw [HM1.out]
  rintro e w19 ⟨rfl, hk19, hb19⟩
  have hz19 := hb19.size
  have HK_19 := Lib.hid hk19
  clear hk19
  have HS19 := Lib.hid (HS18.out.mid hb19 (by omega))
  clear HS18
  have q19_0_0 : w19.cell? ⟨w.heap.size, 0, none⟩ = some (.int .i64 p.state) := by
    rw [hb19.cell (p := ⟨w.heap.size, 0, none⟩) (show w.heap.size < _ by (try simp) <;> (try omega)) (by show w.heap.size < _ ∨ _ ≤ w.heap.size; omega)]
    exact q18_0_0
  have q19_0_1 : w19.cell? ⟨w.heap.size, 1, none⟩ = some (.slice ap p.args.length cp) := by
    rw [hb19.cell (p := ⟨w.heap.size, 1, none⟩) (show w.heap.size < _ by (try simp) <;> (try omega)) (by show w.heap.size < _ ∨ _ ≤ w.heap.size; omega)]
    exact q18_0_1
  have q19_0_2 : w19.cell? ⟨w.heap.size, 2, none⟩ = some (.bool p.priv) := by
    rw [hb19.cell (p := ⟨w.heap.size, 2, none⟩) (show w.heap.size < _ by (try simp) <;> (try omega)) (by show w.heap.size < _ ∨ _ ≤ w.heap.size; omega)]
    exact q18_0_2
  have q19_0_3 : w19.cell? ⟨w.heap.size, 3, none⟩ = some (.string p.text) := by
    rw [hb19.cell (p := ⟨w.heap.size, 3, none⟩) (show w.heap.size < _ by (try simp) <;> (try omega)) (by show w.heap.size < _ ∨ _ ≤ w.heap.size; omega)]
    exact q18_0_3
  have q19_0_4 : w19.cell? ⟨w.heap.size, 4, none⟩ = some (.string p.utf) := by
    rw [hb19.cell (p := ⟨w.heap.size, 4, none⟩) (show w.heap.size < _ by (try simp) <;> (try omega)) (by show w.heap.size < _ ∨ _ ≤ w.heap.size; omega)]
    exact q18_0_4
  have hl19_0 : w.heap.size < w19.heap.size := by omega
  clear q18_0_0 q18_0_1 q18_0_2 q18_0_3 q18_0_4
  have q19_1_0 : w19.cell? ⟨w4.heap.size, 0, none⟩ = some (.int .i64 R.1.1.state) := by
    rw [hb19.cell (p := ⟨w4.heap.size, 0, none⟩) (show w4.heap.size < _ by (try simp) <;> (try omega)) (by show w4.heap.size < _ ∨ _ ≤ w4.heap.size; omega)]
    exact q18_1_0
  have q19_1_1 : w19.cell? ⟨w4.heap.size, 1, none⟩ = some (.slice a4 R.1.1.args.length c4) := by
    rw [hb19.cell (p := ⟨w4.heap.size, 1, none⟩) (show w4.heap.size < _ by (try simp) <;> (try omega)) (by show w4.heap.size < _ ∨ _ ≤ w4.heap.size; omega)]
    exact q18_1_1
  have q19_1_2 : w19.cell? ⟨w4.heap.size, 2, none⟩ = some (.bool R.1.1.priv) := by
    rw [hb19.cell (p := ⟨w4.heap.size, 2, none⟩) (show w4.heap.size < _ by (try simp) <;> (try omega)) (by show w4.heap.size < _ ∨ _ ≤ w4.heap.size; omega)]
    exact q18_1_2
  have q19_1_3 : w19.cell? ⟨w4.heap.size, 3, none⟩ = some (.string R.1.1.text) := by
    rw [hb19.cell (p := ⟨w4.heap.size, 3, none⟩) (show w4.heap.size < _ by (try simp) <;> (try omega)) (by show w4.heap.size < _ ∨ _ ≤ w4.heap.size; omega)]
    exact q18_1_3
  have q19_1_4 : w19.cell? ⟨w4.heap.size, 4, none⟩ = some (.string R.1.1.utf) := by
    rw [hb19.cell (p := ⟨w4.heap.size, 4, none⟩) (show w4.heap.size < _ by (try simp) <;> (try omega)) (by show w4.heap.size < _ ∨ _ ≤ w4.heap.size; omega)]
    exact q18_1_4
  have hl19_1 : w4.heap.size < w19.heap.size := by omega
  clear q18_1_0 q18_1_1 q18_1_2 q18_1_3 q18_1_4
  have q19_2_0 : w19.cell? ⟨w5.heap.size, 0, none⟩ = some (.int .i64 p.state) := by
    rw [hb19.cell (p := ⟨w5.heap.size, 0, none⟩) (show w5.heap.size < _ by (try simp) <;> (try omega)) (by show w5.heap.size < _ ∨ _ ≤ w5.heap.size; omega)]
    exact q18_2_0
  have q19_2_1 : w19.cell? ⟨w5.heap.size, 1, none⟩ = some (.slice a5 p.args.length c5) := by
    rw [hb19.cell (p := ⟨w5.heap.size, 1, none⟩) (show w5.heap.size < _ by (try simp) <;> (try omega)) (by show w5.heap.size < _ ∨ _ ≤ w5.heap.size; omega)]
    exact q18_2_1
  have q19_2_2 : w19.cell? ⟨w5.heap.size, 2, none⟩ = some (.bool p.priv) := by
    rw [hb19.cell (p := ⟨w5.heap.size, 2, none⟩) (show w5.heap.size < _ by (try simp) <;> (try omega)) (by show w5.heap.size < _ ∨ _ ≤ w5.heap.size; omega)]
    exact q18_2_2
  have q19_2_3 : w19.cell? ⟨w5.heap.size, 3, none⟩ = some (.string p.text) := by
    rw [hb19.cell (p := ⟨w5.heap.size, 3, none⟩) (show w5.heap.size < _ by (try simp) <;> (try omega)) (by show w5.heap.size < _ ∨ _ ≤ w5.heap.size; omega)]
    exact q18_2_3
  have q19_2_4 : w19.cell? ⟨w5.heap.size, 4, none⟩ = some (.string p.utf) := by
    rw [hb19.cell (p := ⟨w5.heap.size, 4, none⟩) (show w5.heap.size < _ by (try simp) <;> (try omega)) (by show w5.heap.size < _ ∨ _ ≤ w5.heap.size; omega)]
    exact q18_2_4
  have hl19_2 : w5.heap.size < w19.heap.size := by omega
  clear q18_2_0 q18_2_1 q18_2_2 q18_2_3 q18_2_4
  have q19_3_0 : w19.cell? ⟨w7.heap.size, 0, none⟩ = some (.int .i64 R.1.1.state) := by
    rw [hb19.cell (p := ⟨w7.heap.size, 0, none⟩) (show w7.heap.size < _ by (try simp) <;> (try omega)) (by show w7.heap.size < _ ∨ _ ≤ w7.heap.size; omega)]
    exact q18_3_0
  have q19_3_1 : w19.cell? ⟨w7.heap.size, 1, none⟩ = some (.slice a7 R.1.1.args.length c7) := by
    rw [hb19.cell (p := ⟨w7.heap.size, 1, none⟩) (show w7.heap.size < _ by (try simp) <;> (try omega)) (by show w7.heap.size < _ ∨ _ ≤ w7.heap.size; omega)]
    exact q18_3_1
  have q19_3_2 : w19.cell? ⟨w7.heap.size, 2, none⟩ = some (.bool R.1.1.priv) := by
    rw [hb19.cell (p := ⟨w7.heap.size, 2, none⟩) (show w7.heap.size < _ by (try simp) <;> (try omega)) (by show w7.heap.size < _ ∨ _ ≤ w7.heap.size; omega)]
    exact q18_3_2
  have q19_3_3 : w19.cell? ⟨w7.heap.size, 3, none⟩ = some (.string R.1.1.text) := by
    rw [hb19.cell (p := ⟨w7.heap.size, 3, none⟩) (show w7.heap.size < _ by (try simp) <;> (try omega)) (by show w7.heap.size < _ ∨ _ ≤ w7.heap.size; omega)]
    exact q18_3_3
  have q19_3_4 : w19.cell? ⟨w7.heap.size, 4, none⟩ = some (.string R.1.1.utf) := by
    rw [hb19.cell (p := ⟨w7.heap.size, 4, none⟩) (show w7.heap.size < _ by (try simp) <;> (try omega)) (by show w7.heap.size < _ ∨ _ ≤ w7.heap.size; omega)]
    exact q18_3_4
  have hl19_3 : w7.heap.size < w19.heap.size := by omega
  clear q18_3_0 q18_3_1 q18_3_2 q18_3_3 q18_3_4
  have HB19 : Hid (Below w.heap.size w w19) := HB18.out.trans (hb19.below (by omega) (by (try simp) <;> (try omega)))
  clear hb19
  clear HJ18
  go_wp2_with fail
  refine (heldH_c (w6.heap.size) (w7.heap.size) R.1.1 a7 al7 c7 1 (acMk rs7 M0) _ HK_19.out (by have := HSZ.out.args; omega)).mono ?_
  rw [HM0.out]
  rintro e w20 ⟨rfl, hb20⟩
  have hz20 := hb20.size
  have HS20 := Lib.hid (HS19.out.below hb20)
  clear HS19
  have HK20 := Lib.hid (HK_19.out.below hb20)
  clear HK_19
  have q20_0_0 : w20.cell? ⟨w.heap.size, 0, none⟩ = some (.int .i64 p.state) := by
    rw [hb20.cell (p := ⟨w.heap.size, 0, none⟩) (show w.heap.size < _ by (try simp) <;> (try omega))]
    exact q19_0_0
  have q20_0_1 : w20.cell? ⟨w.heap.size, 1, none⟩ = some (.slice ap p.args.length cp) := by
    rw [hb20.cell (p := ⟨w.heap.size, 1, none⟩) (show w.heap.size < _ by (try simp) <;> (try omega))]
    exact q19_0_1
  have q20_0_2 : w20.cell? ⟨w.heap.size, 2, none⟩ = some (.bool p.priv) := by
    rw [hb20.cell (p := ⟨w.heap.size, 2, none⟩) (show w.heap.size < _ by (try simp) <;> (try omega))]
    exact q19_0_2
  have q20_0_3 : w20.cell? ⟨w.heap.size, 3, none⟩ = some (.string p.text) := by
    rw [hb20.cell (p := ⟨w.heap.size, 3, none⟩) (show w.heap.size < _ by (try simp) <;> (try omega))]
    exact q19_0_3
  have q20_0_4 : w20.cell? ⟨w.heap.size, 4, none⟩ = some (.string p.utf) := by
    rw [hb20.cell (p := ⟨w.heap.size, 4, none⟩) (show w.heap.size < _ by (try simp) <;> (try omega))]
    exact q19_0_4
  have hl20_0 : w.heap.size < w20.heap.size := by omega
  clear q19_0_0 q19_0_1 q19_0_2 q19_0_3 q19_0_4
  have q20_1_0 : w20.cell? ⟨w4.heap.size, 0, none⟩ = some (.int .i64 R.1.1.state) := by
    rw [hb20.cell (p := ⟨w4.heap.size, 0, none⟩) (show w4.heap.size < _ by (try simp) <;> (try omega))]
    exact q19_1_0
  have q20_1_1 : w20.cell? ⟨w4.heap.size, 1, none⟩ = some (.slice a4 R.1.1.args.length c4) := by
    rw [hb20.cell (p := ⟨w4.heap.size, 1, none⟩) (show w4.heap.size < _ by (try simp) <;> (try omega))]
    exact q19_1_1
  have q20_1_2 : w20.cell? ⟨w4.heap.size, 2, none⟩ = some (.bool R.1.1.priv) := by
    rw [hb20.cell (p := ⟨w4.heap.size, 2, none⟩) (show w4.heap.size < _ by (try simp) <;> (try omega))]
    exact q19_1_2
  have q20_1_3 : w20.cell? ⟨w4.heap.size, 3, none⟩ = some (.string R.1.1.text) := by
    rw [hb20.cell (p := ⟨w4.heap.size, 3, none⟩) (show w4.heap.size < _ by (try simp) <;> (try omega))]
    exact q19_1_3
  have q20_1_4 : w20.cell? ⟨w4.heap.size, 4, none⟩ = some (.string R.1.1.utf) := by
    rw [hb20.cell (p := ⟨w4.heap.size, 4, none⟩) (show w4.heap.size < _ by (try simp) <;> (try omega))]
    exact q19_1_4
  have hl20_1 : w4.heap.size < w20.heap.size := by omega
  clear q19_1_0 q19_1_1 q19_1_2 q19_1_3 q19_1_4
  have q20_2_0 : w20.cell? ⟨w5.heap.size, 0, none⟩ = some (.int .i64 p.state) := by
    rw [hb20.cell (p := ⟨w5.heap.size, 0, none⟩) (show w5.heap.size < _ by (try simp) <;> (try omega))]
    exact q19_2_0
  have q20_2_1 : w20.cell? ⟨w5.heap.size, 1, none⟩ = some (.slice a5 p.args.length c5) := by
    rw [hb20.cell (p := ⟨w5.heap.size, 1, none⟩) (show w5.heap.size < _ by (try simp) <;> (try omega))]
    exact q19_2_1
  have q20_2_2 : w20.cell? ⟨w5.heap.size, 2, none⟩ = some (.bool p.priv) := by
    rw [hb20.cell (p := ⟨w5.heap.size, 2, none⟩) (show w5.heap.size < _ by (try simp) <;> (try omega))]
    exact q19_2_2
  have q20_2_3 : w20.cell? ⟨w5.heap.size, 3, none⟩ = some (.string p.text) := by
    rw [hb20.cell (p := ⟨w5.heap.size, 3, none⟩) (show w5.heap.size < _ by (try simp) <;> (try omega))]
    exact q19_2_3
  have q20_2_4 : w20.cell? ⟨w5.heap.size, 4, none⟩ = some (.string p.utf) := by
    rw [hb20.cell (p := ⟨w5.heap.size, 4, none⟩) (show w5.heap.size < _ by (try simp) <;> (try omega))]
    exact q19_2_4
  have hl20_2 : w5.heap.size < w20.heap.size := by omega
  clear q19_2_0 q19_2_1 q19_2_2 q19_2_3 q19_2_4
  have q20_3_0 : w20.cell? ⟨w7.heap.size, 0, none⟩ = some (.int .i64 R.1.1.state) := by
    rw [hb20.cell (p := ⟨w7.heap.size, 0, none⟩) (show w7.heap.size < _ by (try simp) <;> (try omega))]
    exact q19_3_0
  have q20_3_1 : w20.cell? ⟨w7.heap.size, 1, none⟩ = some (.slice a7 R.1.1.args.length c7) := by
    rw [hb20.cell (p := ⟨w7.heap.size, 1, none⟩) (show w7.heap.size < _ by (try simp) <;> (try omega))]
    exact q19_3_1
  have q20_3_2 : w20.cell? ⟨w7.heap.size, 2, none⟩ = some (.bool R.1.1.priv) := by
    rw [hb20.cell (p := ⟨w7.heap.size, 2, none⟩) (show w7.heap.size < _ by (try simp) <;> (try omega))]
    exact q19_3_2
  have q20_3_3 : w20.cell? ⟨w7.heap.size, 3, none⟩ = some (.string R.1.1.text) := by
    rw [hb20.cell (p := ⟨w7.heap.size, 3, none⟩) (show w7.heap.size < _ by (try simp) <;> (try omega))]
    exact q19_3_3
  have q20_3_4 : w20.cell? ⟨w7.heap.size, 4, none⟩ = some (.string R.1.1.utf) := by
    rw [hb20.cell (p := ⟨w7.heap.size, 4, none⟩) (show w7.heap.size < _ by (try simp) <;> (try omega))]
    exact q19_3_4
  have hl20_3 : w7.heap.size < w20.heap.size := by omega
  clear q19_3_0 q19_3_1 q19_3_2 q19_3_3 q19_3_4
  have HB20 : Hid (Below w.heap.size w w20) := HB19.out.trans (hb20.mono (by (try simp) <;> (try omega)))
  clear hb20
  go_wp2_with fail
  refine (heldA_c (w6.heap.size) (w7.heap.size) (intMk R.1.1.args.length 1) a7 al7 c7 cl7 M0 rs7 _ HK20.out HM1b.out).mono ?_
  rw [HM1.out]
  rintro e w21 ⟨rfl, hb21⟩
  have hz21 := hb21.size
  have HS21 := Lib.hid (HS20.out.below hb21)
  clear HS20
  have HK21 := Lib.hid (HK20.out.below hb21)
  clear HK20
  have q21_0_0 : w21.cell? ⟨w.heap.size, 0, none⟩ = some (.int .i64 p.state) := by
    rw [hb21.cell (p := ⟨w.heap.size, 0, none⟩) (show w.heap.size < _ by (try simp) <;> (try omega))]
    exact q20_0_0
  have q21_0_1 : w21.cell? ⟨w.heap.size, 1, none⟩ = some (.slice ap p.args.length cp) := by
    rw [hb21.cell (p := ⟨w.heap.size, 1, none⟩) (show w.heap.size < _ by (try simp) <;> (try omega))]
    exact q20_0_1
  have q21_0_2 : w21.cell? ⟨w.heap.size, 2, none⟩ = some (.bool p.priv) := by
    rw [hb21.cell (p := ⟨w.heap.size, 2, none⟩) (show w.heap.size < _ by (try simp) <;> (try omega))]
    exact q20_0_2
  have q21_0_3 : w21.cell? ⟨w.heap.size, 3, none⟩ = some (.string p.text) := by
    rw [hb21.cell (p := ⟨w.heap.size, 3, none⟩) (show w.heap.size < _ by (try simp) <;> (try omega))]
    exact q20_0_3
  have q21_0_4 : w21.cell? ⟨w.heap.size, 4, none⟩ = some (.string p.utf) := by
    rw [hb21.cell (p := ⟨w.heap.size, 4, none⟩) (show w.heap.size < _ by (try simp) <;> (try omega))]
    exact q20_0_4
  have hl21_0 : w.heap.size < w21.heap.size := by omega
  clear q20_0_0 q20_0_1 q20_0_2 q20_0_3 q20_0_4
  have q21_1_0 : w21.cell? ⟨w4.heap.size, 0, none⟩ = some (.int .i64 R.1.1.state) := by
    rw [hb21.cell (p := ⟨w4.heap.size, 0, none⟩) (show w4.heap.size < _ by (try simp) <;> (try omega))]
    exact q20_1_0
  have q21_1_1 : w21.cell? ⟨w4.heap.size, 1, none⟩ = some (.slice a4 R.1.1.args.length c4) := by
    rw [hb21.cell (p := ⟨w4.heap.size, 1, none⟩) (show w4.heap.size < _ by (try simp) <;> (try omega))]
    exact q20_1_1
  have q21_1_2 : w21.cell? ⟨w4.heap.size, 2, none⟩ = some (.bool R.1.1.priv) := by
    rw [hb21.cell (p := ⟨w4.heap.size, 2, none⟩) (show w4.heap.size < _ by (try simp) <;> (try omega))]
    exact q20_1_2
  have q21_1_3 : w21.cell? ⟨w4.heap.size, 3, none⟩ = some (.string R.1.1.text) := by
    rw [hb21.cell (p := ⟨w4.heap.size, 3, none⟩) (show w4.heap.size < _ by (try simp) <;> (try omega))]
    exact q20_1_3
  have q21_1_4 : w21.cell? ⟨w4.heap.size, 4, none⟩ = some (.string R.1.1.utf) := by
    rw [hb21.cell (p := ⟨w4.heap.size, 4, none⟩) (show w4.heap.size < _ by (try simp) <;> (try omega))]
    exact q20_1_4
  have hl21_1 : w4.heap.size < w21.heap.size := by omega
  clear q20_1_0 q20_1_1 q20_1_2 q20_1_3 q20_1_4
  have q21_2_0 : w21.cell? ⟨w5.heap.size, 0, none⟩ = some (.int .i64 p.state) := by
    rw [hb21.cell (p := ⟨w5.heap.size, 0, none⟩) (show w5.heap.size < _ by (try simp) <;> (try omega))]
    exact q20_2_0
  have q21_2_1 : w21.cell? ⟨w5.heap.size, 1, none⟩ = some (.slice a5 p.args.length c5) := by
    rw [hb21.cell (p := ⟨w5.heap.size, 1, none⟩) (show w5.heap.size < _ by (try simp) <;> (try omega))]
    exact q20_2_1
  have q21_2_2 : w21.cell? ⟨w5.heap.size, 2, none⟩ = some (.bool p.priv) := by
    rw [hb21.cell (p := ⟨w5.heap.size, 2, none⟩) (show w5.heap.size < _ by (try simp) <;> (try omega))]
    exact q20_2_2
  have q21_2_3 : w21.cell? ⟨w5.heap.size, 3, none⟩ = some (.string p.text) := by
    rw [hb21.cell (p := ⟨w5.heap.size, 3, none⟩) (show w5.heap.size < _ by (try simp) <;> (try omega))]
    exact q20_2_3
  have q21_2_4 : w21.cell? ⟨w5.heap.size, 4, none⟩ = some (.string p.utf) := by
    rw [hb21.cell (p := ⟨w5.heap.size, 4, none⟩) (show w5.heap.size < _ by (try simp) <;> (try omega))]
    exact q20_2_4
  have hl21_2 : w5.heap.size < w21.heap.size := by omega
  clear q20_2_0 q20_2_1 q20_2_2 q20_2_3 q20_2_4
  have q21_3_0 : w21.cell? ⟨w7.heap.size, 0, none⟩ = some (.int .i64 R.1.1.state) := by
    rw [hb21.cell (p := ⟨w7.heap.size, 0, none⟩) (show w7.heap.size < _ by (try simp) <;> (try omega))]
    exact q20_3_0
  have q21_3_1 : w21.cell? ⟨w7.heap.size, 1, none⟩ = some (.slice a7 R.1.1.args.length c7) := by
    rw [hb21.cell (p := ⟨w7.heap.size, 1, none⟩) (show w7.heap.size < _ by (try simp) <;> (try omega))]
    exact q20_3_1
  have q21_3_2 : w21.cell? ⟨w7.heap.size, 2, none⟩ = some (.bool R.1.1.priv) := by
    rw [hb21.cell (p := ⟨w7.heap.size, 2, none⟩) (show w7.heap.size < _ by (try simp) <;> (try omega))]
    exact q20_3_2
  have q21_3_3 : w21.cell? ⟨w7.heap.size, 3, none⟩ = some (.string R.1.1.text) := by
    rw [hb21.cell (p := ⟨w7.heap.size, 3, none⟩) (show w7.heap.size < _ by (try simp) <;> (try omega))]
    exact q20_3_3
  have q21_3_4 : w21.cell? ⟨w7.heap.size, 4, none⟩ = some (.string R.1.1.utf) := by
    rw [hb21.cell (p := ⟨w7.heap.size, 4, none⟩) (show w7.heap.size < _ by (try simp) <;> (try omega))]
    exact q20_3_4
  have hl21_3 : w7.heap.size < w21.heap.size := by omega
  clear q20_3_0 q20_3_1 q20_3_2 q20_3_3 q20_3_4
  have HB21 : Hid (Below w.heap.size w w21) := HB20.out.trans (hb21.mono (by (try simp) <;> (try omega)))
  clear hb21
  go_wp2_with fail
  refine (toParser_c ap cp p _ (HA0.out.keep HB21.out) HZ.out).mono ?_
  rintro e w22 ⟨a22, c22, rfl, hf22, hb22⟩
  have hz22 := hb22.size
  have HX2222 := Lib.hid (show FreshIn intE 3 1 (w21.heap.size) w22.heap.size (.slice a22 p.args.length c22) p.args w22 from (by simpa using hf22))
  clear hf22
  have HS22 := Lib.hid (HS21.out.below hb22)
  clear HS21
  have HK22 := Lib.hid (HK21.out.below hb22)
  clear HK21
  have q22_0_0 : w22.cell? ⟨w.heap.size, 0, none⟩ = some (.int .i64 p.state) := by
    rw [hb22.cell (p := ⟨w.heap.size, 0, none⟩) (show w.heap.size < _ by (try simp) <;> (try omega))]
    exact q21_0_0
  have q22_0_1 : w22.cell? ⟨w.heap.size, 1, none⟩ = some (.slice ap p.args.length cp) := by
    rw [hb22.cell (p := ⟨w.heap.size, 1, none⟩) (show w.heap.size < _ by (try simp) <;> (try omega))]
    exact q21_0_1
  have q22_0_2 : w22.cell? ⟨w.heap.size, 2, none⟩ = some (.bool p.priv) := by
    rw [hb22.cell (p := ⟨w.heap.size, 2, none⟩) (show w.heap.size < _ by (try simp) <;> (try omega))]
    exact q21_0_2
  have q22_0_3 : w22.cell? ⟨w.heap.size, 3, none⟩ = some (.string p.text) := by
    rw [hb22.cell (p := ⟨w.heap.size, 3, none⟩) (show w.heap.size < _ by (try simp) <;> (try omega))]
    exact q21_0_3
  have q22_0_4 : w22.cell? ⟨w.heap.size, 4, none⟩ = some (.string p.utf) := by
    rw [hb22.cell (p := ⟨w.heap.size, 4, none⟩) (show w.heap.size < _ by (try simp) <;> (try omega))]
    exact q21_0_4
  have hl22_0 : w.heap.size < w22.heap.size := by omega
  clear q21_0_0 q21_0_1 q21_0_2 q21_0_3 q21_0_4
  have q22_1_0 : w22.cell? ⟨w4.heap.size, 0, none⟩ = some (.int .i64 R.1.1.state) := by
    rw [hb22.cell (p := ⟨w4.heap.size, 0, none⟩) (show w4.heap.size < _ by (try simp) <;> (try omega))]
    exact q21_1_0
  have q22_1_1 : w22.cell? ⟨w4.heap.size, 1, none⟩ = some (.slice a4 R.1.1.args.length c4) := by
    rw [hb22.cell (p := ⟨w4.heap.size, 1, none⟩) (show w4.heap.size < _ by (try simp) <;> (try omega))]
    exact q21_1_1
  have q22_1_2 : w22.cell? ⟨w4.heap.size, 2, none⟩ = some (.bool R.1.1.priv) := by
    rw [hb22.cell (p := ⟨w4.heap.size, 2, none⟩) (show w4.heap.size < _ by (try simp) <;> (try omega))]
    exact q21_1_2
  have q22_1_3 : w22.cell? ⟨w4.heap.size, 3, none⟩ = some (.string R.1.1.text) := by
    rw [hb22.cell (p := ⟨w4.heap.size, 3, none⟩) (show w4.heap.size < _ by (try simp) <;> (try omega))]
    exact q21_1_3
  have q22_1_4 : w22.cell? ⟨w4.heap.size, 4, none⟩ = some (.string R.1.1.utf) := by
    rw [hb22.cell (p := ⟨w4.heap.size, 4, none⟩) (show w4.heap.size < _ by (try simp) <;> (try omega))]
    exact q21_1_4
  have hl22_1 : w4.heap.size < w22.heap.size := by omega
  clear q21_1_0 q21_1_1 q21_1_2 q21_1_3 q21_1_4
  have q22_2_0 : w22.cell? ⟨w5.heap.size, 0, none⟩ = some (.int .i64 p.state) := by
    rw [hb22.cell (p := ⟨w5.heap.size, 0, none⟩) (show w5.heap.size < _ by (try simp) <;> (try omega))]
    exact q21_2_0
  have q22_2_1 : w22.cell? ⟨w5.heap.size, 1, none⟩ = some (.slice a5 p.args.length c5) := by
    rw [hb22.cell (p := ⟨w5.heap.size, 1, none⟩) (show w5.heap.size < _ by (try simp) <;> (try omega))]
    exact q21_2_1
  have q22_2_2 : w22.cell? ⟨w5.heap.size, 2, none⟩ = some (.bool p.priv) := by
    rw [hb22.cell (p := ⟨w5.heap.size, 2, none⟩) (show w5.heap.size < _ by (try simp) <;> (try omega))]
    exact q21_2_2
  have q22_2_3 : w22.cell? ⟨w5.heap.size, 3, none⟩ = some (.string p.text) := by
    rw [hb22.cell (p := ⟨w5.heap.size, 3, none⟩) (show w5.heap.size < _ by (try simp) <;> (try omega))]
    exact q21_2_3
  have q22_2_4 : w22.cell? ⟨w5.heap.size, 4, none⟩ = some (.string p.utf) := by
    rw [hb22.cell (p := ⟨w5.heap.size, 4, none⟩) (show w5.heap.size < _ by (try simp) <;> (try omega))]
    exact q21_2_4
  have hl22_2 : w5.heap.size < w22.heap.size := by omega
  clear q21_2_0 q21_2_1 q21_2_2 q21_2_3 q21_2_4
  have q22_3_0 : w22.cell? ⟨w7.heap.size, 0, none⟩ = some (.int .i64 R.1.1.state) := by
    rw [hb22.cell (p := ⟨w7.heap.size, 0, none⟩) (show w7.heap.size < _ by (try simp) <;> (try omega))]
    exact q21_3_0
  have q22_3_1 : w22.cell? ⟨w7.heap.size, 1, none⟩ = some (.slice a7 R.1.1.args.length c7) := by
    rw [hb22.cell (p := ⟨w7.heap.size, 1, none⟩) (show w7.heap.size < _ by (try simp) <;> (try omega))]
    exact q21_3_1
  have q22_3_2 : w22.cell? ⟨w7.heap.size, 2, none⟩ = some (.bool R.1.1.priv) := by
    rw [hb22.cell (p := ⟨w7.heap.size, 2, none⟩) (show w7.heap.size < _ by (try simp) <;> (try omega))]
    exact q21_3_2
  have q22_3_3 : w22.cell? ⟨w7.heap.size, 3, none⟩ = some (.string R.1.1.text) := by
    rw [hb22.cell (p := ⟨w7.heap.size, 3, none⟩) (show w7.heap.size < _ by (try simp) <;> (try omega))]
    exact q21_3_3
  have q22_3_4 : w22.cell? ⟨w7.heap.size, 4, none⟩ = some (.string R.1.1.utf) := by
    rw [hb22.cell (p := ⟨w7.heap.size, 4, none⟩) (show w7.heap.size < _ by (try simp) <;> (try omega))]
    exact q21_3_4
  have hl22_3 : w7.heap.size < w22.heap.size := by omega
  clear q21_3_0 q21_3_1 q21_3_2 q21_3_3 q21_3_4
  have HB22 : Hid (Below w.heap.size w w22) := HB21.out.trans (hb22.mono (by (try simp) <;> (try omega)))
  clear hb22
  go_wp2_with fail
  refine (toByteS_c b cb l _ (HBY.out.keep HB22.out) hd2).mono ?_
  rintro e w23 ⟨v23, rfl, hf23, hb23⟩
  have hz23 := hb23.size
  obtain ⟨a23, c23, rfl, hq23, hr23⟩ := hf23
  have HY2323 := Lib.hid (show FreshIn byteE 5 1 (w22.heap.size) w23.heap.size (.slice a23 l.length c23) l w23 from Fresh.here ⟨_, _, rfl, hq23, by simpa using hr23⟩)
  clear hq23 hr23
  have HS23 := Lib.hid (HS22.out.below hb23)
  clear HS22
  have HK23 := Lib.hid (HK22.out.below hb23)
  clear HK22
  have HX2223 := Lib.hid (HX2222.out.below hb23)
  clear HX2222
  have q23_0_0 : w23.cell? ⟨w.heap.size, 0, none⟩ = some (.int .i64 p.state) := by
    rw [hb23.cell (p := ⟨w.heap.size, 0, none⟩) (show w.heap.size < _ by (try simp) <;> (try omega))]
    exact q22_0_0
  have q23_0_1 : w23.cell? ⟨w.heap.size, 1, none⟩ = some (.slice ap p.args.length cp) := by
    rw [hb23.cell (p := ⟨w.heap.size, 1, none⟩) (show w.heap.size < _ by (try simp) <;> (try omega))]
    exact q22_0_1
  have q23_0_2 : w23.cell? ⟨w.heap.size, 2, none⟩ = some (.bool p.priv) := by
    rw [hb23.cell (p := ⟨w.heap.size, 2, none⟩) (show w.heap.size < _ by (try simp) <;> (try omega))]
    exact q22_0_2
  have q23_0_3 : w23.cell? ⟨w.heap.size, 3, none⟩ = some (.string p.text) := by
    rw [hb23.cell (p := ⟨w.heap.size, 3, none⟩) (show w.heap.size < _ by (try simp) <;> (try omega))]
    exact q22_0_3
  have q23_0_4 : w23.cell? ⟨w.heap.size, 4, none⟩ = some (.string p.utf) := by
    rw [hb23.cell (p := ⟨w.heap.size, 4, none⟩) (show w.heap.size < _ by (try simp) <;> (try omega))]
    exact q22_0_4
  have hl23_0 : w.heap.size < w23.heap.size := by omega
  clear q22_0_0 q22_0_1 q22_0_2 q22_0_3 q22_0_4
  have q23_1_0 : w23.cell? ⟨w4.heap.size, 0, none⟩ = some (.int .i64 R.1.1.state) := by
    rw [hb23.cell (p := ⟨w4.heap.size, 0, none⟩) (show w4.heap.size < _ by (try simp) <;> (try omega))]
    exact q22_1_0
  have q23_1_1 : w23.cell? ⟨w4.heap.size, 1, none⟩ = some (.slice a4 R.1.1.args.length c4) := by
    rw [hb23.cell (p := ⟨w4.heap.size, 1, none⟩) (show w4.heap.size < _ by (try simp) <;> (try omega))]
    exact q22_1_1
  have q23_1_2 : w23.cell? ⟨w4.heap.size, 2, none⟩ = some (.bool R.1.1.priv) := by
    rw [hb23.cell (p := ⟨w4.heap.size, 2, none⟩) (show w4.heap.size < _ by (try simp) <;> (try omega))]
    exact q22_1_2
  have q23_1_3 : w23.cell? ⟨w4.heap.size, 3, none⟩ = some (.string R.1.1.text) := by
    rw [hb23.cell (p := ⟨w4.heap.size, 3, none⟩) (show w4.heap.size < _ by (try simp) <;> (try omega))]
    exact q22_1_3
  have q23_1_4 : w23.cell? ⟨w4.heap.size, 4, none⟩ = some (.string R.1.1.utf) := by
    rw [hb23.cell (p := ⟨w4.heap.size, 4, none⟩) (show w4.heap.size < _ by (try simp) <;> (try omega))]
    exact q22_1_4
  have hl23_1 : w4.heap.size < w23.heap.size := by omega
  clear q22_1_0 q22_1_1 q22_1_2 q22_1_3 q22_1_4
  have q23_2_0 : w23.cell? ⟨w5.heap.size, 0, none⟩ = some (.int .i64 p.state) := by
    rw [hb23.cell (p := ⟨w5.heap.size, 0, none⟩) (show w5.heap.size < _ by (try simp) <;> (try omega))]
    exact q22_2_0
  have q23_2_1 : w23.cell? ⟨w5.heap.size, 1, none⟩ = some (.slice a5 p.args.length c5) := by
    rw [hb23.cell (p := ⟨w5.heap.size, 1, none⟩) (show w5.heap.size < _ by (try simp) <;> (try omega))]
    exact q22_2_1
  have q23_2_2 : w23.cell? ⟨w5.heap.size, 2, none⟩ = some (.bool p.priv) := by
    rw [hb23.cell (p := ⟨w5.heap.size, 2, none⟩) (show w5.heap.size < _ by (try simp) <;> (try omega))]
    exact q22_2_2
  have q23_2_3 : w23.cell? ⟨w5.heap.size, 3, none⟩ = some (.string p.text) := by
    rw [hb23.cell (p := ⟨w5.heap.size, 3, none⟩) (show w5.heap.size < _ by (try simp) <;> (try omega))]
    exact q22_2_3
  have q23_2_4 : w23.cell? ⟨w5.heap.size, 4, none⟩ = some (.string p.utf) := by
    rw [hb23.cell (p := ⟨w5.heap.size, 4, none⟩) (show w5.heap.size < _ by (try simp) <;> (try omega))]
    exact q22_2_4
  have hl23_2 : w5.heap.size < w23.heap.size := by omega
  clear q22_2_0 q22_2_1 q22_2_2 q22_2_3 q22_2_4
  have q23_3_0 : w23.cell? ⟨w7.heap.size, 0, none⟩ = some (.int .i64 R.1.1.state) := by
    rw [hb23.cell (p := ⟨w7.heap.size, 0, none⟩) (show w7.heap.size < _ by (try simp) <;> (try omega))]
    exact q22_3_0
  have q23_3_1 : w23.cell? ⟨w7.heap.size, 1, none⟩ = some (.slice a7 R.1.1.args.length c7) := by
    rw [hb23.cell (p := ⟨w7.heap.size, 1, none⟩) (show w7.heap.size < _ by (try simp) <;> (try omega))]
    exact q22_3_1
  have q23_3_2 : w23.cell? ⟨w7.heap.size, 2, none⟩ = some (.bool R.1.1.priv) := by
    rw [hb23.cell (p := ⟨w7.heap.size, 2, none⟩) (show w7.heap.size < _ by (try simp) <;> (try omega))]
    exact q22_3_2
  have q23_3_3 : w23.cell? ⟨w7.heap.size, 3, none⟩ = some (.string R.1.1.text) := by
    rw [hb23.cell (p := ⟨w7.heap.size, 3, none⟩) (show w7.heap.size < _ by (try simp) <;> (try omega))]
    exact q22_3_3
  have q23_3_4 : w23.cell? ⟨w7.heap.size, 4, none⟩ = some (.string R.1.1.utf) := by
    rw [hb23.cell (p := ⟨w7.heap.size, 4, none⟩) (show w7.heap.size < _ by (try simp) <;> (try omega))]
    exact q22_3_4
  have hl23_3 : w7.heap.size < w23.heap.size := by omega
  clear q22_3_0 q22_3_1 q22_3_2 q22_3_3 q22_3_4
  have HB23 : Hid (Below w.heap.size w w23) := HB22.out.trans (hb23.mono (by (try simp) <;> (try omega)))
  clear hb23
  go_wp2_with fail
  refine (implParseBytes_c a22 c22 p a23 c23 l _ (HX2223.out.sl (fun _ => rfl)) (HY2323.out.sl (fun _ => rfl)) hd2 HZ.out (HUT.out.keep HB23.out)).mono ?_
  rw [HR.out]
  rintro e w24 ⟨a24, c24, al24, cl24, rs24, rfl, hfa24, hro24, hnd24, hrs24, hb24⟩
  have hz24 := hb24.size
  have HRS24 : Hid (rs24.map (·.A) = R.1.2) := Lib.hid hrs24
  have HI24 : Hid (OutG (w23.heap.size) w24.heap.size R.1.1.args a24 c24 al24 cl24 rs24 w24) := Lib.hid ⟨by simpa using hfa24, by simpa using hro24, hnd24, fun q hq => by
    rcases List.mem_append.1 hq with hq | hq
    · exact (FreshIn.blks hfa24 q hq).2
    · exact (hro24.bd actL q hq).2, Nat.le_refl _⟩
  clear hrs24 hfa24 hro24 hnd24
  have HS24 := Lib.hid (HS23.out.below hb24)
  clear HS23
  have HK24 := Lib.hid (HK23.out.below hb24)
  clear HK23
  have HX2224 := Lib.hid (HX2223.out.below hb24)
  clear HX2223
  have HY2324 := Lib.hid (HY2323.out.below hb24)
  clear HY2323
  have q24_0_0 : w24.cell? ⟨w.heap.size, 0, none⟩ = some (.int .i64 p.state) := by
    rw [hb24.cell (p := ⟨w.heap.size, 0, none⟩) (show w.heap.size < _ by (try simp) <;> (try omega))]
    exact q23_0_0
  have q24_0_1 : w24.cell? ⟨w.heap.size, 1, none⟩ = some (.slice ap p.args.length cp) := by
    rw [hb24.cell (p := ⟨w.heap.size, 1, none⟩) (show w.heap.size < _ by (try simp) <;> (try omega))]
    exact q23_0_1
  have q24_0_2 : w24.cell? ⟨w.heap.size, 2, none⟩ = some (.bool p.priv) := by
    rw [hb24.cell (p := ⟨w.heap.size, 2, none⟩) (show w.heap.size < _ by (try simp) <;> (try omega))]
    exact q23_0_2
  have q24_0_3 : w24.cell? ⟨w.heap.size, 3, none⟩ = some (.string p.text) := by
    rw [hb24.cell (p := ⟨w.heap.size, 3, none⟩) (show w.heap.size < _ by (try simp) <;> (try omega))]
    exact q23_0_3
  have q24_0_4 : w24.cell? ⟨w.heap.size, 4, none⟩ = some (.string p.utf) := by
    rw [hb24.cell (p := ⟨w.heap.size, 4, none⟩) (show w.heap.size < _ by (try simp) <;> (try omega))]
    exact q23_0_4
  have hl24_0 : w.heap.size < w24.heap.size := by omega
  clear q23_0_0 q23_0_1 q23_0_2 q23_0_3 q23_0_4
  have q24_1_0 : w24.cell? ⟨w4.heap.size, 0, none⟩ = some (.int .i64 R.1.1.state) := by
    rw [hb24.cell (p := ⟨w4.heap.size, 0, none⟩) (show w4.heap.size < _ by (try simp) <;> (try omega))]
    exact q23_1_0
  have q24_1_1 : w24.cell? ⟨w4.heap.size, 1, none⟩ = some (.slice a4 R.1.1.args.length c4) := by
    rw [hb24.cell (p := ⟨w4.heap.size, 1, none⟩) (show w4.heap.size < _ by (try simp) <;> (try omega))]
    exact q23_1_1
  have q24_1_2 : w24.cell? ⟨w4.heap.size, 2, none⟩ = some (.bool R.1.1.priv) := by
    rw [hb24.cell (p := ⟨w4.heap.size, 2, none⟩) (show w4.heap.size < _ by (try simp) <;> (try omega))]
    exact q23_1_2
  have q24_1_3 : w24.cell? ⟨w4.heap.size, 3, none⟩ = some (.string R.1.1.text) := by
    rw [hb24.cell (p := ⟨w4.heap.size, 3, none⟩) (show w4.heap.size < _ by (try simp) <;> (try omega))]
    exact q23_1_3
  have q24_1_4 : w24.cell? ⟨w4.heap.size, 4, none⟩ = some (.string R.1.1.utf) := by
    rw [hb24.cell (p := ⟨w4.heap.size, 4, none⟩) (show w4.heap.size < _ by (try simp) <;> (try omega))]
    exact q23_1_4
  have hl24_1 : w4.heap.size < w24.heap.size := by omega
  clear q23_1_0 q23_1_1 q23_1_2 q23_1_3 q23_1_4
  have q24_2_0 : w24.cell? ⟨w5.heap.size, 0, none⟩ = some (.int .i64 p.state) := by
    rw [hb24.cell (p := ⟨w5.heap.size, 0, none⟩) (show w5.heap.size < _ by (try simp) <;> (try omega))]
    exact q23_2_0
  have q24_2_1 : w24.cell? ⟨w5.heap.size, 1, none⟩ = some (.slice a5 p.args.length c5) := by
    rw [hb24.cell (p := ⟨w5.heap.size, 1, none⟩) (show w5.heap.size < _ by (try simp) <;> (try omega))]
    exact q23_2_1
  have q24_2_2 : w24.cell? ⟨w5.heap.size, 2, none⟩ = some (.bool p.priv) := by
    rw [hb24.cell (p := ⟨w5.heap.size, 2, none⟩) (show w5.heap.size < _ by (try simp) <;> (try omega))]
    exact q23_2_2
  have q24_2_3 : w24.cell? ⟨w5.heap.size, 3, none⟩ = some (.string p.text) := by
    rw [hb24.cell (p := ⟨w5.heap.size, 3, none⟩) (show w5.heap.size < _ by (try simp) <;> (try omega))]
    exact q23_2_3
  have q24_2_4 : w24.cell? ⟨w5.heap.size, 4, none⟩ = some (.string p.utf) := by
    rw [hb24.cell (p := ⟨w5.heap.size, 4, none⟩) (show w5.heap.size < _ by (try simp) <;> (try omega))]
    exact q23_2_4
  have hl24_2 : w5.heap.size < w24.heap.size := by omega
  clear q23_2_0 q23_2_1 q23_2_2 q23_2_3 q23_2_4
  have q24_3_0 : w24.cell? ⟨w7.heap.size, 0, none⟩ = some (.int .i64 R.1.1.state) := by
    rw [hb24.cell (p := ⟨w7.heap.size, 0, none⟩) (show w7.heap.size < _ by (try simp) <;> (try omega))]
    exact q23_3_0
  have q24_3_1 : w24.cell? ⟨w7.heap.size, 1, none⟩ = some (.slice a7 R.1.1.args.length c7) := by
    rw [hb24.cell (p := ⟨w7.heap.size, 1, none⟩) (show w7.heap.size < _ by (try simp) <;> (try omega))]
    exact q23_3_1
  have q24_3_2 : w24.cell? ⟨w7.heap.size, 2, none⟩ = some (.bool R.1.1.priv) := by
    rw [hb24.cell (p := ⟨w7.heap.size, 2, none⟩) (show w7.heap.size < _ by (try simp) <;> (try omega))]
    exact q23_3_2
  have q24_3_3 : w24.cell? ⟨w7.heap.size, 3, none⟩ = some (.string R.1.1.text) := by
    rw [hb24.cell (p := ⟨w7.heap.size, 3, none⟩) (show w7.heap.size < _ by (try simp) <;> (try omega))]
    exact q23_3_3
  have q24_3_4 : w24.cell? ⟨w7.heap.size, 4, none⟩ = some (.string R.1.1.utf) := by
    rw [hb24.cell (p := ⟨w7.heap.size, 4, none⟩) (show w7.heap.size < _ by (try simp) <;> (try omega))]
    exact q23_3_4
  have hl24_3 : w7.heap.size < w24.heap.size := by omega
  clear q23_3_0 q23_3_1 q23_3_2 q23_3_3 q23_3_4
  have HB24 : Hid (Below w.heap.size w w24) := HB23.out.trans (hb24.mono (by (try simp) <;> (try omega)))
  clear hb24
  clear HX2224
  clear HY2324
  go_wp2_with fail
  refine (eqParser_same a24 a4 c24 c4 R.1.1 _ (HI24.out.alloc _).sl (HS24.out.alloc _).sl (by have := HSZ.out.args; omega)).mono ?_
  rintro e w25 ⟨rfl, hb25⟩
  have hz25 := hb25.size
  simp only [World.size_alloc] at hz25
  have HS25 := Lib.hid ((HS24.out.alloc _).below hb25)
  clear HS24
  have HK25 := Lib.hid ((HK24.out.alloc _).below hb25)
  clear HK24
  have HI2425 := Lib.hid ((HI24.out.alloc _).below hb25)
  clear HI24
  have q25_0_0 : w25.cell? ⟨w.heap.size, 0, none⟩ = some (.int .i64 p.state) := by
    rw [hb25.cell (p := ⟨w.heap.size, 0, none⟩) (show w.heap.size < _ by (try simp) <;> (try omega))]
    first | assumption | (simp [go_sem, *])
  have q25_0_1 : w25.cell? ⟨w.heap.size, 1, none⟩ = some (.slice ap p.args.length cp) := by
    rw [hb25.cell (p := ⟨w.heap.size, 1, none⟩) (show w.heap.size < _ by (try simp) <;> (try omega))]
    first | assumption | (simp [go_sem, *])
  have q25_0_2 : w25.cell? ⟨w.heap.size, 2, none⟩ = some (.bool p.priv) := by
    rw [hb25.cell (p := ⟨w.heap.size, 2, none⟩) (show w.heap.size < _ by (try simp) <;> (try omega))]
    first | assumption | (simp [go_sem, *])
  have q25_0_3 : w25.cell? ⟨w.heap.size, 3, none⟩ = some (.string p.text) := by
    rw [hb25.cell (p := ⟨w.heap.size, 3, none⟩) (show w.heap.size < _ by (try simp) <;> (try omega))]
    first | assumption | (simp [go_sem, *])
  have q25_0_4 : w25.cell? ⟨w.heap.size, 4, none⟩ = some (.string p.utf) := by
    rw [hb25.cell (p := ⟨w.heap.size, 4, none⟩) (show w.heap.size < _ by (try simp) <;> (try omega))]
    first | assumption | (simp [go_sem, *])
  have hl25_0 : w.heap.size < w25.heap.size := by omega
  clear q24_0_0 q24_0_1 q24_0_2 q24_0_3 q24_0_4
  have q25_1_0 : w25.cell? ⟨w4.heap.size, 0, none⟩ = some (.int .i64 R.1.1.state) := by
    rw [hb25.cell (p := ⟨w4.heap.size, 0, none⟩) (show w4.heap.size < _ by (try simp) <;> (try omega))]
    first | assumption | (simp [go_sem, *])
  have q25_1_1 : w25.cell? ⟨w4.heap.size, 1, none⟩ = some (.slice a4 R.1.1.args.length c4) := by
    rw [hb25.cell (p := ⟨w4.heap.size, 1, none⟩) (show w4.heap.size < _ by (try simp) <;> (try omega))]
    first | assumption | (simp [go_sem, *])
  have q25_1_2 : w25.cell? ⟨w4.heap.size, 2, none⟩ = some (.bool R.1.1.priv) := by
    rw [hb25.cell (p := ⟨w4.heap.size, 2, none⟩) (show w4.heap.size < _ by (try simp) <;> (try omega))]
    first | assumption | (simp [go_sem, *])
  have q25_1_3 : w25.cell? ⟨w4.heap.size, 3, none⟩ = some (.string R.1.1.text) := by
    rw [hb25.cell (p := ⟨w4.heap.size, 3, none⟩) (show w4.heap.size < _ by (try simp) <;> (try omega))]
    first | assumption | (simp [go_sem, *])
  have q25_1_4 : w25.cell? ⟨w4.heap.size, 4, none⟩ = some (.string R.1.1.utf) := by
    rw [hb25.cell (p := ⟨w4.heap.size, 4, none⟩) (show w4.heap.size < _ by (try simp) <;> (try omega))]
    first | assumption | (simp [go_sem, *])
  have hl25_1 : w4.heap.size < w25.heap.size := by omega
  clear q24_1_0 q24_1_1 q24_1_2 q24_1_3 q24_1_4
  have q25_2_0 : w25.cell? ⟨w5.heap.size, 0, none⟩ = some (.int .i64 p.state) := by
    rw [hb25.cell (p := ⟨w5.heap.size, 0, none⟩) (show w5.heap.size < _ by (try simp) <;> (try omega))]
    first | assumption | (simp [go_sem, *])
  have q25_2_1 : w25.cell? ⟨w5.heap.size, 1, none⟩ = some (.slice a5 p.args.length c5) := by
    rw [hb25.cell (p := ⟨w5.heap.size, 1, none⟩) (show w5.heap.size < _ by (try simp) <;> (try omega))]
    first | assumption | (simp [go_sem, *])
  have q25_2_2 : w25.cell? ⟨w5.heap.size, 2, none⟩ = some (.bool p.priv) := by
    rw [hb25.cell (p := ⟨w5.heap.size, 2, none⟩) (show w5.heap.size < _ by (try simp) <;> (try omega))]
    first | assumption | (simp [go_sem, *])
  have q25_2_3 : w25.cell? ⟨w5.heap.size, 3, none⟩ = some (.string p.text) := by
    rw [hb25.cell (p := ⟨w5.heap.size, 3, none⟩) (show w5.heap.size < _ by (try simp) <;> (try omega))]
    first | assumption | (simp [go_sem, *])
  have q25_2_4 : w25.cell? ⟨w5.heap.size, 4, none⟩ = some (.string p.utf) := by
    rw [hb25.cell (p := ⟨w5.heap.size, 4, none⟩) (show w5.heap.size < _ by (try simp) <;> (try omega))]
    first | assumption | (simp [go_sem, *])
  have hl25_2 : w5.heap.size < w25.heap.size := by omega
  clear q24_2_0 q24_2_1 q24_2_2 q24_2_3 q24_2_4
  have q25_3_0 : w25.cell? ⟨w7.heap.size, 0, none⟩ = some (.int .i64 R.1.1.state) := by
    rw [hb25.cell (p := ⟨w7.heap.size, 0, none⟩) (show w7.heap.size < _ by (try simp) <;> (try omega))]
    first | assumption | (simp [go_sem, *])
  have q25_3_1 : w25.cell? ⟨w7.heap.size, 1, none⟩ = some (.slice a7 R.1.1.args.length c7) := by
    rw [hb25.cell (p := ⟨w7.heap.size, 1, none⟩) (show w7.heap.size < _ by (try simp) <;> (try omega))]
    first | assumption | (simp [go_sem, *])
  have q25_3_2 : w25.cell? ⟨w7.heap.size, 2, none⟩ = some (.bool R.1.1.priv) := by
    rw [hb25.cell (p := ⟨w7.heap.size, 2, none⟩) (show w7.heap.size < _ by (try simp) <;> (try omega))]
    first | assumption | (simp [go_sem, *])
  have q25_3_3 : w25.cell? ⟨w7.heap.size, 3, none⟩ = some (.string R.1.1.text) := by
    rw [hb25.cell (p := ⟨w7.heap.size, 3, none⟩) (show w7.heap.size < _ by (try simp) <;> (try omega))]
    first | assumption | (simp [go_sem, *])
  have q25_3_4 : w25.cell? ⟨w7.heap.size, 4, none⟩ = some (.string R.1.1.utf) := by
    rw [hb25.cell (p := ⟨w7.heap.size, 4, none⟩) (show w7.heap.size < _ by (try simp) <;> (try omega))]
    first | assumption | (simp [go_sem, *])
  have hl25_3 : w7.heap.size < w25.heap.size := by omega
  clear q24_3_0 q24_3_1 q24_3_2 q24_3_3 q24_3_4
  have q25_4_0 : w25.cell? ⟨w24.heap.size, 0, none⟩ = some (.int .i64 R.1.1.state) := by
    rw [hb25.cell (p := ⟨w24.heap.size, 0, none⟩) (show w24.heap.size < _ by (try simp) <;> (try omega))]
    first | assumption | (simp [go_sem, *])
  have q25_4_1 : w25.cell? ⟨w24.heap.size, 1, none⟩ = some (.slice a24 R.1.1.args.length c24) := by
    rw [hb25.cell (p := ⟨w24.heap.size, 1, none⟩) (show w24.heap.size < _ by (try simp) <;> (try omega))]
    first | assumption | (simp [go_sem, *])
  have q25_4_2 : w25.cell? ⟨w24.heap.size, 2, none⟩ = some (.bool R.1.1.priv) := by
    rw [hb25.cell (p := ⟨w24.heap.size, 2, none⟩) (show w24.heap.size < _ by (try simp) <;> (try omega))]
    first | assumption | (simp [go_sem, *])
  have q25_4_3 : w25.cell? ⟨w24.heap.size, 3, none⟩ = some (.string R.1.1.text) := by
    rw [hb25.cell (p := ⟨w24.heap.size, 3, none⟩) (show w24.heap.size < _ by (try simp) <;> (try omega))]
    first | assumption | (simp [go_sem, *])
  have q25_4_4 : w25.cell? ⟨w24.heap.size, 4, none⟩ = some (.string R.1.1.utf) := by
    rw [hb25.cell (p := ⟨w24.heap.size, 4, none⟩) (show w24.heap.size < _ by (try simp) <;> (try omega))]
    first | assumption | (simp [go_sem, *])
  have hl25_4 : w24.heap.size < w25.heap.size := by omega
  have HB25 : Hid (Below w.heap.size w w25) := (HB24.out.alloc (by (try simp) <;> (try omega)) _).trans (hb25.mono (by (try simp) <;> (try omega)))
  clear hb25
  go_wp2_with fail
  refine (eqActionS_same al24 al4 cl24 cl4 rs24 rs4 _ HI2425.out.acts HS25.out.acts (HRS4.out.trans HRS24.out.symm) (HSZ.out.ar HRS24.out) (HSZ.out.ln HRS24.out)).mono ?_
  rintro e w26 ⟨rfl, hb26⟩
  have hz26 := hb26.size
  have HS26 := Lib.hid (HS25.out.below hb26)
  clear HS25
  have HK26 := Lib.hid (HK25.out.below hb26)
  clear HK25
  have HI2426 := Lib.hid (HI2425.out.below hb26)
  clear HI2425
  have q26_0_0 : w26.cell? ⟨w.heap.size, 0, none⟩ = some (.int .i64 p.state) := by
    rw [hb26.cell (p := ⟨w.heap.size, 0, none⟩) (show w.heap.size < _ by (try simp) <;> (try omega))]
    exact q25_0_0
  have q26_0_1 : w26.cell? ⟨w.heap.size, 1, none⟩ = some (.slice ap p.args.length cp) := by
    rw [hb26.cell (p := ⟨w.heap.size, 1, none⟩) (show w.heap.size < _ by (try simp) <;> (try omega))]
    exact q25_0_1
  have q26_0_2 : w26.cell? ⟨w.heap.size, 2, none⟩ = some (.bool p.priv) := by
    rw [hb26.cell (p := ⟨w.heap.size, 2, none⟩) (show w.heap.size < _ by (try simp) <;> (try omega))]
    exact q25_0_2
  have q26_0_3 : w26.cell? ⟨w.heap.size, 3, none⟩ = some (.string p.text) := by
    rw [hb26.cell (p := ⟨w.heap.size, 3, none⟩) (show w.heap.size < _ by (try simp) <;> (try omega))]
    exact q25_0_3
  have q26_0_4 : w26.cell? ⟨w.heap.size, 4, none⟩ = some (.string p.utf) := by
    rw [hb26.cell (p := ⟨w.heap.size, 4, none⟩) (show w.heap.size < _ by (try simp) <;> (try omega))]
    exact q25_0_4
  have hl26_0 : w.heap.size < w26.heap.size := by omega
  clear q25_0_0 q25_0_1 q25_0_2 q25_0_3 q25_0_4
  have q26_1_0 : w26.cell? ⟨w4.heap.size, 0, none⟩ = some (.int .i64 R.1.1.state) := by
    rw [hb26.cell (p := ⟨w4.heap.size, 0, none⟩) (show w4.heap.size < _ by (try simp) <;> (try omega))]
    exact q25_1_0
  have q26_1_1 : w26.cell? ⟨w4.heap.size, 1, none⟩ = some (.slice a4 R.1.1.args.length c4) := by
    rw [hb26.cell (p := ⟨w4.heap.size, 1, none⟩) (show w4.heap.size < _ by (try simp) <;> (try omega))]
    exact q25_1_1
  have q26_1_2 : w26.cell? ⟨w4.heap.size, 2, none⟩ = some (.bool R.1.1.priv) := by
    rw [hb26.cell (p := ⟨w4.heap.size, 2, none⟩) (show w4.heap.size < _ by (try simp) <;> (try omega))]
    exact q25_1_2
  have q26_1_3 : w26.cell? ⟨w4.heap.size, 3, none⟩ = some (.string R.1.1.text) := by
    rw [hb26.cell (p := ⟨w4.heap.size, 3, none⟩) (show w4.heap.size < _ by (try simp) <;> (try omega))]
    exact q25_1_3
  have q26_1_4 : w26.cell? ⟨w4.heap.size, 4, none⟩ = some (.string R.1.1.utf) := by
    rw [hb26.cell (p := ⟨w4.heap.size, 4, none⟩) (show w4.heap.size < _ by (try simp) <;> (try omega))]
    exact q25_1_4
  have hl26_1 : w4.heap.size < w26.heap.size := by omega
  clear q25_1_0 q25_1_1 q25_1_2 q25_1_3 q25_1_4
  have q26_2_0 : w26.cell? ⟨w5.heap.size, 0, none⟩ = some (.int .i64 p.state) := by
    rw [hb26.cell (p := ⟨w5.heap.size, 0, none⟩) (show w5.heap.size < _ by (try simp) <;> (try omega))]
    exact q25_2_0
  have q26_2_1 : w26.cell? ⟨w5.heap.size, 1, none⟩ = some (.slice a5 p.args.length c5) := by
    rw [hb26.cell (p := ⟨w5.heap.size, 1, none⟩) (show w5.heap.size < _ by (try simp) <;> (try omega))]
    exact q25_2_1
  have q26_2_2 : w26.cell? ⟨w5.heap.size, 2, none⟩ = some (.bool p.priv) := by
    rw [hb26.cell (p := ⟨w5.heap.size, 2, none⟩) (show w5.heap.size < _ by (try simp) <;> (try omega))]
    exact q25_2_2
  have q26_2_3 : w26.cell? ⟨w5.heap.size, 3, none⟩ = some (.string p.text) := by
    rw [hb26.cell (p := ⟨w5.heap.size, 3, none⟩) (show w5.heap.size < _ by (try simp) <;> (try omega))]
    exact q25_2_3
  have q26_2_4 : w26.cell? ⟨w5.heap.size, 4, none⟩ = some (.string p.utf) := by
    rw [hb26.cell (p := ⟨w5.heap.size, 4, none⟩) (show w5.heap.size < _ by (try simp) <;> (try omega))]
    exact q25_2_4
  have hl26_2 : w5.heap.size < w26.heap.size := by omega
  clear q25_2_0 q25_2_1 q25_2_2 q25_2_3 q25_2_4
  have q26_3_0 : w26.cell? ⟨w7.heap.size, 0, none⟩ = some (.int .i64 R.1.1.state) := by
    rw [hb26.cell (p := ⟨w7.heap.size, 0, none⟩) (show w7.heap.size < _ by (try simp) <;> (try omega))]
    exact q25_3_0
  have q26_3_1 : w26.cell? ⟨w7.heap.size, 1, none⟩ = some (.slice a7 R.1.1.args.length c7) := by
    rw [hb26.cell (p := ⟨w7.heap.size, 1, none⟩) (show w7.heap.size < _ by (try simp) <;> (try omega))]
    exact q25_3_1
  have q26_3_2 : w26.cell? ⟨w7.heap.size, 2, none⟩ = some (.bool R.1.1.priv) := by
    rw [hb26.cell (p := ⟨w7.heap.size, 2, none⟩) (show w7.heap.size < _ by (try simp) <;> (try omega))]
    exact q25_3_2
  have q26_3_3 : w26.cell? ⟨w7.heap.size, 3, none⟩ = some (.string R.1.1.text) := by
    rw [hb26.cell (p := ⟨w7.heap.size, 3, none⟩) (show w7.heap.size < _ by (try simp) <;> (try omega))]
    exact q25_3_3
  have q26_3_4 : w26.cell? ⟨w7.heap.size, 4, none⟩ = some (.string R.1.1.utf) := by
    rw [hb26.cell (p := ⟨w7.heap.size, 4, none⟩) (show w7.heap.size < _ by (try simp) <;> (try omega))]
    exact q25_3_4
  have hl26_3 : w7.heap.size < w26.heap.size := by omega
  clear q25_3_0 q25_3_1 q25_3_2 q25_3_3 q25_3_4
  have q26_4_0 : w26.cell? ⟨w24.heap.size, 0, none⟩ = some (.int .i64 R.1.1.state) := by
    rw [hb26.cell (p := ⟨w24.heap.size, 0, none⟩) (show w24.heap.size < _ by (try simp) <;> (try omega))]
    exact q25_4_0
  have q26_4_1 : w26.cell? ⟨w24.heap.size, 1, none⟩ = some (.slice a24 R.1.1.args.length c24) := by
    rw [hb26.cell (p := ⟨w24.heap.size, 1, none⟩) (show w24.heap.size < _ by (try simp) <;> (try omega))]
    exact q25_4_1
  have q26_4_2 : w26.cell? ⟨w24.heap.size, 2, none⟩ = some (.bool R.1.1.priv) := by
    rw [hb26.cell (p := ⟨w24.heap.size, 2, none⟩) (show w24.heap.size < _ by (try simp) <;> (try omega))]
    exact q25_4_2
  have q26_4_3 : w26.cell? ⟨w24.heap.size, 3, none⟩ = some (.string R.1.1.text) := by
    rw [hb26.cell (p := ⟨w24.heap.size, 3, none⟩) (show w24.heap.size < _ by (try simp) <;> (try omega))]
    exact q25_4_3
  have q26_4_4 : w26.cell? ⟨w24.heap.size, 4, none⟩ = some (.string R.1.1.utf) := by
    rw [hb26.cell (p := ⟨w24.heap.size, 4, none⟩) (show w24.heap.size < _ by (try simp) <;> (try omega))]
    exact q25_4_4
  have hl26_4 : w24.heap.size < w26.heap.size := by omega
  clear q25_4_0 q25_4_1 q25_4_2 q25_4_3 q25_4_4
  have HB26 : Hid (Below w.heap.size w w26) := HB25.out.trans (hb26.mono (by (try simp) <;> (try omega)))
  clear hb26
  clear HI2426
  go_wp2_with fail
  refine (heldH_c (w6.heap.size) (w7.heap.size) R.1.1 a7 al7 c7 1 (acMk rs7 M0) _ HK26.out (by have := HSZ.out.args; omega)).mono ?_
  rw [HM0.out]
  rintro e w27 ⟨rfl, hb27⟩
  have hz27 := hb27.size
  have HS27 := Lib.hid (HS26.out.below hb27)
  clear HS26
  have HK27 := Lib.hid (HK26.out.below hb27)
  clear HK26
  have q27_0_0 : w27.cell? ⟨w.heap.size, 0, none⟩ = some (.int .i64 p.state) := by
    rw [hb27.cell (p := ⟨w.heap.size, 0, none⟩) (show w.heap.size < _ by (try simp) <;> (try omega))]
    exact q26_0_0
  have q27_0_1 : w27.cell? ⟨w.heap.size, 1, none⟩ = some (.slice ap p.args.length cp) := by
    rw [hb27.cell (p := ⟨w.heap.size, 1, none⟩) (show w.heap.size < _ by (try simp) <;> (try omega))]
    exact q26_0_1
  have q27_0_2 : w27.cell? ⟨w.heap.size, 2, none⟩ = some (.bool p.priv) := by
    rw [hb27.cell (p := ⟨w.heap.size, 2, none⟩) (show w.heap.size < _ by (try simp) <;> (try omega))]
    exact q26_0_2
  have q27_0_3 : w27.cell? ⟨w.heap.size, 3, none⟩ = some (.string p.text) := by
    rw [hb27.cell (p := ⟨w.heap.size, 3, none⟩) (show w.heap.size < _ by (try simp) <;> (try omega))]
    exact q26_0_3
  have q27_0_4 : w27.cell? ⟨w.heap.size, 4, none⟩ = some (.string p.utf) := by
    rw [hb27.cell (p := ⟨w.heap.size, 4, none⟩) (show w.heap.size < _ by (try simp) <;> (try omega))]
    exact q26_0_4
  have hl27_0 : w.heap.size < w27.heap.size := by omega
  clear q26_0_0 q26_0_1 q26_0_2 q26_0_3 q26_0_4
  have q27_1_0 : w27.cell? ⟨w4.heap.size, 0, none⟩ = some (.int .i64 R.1.1.state) := by
    rw [hb27.cell (p := ⟨w4.heap.size, 0, none⟩) (show w4.heap.size < _ by (try simp) <;> (try omega))]
    exact q26_1_0
  have q27_1_1 : w27.cell? ⟨w4.heap.size, 1, none⟩ = some (.slice a4 R.1.1.args.length c4) := by
    rw [hb27.cell (p := ⟨w4.heap.size, 1, none⟩) (show w4.heap.size < _ by (try simp) <;> (try omega))]
    exact q26_1_1
  have q27_1_2 : w27.cell? ⟨w4.heap.size, 2, none⟩ = some (.bool R.1.1.priv) := by
    rw [hb27.cell (p := ⟨w4.heap.size, 2, none⟩) (show w4.heap.size < _ by (try simp) <;> (try omega))]
    exact q26_1_2
  have q27_1_3 : w27.cell? ⟨w4.heap.size, 3, none⟩ = some (.string R.1.1.text) := by
    rw [hb27.cell (p := ⟨w4.heap.size, 3, none⟩) (show w4.heap.size < _ by (try simp) <;> (try omega))]
    exact q26_1_3
  have q27_1_4 : w27.cell? ⟨w4.heap.size, 4, none⟩ = some (.string R.1.1.utf) := by
    rw [hb27.cell (p := ⟨w4.heap.size, 4, none⟩) (show w4.heap.size < _ by (try simp) <;> (try omega))]
    exact q26_1_4
  have hl27_1 : w4.heap.size < w27.heap.size := by omega
  clear q26_1_0 q26_1_1 q26_1_2 q26_1_3 q26_1_4
  have q27_2_0 : w27.cell? ⟨w5.heap.size, 0, none⟩ = some (.int .i64 p.state) := by
    rw [hb27.cell (p := ⟨w5.heap.size, 0, none⟩) (show w5.heap.size < _ by (try simp) <;> (try omega))]
    exact q26_2_0
  have q27_2_1 : w27.cell? ⟨w5.heap.size, 1, none⟩ = some (.slice a5 p.args.length c5) := by
    rw [hb27.cell (p := ⟨w5.heap.size, 1, none⟩) (show w5.heap.size < _ by (try simp) <;> (try omega))]
    exact q26_2_1
  have q27_2_2 : w27.cell? ⟨w5.heap.size, 2, none⟩ = some (.bool p.priv) := by
    rw [hb27.cell (p := ⟨w5.heap.size, 2, none⟩) (show w5.heap.size < _ by (try simp) <;> (try omega))]
    exact q26_2_2
  have q27_2_3 : w27.cell? ⟨w5.heap.size, 3, none⟩ = some (.string p.text) := by
    rw [hb27.cell (p := ⟨w5.heap.size, 3, none⟩) (show w5.heap.size < _ by (try simp) <;> (try omega))]
    exact q26_2_3
  have q27_2_4 : w27.cell? ⟨w5.heap.size, 4, none⟩ = some (.string p.utf) := by
    rw [hb27.cell (p := ⟨w5.heap.size, 4, none⟩) (show w5.heap.size < _ by (try simp) <;> (try omega))]
    exact q26_2_4
  have hl27_2 : w5.heap.size < w27.heap.size := by omega
  clear q26_2_0 q26_2_1 q26_2_2 q26_2_3 q26_2_4
  have q27_3_0 : w27.cell? ⟨w7.heap.size, 0, none⟩ = some (.int .i64 R.1.1.state) := by
    rw [hb27.cell (p := ⟨w7.heap.size, 0, none⟩) (show w7.heap.size < _ by (try simp) <;> (try omega))]
    exact q26_3_0
  have q27_3_1 : w27.cell? ⟨w7.heap.size, 1, none⟩ = some (.slice a7 R.1.1.args.length c7) := by
    rw [hb27.cell (p := ⟨w7.heap.size, 1, none⟩) (show w7.heap.size < _ by (try simp) <;> (try omega))]
    exact q26_3_1
  have q27_3_2 : w27.cell? ⟨w7.heap.size, 2, none⟩ = some (.bool R.1.1.priv) := by
    rw [hb27.cell (p := ⟨w7.heap.size, 2, none⟩) (show w7.heap.size < _ by (try simp) <;> (try omega))]
    exact q26_3_2
  have q27_3_3 : w27.cell? ⟨w7.heap.size, 3, none⟩ = some (.string R.1.1.text) := by
    rw [hb27.cell (p := ⟨w7.heap.size, 3, none⟩) (show w7.heap.size < _ by (try simp) <;> (try omega))]
    exact q26_3_3
  have q27_3_4 : w27.cell? ⟨w7.heap.size, 4, none⟩ = some (.string R.1.1.utf) := by
    rw [hb27.cell (p := ⟨w7.heap.size, 4, none⟩) (show w7.heap.size < _ by (try simp) <;> (try omega))]
    exact q26_3_4
  have hl27_3 : w7.heap.size < w27.heap.size := by omega
  clear q26_3_0 q26_3_1 q26_3_2 q26_3_3 q26_3_4
  have q27_4_0 : w27.cell? ⟨w24.heap.size, 0, none⟩ = some (.int .i64 R.1.1.state) := by
    rw [hb27.cell (p := ⟨w24.heap.size, 0, none⟩) (show w24.heap.size < _ by (try simp) <;> (try omega))]
    exact q26_4_0
  have q27_4_1 : w27.cell? ⟨w24.heap.size, 1, none⟩ = some (.slice a24 R.1.1.args.length c24) := by
    rw [hb27.cell (p := ⟨w24.heap.size, 1, none⟩) (show w24.heap.size < _ by (try simp) <;> (try omega))]
    exact q26_4_1
  have q27_4_2 : w27.cell? ⟨w24.heap.size, 2, none⟩ = some (.bool R.1.1.priv) := by
    rw [hb27.cell (p := ⟨w24.heap.size, 2, none⟩) (show w24.heap.size < _ by (try simp) <;> (try omega))]
    exact q26_4_2
  have q27_4_3 : w27.cell? ⟨w24.heap.size, 3, none⟩ = some (.string R.1.1.text) := by
    rw [hb27.cell (p := ⟨w24.heap.size, 3, none⟩) (show w24.heap.size < _ by (try simp) <;> (try omega))]
    exact q26_4_3
  have q27_4_4 : w27.cell? ⟨w24.heap.size, 4, none⟩ = some (.string R.1.1.utf) := by
    rw [hb27.cell (p := ⟨w24.heap.size, 4, none⟩) (show w24.heap.size < _ by (try simp) <;> (try omega))]
    exact q26_4_4
  have hl27_4 : w24.heap.size < w27.heap.size := by omega
  clear q26_4_0 q26_4_1 q26_4_2 q26_4_3 q26_4_4
  have HB27 : Hid (Below w.heap.size w w27) := HB26.out.trans (hb27.mono (by (try simp) <;> (try omega)))
  clear hb27
  go_wp2_with fail
  refine (heldA_c (w6.heap.size) (w7.heap.size) (intMk R.1.1.args.length 1) a7 al7 c7 cl7 M0 rs7 _ HK27.out HM1b.out).mono ?_
  rw [HM1.out]
  rintro e w28 ⟨rfl, hb28⟩
  have hz28 := hb28.size
  have HS28 := Lib.hid (HS27.out.below hb28)
  clear HS27
  have HK28 := Lib.hid (HK27.out.below hb28)
  clear HK27
  have q28_0_0 : w28.cell? ⟨w.heap.size, 0, none⟩ = some (.int .i64 p.state) := by
    rw [hb28.cell (p := ⟨w.heap.size, 0, none⟩) (show w.heap.size < _ by (try simp) <;> (try omega))]
    exact q27_0_0
  have q28_0_1 : w28.cell? ⟨w.heap.size, 1, none⟩ = some (.slice ap p.args.length cp) := by
    rw [hb28.cell (p := ⟨w.heap.size, 1, none⟩) (show w.heap.size < _ by (try simp) <;> (try omega))]
    exact q27_0_1
  have q28_0_2 : w28.cell? ⟨w.heap.size, 2, none⟩ = some (.bool p.priv) := by
    rw [hb28.cell (p := ⟨w.heap.size, 2, none⟩) (show w.heap.size < _ by (try simp) <;> (try omega))]
    exact q27_0_2
  have q28_0_3 : w28.cell? ⟨w.heap.size, 3, none⟩ = some (.string p.text) := by
    rw [hb28.cell (p := ⟨w.heap.size, 3, none⟩) (show w.heap.size < _ by (try simp) <;> (try omega))]
    exact q27_0_3
  have q28_0_4 : w28.cell? ⟨w.heap.size, 4, none⟩ = some (.string p.utf) := by
    rw [hb28.cell (p := ⟨w.heap.size, 4, none⟩) (show w.heap.size < _ by (try simp) <;> (try omega))]
    exact q27_0_4
  have hl28_0 : w.heap.size < w28.heap.size := by omega
  clear q27_0_0 q27_0_1 q27_0_2 q27_0_3 q27_0_4
  have q28_1_0 : w28.cell? ⟨w4.heap.size, 0, none⟩ = some (.int .i64 R.1.1.state) := by
    rw [hb28.cell (p := ⟨w4.heap.size, 0, none⟩) (show w4.heap.size < _ by (try simp) <;> (try omega))]
    exact q27_1_0
  have q28_1_1 : w28.cell? ⟨w4.heap.size, 1, none⟩ = some (.slice a4 R.1.1.args.length c4) := by
    rw [hb28.cell (p := ⟨w4.heap.size, 1, none⟩) (show w4.heap.size < _ by (try simp) <;> (try omega))]
    exact q27_1_1
  have q28_1_2 : w28.cell? ⟨w4.heap.size, 2, none⟩ = some (.bool R.1.1.priv) := by
    rw [hb28.cell (p := ⟨w4.heap.size, 2, none⟩) (show w4.heap.size < _ by (try simp) <;> (try omega))]
    exact q27_1_2
  have q28_1_3 : w28.cell? ⟨w4.heap.size, 3, none⟩ = some (.string R.1.1.text) := by
    rw [hb28.cell (p := ⟨w4.heap.size, 3, none⟩) (show w4.heap.size < _ by (try simp) <;> (try omega))]
    exact q27_1_3
  have q28_1_4 : w28.cell? ⟨w4.heap.size, 4, none⟩ = some (.string R.1.1.utf) := by
    rw [hb28.cell (p := ⟨w4.heap.size, 4, none⟩) (show w4.heap.size < _ by (try simp) <;> (try omega))]
    exact q27_1_4
  have hl28_1 : w4.heap.size < w28.heap.size := by omega
  clear q27_1_0 q27_1_1 q27_1_2 q27_1_3 q27_1_4
  have q28_2_0 : w28.cell? ⟨w5.heap.size, 0, none⟩ = some (.int .i64 p.state) := by
    rw [hb28.cell (p := ⟨w5.heap.size, 0, none⟩) (show w5.heap.size < _ by (try simp) <;> (try omega))]
    exact q27_2_0
  have q28_2_1 : w28.cell? ⟨w5.heap.size, 1, none⟩ = some (.slice a5 p.args.length c5) := by
    rw [hb28.cell (p := ⟨w5.heap.size, 1, none⟩) (show w5.heap.size < _ by (try simp) <;> (try omega))]
    exact q27_2_1
  have q28_2_2 : w28.cell? ⟨w5.heap.size, 2, none⟩ = some (.bool p.priv) := by
    rw [hb28.cell (p := ⟨w5.heap.size, 2, none⟩) (show w5.heap.size < _ by (try simp) <;> (try omega))]
    exact q27_2_2
  have q28_2_3 : w28.cell? ⟨w5.heap.size, 3, none⟩ = some (.string p.text) := by
    rw [hb28.cell (p := ⟨w5.heap.size, 3, none⟩) (show w5.heap.size < _ by (try simp) <;> (try omega))]
    exact q27_2_3
  have q28_2_4 : w28.cell? ⟨w5.heap.size, 4, none⟩ = some (.string p.utf) := by
    rw [hb28.cell (p := ⟨w5.heap.size, 4, none⟩) (show w5.heap.size < _ by (try simp) <;> (try omega))]
    exact q27_2_4
  have hl28_2 : w5.heap.size < w28.heap.size := by omega
  clear q27_2_0 q27_2_1 q27_2_2 q27_2_3 q27_2_4
  have q28_3_0 : w28.cell? ⟨w7.heap.size, 0, none⟩ = some (.int .i64 R.1.1.state) := by
    rw [hb28.cell (p := ⟨w7.heap.size, 0, none⟩) (show w7.heap.size < _ by (try simp) <;> (try omega))]
    exact q27_3_0
  have q28_3_1 : w28.cell? ⟨w7.heap.size, 1, none⟩ = some (.slice a7 R.1.1.args.length c7) := by
    rw [hb28.cell (p := ⟨w7.heap.size, 1, none⟩) (show w7.heap.size < _ by (try simp) <;> (try omega))]
    exact q27_3_1
  have q28_3_2 : w28.cell? ⟨w7.heap.size, 2, none⟩ = some (.bool R.1.1.priv) := by
    rw [hb28.cell (p := ⟨w7.heap.size, 2, none⟩) (show w7.heap.size < _ by (try simp) <;> (try omega))]
    exact q27_3_2
  have q28_3_3 : w28.cell? ⟨w7.heap.size, 3, none⟩ = some (.string R.1.1.text) := by
    rw [hb28.cell (p := ⟨w7.heap.size, 3, none⟩) (show w7.heap.size < _ by (try simp) <;> (try omega))]
    exact q27_3_3
  have q28_3_4 : w28.cell? ⟨w7.heap.size, 4, none⟩ = some (.string R.1.1.utf) := by
    rw [hb28.cell (p := ⟨w7.heap.size, 4, none⟩) (show w7.heap.size < _ by (try simp) <;> (try omega))]
    exact q27_3_4
  have hl28_3 : w7.heap.size < w28.heap.size := by omega
  clear q27_3_0 q27_3_1 q27_3_2 q27_3_3 q27_3_4
  have q28_4_0 : w28.cell? ⟨w24.heap.size, 0, none⟩ = some (.int .i64 R.1.1.state) := by
    rw [hb28.cell (p := ⟨w24.heap.size, 0, none⟩) (show w24.heap.size < _ by (try simp) <;> (try omega))]
    exact q27_4_0
  have q28_4_1 : w28.cell? ⟨w24.heap.size, 1, none⟩ = some (.slice a24 R.1.1.args.length c24) := by
    rw [hb28.cell (p := ⟨w24.heap.size, 1, none⟩) (show w24.heap.size < _ by (try simp) <;> (try omega))]
    exact q27_4_1
  have q28_4_2 : w28.cell? ⟨w24.heap.size, 2, none⟩ = some (.bool R.1.1.priv) := by
    rw [hb28.cell (p := ⟨w24.heap.size, 2, none⟩) (show w24.heap.size < _ by (try simp) <;> (try omega))]
    exact q27_4_2
  have q28_4_3 : w28.cell? ⟨w24.heap.size, 3, none⟩ = some (.string R.1.1.text) := by
    rw [hb28.cell (p := ⟨w24.heap.size, 3, none⟩) (show w24.heap.size < _ by (try simp) <;> (try omega))]
    exact q27_4_3
  have q28_4_4 : w28.cell? ⟨w24.heap.size, 4, none⟩ = some (.string R.1.1.utf) := by
    rw [hb28.cell (p := ⟨w24.heap.size, 4, none⟩) (show w24.heap.size < _ by (try simp) <;> (try omega))]
    exact q27_4_4
  have hl28_4 : w24.heap.size < w28.heap.size := by omega
  clear q27_4_0 q27_4_1 q27_4_2 q27_4_3 q27_4_4
  have HB28 : Hid (Below w.heap.size w w28) := HB27.out.trans (hb28.mono (by (try simp) <;> (try omega)))
  clear hb28
  go_wp2_with fail
  go_ret
  exact ⟨rfl, HB28.out⟩
end
end Go.Proofs.YtlhhlmalihajcaaDoor
