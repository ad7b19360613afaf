/- (*impl.Node).reset at 1, (*impl.Node).follow. The node has one to five nodes. -/
import Derived.Test.YtfehfjiemelffaaRep
import Derived.Deep.RegionHeld3
import Derived.Deep.OwnRows
namespace Go.Proofs.Ytfehfjiemelffaa
set_option linter.unusedVariables false
set_option linter.unusedSimpArgs false
open Go.RowKit
/-- A call that changes the node's block alone: Next and Match lie in two new blocks. -/
def ResetR (B c : Nat) (w w' : World) : Prop :=
  ∃ g1 g2, w.heap.size ≤ g1 ∧ w.heap.size ≤ g2 ∧ g1 ≠ g2 ∧ g1 < w'.heap.size ∧ g2 < w'.heap.size ∧
    FreshIn intE 3 1 g1 (g1 + 1) (.slice (some ⟨g1, 0, none⟩) c c) (List.replicate c 1) w' ∧ FreshIn intE 3 1 g2 (g2 + 1) (.slice (some ⟨g2, 0, none⟩) c c) (List.replicate c 0) w' ∧
    w'.cell? ⟨B, 11, none⟩ = some (.slice (some ⟨g1, 0, none⟩) c c) ∧ w'.cell? ⟨B, 12, none⟩ = some (.slice (some ⟨g2, 0, none⟩) c c) ∧
    (∀ j, j < 11 → w'.cell? ⟨B, j, none⟩ = w.cell? ⟨B, j, none⟩) ∧ (∀ o, w'.frozen? ⟨B, o, none⟩ = false) ∧ Mid B (B + 1) w w'
theorem fresh_at {g n cap : Nat} {xs : List Int} {w : World} {B : Nat} (h : Fresh intE 3 1 B (.slice (some ⟨g, 0, none⟩) n cap) xs w) (hB : g ≤ B) : FreshIn intE 3 1 g (g + 1) (.slice (some ⟨g, 0, none⟩) n cap) xs w :=
  ⟨h.mono hB, fun k hk => by cases hk; show g < g + 1; omega⟩
theorem Mid.allocN {lo hi : Nat} {a w : World} (h : Mid lo hi a w) (o : Obj) : Mid lo hi a (w.alloc o) := h.trans (Mid.of_below _ _ ((Below.refl _ _).alloc (Nat.le_refl _) _))
theorem made_size (c : Nat) : (madeCells #[.int .i64 0] c).size = c := by
  have h := madeCells_flat intE 1 (0 : Int) #[.int .i64 0] rfl (fun _ => rfl) c
  have h2 := congrArg List.length h
  rw [flat_int] at h2
  simpa using h2
theorem fresh_lit (w : World) (c : Nat) (hc : c ≤ 5) : FreshIn intE 3 1 w.heap.size (w.heap.size + 1) (.slice (some ⟨w.heap.size, 0, none⟩) c c) (List.replicate c 0) (w.alloc (.cells (madeCells #[.int .i64 0] c) 3)) := by
  refine FreshIn.of_owns (World.ownsRow_lit w (madeCells #[.int .i64 0] c) c (Nat.le_refl _) (by unfold maxLen; omega) (by rw [made_size]; omega)) (by simp) ?_ (by omega)
  have h := madeCells_flat intE 1 (0 : Int) #[.int .i64 0] rfl (fun _ => rfl) c
  rw [Nat.mul_one] at h
  exact h
theorem fresh_lit' (w : World) (g : Nat) (hg : g = w.heap.size) (c : Nat) (hc : c ≤ 5) : FreshIn intE 3 1 g (g + 1) (.slice (some ⟨g, 0, none⟩) c c) (List.replicate c 0) (w.alloc (.cells (madeCells #[.int .i64 0] c) 3)) := by
  subst hg
  exact fresh_lit w c hc
set_option maxRecDepth 100000 in
set_option maxHeartbeats 8000000 in
theorem reset_c (B c : Nat) (hc : (c : Int) = 1 ∨ (c : Int) = 2 ∨ (c : Int) = 3 ∨ (c : Int) = 4 ∨ (c : Int) = 5) (t : Int) (s11 s12 : Value) (w : World) (hB : B < w.heap.size) (h1 : w.cell? ⟨B, 1, none⟩ = some (.int .i64 c)) (h11 : w.cell? ⟨B, 11, none⟩ = some s11) (h12 : w.cell? ⟨B, 12, none⟩ = some s12) (hf : ∀ o, w.frozen? ⟨B, o, none⟩ = false) :
    Calls Try.prog 23 #[.pointer (some ⟨B, 0, none⟩), .int .i64 1] w fun e w' => e = .returned (.tuple #[]) ∧ ResetR B c w w' := by
  have HC := Lib.hid hc
  have hc5 : c ≤ 5 := by omega
  clear hc
  have HREP : Hid (∀ (b ca : Nat) (w' : World), b < w'.heap.size → w'.cell? ⟨b, 0, none⟩ = some (.int .i64 1) → Calls Try.prog 24 #[.slice (some ⟨b, 0, none⟩) 1 ca, .int .i64 c] w' fun e w'' => e = .returned (.slice (some ⟨w'.heap.size, 0, none⟩) c c) ∧ Fresh intE 3 1 w'.heap.size (.slice (some ⟨w'.heap.size, 0, none⟩) c c) (List.replicate c 1) w'' ∧ Below w'.heap.size w' w'') := Lib.hid (fun b ca w' h1 h2 => repeat_c b ca c HC.out w' h1 h2)
  have hmk : ∀ w', (Instr.makeSlice 23 (.int .i64 c) (.int .i64 c)).run Try.prog w' = .ok (.slice (some ⟨w'.heap.size, 0, none⟩) c c) (w'.alloc (.cells (madeCells #[.int .i64 0] c) 3)) := fun w' => run_make_row' 23 3 (.int .i64 0) 8 Try.underlying23 Try.infoInt rfl .i64 .i64 c (by omega) (by omega) w'
  have r1 : ∀ x, (w.alloc x).cell? ⟨B, 1, none⟩ = some (.int .i64 c) := fun x => by
    rw [World.cell?_alloc_lt _ _ _ hB]
    exact h1
  have r11 : ∀ x, (w.alloc x).cell? ⟨B, 11, none⟩ = some s11 := fun x => by
    rw [World.cell?_alloc_lt _ _ _ hB]
    exact h11
  have r12 : ∀ x, (w.alloc x).cell? ⟨B, 12, none⟩ = some s12 := fun x => by
    rw [World.cell?_alloc_lt _ _ _ hB]
    exact h12
  have rf : ∀ x o, (w.alloc x).frozen? ⟨B, o, none⟩ = false := fun x o => by
    rw [((Below.refl _ _).alloc (Nat.le_refl _) _ : Below _ _ _).frozen (p := ⟨B, o, none⟩) hB]
    exact hf o
  have hBx : ∀ x, B < (w.alloc x).heap.size := fun x => by
    rw [World.size_alloc]
    omega
  have t1 : ∀ x y, ((w.alloc x).alloc y).cell? ⟨B, 1, none⟩ = some (.int .i64 c) := fun x y => by
    rw [World.cell?_alloc_lt _ _ _ (hBx x)]
    exact r1 x
  have t11 : ∀ x y, ((w.alloc x).alloc y).cell? ⟨B, 11, none⟩ = some s11 := fun x y => by
    rw [World.cell?_alloc_lt _ _ _ (hBx x)]
    exact r11 x
  have t12 : ∀ x y, ((w.alloc x).alloc y).cell? ⟨B, 12, none⟩ = some s12 := fun x y => by
    rw [World.cell?_alloc_lt _ _ _ (hBx x)]
    exact r12 x
  have tf : ∀ x y o, ((w.alloc x).alloc y).frozen? ⟨B, o, none⟩ = false := fun x y o => by
    rw [((Below.refl _ _).alloc (Nat.le_refl _) _ : Below _ _ _).frozen (p := ⟨B, o, none⟩) (hBx x)]
    exact rf x o
  go_enter Try.func23, Try.ntmps23
  go_wp2_with fail
  have BA : Below w.heap.size w ((w.alloc (.cells #[.int .i64 1] 3)).drew) := ((Below.refl _ _).alloc (Nat.le_refl _) _).drew
  have BB : Below w.heap.size w (((w.alloc (.cells (madeCells #[.int .i64 0] c) 3)).alloc (.cells #[.int .i64 1] 3)).drew) := (((Below.refl _ _).alloc (Nat.le_refl _) _).alloc (by simp) _).drew
  have BC : Below w.heap.size w (((w.alloc (.cells #[.int .i64 1] 3)).alloc (.cells (madeCells #[.int .i64 0] c) 3)).drew) := (((Below.refl _ _).alloc (Nat.le_refl _) _).alloc (by simp) _).drew
  have ZB : FreshIn intE 3 1 w.heap.size (w.heap.size + 1) (.slice (some ⟨w.heap.size, 0, none⟩) c c) (List.replicate c 0) (((w.alloc (.cells (madeCells #[.int .i64 0] c) 3)).alloc (.cells #[.int .i64 1] 3)).drew) := ((fresh_lit w c (by omega)).alloc (.cells #[.int .i64 1] 3)).drew
  have ZC : FreshIn intE 3 1 (w.heap.size + 1) (w.heap.size + 1 + 1) (.slice (some ⟨w.heap.size + 1, 0, none⟩) c c) (List.replicate c 0) (((w.alloc (.cells #[.int .i64 1] 3)).alloc (.cells (madeCells #[.int .i64 0] c) 3)).drew) := by
    have h := (fresh_lit (w.alloc (.cells #[.int .i64 1] 3)) c (by omega)).drew
    rw [World.size_alloc] at h
    exact h
  have qA : w.heap.size ≤ ((w.alloc (.cells #[.int .i64 1] 3)).drew).heap.size := by rw [World.size_drew, World.size_alloc]; omega
  have qB : w.heap.size ≤ (((w.alloc (.cells (madeCells #[.int .i64 0] c) 3)).alloc (.cells #[.int .i64 1] 3)).drew).heap.size := by rw [World.size_drew, World.size_alloc, World.size_alloc]; omega
  have qC : w.heap.size ≤ (((w.alloc (.cells #[.int .i64 1] 3)).alloc (.cells (madeCells #[.int .i64 0] c) 3)).drew).heap.size := by rw [World.size_drew, World.size_alloc, World.size_alloc]; omega
  have hBA := Lib.hid BA
  have hBB := Lib.hid BB
  have hBC := Lib.hid BC
  have hZB := Lib.hid ZB
  have hZC := Lib.hid ZC
  clear BA BB BC ZB ZC
  go_region_held3 (fun w' => w'.cell? ⟨B, 1, none⟩ = some (.int .i64 c))
    (first | (first | exact h1 | exact r1 _ | exact t1 _ _ | exact u1 | (simp [go_sem, h1, r1, t1]; done) | (simp [go_sem, u1, hB2]; done) | (simp [go_sem, u1, u11, u12, hB2]; done) | (rw [World.cell?_alloc_lt _ _ _ hB2]; exact u1)) | go_keep)
    (first
      | (go_at_call 24
         refine (HREP.out _ _ _ ?hl ?hcc).mono ?_
         case hl => (simp; try omega)
         case hcc => (simp [go_sem])
         rintro e w2 ⟨rfl, hf2, hb2⟩
         have hz2 : w.heap.size + 1 ≤ w2.heap.size := by
           have := hb2.size
           simp at this
           omega
         have u1 : w2.cell? ⟨B, 1, none⟩ = some (.int .i64 c) := by
           rw [hb2.cell (p := ⟨B, 1, none⟩) (by simp; omega)]
           simp only [World.cell?_drew]
           first | (with_reducible exact r1 _) | (with_reducible exact t1 _ _)
         have u11 : w2.cell? ⟨B, 11, none⟩ = some (s11) := by
           rw [hb2.cell (p := ⟨B, 11, none⟩) (by simp; omega)]
           simp only [World.cell?_drew]
           first | (with_reducible exact r11 _) | (with_reducible exact t11 _ _)
         have u12 : w2.cell? ⟨B, 12, none⟩ = some (s12) := by
           rw [hb2.cell (p := ⟨B, 12, none⟩) (by simp; omega)]
           simp only [World.cell?_drew]
           first | (with_reducible exact r12 _) | (with_reducible exact t12 _ _)
         have uf : ∀ o, w2.frozen? ⟨B, o, none⟩ = false := fun o => by
           rw [hb2.frozen (p := ⟨B, o, none⟩) (by simp; omega)]
           simp only [World.frozen?_drew]
           first | (with_reducible exact rf _ o) | (with_reducible exact tf _ _ o)
         have HBW2 : Hid (Below w.heap.size w w2) := by
           first
           | (with_reducible exact Lib.hid (hBA.out.trans (hb2.mono qA)))
           | (with_reducible exact Lib.hid (hBB.out.trans (hb2.mono qB)))
           | (with_reducible exact Lib.hid (hBC.out.trans (hb2.mono qC)))
         have hB2 : B < w2.heap.size := by omega
         have HF2 := Lib.hid hf2
         first
         | (have HZ2 := Lib.hid (by with_reducible exact hZB.out.below hb2))
         | (have HZ3 := Lib.hid (by with_reducible exact hZC.out.below hb2))
         | skip
         clear hf2))
  all_goals
    go_wp2_with fail
    refine bodyPost_end (v := .tuple #[]) (by simp [results, Try.results23]) rfl ?_
    have hF2 := HF2.out
    simp only [World.size_drew, World.size_alloc] at hF2
    have hFA := fresh_at hF2 (Nat.le_refl _)
    have hzF := (hF2.lt (k := _) rfl).2
    dsimp only at hzF
    have hneB : ∀ g, w.heap.size ≤ g → ¬ B = g := fun g hg => by omega
    first
    | (fail_if_success (have hq := HZ2)
       fail_if_success (have hq := HZ3)
       refine ⟨rfl, w.heap.size + 1, w2.heap.size, by omega, by omega, by omega, by (simp; try omega), by simp, ?_, ?_, ?_, ?_, ?_, ?_, ?_⟩)
    | (have hZ := HZ2.out
       refine ⟨rfl, w.heap.size + 1 + 1, w.heap.size, by omega, by omega, by omega, by (simp; try omega), by (simp; try omega), ?_, ?_, ?_, ?_, ?_, ?_, ?_⟩)
    | (have hZ := HZ3.out
       refine ⟨rfl, w.heap.size + 1 + 1, w.heap.size + 1, by omega, by omega, by omega, by (simp; try omega), by (simp; try omega), ?_, ?_, ?_, ?_, ?_, ?_, ?_⟩)
    · repeat (first | (with_reducible exact hFA) | (with_reducible refine FreshIn.setCell ?_ ?_ _; rotate_left; (show B < _; omega)) | (with_reducible refine FreshIn.alloc ?_ _))
    · first
      | exact fresh_lit' _ _ (by simp) c hc5
      | (repeat (first | (with_reducible exact hZ) | (with_reducible refine FreshIn.setCell ?_ ?_ _; rotate_left; (show B < _; omega)) | (with_reducible refine FreshIn.alloc ?_ _)))
    · simp [go_sem, u1, u11, u12, uf, hB2]
    · simp [go_sem, u1, u11, u12, uf, hB2]
    · intro j hj
      have h := HBW2.out.cell (p := ⟨B, j, none⟩) hB
      have n1 : ¬ j = 11 := by omega
      have n2 : ¬ j = 12 := by omega
      have n3 : ¬ 11 = j := by omega
      have n4 : ¬ 12 = j := by omega
      rw [← h]
      simp [go_sem, hB2, n1, n2, n3, n4]
    · intro o
      simp [go_sem, uf, hB2]
    · repeat (first | (with_reducible exact Mid.of_below _ _ HBW2.out) | (with_reducible refine Mid.setCell ?_ ?_ ?_ _; rotate_left; (show B ≤ B; omega); (show B < B + 1; omega)) | (with_reducible refine Mid.allocN ?_ _))
end Go.Proofs.Ytfehfjiemelffaa
