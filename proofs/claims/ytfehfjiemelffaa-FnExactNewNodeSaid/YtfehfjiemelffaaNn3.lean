/- spec.l08New: a new node of the reference. -/
import Derived.Test.YtfehfjiemelffaaNn2
import Derived.Deep.Upon
import Derived.Deep.DeepCutAuto
import Derived.Test.YtfehfjiemelffaaHeldG
namespace Go.Proofs.Ytfehfjiemelffaa
set_option linter.unusedVariables false
set_option linter.unusedSimpArgs false
open Go.RowKit
section
variable {P : Program} {md : Region.Mode} {ops : Array Oper} {Q : Exit → Act → World → Prop} {S : World → Prop} {ex : Nat → Bool}
theorem stepG {i : Nat} {o : Oper} {fuel : Nat} {listed : Array Bool} {a : Act} {w : World} (ho : ops[i]? = some o)
    (h : ∀ K' : Act → World → Prop, Shut (∀ a w, (ex i = true ∨ S w) → wpAnyG P md ops Q S ex fuel (listed.setIfInBounds i true) a w → K' a w) → if Region.wanted o (yielded ops a.tmps) = true then Oper.wp P o a w K' Q else K' (a.put o.dst undef) w) :
    wpOp P ops Q i (fun a' w' => (ex i = true ∨ (S w → S w')) ∧ wpAnyG P md ops Q S ex fuel (listed.setIfInBounds i true) a' w') a w :=
  wpOp_step ho (fun K' hK => h K' (fun a w h1 h2 => hK a w ⟨h1.imp id (fun h3 _ => h3), h2⟩))
theorem wpAnyG_of {rs : List Nat} {fuel : Nat} {listed : Array Bool} {a : Act} {w : World} (hr : Region.ready md ops listed = rs) (hne : rs ≠ [])
    (h : ∀ j ∈ rs, wpOp P ops Q j (fun a' w' => (ex j = true ∨ (S w → S w')) ∧ wpAnyG P md ops Q S ex fuel (listed.setIfInBounds j true) a' w') a w) : wpAnyG P md ops Q S ex (fuel + 1) listed a w :=
  ⟨fun h0 => absurd (hr.symm.trans h0) hne, fun j hj => h j (by rw [hr] at hj; exact hj)⟩
theorem wpAnyG_br {rs : List Nat} {fuel : Nat} {listed : Array Bool} {a : Act} {w : World} (hr : Region.ready md ops listed = rs) (hne : rs ≠ [])
    (h : ∀ j ∈ rs, ∃ o, ops[j]? = some o ∧ ∀ K' : Act → World → Prop, Shut (∀ a w, (ex j = true ∨ S w) → wpAnyG P md ops Q S ex fuel (listed.setIfInBounds j true) a w → K' a w) → if Region.wanted o (yielded ops a.tmps) = true then Oper.wp P o a w K' Q else K' (a.put o.dst undef) w) : wpAnyG P md ops Q S ex (fuel + 1) listed a w :=
  wpAnyG_of hr hne (fun j hj => by
    obtain ⟨o, ho, h1⟩ := h j hj
    exact stepG ho h1)
end
theorem exec_append_no {P : Program} {o : Oper} {a : Act} {w : World} (s x : Operand) (t tx e e' : TypeId) (i : TypeInfo) (ho : o.op = .call { callee := .builtin .append, args := #[s, x], argTypes := #[t, tx] })
    (ht : P.underlying t = some (.slice e)) (htx : P.underlying tx = some (.slice e')) (hi : P.info? e = some i) (b : Nat) (hs : a.eval s = .slice (some ⟨b, 0, none⟩) 0 0) (hx : a.eval x = .slice none 0 0) : (execOp a.eval o).run P w = .ok (.value (.slice (some ⟨b, 0, none⟩) 0 0)) w := by
  have hr : (Builtin.append_ #[t, tx] o.type #[.slice (some ⟨b, 0, none⟩) 0 0, .slice none 0 0]).run P w = .ok (.slice (some ⟨b, 0, none⟩) 0 0) w := run_append_nothing w t tx o.type e i ht hi (some ⟨b, 0, none⟩) 0 0 (Nat.le_refl _) _ (Src.ofSl (enc := fun _ : Unit => List.replicate i.size (Value.int .i64 0)) (xs := []) htx (fun _ => by simp) (fun _ u hu => by rw [List.eq_of_mem_replicate hu]; rfl) (.inl rfl) 0)
  simp [execOp, ho, resolve, invoke, builtin, hs, hx, hr, Result.andThen]
theorem intOne : ∀ (x : Int), ∀ u ∈ intE x, u.oneCell' = true := fun x u hu => by simp [intE] at hu; subst hu; rfl
theorem slRep {e : TypeId} {lo hi k ca : Nat} {a : Option Addr} {v : Int} {w : World} (h : FreshIn intE e 1 lo hi (.slice a k ca) (List.replicate k v) w) : SlIn intE 1 lo hi w a (List.replicate k v) :=
  FreshIn.slIn (e := e) (lo := lo) (hi := hi) (cap := ca) (fun _ => rfl) (by rw [List.length_replicate]; exact h)
/-- What the reference's new node is: the slices read as a new node's. -/
def NnR (id : Int) (c : Nat) (w : World) (e : Ending) (w' : World) : Prop :=
  ∃ b6 b12 b14 a11 c11, e = .returned (.agg #[.int .i64 id, .int .i64 c, .int .i64 0, .int .i64 (-1), .int .i64 0, .bool true, .slice (some ⟨b6, 0, none⟩) 0 0, .int .i64 0, .int .i64 0, .int .i64 (5 + id), .slice (some ⟨b12, 0, none⟩) 0 0, .slice a11 c c11, .slice (some ⟨b14, 0, none⟩) c c]) ∧ SlIn intE 1 w.heap.size w'.heap.size w' a11 (List.replicate c 1) ∧ SlIn intE 1 w.heap.size w'.heap.size w' (some ⟨b14, 0, none⟩) (List.replicate c 0) ∧ Below w.heap.size w w'
/-- The new node's box before the loop. -/
def NnC (id : Int) (c : Nat) (w2 : World) (s7 s15 s21 s23 : Value) (wx : World) : Prop :=
  ∃ B b6 b12 b14, s7 = .pointer (some ⟨B, 0, none⟩) ∧ s15 = .slice (some ⟨b6, 0, none⟩) 0 0 ∧ s21 = .slice (some ⟨b12, 0, none⟩) 0 0 ∧ s23 = .slice (some ⟨b14, 0, none⟩) c c ∧ wx.cell? ⟨B, 0, none⟩ = some (.int .i64 id) ∧ wx.cell? ⟨B, 1, none⟩ = some (.int .i64 c) ∧ wx.cell? ⟨B, 2, none⟩ = some (.int .i64 0) ∧ wx.cell? ⟨B, 3, none⟩ = some (.int .i64 (-1)) ∧ wx.cell? ⟨B, 4, none⟩ = some (.int .i64 0) ∧ wx.cell? ⟨B, 5, none⟩ = some (.bool true) ∧ wx.cell? ⟨B, 6, none⟩ = some (.slice (some ⟨b6, 0, none⟩) 0 0) ∧ wx.cell? ⟨B, 7, none⟩ = some (.int .i64 0) ∧ wx.cell? ⟨B, 8, none⟩ = some (.int .i64 0) ∧ wx.cell? ⟨B, 9, none⟩ = some (.int .i64 (5 + id)) ∧ wx.cell? ⟨B, 10, none⟩ = some (.slice (some ⟨b12, 0, none⟩) 0 0) ∧ wx.cell? ⟨B, 11, none⟩ = some (.slice none 0 0) ∧ wx.cell? ⟨B, 12, none⟩ = some (.slice (some ⟨b14, 0, none⟩) c c) ∧ (∀ o, wx.frozen? ⟨B, o, none⟩ = false) ∧ FreshIn intE 3 1 b14 (b14 + 1) (.slice (some ⟨b14, 0, none⟩) c c) (List.replicate c 0) wx ∧ w2.heap.size ≤ b14 ∧ b14 < wx.heap.size ∧ b14 ≠ B ∧ w2.heap.size ≤ B ∧ B < wx.heap.size ∧ Below w2.heap.size w2 wx
set_option maxRecDepth 100000 in
set_option maxHeartbeats 16000000 in
theorem l08New_c (id : Int) (c : Nat) (hc : (c : Int) = 1 ∨ (c : Int) = 2 ∨ (c : Int) = 3 ∨ (c : Int) = 4 ∨ (c : Int) = 5) (w : World) (h0 : 0 ≤ id) (h4 : id ≤ 4) :
    Calls Try.prog 11 #[.int .i64 id, .int .i64 c, .agg #[.int .i64 0, .int .i64 (-1), .slice none 0 0]] w fun e w' => NnR id c w e w' := by
  obtain ⟨ie, hie, _, _, _⟩ := info_parts Try.infoEntry
  obtain ⟨i0, hi, hz0, hz1, hz2⟩ := info_parts Try.infoInt
  have ew : IntKind.i64.wrap (5 + id) = 5 + id := IntWalk.i64_in _ ⟨by omega, by omega⟩
  have hmk : ∀ w', (Instr.makeSlice 23 (.int .i64 c) (.int .i64 c)).run Try.prog w' = .ok (.slice (some ⟨w'.heap.size, 0, none⟩) c c) (w'.alloc (.cells (madeCells #[.int .i64 0] c) 3)) := fun w' => run_make_row' 23 3 (.int .i64 0) 8 Try.underlying23 Try.infoInt rfl .i64 .i64 c (by omega) (by omega) w'
  have hc5 : c ≤ 5 := by omega
  have HC := Lib.hid hc
  clear hc
  go_enter Try.func11, Try.ntmps11
  go_upto_region 1 with fail
  have s_0 : ((w.alloc (.cells #[.int .i64 0, .int .i64 (-1), .slice none 0 0] 35)).alloc (.cells #[.int .i64 0, .int .i64 0, .int .i64 0, .int .i64 0, .int .i64 0, .bool false, .slice none 0 0, .int .i64 0, .int .i64 0, .int .i64 0, .slice none 0 0, .slice none 0 0, .slice none 0 0] 25)).cell? ⟨w.heap.size, 0, none⟩ = some (.int .i64 0) := by simp [go_sem]
  have s_1 : ((w.alloc (.cells #[.int .i64 0, .int .i64 (-1), .slice none 0 0] 35)).alloc (.cells #[.int .i64 0, .int .i64 0, .int .i64 0, .int .i64 0, .int .i64 0, .bool false, .slice none 0 0, .int .i64 0, .int .i64 0, .int .i64 0, .slice none 0 0, .slice none 0 0, .slice none 0 0] 25)).cell? ⟨w.heap.size, 1, none⟩ = some (.int .i64 (-1)) := by simp [go_sem]
  have s_2 : ((w.alloc (.cells #[.int .i64 0, .int .i64 (-1), .slice none 0 0] 35)).alloc (.cells #[.int .i64 0, .int .i64 0, .int .i64 0, .int .i64 0, .int .i64 0, .bool false, .slice none 0 0, .int .i64 0, .int .i64 0, .int .i64 0, .slice none 0 0, .slice none 0 0, .slice none 0 0] 25)).cell? ⟨w.heap.size, 2, none⟩ = some (.slice none 0 0) := by simp [go_sem]
  have z_0 : ((w.alloc (.cells #[.int .i64 0, .int .i64 (-1), .slice none 0 0] 35)).alloc (.cells #[.int .i64 0, .int .i64 0, .int .i64 0, .int .i64 0, .int .i64 0, .bool false, .slice none 0 0, .int .i64 0, .int .i64 0, .int .i64 0, .slice none 0 0, .slice none 0 0, .slice none 0 0] 25)).cell? ⟨w.heap.size + 1, 0, none⟩ = some (.int .i64 0) := by simp [go_sem]
  have z_1 : ((w.alloc (.cells #[.int .i64 0, .int .i64 (-1), .slice none 0 0] 35)).alloc (.cells #[.int .i64 0, .int .i64 0, .int .i64 0, .int .i64 0, .int .i64 0, .bool false, .slice none 0 0, .int .i64 0, .int .i64 0, .int .i64 0, .slice none 0 0, .slice none 0 0, .slice none 0 0] 25)).cell? ⟨w.heap.size + 1, 1, none⟩ = some (.int .i64 0) := by simp [go_sem]
  have z_2 : ((w.alloc (.cells #[.int .i64 0, .int .i64 (-1), .slice none 0 0] 35)).alloc (.cells #[.int .i64 0, .int .i64 0, .int .i64 0, .int .i64 0, .int .i64 0, .bool false, .slice none 0 0, .int .i64 0, .int .i64 0, .int .i64 0, .slice none 0 0, .slice none 0 0, .slice none 0 0] 25)).cell? ⟨w.heap.size + 1, 2, none⟩ = some (.int .i64 0) := by simp [go_sem]
  have z_3 : ((w.alloc (.cells #[.int .i64 0, .int .i64 (-1), .slice none 0 0] 35)).alloc (.cells #[.int .i64 0, .int .i64 0, .int .i64 0, .int .i64 0, .int .i64 0, .bool false, .slice none 0 0, .int .i64 0, .int .i64 0, .int .i64 0, .slice none 0 0, .slice none 0 0, .slice none 0 0] 25)).cell? ⟨w.heap.size + 1, 3, none⟩ = some (.int .i64 0) := by simp [go_sem]
  have z_4 : ((w.alloc (.cells #[.int .i64 0, .int .i64 (-1), .slice none 0 0] 35)).alloc (.cells #[.int .i64 0, .int .i64 0, .int .i64 0, .int .i64 0, .int .i64 0, .bool false, .slice none 0 0, .int .i64 0, .int .i64 0, .int .i64 0, .slice none 0 0, .slice none 0 0, .slice none 0 0] 25)).cell? ⟨w.heap.size + 1, 4, none⟩ = some (.int .i64 0) := by simp [go_sem]
  have z_5 : ((w.alloc (.cells #[.int .i64 0, .int .i64 (-1), .slice none 0 0] 35)).alloc (.cells #[.int .i64 0, .int .i64 0, .int .i64 0, .int .i64 0, .int .i64 0, .bool false, .slice none 0 0, .int .i64 0, .int .i64 0, .int .i64 0, .slice none 0 0, .slice none 0 0, .slice none 0 0] 25)).cell? ⟨w.heap.size + 1, 5, none⟩ = some (.bool false) := by simp [go_sem]
  have z_6 : ((w.alloc (.cells #[.int .i64 0, .int .i64 (-1), .slice none 0 0] 35)).alloc (.cells #[.int .i64 0, .int .i64 0, .int .i64 0, .int .i64 0, .int .i64 0, .bool false, .slice none 0 0, .int .i64 0, .int .i64 0, .int .i64 0, .slice none 0 0, .slice none 0 0, .slice none 0 0] 25)).cell? ⟨w.heap.size + 1, 6, none⟩ = some (.slice none 0 0) := by simp [go_sem]
  have z_7 : ((w.alloc (.cells #[.int .i64 0, .int .i64 (-1), .slice none 0 0] 35)).alloc (.cells #[.int .i64 0, .int .i64 0, .int .i64 0, .int .i64 0, .int .i64 0, .bool false, .slice none 0 0, .int .i64 0, .int .i64 0, .int .i64 0, .slice none 0 0, .slice none 0 0, .slice none 0 0] 25)).cell? ⟨w.heap.size + 1, 7, none⟩ = some (.int .i64 0) := by simp [go_sem]
  have z_8 : ((w.alloc (.cells #[.int .i64 0, .int .i64 (-1), .slice none 0 0] 35)).alloc (.cells #[.int .i64 0, .int .i64 0, .int .i64 0, .int .i64 0, .int .i64 0, .bool false, .slice none 0 0, .int .i64 0, .int .i64 0, .int .i64 0, .slice none 0 0, .slice none 0 0, .slice none 0 0] 25)).cell? ⟨w.heap.size + 1, 8, none⟩ = some (.int .i64 0) := by simp [go_sem]
  have z_9 : ((w.alloc (.cells #[.int .i64 0, .int .i64 (-1), .slice none 0 0] 35)).alloc (.cells #[.int .i64 0, .int .i64 0, .int .i64 0, .int .i64 0, .int .i64 0, .bool false, .slice none 0 0, .int .i64 0, .int .i64 0, .int .i64 0, .slice none 0 0, .slice none 0 0, .slice none 0 0] 25)).cell? ⟨w.heap.size + 1, 9, none⟩ = some (.int .i64 0) := by simp [go_sem]
  have z_10 : ((w.alloc (.cells #[.int .i64 0, .int .i64 (-1), .slice none 0 0] 35)).alloc (.cells #[.int .i64 0, .int .i64 0, .int .i64 0, .int .i64 0, .int .i64 0, .bool false, .slice none 0 0, .int .i64 0, .int .i64 0, .int .i64 0, .slice none 0 0, .slice none 0 0, .slice none 0 0] 25)).cell? ⟨w.heap.size + 1, 10, none⟩ = some (.slice none 0 0) := by simp [go_sem]
  have z_11 : ((w.alloc (.cells #[.int .i64 0, .int .i64 (-1), .slice none 0 0] 35)).alloc (.cells #[.int .i64 0, .int .i64 0, .int .i64 0, .int .i64 0, .int .i64 0, .bool false, .slice none 0 0, .int .i64 0, .int .i64 0, .int .i64 0, .slice none 0 0, .slice none 0 0, .slice none 0 0] 25)).cell? ⟨w.heap.size + 1, 11, none⟩ = some (.slice none 0 0) := by simp [go_sem]
  have z_12 : ((w.alloc (.cells #[.int .i64 0, .int .i64 (-1), .slice none 0 0] 35)).alloc (.cells #[.int .i64 0, .int .i64 0, .int .i64 0, .int .i64 0, .int .i64 0, .bool false, .slice none 0 0, .int .i64 0, .int .i64 0, .int .i64 0, .slice none 0 0, .slice none 0 0, .slice none 0 0] 25)).cell? ⟨w.heap.size + 1, 12, none⟩ = some (.slice none 0 0) := by simp [go_sem]
  have zf : ∀ o, ((w.alloc (.cells #[.int .i64 0, .int .i64 (-1), .slice none 0 0] 35)).alloc (.cells #[.int .i64 0, .int .i64 0, .int .i64 0, .int .i64 0, .int .i64 0, .bool false, .slice none 0 0, .int .i64 0, .int .i64 0, .int .i64 0, .slice none 0 0, .slice none 0 0, .slice none 0 0] 25)).frozen? ⟨w.heap.size + 1, o, none⟩ = false := fun o => by simp [go_sem]
  have HB2 : Hid (Below w.heap.size w ((w.alloc (.cells #[.int .i64 0, .int .i64 (-1), .slice none 0 0] 35)).alloc (.cells #[.int .i64 0, .int .i64 0, .int .i64 0, .int .i64 0, .int .i64 0, .bool false, .slice none 0 0, .int .i64 0, .int .i64 0, .int .i64 0, .slice none 0 0, .slice none 0 0, .slice none 0 0] 25))) := (((Below.refl _ _).alloc (Nat.le_refl _) _).alloc (by simp) _)
  have hz : w.heap.size + 1 < ((w.alloc (.cells #[.int .i64 0, .int .i64 (-1), .slice none 0 0] 35)).alloc (.cells #[.int .i64 0, .int .i64 0, .int .i64 0, .int .i64 0, .int .i64 0, .bool false, .slice none 0 0, .int .i64 0, .int .i64 0, .int .i64 0, .slice none 0 0, .slice none 0 0, .slice none 0 0] 25)).heap.size := by simp
  generalize ((w.alloc (.cells #[.int .i64 0, .int .i64 (-1), .slice none 0 0] 35)).alloc (.cells #[.int .i64 0, .int .i64 0, .int .i64 0, .int .i64 0, .int .i64 0, .bool false, .slice none 0 0, .int .i64 0, .int .i64 0, .int .i64 0, .slice none 0 0, .slice none 0 0, .slice none 0 0] 25)) = w2 at *
  go_cut [7, 15, 21, 23] (fun s7 s15 s21 s23 wx => NnC id c w2 s7 s15 s21 s23 wx)
  case first =>
    have r_0 : ∀ x, (w2.alloc x).cell? ⟨w.heap.size, 0, none⟩ = some (.int .i64 0) := fun x => (World.cell?_alloc_lt _ _ _ (by show w.heap.size < _; omega)).trans s_0
    have r_1 : ∀ x, (w2.alloc x).cell? ⟨w.heap.size, 1, none⟩ = some (.int .i64 (-1)) := fun x => (World.cell?_alloc_lt _ _ _ (by show w.heap.size < _; omega)).trans s_1
    have r_2 : ∀ x, (w2.alloc x).cell? ⟨w.heap.size, 2, none⟩ = some (.slice none 0 0) := fun x => (World.cell?_alloc_lt _ _ _ (by show w.heap.size < _; omega)).trans s_2
    have hzw : w.heap.size < w2.heap.size := by omega
    refine wp_region_G (fun w' => Below w2.heap.size w2 w') (fun i => i == 17) (by kernel_rfl) (Below.refl _ _).drew ?_
    refine wpAnyG_takeW (i := 0) (v := ?_) rfl (by kernel_rfl) (by kernel_rfl) (by kernel_rfl) (fun _ _ _ h => h) (Or.inl ⟨by rfl, ?_⟩) ?_
    rotate_left
    · intro w' hSw
      go_simp
      try (with_reducible rfl)
    try simp only [Act.put, List.getElem_toArray, List.getElem_cons_zero, List.getElem_cons_succ, List.setIfInBounds_toArray, List.set_cons_zero, List.set_cons_succ]
    refine wpAnyG_takeW (i := 1) (v := ?_) rfl (by kernel_rfl) (by kernel_rfl) (by kernel_rfl) (fun _ _ _ h => h) (Or.inl ⟨by rfl, ?_⟩) ?_
    rotate_left
    · intro w' hSw
      go_simp
      try (with_reducible rfl)
    try simp only [Act.put, List.getElem_toArray, List.getElem_cons_zero, List.getElem_cons_succ, List.setIfInBounds_toArray, List.set_cons_zero, List.set_cons_succ]
    refine wpAnyG_takeW (i := 2) (v := ?_) rfl (by kernel_rfl) (by kernel_rfl) (by kernel_rfl) (fun _ _ _ h => h) (Or.inl ⟨by rfl, ?_⟩) ?_
    rotate_left
    · intro w' hSw
      go_simp
      try (with_reducible rfl)
    try simp only [Act.put, List.getElem_toArray, List.getElem_cons_zero, List.getElem_cons_succ, List.setIfInBounds_toArray, List.set_cons_zero, List.set_cons_succ]
    refine wpAnyG_takeW (i := 4) (v := ?_) rfl (by kernel_rfl) (by kernel_rfl) (by kernel_rfl) (fun _ _ _ h => h) (Or.inl ⟨by rfl, ?_⟩) ?_
    rotate_left
    · intro w' hSw
      go_simp
      try (with_reducible rfl)
    try simp only [Act.put, List.getElem_toArray, List.getElem_cons_zero, List.getElem_cons_succ, List.setIfInBounds_toArray, List.set_cons_zero, List.set_cons_succ]
    refine wpAnyG_takeW (i := 7) (v := ?_) rfl (by kernel_rfl) (by kernel_rfl) (by kernel_rfl) (fun _ _ _ h => h) (Or.inl ⟨by rfl, ?_⟩) ?_
    rotate_left
    · intro w' hSw
      go_simp
      try (with_reducible rfl)
    try simp only [Act.put, List.getElem_toArray, List.getElem_cons_zero, List.getElem_cons_succ, List.setIfInBounds_toArray, List.set_cons_zero, List.set_cons_succ]
    refine wpAnyG_takeW (i := 10) (v := ?_) rfl (by kernel_rfl) (by kernel_rfl) (by kernel_rfl) (fun _ _ _ h => h) (Or.inl ⟨by rfl, ?_⟩) ?_
    rotate_left
    · intro w' hSw
      go_simp
      try (with_reducible rfl)
    try simp only [Act.put, List.getElem_toArray, List.getElem_cons_zero, List.getElem_cons_succ, List.setIfInBounds_toArray, List.set_cons_zero, List.set_cons_succ]
    refine wpAnyG_takeW (i := 11) (v := ?_) rfl (by kernel_rfl) (by kernel_rfl) (by kernel_rfl) (fun _ _ _ h => h) (Or.inl ⟨by rfl, ?_⟩) ?_
    rotate_left
    · intro w' hSw
      go_simp
      try (with_reducible rfl)
    try simp only [Act.put, List.getElem_toArray, List.getElem_cons_zero, List.getElem_cons_succ, List.setIfInBounds_toArray, List.set_cons_zero, List.set_cons_succ]
    refine wpAnyG_takeW (i := 13) (v := ?_) rfl (by kernel_rfl) (by kernel_rfl) (by kernel_rfl) (fun _ _ _ h => h) (Or.inl ⟨by rfl, ?_⟩) ?_
    rotate_left
    · intro w' hSw
      go_simp
      try (with_reducible rfl)
    try simp only [Act.put, List.getElem_toArray, List.getElem_cons_zero, List.getElem_cons_succ, List.setIfInBounds_toArray, List.set_cons_zero, List.set_cons_succ]
    refine wpAnyG_take (i := 3) (v := ?_) rfl (by kernel_rfl) (by kernel_rfl) (by kernel_rfl) (by kernel_rfl) (fun _ _ _ h => h) (Below.refl _ _).drew (Or.inl ⟨by rfl, ?_⟩) ?_
    rotate_left
    · intro w' hSw
      have h0 := (hSw.cell (p := ⟨w.heap.size, 0, none⟩) hzw).trans s_0
      have h1 := (hSw.cell (p := ⟨w.heap.size, 1, none⟩) hzw).trans s_1
      have h2 := (hSw.cell (p := ⟨w.heap.size, 2, none⟩) hzw).trans s_2
      go_simp
      try (with_reducible rfl)
    try simp only [Act.put, List.getElem_toArray, List.getElem_cons_zero, List.getElem_cons_succ, List.setIfInBounds_toArray, List.set_cons_zero, List.set_cons_succ]
    refine wpAnyG_take (i := 5) (v := ?_) rfl (by kernel_rfl) (by kernel_rfl) (by kernel_rfl) (by kernel_rfl) (fun _ _ _ h => h) (Below.refl _ _).drew (Or.inl ⟨by rfl, ?_⟩) ?_
    rotate_left
    · intro w' hSw
      have h0 := (hSw.cell (p := ⟨w.heap.size, 0, none⟩) hzw).trans s_0
      have h1 := (hSw.cell (p := ⟨w.heap.size, 1, none⟩) hzw).trans s_1
      have h2 := (hSw.cell (p := ⟨w.heap.size, 2, none⟩) hzw).trans s_2
      go_simp
      try (with_reducible rfl)
    try simp only [Act.put, List.getElem_toArray, List.getElem_cons_zero, List.getElem_cons_succ, List.setIfInBounds_toArray, List.set_cons_zero, List.set_cons_succ]
    refine wpAnyG_take (i := 8) (v := ?_) rfl (by kernel_rfl) (by kernel_rfl) (by kernel_rfl) (by kernel_rfl) (fun _ _ _ h => h) (Below.refl _ _).drew (Or.inl ⟨by rfl, ?_⟩) ?_
    rotate_left
    · intro w' hSw
      have h0 := (hSw.cell (p := ⟨w.heap.size, 0, none⟩) hzw).trans s_0
      have h1 := (hSw.cell (p := ⟨w.heap.size, 1, none⟩) hzw).trans s_1
      have h2 := (hSw.cell (p := ⟨w.heap.size, 2, none⟩) hzw).trans s_2
      go_simp
      try (with_reducible rfl)
    try simp only [Act.put, List.getElem_toArray, List.getElem_cons_zero, List.getElem_cons_succ, List.setIfInBounds_toArray, List.set_cons_zero, List.set_cons_succ]
    refine wpAnyG_br (rs := [6, 12, 14, 16]) (by kernel_rfl) (by simp) ?_
    intro j hj
    simp only [List.mem_cons, List.not_mem_nil, or_false] at hj
    rcases hj with rfl | rfl | rfl | rfl
    · skip
      refine ⟨_, rfl, fun K' hK => ?_⟩
      simp only [List.getElem_toArray, List.getElem_cons_zero, List.getElem_cons_succ]
      go_simp
      refine hK.out _ _ (Or.inr (by (repeat (first | (with_reducible exact Below.refl _ _) | (with_reducible exact Below.drew (Below.refl _ _)) | (with_reducible refine Below.drew ?_) | (with_reducible refine Below.alloc ?_ ?_ _; rotate_left; ((try simp) <;> (try omega))))))) ?_
      clear hK K'
      try simp only [Act.put, List.getElem_toArray, List.getElem_cons_zero, List.getElem_cons_succ, List.setIfInBounds_toArray, List.set_cons_zero, List.set_cons_succ]
      refine wpAnyG_takeW (i := 9) (v := .slice (some ⟨w2.heap.size, 0, none⟩) 0 0) rfl (by kernel_rfl) (by kernel_rfl) (by kernel_rfl) (fun _ _ _ h => h) (Or.inl ⟨by rfl, ?_⟩) ?_
      · intro w' hSw
        refine exec_append_no (.tmp 15) (.tmp 17) 22 22 43 43 ie ?_ Try.underlying22 Try.underlying22 hie (w2.heap.size) ?_ ?_
        · rfl
        · rfl
        · rfl
      try simp only [Act.put, List.getElem_toArray, List.getElem_cons_zero, List.getElem_cons_succ, List.setIfInBounds_toArray, List.set_cons_zero, List.set_cons_succ]
      refine wpAnyG_br (rs := [12, 14, 16]) (by kernel_rfl) (by simp) ?_
      intro j hj
      simp only [List.mem_cons, List.not_mem_nil, or_false] at hj
      rcases hj with rfl | rfl | rfl
      · skip
        refine ⟨_, rfl, fun K' hK => ?_⟩
        simp only [List.getElem_toArray, List.getElem_cons_zero, List.getElem_cons_succ]
        go_simp
        refine hK.out _ _ (Or.inr (by (repeat (first | (with_reducible exact Below.refl _ _) | (with_reducible exact Below.drew (Below.refl _ _)) | (with_reducible refine Below.drew ?_) | (with_reducible refine Below.alloc ?_ ?_ _; rotate_left; ((try simp) <;> (try omega))))))) ?_
        clear hK K'
        try simp only [Act.put, List.getElem_toArray, List.getElem_cons_zero, List.getElem_cons_succ, List.setIfInBounds_toArray, List.set_cons_zero, List.set_cons_succ]
        refine wpAnyG_br (rs := [14, 16]) (by kernel_rfl) (by simp) ?_
        intro j hj
        simp only [List.mem_cons, List.not_mem_nil, or_false] at hj
        rcases hj with rfl | rfl
        · skip
          refine ⟨_, rfl, fun K' hK => ?_⟩
          simp only [List.getElem_toArray, List.getElem_cons_zero, List.getElem_cons_succ]
          go_simp
          refine hK.out _ _ (Or.inr (by (repeat (first | (with_reducible exact Below.refl _ _) | (with_reducible exact Below.drew (Below.refl _ _)) | (with_reducible refine Below.drew ?_) | (with_reducible refine Below.alloc ?_ ?_ _; rotate_left; ((try simp) <;> (try omega))))))) ?_
          clear hK K'
          try simp only [Act.put, List.getElem_toArray, List.getElem_cons_zero, List.getElem_cons_succ, List.setIfInBounds_toArray, List.set_cons_zero, List.set_cons_succ]
          refine wpAnyG_takeW (i := 15) (v := ?_) rfl (by kernel_rfl) (by kernel_rfl) (by kernel_rfl) (fun _ _ _ h => h) (Or.inl ⟨by rfl, ?_⟩) ?_
          rotate_left
          · intro w' hSw
            go_simp
            try (with_reducible rfl)
          try simp only [Act.put, List.getElem_toArray, List.getElem_cons_zero, List.getElem_cons_succ, List.setIfInBounds_toArray, List.set_cons_zero, List.set_cons_succ]
          refine wpAnyG_br (rs := [16]) (by kernel_rfl) (by simp) ?_
          intro j hj
          simp only [List.mem_cons, List.not_mem_nil, or_false] at hj
          rcases hj with rfl
          · skip
            refine ⟨_, rfl, fun K' hK => ?_⟩
            simp only [List.getElem_toArray, List.getElem_cons_zero, List.getElem_cons_succ]
            go_simp
            refine hK.out _ _ (Or.inr (by (repeat (first | (with_reducible exact Below.refl _ _) | (with_reducible exact Below.drew (Below.refl _ _)) | (with_reducible refine Below.drew ?_) | (with_reducible refine Below.alloc ?_ ?_ _; rotate_left; ((try simp) <;> (try omega))))))) ?_
            clear hK K'
            try simp only [Act.put, List.getElem_toArray, List.getElem_cons_zero, List.getElem_cons_succ, List.setIfInBounds_toArray, List.set_cons_zero, List.set_cons_succ]
            refine wpAnyG_br (rs := [17]) (by kernel_rfl) (by simp) ?_
            intro j hj
            simp only [List.mem_cons, List.not_mem_nil, or_false] at hj
            subst hj
            refine ⟨_, rfl, fun K' hK => ?_⟩
            simp only [List.getElem_toArray, List.getElem_cons_zero, List.getElem_cons_succ]
            go_simp
            refine hK.out _ _ (Or.inl rfl) ?_
            clear hK K'
            try simp only [Act.put, List.getElem_toArray, List.getElem_cons_zero, List.getElem_cons_succ, List.setIfInBounds_toArray, List.set_cons_zero, List.set_cons_succ]
            refine wpAnyG_done (by kernel_rfl) ?_ _
            go_wp2_with fail
            go_meet
            refine ⟨_, _, _, _, rfl, rfl, rfl, rfl, by simp [go_sem], by simp [go_sem], by simp [go_sem], by simp [go_sem], by simp [go_sem], by simp [go_sem], by simp [go_sem], by simp [go_sem], by simp [go_sem], by simp [go_sem], by simp [go_sem], by simp [go_sem], by simp [go_sem], fun o => by simp [go_sem], ?_, by (try simp); try omega, by (try simp); try omega, by (try simp); try omega, by (try simp); try omega, by (try simp); try omega, ?_⟩
            · repeat (first | (with_reducible exact fresh_lit' _ _ (by simp) c hc5) | (with_reducible refine FreshIn.drew ?_) | (with_reducible refine FreshIn.alloc ?_ _))
            · (repeat (first | (with_reducible exact Below.refl _ _) | (with_reducible exact Below.drew (Below.refl _ _)) | (with_reducible refine Below.drew ?_) | (with_reducible refine Below.alloc ?_ ?_ _; rotate_left; ((try simp) <;> (try omega)))))
        · skip
          refine ⟨_, rfl, fun K' hK => ?_⟩
          simp only [List.getElem_toArray, List.getElem_cons_zero, List.getElem_cons_succ]
          go_simp
          refine hK.out _ _ (Or.inr (by (repeat (first | (with_reducible exact Below.refl _ _) | (with_reducible exact Below.drew (Below.refl _ _)) | (with_reducible refine Below.drew ?_) | (with_reducible refine Below.alloc ?_ ?_ _; rotate_left; ((try simp) <;> (try omega))))))) ?_
          clear hK K'
          try simp only [Act.put, List.getElem_toArray, List.getElem_cons_zero, List.getElem_cons_succ, List.setIfInBounds_toArray, List.set_cons_zero, List.set_cons_succ]
          refine wpAnyG_br (rs := [14]) (by kernel_rfl) (by simp) ?_
          intro j hj
          simp only [List.mem_cons, List.not_mem_nil, or_false] at hj
          rcases hj with rfl
          · skip
            refine ⟨_, rfl, fun K' hK => ?_⟩
            simp only [List.getElem_toArray, List.getElem_cons_zero, List.getElem_cons_succ]
            go_simp
            refine hK.out _ _ (Or.inr (by (repeat (first | (with_reducible exact Below.refl _ _) | (with_reducible exact Below.drew (Below.refl _ _)) | (with_reducible refine Below.drew ?_) | (with_reducible refine Below.alloc ?_ ?_ _; rotate_left; ((try simp) <;> (try omega))))))) ?_
            clear hK K'
            try simp only [Act.put, List.getElem_toArray, List.getElem_cons_zero, List.getElem_cons_succ, List.setIfInBounds_toArray, List.set_cons_zero, List.set_cons_succ]
            refine wpAnyG_takeW (i := 15) (v := ?_) rfl (by kernel_rfl) (by kernel_rfl) (by kernel_rfl) (fun _ _ _ h => h) (Or.inl ⟨by rfl, ?_⟩) ?_
            rotate_left
            · intro w' hSw
              go_simp
              try (with_reducible rfl)
            try simp only [Act.put, List.getElem_toArray, List.getElem_cons_zero, List.getElem_cons_succ, List.setIfInBounds_toArray, List.set_cons_zero, List.set_cons_succ]
            refine wpAnyG_br (rs := [17]) (by kernel_rfl) (by simp) ?_
            intro j hj
            simp only [List.mem_cons, List.not_mem_nil, or_false] at hj
            subst hj
            refine ⟨_, rfl, fun K' hK => ?_⟩
            simp only [List.getElem_toArray, List.getElem_cons_zero, List.getElem_cons_succ]
            go_simp
            refine hK.out _ _ (Or.inl rfl) ?_
            clear hK K'
            try simp only [Act.put, List.getElem_toArray, List.getElem_cons_zero, List.getElem_cons_succ, List.setIfInBounds_toArray, List.set_cons_zero, List.set_cons_succ]
            refine wpAnyG_done (by kernel_rfl) ?_ _
            go_wp2_with fail
            go_meet
            refine ⟨_, _, _, _, rfl, rfl, rfl, rfl, by simp [go_sem], by simp [go_sem], by simp [go_sem], by simp [go_sem], by simp [go_sem], by simp [go_sem], by simp [go_sem], by simp [go_sem], by simp [go_sem], by simp [go_sem], by simp [go_sem], by simp [go_sem], by simp [go_sem], fun o => by simp [go_sem], ?_, by (try simp); try omega, by (try simp); try omega, by (try simp); try omega, by (try simp); try omega, by (try simp); try omega, ?_⟩
            · repeat (first | (with_reducible exact fresh_lit' _ _ (by simp) c hc5) | (with_reducible refine FreshIn.drew ?_) | (with_reducible refine FreshIn.alloc ?_ _))
            · (repeat (first | (with_reducible exact Below.refl _ _) | (with_reducible exact Below.drew (Below.refl _ _)) | (with_reducible refine Below.drew ?_) | (with_reducible refine Below.alloc ?_ ?_ _; rotate_left; ((try simp) <;> (try omega)))))
      · skip
        refine ⟨_, rfl, fun K' hK => ?_⟩
        simp only [List.getElem_toArray, List.getElem_cons_zero, List.getElem_cons_succ]
        go_simp
        refine hK.out _ _ (Or.inr (by (repeat (first | (with_reducible exact Below.refl _ _) | (with_reducible exact Below.drew (Below.refl _ _)) | (with_reducible refine Below.drew ?_) | (with_reducible refine Below.alloc ?_ ?_ _; rotate_left; ((try simp) <;> (try omega))))))) ?_
        clear hK K'
        try simp only [Act.put, List.getElem_toArray, List.getElem_cons_zero, List.getElem_cons_succ, List.setIfInBounds_toArray, List.set_cons_zero, List.set_cons_succ]
        refine wpAnyG_br (rs := [12, 16]) (by kernel_rfl) (by simp) ?_
        intro j hj
        simp only [List.mem_cons, List.not_mem_nil, or_false] at hj
        rcases hj with rfl | rfl
        · skip
          refine ⟨_, rfl, fun K' hK => ?_⟩
          simp only [List.getElem_toArray, List.getElem_cons_zero, List.getElem_cons_succ]
          go_simp
          refine hK.out _ _ (Or.inr (by (repeat (first | (with_reducible exact Below.refl _ _) | (with_reducible exact Below.drew (Below.refl _ _)) | (with_reducible refine Below.drew ?_) | (with_reducible refine Below.alloc ?_ ?_ _; rotate_left; ((try simp) <;> (try omega))))))) ?_
          clear hK K'
          try simp only [Act.put, List.getElem_toArray, List.getElem_cons_zero, List.getElem_cons_succ, List.setIfInBounds_toArray, List.set_cons_zero, List.set_cons_succ]
          refine wpAnyG_takeW (i := 15) (v := ?_) rfl (by kernel_rfl) (by kernel_rfl) (by kernel_rfl) (fun _ _ _ h => h) (Or.inl ⟨by rfl, ?_⟩) ?_
          rotate_left
          · intro w' hSw
            go_simp
            try (with_reducible rfl)
          try simp only [Act.put, List.getElem_toArray, List.getElem_cons_zero, List.getElem_cons_succ, List.setIfInBounds_toArray, List.set_cons_zero, List.set_cons_succ]
          refine wpAnyG_br (rs := [16]) (by kernel_rfl) (by simp) ?_
          intro j hj
          simp only [List.mem_cons, List.not_mem_nil, or_false] at hj
          rcases hj with rfl
          · skip
            refine ⟨_, rfl, fun K' hK => ?_⟩
            simp only [List.getElem_toArray, List.getElem_cons_zero, List.getElem_cons_succ]
            go_simp
            refine hK.out _ _ (Or.inr (by (repeat (first | (with_reducible exact Below.refl _ _) | (with_reducible exact Below.drew (Below.refl _ _)) | (with_reducible refine Below.drew ?_) | (with_reducible refine Below.alloc ?_ ?_ _; rotate_left; ((try simp) <;> (try omega))))))) ?_
            clear hK K'
            try simp only [Act.put, List.getElem_toArray, List.getElem_cons_zero, List.getElem_cons_succ, List.setIfInBounds_toArray, List.set_cons_zero, List.set_cons_succ]
            refine wpAnyG_br (rs := [17]) (by kernel_rfl) (by simp) ?_
            intro j hj
            simp only [List.mem_cons, List.not_mem_nil, or_false] at hj
            subst hj
            refine ⟨_, rfl, fun K' hK => ?_⟩
            simp only [List.getElem_toArray, List.getElem_cons_zero, List.getElem_cons_succ]
            go_simp
            refine hK.out _ _ (Or.inl rfl) ?_
            clear hK K'
            try simp only [Act.put, List.getElem_toArray, List.getElem_cons_zero, List.getElem_cons_succ, List.setIfInBounds_toArray, List.set_cons_zero, List.set_cons_succ]
            refine wpAnyG_done (by kernel_rfl) ?_ _
            go_wp2_with fail
            go_meet
            refine ⟨_, _, _, _, rfl, rfl, rfl, rfl, by simp [go_sem], by simp [go_sem], by simp [go_sem], by simp [go_sem], by simp [go_sem], by simp [go_sem], by simp [go_sem], by simp [go_sem], by simp [go_sem], by simp [go_sem], by simp [go_sem], by simp [go_sem], by simp [go_sem], fun o => by simp [go_sem], ?_, by (try simp); try omega, by (try simp); try omega, by (try simp); try omega, by (try simp); try omega, by (try simp); try omega, ?_⟩
            · repeat (first | (with_reducible exact fresh_lit' _ _ (by simp) c hc5) | (with_reducible refine FreshIn.drew ?_) | (with_reducible refine FreshIn.alloc ?_ _))
            · (repeat (first | (with_reducible exact Below.refl _ _) | (with_reducible exact Below.drew (Below.refl _ _)) | (with_reducible refine Below.drew ?_) | (with_reducible refine Below.alloc ?_ ?_ _; rotate_left; ((try simp) <;> (try omega)))))
        · skip
          refine ⟨_, rfl, fun K' hK => ?_⟩
          simp only [List.getElem_toArray, List.getElem_cons_zero, List.getElem_cons_succ]
          go_simp
          refine hK.out _ _ (Or.inr (by (repeat (first | (with_reducible exact Below.refl _ _) | (with_reducible exact Below.drew (Below.refl _ _)) | (with_reducible refine Below.drew ?_) | (with_reducible refine Below.alloc ?_ ?_ _; rotate_left; ((try simp) <;> (try omega))))))) ?_
          clear hK K'
          try simp only [Act.put, List.getElem_toArray, List.getElem_cons_zero, List.getElem_cons_succ, List.setIfInBounds_toArray, List.set_cons_zero, List.set_cons_succ]
          refine wpAnyG_br (rs := [12]) (by kernel_rfl) (by simp) ?_
          intro j hj
          simp only [List.mem_cons, List.not_mem_nil, or_false] at hj
          rcases hj with rfl
          · skip
            refine ⟨_, rfl, fun K' hK => ?_⟩
            simp only [List.getElem_toArray, List.getElem_cons_zero, List.getElem_cons_succ]
            go_simp
            refine hK.out _ _ (Or.inr (by (repeat (first | (with_reducible exact Below.refl _ _) | (with_reducible exact Below.drew (Below.refl _ _)) | (with_reducible refine Below.drew ?_) | (with_reducible refine Below.alloc ?_ ?_ _; rotate_left; ((try simp) <;> (try omega))))))) ?_
            clear hK K'
            try simp only [Act.put, List.getElem_toArray, List.getElem_cons_zero, List.getElem_cons_succ, List.setIfInBounds_toArray, List.set_cons_zero, List.set_cons_succ]
            refine wpAnyG_takeW (i := 15) (v := ?_) rfl (by kernel_rfl) (by kernel_rfl) (by kernel_rfl) (fun _ _ _ h => h) (Or.inl ⟨by rfl, ?_⟩) ?_
            rotate_left
            · intro w' hSw
              go_simp
              try (with_reducible rfl)
            try simp only [Act.put, List.getElem_toArray, List.getElem_cons_zero, List.getElem_cons_succ, List.setIfInBounds_toArray, List.set_cons_zero, List.set_cons_succ]
            refine wpAnyG_br (rs := [17]) (by kernel_rfl) (by simp) ?_
            intro j hj
            simp only [List.mem_cons, List.not_mem_nil, or_false] at hj
            subst hj
            refine ⟨_, rfl, fun K' hK => ?_⟩
            simp only [List.getElem_toArray, List.getElem_cons_zero, List.getElem_cons_succ]
            go_simp
            refine hK.out _ _ (Or.inl rfl) ?_
            clear hK K'
            try simp only [Act.put, List.getElem_toArray, List.getElem_cons_zero, List.getElem_cons_succ, List.setIfInBounds_toArray, List.set_cons_zero, List.set_cons_succ]
            refine wpAnyG_done (by kernel_rfl) ?_ _
            go_wp2_with fail
            go_meet
            refine ⟨_, _, _, _, rfl, rfl, rfl, rfl, by simp [go_sem], by simp [go_sem], by simp [go_sem], by simp [go_sem], by simp [go_sem], by simp [go_sem], by simp [go_sem], by simp [go_sem], by simp [go_sem], by simp [go_sem], by simp [go_sem], by simp [go_sem], by simp [go_sem], fun o => by simp [go_sem], ?_, by (try simp); try omega, by (try simp); try omega, by (try simp); try omega, by (try simp); try omega, by (try simp); try omega, ?_⟩
            · repeat (first | (with_reducible exact fresh_lit' _ _ (by simp) c hc5) | (with_reducible refine FreshIn.drew ?_) | (with_reducible refine FreshIn.alloc ?_ _))
            · (repeat (first | (with_reducible exact Below.refl _ _) | (with_reducible exact Below.drew (Below.refl _ _)) | (with_reducible refine Below.drew ?_) | (with_reducible refine Below.alloc ?_ ?_ _; rotate_left; ((try simp) <;> (try omega)))))
      · skip
        refine ⟨_, rfl, fun K' hK => ?_⟩
        simp only [List.getElem_toArray, List.getElem_cons_zero, List.getElem_cons_succ]
        go_simp
        refine hK.out _ _ (Or.inr (by (repeat (first | (with_reducible exact Below.refl _ _) | (with_reducible exact Below.drew (Below.refl _ _)) | (with_reducible refine Below.drew ?_) | (with_reducible refine Below.alloc ?_ ?_ _; rotate_left; ((try simp) <;> (try omega))))))) ?_
        clear hK K'
        try simp only [Act.put, List.getElem_toArray, List.getElem_cons_zero, List.getElem_cons_succ, List.setIfInBounds_toArray, List.set_cons_zero, List.set_cons_succ]
        refine wpAnyG_br (rs := [12, 14]) (by kernel_rfl) (by simp) ?_
        intro j hj
        simp only [List.mem_cons, List.not_mem_nil, or_false] at hj
        rcases hj with rfl | rfl
        · skip
          refine ⟨_, rfl, fun K' hK => ?_⟩
          simp only [List.getElem_toArray, List.getElem_cons_zero, List.getElem_cons_succ]
          go_simp
          refine hK.out _ _ (Or.inr (by (repeat (first | (with_reducible exact Below.refl _ _) | (with_reducible exact Below.drew (Below.refl _ _)) | (with_reducible refine Below.drew ?_) | (with_reducible refine Below.alloc ?_ ?_ _; rotate_left; ((try simp) <;> (try omega))))))) ?_
          clear hK K'
          try simp only [Act.put, List.getElem_toArray, List.getElem_cons_zero, List.getElem_cons_succ, List.setIfInBounds_toArray, List.set_cons_zero, List.set_cons_succ]
          refine wpAnyG_br (rs := [14]) (by kernel_rfl) (by simp) ?_
          intro j hj
          simp only [List.mem_cons, List.not_mem_nil, or_false] at hj
          rcases hj with rfl
          · skip
            refine ⟨_, rfl, fun K' hK => ?_⟩
            simp only [List.getElem_toArray, List.getElem_cons_zero, List.getElem_cons_succ]
            go_simp
            refine hK.out _ _ (Or.inr (by (repeat (first | (with_reducible exact Below.refl _ _) | (with_reducible exact Below.drew (Below.refl _ _)) | (with_reducible refine Below.drew ?_) | (with_reducible refine Below.alloc ?_ ?_ _; rotate_left; ((try simp) <;> (try omega))))))) ?_
            clear hK K'
            try simp only [Act.put, List.getElem_toArray, List.getElem_cons_zero, List.getElem_cons_succ, List.setIfInBounds_toArray, List.set_cons_zero, List.set_cons_succ]
            refine wpAnyG_takeW (i := 15) (v := ?_) rfl (by kernel_rfl) (by kernel_rfl) (by kernel_rfl) (fun _ _ _ h => h) (Or.inl ⟨by rfl, ?_⟩) ?_
            rotate_left
            · intro w' hSw
              go_simp
              try (with_reducible rfl)
            try simp only [Act.put, List.getElem_toArray, List.getElem_cons_zero, List.getElem_cons_succ, List.setIfInBounds_toArray, List.set_cons_zero, List.set_cons_succ]
            refine wpAnyG_br (rs := [17]) (by kernel_rfl) (by simp) ?_
            intro j hj
            simp only [List.mem_cons, List.not_mem_nil, or_false] at hj
            subst hj
            refine ⟨_, rfl, fun K' hK => ?_⟩
            simp only [List.getElem_toArray, List.getElem_cons_zero, List.getElem_cons_succ]
            go_simp
            refine hK.out _ _ (Or.inl rfl) ?_
            clear hK K'
            try simp only [Act.put, List.getElem_toArray, List.getElem_cons_zero, List.getElem_cons_succ, List.setIfInBounds_toArray, List.set_cons_zero, List.set_cons_succ]
            refine wpAnyG_done (by kernel_rfl) ?_ _
            go_wp2_with fail
            go_meet
            refine ⟨_, _, _, _, rfl, rfl, rfl, rfl, by simp [go_sem], by simp [go_sem], by simp [go_sem], by simp [go_sem], by simp [go_sem], by simp [go_sem], by simp [go_sem], by simp [go_sem], by simp [go_sem], by simp [go_sem], by simp [go_sem], by simp [go_sem], by simp [go_sem], fun o => by simp [go_sem], ?_, by (try simp); try omega, by (try simp); try omega, by (try simp); try omega, by (try simp); try omega, by (try simp); try omega, ?_⟩
            · repeat (first | (with_reducible exact fresh_lit' _ _ (by simp) c hc5) | (with_reducible refine FreshIn.drew ?_) | (with_reducible refine FreshIn.alloc ?_ _))
            · (repeat (first | (with_reducible exact Below.refl _ _) | (with_reducible exact Below.drew (Below.refl _ _)) | (with_reducible refine Below.drew ?_) | (with_reducible refine Below.alloc ?_ ?_ _; rotate_left; ((try simp) <;> (try omega)))))
        · skip
          refine ⟨_, rfl, fun K' hK => ?_⟩
          simp only [List.getElem_toArray, List.getElem_cons_zero, List.getElem_cons_succ]
          go_simp
          refine hK.out _ _ (Or.inr (by (repeat (first | (with_reducible exact Below.refl _ _) | (with_reducible exact Below.drew (Below.refl _ _)) | (with_reducible refine Below.drew ?_) | (with_reducible refine Below.alloc ?_ ?_ _; rotate_left; ((try simp) <;> (try omega))))))) ?_
          clear hK K'
          try simp only [Act.put, List.getElem_toArray, List.getElem_cons_zero, List.getElem_cons_succ, List.setIfInBounds_toArray, List.set_cons_zero, List.set_cons_succ]
          refine wpAnyG_br (rs := [12]) (by kernel_rfl) (by simp) ?_
          intro j hj
          simp only [List.mem_cons, List.not_mem_nil, or_false] at hj
          rcases hj with rfl
          · skip
            refine ⟨_, rfl, fun K' hK => ?_⟩
            simp only [List.getElem_toArray, List.getElem_cons_zero, List.getElem_cons_succ]
            go_simp
            refine hK.out _ _ (Or.inr (by (repeat (first | (with_reducible exact Below.refl _ _) | (with_reducible exact Below.drew (Below.refl _ _)) | (with_reducible refine Below.drew ?_) | (with_reducible refine Below.alloc ?_ ?_ _; rotate_left; ((try simp) <;> (try omega))))))) ?_
            clear hK K'
            try simp only [Act.put, List.getElem_toArray, List.getElem_cons_zero, List.getElem_cons_succ, List.setIfInBounds_toArray, List.set_cons_zero, List.set_cons_succ]
            refine wpAnyG_takeW (i := 15) (v := ?_) rfl (by kernel_rfl) (by kernel_rfl) (by kernel_rfl) (fun _ _ _ h => h) (Or.inl ⟨by rfl, ?_⟩) ?_
            rotate_left
            · intro w' hSw
              go_simp
              try (with_reducible rfl)
            try simp only [Act.put, List.getElem_toArray, List.getElem_cons_zero, List.getElem_cons_succ, List.setIfInBounds_toArray, List.set_cons_zero, List.set_cons_succ]
            refine wpAnyG_br (rs := [17]) (by kernel_rfl) (by simp) ?_
            intro j hj
            simp only [List.mem_cons, List.not_mem_nil, or_false] at hj
            subst hj
            refine ⟨_, rfl, fun K' hK => ?_⟩
            simp only [List.getElem_toArray, List.getElem_cons_zero, List.getElem_cons_succ]
            go_simp
            refine hK.out _ _ (Or.inl rfl) ?_
            clear hK K'
            try simp only [Act.put, List.getElem_toArray, List.getElem_cons_zero, List.getElem_cons_succ, List.setIfInBounds_toArray, List.set_cons_zero, List.set_cons_succ]
            refine wpAnyG_done (by kernel_rfl) ?_ _
            go_wp2_with fail
            go_meet
            refine ⟨_, _, _, _, rfl, rfl, rfl, rfl, by simp [go_sem], by simp [go_sem], by simp [go_sem], by simp [go_sem], by simp [go_sem], by simp [go_sem], by simp [go_sem], by simp [go_sem], by simp [go_sem], by simp [go_sem], by simp [go_sem], by simp [go_sem], by simp [go_sem], fun o => by simp [go_sem], ?_, by (try simp); try omega, by (try simp); try omega, by (try simp); try omega, by (try simp); try omega, by (try simp); try omega, ?_⟩
            · repeat (first | (with_reducible exact fresh_lit' _ _ (by simp) c hc5) | (with_reducible refine FreshIn.drew ?_) | (with_reducible refine FreshIn.alloc ?_ _))
            · (repeat (first | (with_reducible exact Below.refl _ _) | (with_reducible exact Below.drew (Below.refl _ _)) | (with_reducible refine Below.drew ?_) | (with_reducible refine Below.alloc ?_ ?_ _; rotate_left; ((try simp) <;> (try omega)))))
    · skip
      refine ⟨_, rfl, fun K' hK => ?_⟩
      simp only [List.getElem_toArray, List.getElem_cons_zero, List.getElem_cons_succ]
      go_simp
      refine hK.out _ _ (Or.inr (by (repeat (first | (with_reducible exact Below.refl _ _) | (with_reducible exact Below.drew (Below.refl _ _)) | (with_reducible refine Below.drew ?_) | (with_reducible refine Below.alloc ?_ ?_ _; rotate_left; ((try simp) <;> (try omega))))))) ?_
      clear hK K'
      try simp only [Act.put, List.getElem_toArray, List.getElem_cons_zero, List.getElem_cons_succ, List.setIfInBounds_toArray, List.set_cons_zero, List.set_cons_succ]
      refine wpAnyG_br (rs := [6, 14, 16]) (by kernel_rfl) (by simp) ?_
      intro j hj
      simp only [List.mem_cons, List.not_mem_nil, or_false] at hj
      rcases hj with rfl | rfl | rfl
      · skip
        refine ⟨_, rfl, fun K' hK => ?_⟩
        simp only [List.getElem_toArray, List.getElem_cons_zero, List.getElem_cons_succ]
        go_simp
        refine hK.out _ _ (Or.inr (by (repeat (first | (with_reducible exact Below.refl _ _) | (with_reducible exact Below.drew (Below.refl _ _)) | (with_reducible refine Below.drew ?_) | (with_reducible refine Below.alloc ?_ ?_ _; rotate_left; ((try simp) <;> (try omega))))))) ?_
        clear hK K'
        try simp only [Act.put, List.getElem_toArray, List.getElem_cons_zero, List.getElem_cons_succ, List.setIfInBounds_toArray, List.set_cons_zero, List.set_cons_succ]
        refine wpAnyG_takeW (i := 9) (v := .slice (some ⟨w2.heap.size + 1, 0, none⟩) 0 0) rfl (by kernel_rfl) (by kernel_rfl) (by kernel_rfl) (fun _ _ _ h => h) (Or.inl ⟨by rfl, ?_⟩) ?_
        · intro w' hSw
          refine exec_append_no (.tmp 15) (.tmp 17) 22 22 43 43 ie ?_ Try.underlying22 Try.underlying22 hie (w2.heap.size + 1) ?_ ?_
          · rfl
          · rfl
          · rfl
        try simp only [Act.put, List.getElem_toArray, List.getElem_cons_zero, List.getElem_cons_succ, List.setIfInBounds_toArray, List.set_cons_zero, List.set_cons_succ]
        refine wpAnyG_br (rs := [14, 16]) (by kernel_rfl) (by simp) ?_
        intro j hj
        simp only [List.mem_cons, List.not_mem_nil, or_false] at hj
        rcases hj with rfl | rfl
        · skip
          refine ⟨_, rfl, fun K' hK => ?_⟩
          simp only [List.getElem_toArray, List.getElem_cons_zero, List.getElem_cons_succ]
          go_simp
          refine hK.out _ _ (Or.inr (by (repeat (first | (with_reducible exact Below.refl _ _) | (with_reducible exact Below.drew (Below.refl _ _)) | (with_reducible refine Below.drew ?_) | (with_reducible refine Below.alloc ?_ ?_ _; rotate_left; ((try simp) <;> (try omega))))))) ?_
          clear hK K'
          try simp only [Act.put, List.getElem_toArray, List.getElem_cons_zero, List.getElem_cons_succ, List.setIfInBounds_toArray, List.set_cons_zero, List.set_cons_succ]
          refine wpAnyG_takeW (i := 15) (v := ?_) rfl (by kernel_rfl) (by kernel_rfl) (by kernel_rfl) (fun _ _ _ h => h) (Or.inl ⟨by rfl, ?_⟩) ?_
          rotate_left
          · intro w' hSw
            go_simp
            try (with_reducible rfl)
          try simp only [Act.put, List.getElem_toArray, List.getElem_cons_zero, List.getElem_cons_succ, List.setIfInBounds_toArray, List.set_cons_zero, List.set_cons_succ]
          refine wpAnyG_br (rs := [16]) (by kernel_rfl) (by simp) ?_
          intro j hj
          simp only [List.mem_cons, List.not_mem_nil, or_false] at hj
          rcases hj with rfl
          · skip
            refine ⟨_, rfl, fun K' hK => ?_⟩
            simp only [List.getElem_toArray, List.getElem_cons_zero, List.getElem_cons_succ]
            go_simp
            refine hK.out _ _ (Or.inr (by (repeat (first | (with_reducible exact Below.refl _ _) | (with_reducible exact Below.drew (Below.refl _ _)) | (with_reducible refine Below.drew ?_) | (with_reducible refine Below.alloc ?_ ?_ _; rotate_left; ((try simp) <;> (try omega))))))) ?_
            clear hK K'
            try simp only [Act.put, List.getElem_toArray, List.getElem_cons_zero, List.getElem_cons_succ, List.setIfInBounds_toArray, List.set_cons_zero, List.set_cons_succ]
            refine wpAnyG_br (rs := [17]) (by kernel_rfl) (by simp) ?_
            intro j hj
            simp only [List.mem_cons, List.not_mem_nil, or_false] at hj
            subst hj
            refine ⟨_, rfl, fun K' hK => ?_⟩
            simp only [List.getElem_toArray, List.getElem_cons_zero, List.getElem_cons_succ]
            go_simp
            refine hK.out _ _ (Or.inl rfl) ?_
            clear hK K'
            try simp only [Act.put, List.getElem_toArray, List.getElem_cons_zero, List.getElem_cons_succ, List.setIfInBounds_toArray, List.set_cons_zero, List.set_cons_succ]
            refine wpAnyG_done (by kernel_rfl) ?_ _
            go_wp2_with fail
            go_meet
            refine ⟨_, _, _, _, rfl, rfl, rfl, rfl, by simp [go_sem], by simp [go_sem], by simp [go_sem], by simp [go_sem], by simp [go_sem], by simp [go_sem], by simp [go_sem], by simp [go_sem], by simp [go_sem], by simp [go_sem], by simp [go_sem], by simp [go_sem], by simp [go_sem], fun o => by simp [go_sem], ?_, by (try simp); try omega, by (try simp); try omega, by (try simp); try omega, by (try simp); try omega, by (try simp); try omega, ?_⟩
            · repeat (first | (with_reducible exact fresh_lit' _ _ (by simp) c hc5) | (with_reducible refine FreshIn.drew ?_) | (with_reducible refine FreshIn.alloc ?_ _))
            · (repeat (first | (with_reducible exact Below.refl _ _) | (with_reducible exact Below.drew (Below.refl _ _)) | (with_reducible refine Below.drew ?_) | (with_reducible refine Below.alloc ?_ ?_ _; rotate_left; ((try simp) <;> (try omega)))))
        · skip
          refine ⟨_, rfl, fun K' hK => ?_⟩
          simp only [List.getElem_toArray, List.getElem_cons_zero, List.getElem_cons_succ]
          go_simp
          refine hK.out _ _ (Or.inr (by (repeat (first | (with_reducible exact Below.refl _ _) | (with_reducible exact Below.drew (Below.refl _ _)) | (with_reducible refine Below.drew ?_) | (with_reducible refine Below.alloc ?_ ?_ _; rotate_left; ((try simp) <;> (try omega))))))) ?_
          clear hK K'
          try simp only [Act.put, List.getElem_toArray, List.getElem_cons_zero, List.getElem_cons_succ, List.setIfInBounds_toArray, List.set_cons_zero, List.set_cons_succ]
          refine wpAnyG_br (rs := [14]) (by kernel_rfl) (by simp) ?_
          intro j hj
          simp only [List.mem_cons, List.not_mem_nil, or_false] at hj
          rcases hj with rfl
          · skip
            refine ⟨_, rfl, fun K' hK => ?_⟩
            simp only [List.getElem_toArray, List.getElem_cons_zero, List.getElem_cons_succ]
            go_simp
            refine hK.out _ _ (Or.inr (by (repeat (first | (with_reducible exact Below.refl _ _) | (with_reducible exact Below.drew (Below.refl _ _)) | (with_reducible refine Below.drew ?_) | (with_reducible refine Below.alloc ?_ ?_ _; rotate_left; ((try simp) <;> (try omega))))))) ?_
            clear hK K'
            try simp only [Act.put, List.getElem_toArray, List.getElem_cons_zero, List.getElem_cons_succ, List.setIfInBounds_toArray, List.set_cons_zero, List.set_cons_succ]
            refine wpAnyG_takeW (i := 15) (v := ?_) rfl (by kernel_rfl) (by kernel_rfl) (by kernel_rfl) (fun _ _ _ h => h) (Or.inl ⟨by rfl, ?_⟩) ?_
            rotate_left
            · intro w' hSw
              go_simp
              try (with_reducible rfl)
            try simp only [Act.put, List.getElem_toArray, List.getElem_cons_zero, List.getElem_cons_succ, List.setIfInBounds_toArray, List.set_cons_zero, List.set_cons_succ]
            refine wpAnyG_br (rs := [17]) (by kernel_rfl) (by simp) ?_
            intro j hj
            simp only [List.mem_cons, List.not_mem_nil, or_false] at hj
            subst hj
            refine ⟨_, rfl, fun K' hK => ?_⟩
            simp only [List.getElem_toArray, List.getElem_cons_zero, List.getElem_cons_succ]
            go_simp
            refine hK.out _ _ (Or.inl rfl) ?_
            clear hK K'
            try simp only [Act.put, List.getElem_toArray, List.getElem_cons_zero, List.getElem_cons_succ, List.setIfInBounds_toArray, List.set_cons_zero, List.set_cons_succ]
            refine wpAnyG_done (by kernel_rfl) ?_ _
            go_wp2_with fail
            go_meet
            refine ⟨_, _, _, _, rfl, rfl, rfl, rfl, by simp [go_sem], by simp [go_sem], by simp [go_sem], by simp [go_sem], by simp [go_sem], by simp [go_sem], by simp [go_sem], by simp [go_sem], by simp [go_sem], by simp [go_sem], by simp [go_sem], by simp [go_sem], by simp [go_sem], fun o => by simp [go_sem], ?_, by (try simp); try omega, by (try simp); try omega, by (try simp); try omega, by (try simp); try omega, by (try simp); try omega, ?_⟩
            · repeat (first | (with_reducible exact fresh_lit' _ _ (by simp) c hc5) | (with_reducible refine FreshIn.drew ?_) | (with_reducible refine FreshIn.alloc ?_ _))
            · (repeat (first | (with_reducible exact Below.refl _ _) | (with_reducible exact Below.drew (Below.refl _ _)) | (with_reducible refine Below.drew ?_) | (with_reducible refine Below.alloc ?_ ?_ _; rotate_left; ((try simp) <;> (try omega)))))
      · skip
        refine ⟨_, rfl, fun K' hK => ?_⟩
        simp only [List.getElem_toArray, List.getElem_cons_zero, List.getElem_cons_succ]
        go_simp
        refine hK.out _ _ (Or.inr (by (repeat (first | (with_reducible exact Below.refl _ _) | (with_reducible exact Below.drew (Below.refl _ _)) | (with_reducible refine Below.drew ?_) | (with_reducible refine Below.alloc ?_ ?_ _; rotate_left; ((try simp) <;> (try omega))))))) ?_
        clear hK K'
        try simp only [Act.put, List.getElem_toArray, List.getElem_cons_zero, List.getElem_cons_succ, List.setIfInBounds_toArray, List.set_cons_zero, List.set_cons_succ]
        refine wpAnyG_br (rs := [6, 16]) (by kernel_rfl) (by simp) ?_
        intro j hj
        simp only [List.mem_cons, List.not_mem_nil, or_false] at hj
        rcases hj with rfl | rfl
        · skip
          refine ⟨_, rfl, fun K' hK => ?_⟩
          simp only [List.getElem_toArray, List.getElem_cons_zero, List.getElem_cons_succ]
          go_simp
          refine hK.out _ _ (Or.inr (by (repeat (first | (with_reducible exact Below.refl _ _) | (with_reducible exact Below.drew (Below.refl _ _)) | (with_reducible refine Below.drew ?_) | (with_reducible refine Below.alloc ?_ ?_ _; rotate_left; ((try simp) <;> (try omega))))))) ?_
          clear hK K'
          try simp only [Act.put, List.getElem_toArray, List.getElem_cons_zero, List.getElem_cons_succ, List.setIfInBounds_toArray, List.set_cons_zero, List.set_cons_succ]
          refine wpAnyG_takeW (i := 9) (v := .slice (some ⟨w2.heap.size + 1 + 1, 0, none⟩) 0 0) rfl (by kernel_rfl) (by kernel_rfl) (by kernel_rfl) (fun _ _ _ h => h) (Or.inl ⟨by rfl, ?_⟩) ?_
          · intro w' hSw
            refine exec_append_no (.tmp 15) (.tmp 17) 22 22 43 43 ie ?_ Try.underlying22 Try.underlying22 hie (w2.heap.size + 1 + 1) ?_ ?_
            · rfl
            · rfl
            · rfl
          try simp only [Act.put, List.getElem_toArray, List.getElem_cons_zero, List.getElem_cons_succ, List.setIfInBounds_toArray, List.set_cons_zero, List.set_cons_succ]
          refine wpAnyG_takeW (i := 15) (v := ?_) rfl (by kernel_rfl) (by kernel_rfl) (by kernel_rfl) (fun _ _ _ h => h) (Or.inl ⟨by rfl, ?_⟩) ?_
          rotate_left
          · intro w' hSw
            go_simp
            try (with_reducible rfl)
          try simp only [Act.put, List.getElem_toArray, List.getElem_cons_zero, List.getElem_cons_succ, List.setIfInBounds_toArray, List.set_cons_zero, List.set_cons_succ]
          refine wpAnyG_br (rs := [16]) (by kernel_rfl) (by simp) ?_
          intro j hj
          simp only [List.mem_cons, List.not_mem_nil, or_false] at hj
          rcases hj with rfl
          · skip
            refine ⟨_, rfl, fun K' hK => ?_⟩
            simp only [List.getElem_toArray, List.getElem_cons_zero, List.getElem_cons_succ]
            go_simp
            refine hK.out _ _ (Or.inr (by (repeat (first | (with_reducible exact Below.refl _ _) | (with_reducible exact Below.drew (Below.refl _ _)) | (with_reducible refine Below.drew ?_) | (with_reducible refine Below.alloc ?_ ?_ _; rotate_left; ((try simp) <;> (try omega))))))) ?_
            clear hK K'
            try simp only [Act.put, List.getElem_toArray, List.getElem_cons_zero, List.getElem_cons_succ, List.setIfInBounds_toArray, List.set_cons_zero, List.set_cons_succ]
            refine wpAnyG_br (rs := [17]) (by kernel_rfl) (by simp) ?_
            intro j hj
            simp only [List.mem_cons, List.not_mem_nil, or_false] at hj
            subst hj
            refine ⟨_, rfl, fun K' hK => ?_⟩
            simp only [List.getElem_toArray, List.getElem_cons_zero, List.getElem_cons_succ]
            go_simp
            refine hK.out _ _ (Or.inl rfl) ?_
            clear hK K'
            try simp only [Act.put, List.getElem_toArray, List.getElem_cons_zero, List.getElem_cons_succ, List.setIfInBounds_toArray, List.set_cons_zero, List.set_cons_succ]
            refine wpAnyG_done (by kernel_rfl) ?_ _
            go_wp2_with fail
            go_meet
            refine ⟨_, _, _, _, rfl, rfl, rfl, rfl, by simp [go_sem], by simp [go_sem], by simp [go_sem], by simp [go_sem], by simp [go_sem], by simp [go_sem], by simp [go_sem], by simp [go_sem], by simp [go_sem], by simp [go_sem], by simp [go_sem], by simp [go_sem], by simp [go_sem], fun o => by simp [go_sem], ?_, by (try simp); try omega, by (try simp); try omega, by (try simp); try omega, by (try simp); try omega, by (try simp); try omega, ?_⟩
            · repeat (first | (with_reducible exact fresh_lit' _ _ (by simp) c hc5) | (with_reducible refine FreshIn.drew ?_) | (with_reducible refine FreshIn.alloc ?_ _))
            · (repeat (first | (with_reducible exact Below.refl _ _) | (with_reducible exact Below.drew (Below.refl _ _)) | (with_reducible refine Below.drew ?_) | (with_reducible refine Below.alloc ?_ ?_ _; rotate_left; ((try simp) <;> (try omega)))))
        · skip
          refine ⟨_, rfl, fun K' hK => ?_⟩
          simp only [List.getElem_toArray, List.getElem_cons_zero, List.getElem_cons_succ]
          go_simp
          refine hK.out _ _ (Or.inr (by (repeat (first | (with_reducible exact Below.refl _ _) | (with_reducible exact Below.drew (Below.refl _ _)) | (with_reducible refine Below.drew ?_) | (with_reducible refine Below.alloc ?_ ?_ _; rotate_left; ((try simp) <;> (try omega))))))) ?_
          clear hK K'
          try simp only [Act.put, List.getElem_toArray, List.getElem_cons_zero, List.getElem_cons_succ, List.setIfInBounds_toArray, List.set_cons_zero, List.set_cons_succ]
          refine wpAnyG_br (rs := [6]) (by kernel_rfl) (by simp) ?_
          intro j hj
          simp only [List.mem_cons, List.not_mem_nil, or_false] at hj
          rcases hj with rfl
          · skip
            refine ⟨_, rfl, fun K' hK => ?_⟩
            simp only [List.getElem_toArray, List.getElem_cons_zero, List.getElem_cons_succ]
            go_simp
            refine hK.out _ _ (Or.inr (by (repeat (first | (with_reducible exact Below.refl _ _) | (with_reducible exact Below.drew (Below.refl _ _)) | (with_reducible refine Below.drew ?_) | (with_reducible refine Below.alloc ?_ ?_ _; rotate_left; ((try simp) <;> (try omega))))))) ?_
            clear hK K'
            try simp only [Act.put, List.getElem_toArray, List.getElem_cons_zero, List.getElem_cons_succ, List.setIfInBounds_toArray, List.set_cons_zero, List.set_cons_succ]
            refine wpAnyG_takeW (i := 9) (v := .slice (some ⟨w2.heap.size + 1 + 1 + 1, 0, none⟩) 0 0) rfl (by kernel_rfl) (by kernel_rfl) (by kernel_rfl) (fun _ _ _ h => h) (Or.inl ⟨by rfl, ?_⟩) ?_
            · intro w' hSw
              refine exec_append_no (.tmp 15) (.tmp 17) 22 22 43 43 ie ?_ Try.underlying22 Try.underlying22 hie (w2.heap.size + 1 + 1 + 1) ?_ ?_
              · rfl
              · rfl
              · rfl
            try simp only [Act.put, List.getElem_toArray, List.getElem_cons_zero, List.getElem_cons_succ, List.setIfInBounds_toArray, List.set_cons_zero, List.set_cons_succ]
            refine wpAnyG_takeW (i := 15) (v := ?_) rfl (by kernel_rfl) (by kernel_rfl) (by kernel_rfl) (fun _ _ _ h => h) (Or.inl ⟨by rfl, ?_⟩) ?_
            rotate_left
            · intro w' hSw
              go_simp
              try (with_reducible rfl)
            try simp only [Act.put, List.getElem_toArray, List.getElem_cons_zero, List.getElem_cons_succ, List.setIfInBounds_toArray, List.set_cons_zero, List.set_cons_succ]
            refine wpAnyG_br (rs := [17]) (by kernel_rfl) (by simp) ?_
            intro j hj
            simp only [List.mem_cons, List.not_mem_nil, or_false] at hj
            subst hj
            refine ⟨_, rfl, fun K' hK => ?_⟩
            simp only [List.getElem_toArray, List.getElem_cons_zero, List.getElem_cons_succ]
            go_simp
            refine hK.out _ _ (Or.inl rfl) ?_
            clear hK K'
            try simp only [Act.put, List.getElem_toArray, List.getElem_cons_zero, List.getElem_cons_succ, List.setIfInBounds_toArray, List.set_cons_zero, List.set_cons_succ]
            refine wpAnyG_done (by kernel_rfl) ?_ _
            go_wp2_with fail
            go_meet
            refine ⟨_, _, _, _, rfl, rfl, rfl, rfl, by simp [go_sem], by simp [go_sem], by simp [go_sem], by simp [go_sem], by simp [go_sem], by simp [go_sem], by simp [go_sem], by simp [go_sem], by simp [go_sem], by simp [go_sem], by simp [go_sem], by simp [go_sem], by simp [go_sem], fun o => by simp [go_sem], ?_, by (try simp); try omega, by (try simp); try omega, by (try simp); try omega, by (try simp); try omega, by (try simp); try omega, ?_⟩
            · repeat (first | (with_reducible exact fresh_lit' _ _ (by simp) c hc5) | (with_reducible refine FreshIn.drew ?_) | (with_reducible refine FreshIn.alloc ?_ _))
            · (repeat (first | (with_reducible exact Below.refl _ _) | (with_reducible exact Below.drew (Below.refl _ _)) | (with_reducible refine Below.drew ?_) | (with_reducible refine Below.alloc ?_ ?_ _; rotate_left; ((try simp) <;> (try omega)))))
      · skip
        refine ⟨_, rfl, fun K' hK => ?_⟩
        simp only [List.getElem_toArray, List.getElem_cons_zero, List.getElem_cons_succ]
        go_simp
        refine hK.out _ _ (Or.inr (by (repeat (first | (with_reducible exact Below.refl _ _) | (with_reducible exact Below.drew (Below.refl _ _)) | (with_reducible refine Below.drew ?_) | (with_reducible refine Below.alloc ?_ ?_ _; rotate_left; ((try simp) <;> (try omega))))))) ?_
        clear hK K'
        try simp only [Act.put, List.getElem_toArray, List.getElem_cons_zero, List.getElem_cons_succ, List.setIfInBounds_toArray, List.set_cons_zero, List.set_cons_succ]
        refine wpAnyG_br (rs := [6, 14]) (by kernel_rfl) (by simp) ?_
        intro j hj
        simp only [List.mem_cons, List.not_mem_nil, or_false] at hj
        rcases hj with rfl | rfl
        · skip
          refine ⟨_, rfl, fun K' hK => ?_⟩
          simp only [List.getElem_toArray, List.getElem_cons_zero, List.getElem_cons_succ]
          go_simp
          refine hK.out _ _ (Or.inr (by (repeat (first | (with_reducible exact Below.refl _ _) | (with_reducible exact Below.drew (Below.refl _ _)) | (with_reducible refine Below.drew ?_) | (with_reducible refine Below.alloc ?_ ?_ _; rotate_left; ((try simp) <;> (try omega))))))) ?_
          clear hK K'
          try simp only [Act.put, List.getElem_toArray, List.getElem_cons_zero, List.getElem_cons_succ, List.setIfInBounds_toArray, List.set_cons_zero, List.set_cons_succ]
          refine wpAnyG_takeW (i := 9) (v := .slice (some ⟨w2.heap.size + 1 + 1, 0, none⟩) 0 0) rfl (by kernel_rfl) (by kernel_rfl) (by kernel_rfl) (fun _ _ _ h => h) (Or.inl ⟨by rfl, ?_⟩) ?_
          · intro w' hSw
            refine exec_append_no (.tmp 15) (.tmp 17) 22 22 43 43 ie ?_ Try.underlying22 Try.underlying22 hie (w2.heap.size + 1 + 1) ?_ ?_
            · rfl
            · rfl
            · rfl
          try simp only [Act.put, List.getElem_toArray, List.getElem_cons_zero, List.getElem_cons_succ, List.setIfInBounds_toArray, List.set_cons_zero, List.set_cons_succ]
          refine wpAnyG_br (rs := [14]) (by kernel_rfl) (by simp) ?_
          intro j hj
          simp only [List.mem_cons, List.not_mem_nil, or_false] at hj
          rcases hj with rfl
          · skip
            refine ⟨_, rfl, fun K' hK => ?_⟩
            simp only [List.getElem_toArray, List.getElem_cons_zero, List.getElem_cons_succ]
            go_simp
            refine hK.out _ _ (Or.inr (by (repeat (first | (with_reducible exact Below.refl _ _) | (with_reducible exact Below.drew (Below.refl _ _)) | (with_reducible refine Below.drew ?_) | (with_reducible refine Below.alloc ?_ ?_ _; rotate_left; ((try simp) <;> (try omega))))))) ?_
            clear hK K'
            try simp only [Act.put, List.getElem_toArray, List.getElem_cons_zero, List.getElem_cons_succ, List.setIfInBounds_toArray, List.set_cons_zero, List.set_cons_succ]
            refine wpAnyG_takeW (i := 15) (v := ?_) rfl (by kernel_rfl) (by kernel_rfl) (by kernel_rfl) (fun _ _ _ h => h) (Or.inl ⟨by rfl, ?_⟩) ?_
            rotate_left
            · intro w' hSw
              go_simp
              try (with_reducible rfl)
            try simp only [Act.put, List.getElem_toArray, List.getElem_cons_zero, List.getElem_cons_succ, List.setIfInBounds_toArray, List.set_cons_zero, List.set_cons_succ]
            refine wpAnyG_br (rs := [17]) (by kernel_rfl) (by simp) ?_
            intro j hj
            simp only [List.mem_cons, List.not_mem_nil, or_false] at hj
            subst hj
            refine ⟨_, rfl, fun K' hK => ?_⟩
            simp only [List.getElem_toArray, List.getElem_cons_zero, List.getElem_cons_succ]
            go_simp
            refine hK.out _ _ (Or.inl rfl) ?_
            clear hK K'
            try simp only [Act.put, List.getElem_toArray, List.getElem_cons_zero, List.getElem_cons_succ, List.setIfInBounds_toArray, List.set_cons_zero, List.set_cons_succ]
            refine wpAnyG_done (by kernel_rfl) ?_ _
            go_wp2_with fail
            go_meet
            refine ⟨_, _, _, _, rfl, rfl, rfl, rfl, by simp [go_sem], by simp [go_sem], by simp [go_sem], by simp [go_sem], by simp [go_sem], by simp [go_sem], by simp [go_sem], by simp [go_sem], by simp [go_sem], by simp [go_sem], by simp [go_sem], by simp [go_sem], by simp [go_sem], fun o => by simp [go_sem], ?_, by (try simp); try omega, by (try simp); try omega, by (try simp); try omega, by (try simp); try omega, by (try simp); try omega, ?_⟩
            · repeat (first | (with_reducible exact fresh_lit' _ _ (by simp) c hc5) | (with_reducible refine FreshIn.drew ?_) | (with_reducible refine FreshIn.alloc ?_ _))
            · (repeat (first | (with_reducible exact Below.refl _ _) | (with_reducible exact Below.drew (Below.refl _ _)) | (with_reducible refine Below.drew ?_) | (with_reducible refine Below.alloc ?_ ?_ _; rotate_left; ((try simp) <;> (try omega)))))
        · skip
          refine ⟨_, rfl, fun K' hK => ?_⟩
          simp only [List.getElem_toArray, List.getElem_cons_zero, List.getElem_cons_succ]
          go_simp
          refine hK.out _ _ (Or.inr (by (repeat (first | (with_reducible exact Below.refl _ _) | (with_reducible exact Below.drew (Below.refl _ _)) | (with_reducible refine Below.drew ?_) | (with_reducible refine Below.alloc ?_ ?_ _; rotate_left; ((try simp) <;> (try omega))))))) ?_
          clear hK K'
          try simp only [Act.put, List.getElem_toArray, List.getElem_cons_zero, List.getElem_cons_succ, List.setIfInBounds_toArray, List.set_cons_zero, List.set_cons_succ]
          refine wpAnyG_br (rs := [6]) (by kernel_rfl) (by simp) ?_
          intro j hj
          simp only [List.mem_cons, List.not_mem_nil, or_false] at hj
          rcases hj with rfl
          · skip
            refine ⟨_, rfl, fun K' hK => ?_⟩
            simp only [List.getElem_toArray, List.getElem_cons_zero, List.getElem_cons_succ]
            go_simp
            refine hK.out _ _ (Or.inr (by (repeat (first | (with_reducible exact Below.refl _ _) | (with_reducible exact Below.drew (Below.refl _ _)) | (with_reducible refine Below.drew ?_) | (with_reducible refine Below.alloc ?_ ?_ _; rotate_left; ((try simp) <;> (try omega))))))) ?_
            clear hK K'
            try simp only [Act.put, List.getElem_toArray, List.getElem_cons_zero, List.getElem_cons_succ, List.setIfInBounds_toArray, List.set_cons_zero, List.set_cons_succ]
            refine wpAnyG_takeW (i := 9) (v := .slice (some ⟨w2.heap.size + 1 + 1 + 1, 0, none⟩) 0 0) rfl (by kernel_rfl) (by kernel_rfl) (by kernel_rfl) (fun _ _ _ h => h) (Or.inl ⟨by rfl, ?_⟩) ?_
            · intro w' hSw
              refine exec_append_no (.tmp 15) (.tmp 17) 22 22 43 43 ie ?_ Try.underlying22 Try.underlying22 hie (w2.heap.size + 1 + 1 + 1) ?_ ?_
              · rfl
              · rfl
              · rfl
            try simp only [Act.put, List.getElem_toArray, List.getElem_cons_zero, List.getElem_cons_succ, List.setIfInBounds_toArray, List.set_cons_zero, List.set_cons_succ]
            refine wpAnyG_takeW (i := 15) (v := ?_) rfl (by kernel_rfl) (by kernel_rfl) (by kernel_rfl) (fun _ _ _ h => h) (Or.inl ⟨by rfl, ?_⟩) ?_
            rotate_left
            · intro w' hSw
              go_simp
              try (with_reducible rfl)
            try simp only [Act.put, List.getElem_toArray, List.getElem_cons_zero, List.getElem_cons_succ, List.setIfInBounds_toArray, List.set_cons_zero, List.set_cons_succ]
            refine wpAnyG_br (rs := [17]) (by kernel_rfl) (by simp) ?_
            intro j hj
            simp only [List.mem_cons, List.not_mem_nil, or_false] at hj
            subst hj
            refine ⟨_, rfl, fun K' hK => ?_⟩
            simp only [List.getElem_toArray, List.getElem_cons_zero, List.getElem_cons_succ]
            go_simp
            refine hK.out _ _ (Or.inl rfl) ?_
            clear hK K'
            try simp only [Act.put, List.getElem_toArray, List.getElem_cons_zero, List.getElem_cons_succ, List.setIfInBounds_toArray, List.set_cons_zero, List.set_cons_succ]
            refine wpAnyG_done (by kernel_rfl) ?_ _
            go_wp2_with fail
            go_meet
            refine ⟨_, _, _, _, rfl, rfl, rfl, rfl, by simp [go_sem], by simp [go_sem], by simp [go_sem], by simp [go_sem], by simp [go_sem], by simp [go_sem], by simp [go_sem], by simp [go_sem], by simp [go_sem], by simp [go_sem], by simp [go_sem], by simp [go_sem], by simp [go_sem], fun o => by simp [go_sem], ?_, by (try simp); try omega, by (try simp); try omega, by (try simp); try omega, by (try simp); try omega, by (try simp); try omega, ?_⟩
            · repeat (first | (with_reducible exact fresh_lit' _ _ (by simp) c hc5) | (with_reducible refine FreshIn.drew ?_) | (with_reducible refine FreshIn.alloc ?_ _))
            · (repeat (first | (with_reducible exact Below.refl _ _) | (with_reducible exact Below.drew (Below.refl _ _)) | (with_reducible refine Below.drew ?_) | (with_reducible refine Below.alloc ?_ ?_ _; rotate_left; ((try simp) <;> (try omega)))))
    · skip
      refine ⟨_, rfl, fun K' hK => ?_⟩
      simp only [List.getElem_toArray, List.getElem_cons_zero, List.getElem_cons_succ]
      go_simp
      refine hK.out _ _ (Or.inr (by (repeat (first | (with_reducible exact Below.refl _ _) | (with_reducible exact Below.drew (Below.refl _ _)) | (with_reducible refine Below.drew ?_) | (with_reducible refine Below.alloc ?_ ?_ _; rotate_left; ((try simp) <;> (try omega))))))) ?_
      clear hK K'
      try simp only [Act.put, List.getElem_toArray, List.getElem_cons_zero, List.getElem_cons_succ, List.setIfInBounds_toArray, List.set_cons_zero, List.set_cons_succ]
      refine wpAnyG_br (rs := [6, 12, 16]) (by kernel_rfl) (by simp) ?_
      intro j hj
      simp only [List.mem_cons, List.not_mem_nil, or_false] at hj
      rcases hj with rfl | rfl | rfl
      · skip
        refine ⟨_, rfl, fun K' hK => ?_⟩
        simp only [List.getElem_toArray, List.getElem_cons_zero, List.getElem_cons_succ]
        go_simp
        refine hK.out _ _ (Or.inr (by (repeat (first | (with_reducible exact Below.refl _ _) | (with_reducible exact Below.drew (Below.refl _ _)) | (with_reducible refine Below.drew ?_) | (with_reducible refine Below.alloc ?_ ?_ _; rotate_left; ((try simp) <;> (try omega))))))) ?_
        clear hK K'
        try simp only [Act.put, List.getElem_toArray, List.getElem_cons_zero, List.getElem_cons_succ, List.setIfInBounds_toArray, List.set_cons_zero, List.set_cons_succ]
        refine wpAnyG_takeW (i := 9) (v := .slice (some ⟨w2.heap.size + 1, 0, none⟩) 0 0) rfl (by kernel_rfl) (by kernel_rfl) (by kernel_rfl) (fun _ _ _ h => h) (Or.inl ⟨by rfl, ?_⟩) ?_
        · intro w' hSw
          refine exec_append_no (.tmp 15) (.tmp 17) 22 22 43 43 ie ?_ Try.underlying22 Try.underlying22 hie (w2.heap.size + 1) ?_ ?_
          · rfl
          · rfl
          · rfl
        try simp only [Act.put, List.getElem_toArray, List.getElem_cons_zero, List.getElem_cons_succ, List.setIfInBounds_toArray, List.set_cons_zero, List.set_cons_succ]
        refine wpAnyG_br (rs := [12, 16]) (by kernel_rfl) (by simp) ?_
        intro j hj
        simp only [List.mem_cons, List.not_mem_nil, or_false] at hj
        rcases hj with rfl | rfl
        · skip
          refine ⟨_, rfl, fun K' hK => ?_⟩
          simp only [List.getElem_toArray, List.getElem_cons_zero, List.getElem_cons_succ]
          go_simp
          refine hK.out _ _ (Or.inr (by (repeat (first | (with_reducible exact Below.refl _ _) | (with_reducible exact Below.drew (Below.refl _ _)) | (with_reducible refine Below.drew ?_) | (with_reducible refine Below.alloc ?_ ?_ _; rotate_left; ((try simp) <;> (try omega))))))) ?_
          clear hK K'
          try simp only [Act.put, List.getElem_toArray, List.getElem_cons_zero, List.getElem_cons_succ, List.setIfInBounds_toArray, List.set_cons_zero, List.set_cons_succ]
          refine wpAnyG_takeW (i := 15) (v := ?_) rfl (by kernel_rfl) (by kernel_rfl) (by kernel_rfl) (fun _ _ _ h => h) (Or.inl ⟨by rfl, ?_⟩) ?_
          rotate_left
          · intro w' hSw
            go_simp
            try (with_reducible rfl)
          try simp only [Act.put, List.getElem_toArray, List.getElem_cons_zero, List.getElem_cons_succ, List.setIfInBounds_toArray, List.set_cons_zero, List.set_cons_succ]
          refine wpAnyG_br (rs := [16]) (by kernel_rfl) (by simp) ?_
          intro j hj
          simp only [List.mem_cons, List.not_mem_nil, or_false] at hj
          rcases hj with rfl
          · skip
            refine ⟨_, rfl, fun K' hK => ?_⟩
            simp only [List.getElem_toArray, List.getElem_cons_zero, List.getElem_cons_succ]
            go_simp
            refine hK.out _ _ (Or.inr (by (repeat (first | (with_reducible exact Below.refl _ _) | (with_reducible exact Below.drew (Below.refl _ _)) | (with_reducible refine Below.drew ?_) | (with_reducible refine Below.alloc ?_ ?_ _; rotate_left; ((try simp) <;> (try omega))))))) ?_
            clear hK K'
            try simp only [Act.put, List.getElem_toArray, List.getElem_cons_zero, List.getElem_cons_succ, List.setIfInBounds_toArray, List.set_cons_zero, List.set_cons_succ]
            refine wpAnyG_br (rs := [17]) (by kernel_rfl) (by simp) ?_
            intro j hj
            simp only [List.mem_cons, List.not_mem_nil, or_false] at hj
            subst hj
            refine ⟨_, rfl, fun K' hK => ?_⟩
            simp only [List.getElem_toArray, List.getElem_cons_zero, List.getElem_cons_succ]
            go_simp
            refine hK.out _ _ (Or.inl rfl) ?_
            clear hK K'
            try simp only [Act.put, List.getElem_toArray, List.getElem_cons_zero, List.getElem_cons_succ, List.setIfInBounds_toArray, List.set_cons_zero, List.set_cons_succ]
            refine wpAnyG_done (by kernel_rfl) ?_ _
            go_wp2_with fail
            go_meet
            refine ⟨_, _, _, _, rfl, rfl, rfl, rfl, by simp [go_sem], by simp [go_sem], by simp [go_sem], by simp [go_sem], by simp [go_sem], by simp [go_sem], by simp [go_sem], by simp [go_sem], by simp [go_sem], by simp [go_sem], by simp [go_sem], by simp [go_sem], by simp [go_sem], fun o => by simp [go_sem], ?_, by (try simp); try omega, by (try simp); try omega, by (try simp); try omega, by (try simp); try omega, by (try simp); try omega, ?_⟩
            · repeat (first | (with_reducible exact fresh_lit' _ _ (by simp) c hc5) | (with_reducible refine FreshIn.drew ?_) | (with_reducible refine FreshIn.alloc ?_ _))
            · (repeat (first | (with_reducible exact Below.refl _ _) | (with_reducible exact Below.drew (Below.refl _ _)) | (with_reducible refine Below.drew ?_) | (with_reducible refine Below.alloc ?_ ?_ _; rotate_left; ((try simp) <;> (try omega)))))
        · skip
          refine ⟨_, rfl, fun K' hK => ?_⟩
          simp only [List.getElem_toArray, List.getElem_cons_zero, List.getElem_cons_succ]
          go_simp
          refine hK.out _ _ (Or.inr (by (repeat (first | (with_reducible exact Below.refl _ _) | (with_reducible exact Below.drew (Below.refl _ _)) | (with_reducible refine Below.drew ?_) | (with_reducible refine Below.alloc ?_ ?_ _; rotate_left; ((try simp) <;> (try omega))))))) ?_
          clear hK K'
          try simp only [Act.put, List.getElem_toArray, List.getElem_cons_zero, List.getElem_cons_succ, List.setIfInBounds_toArray, List.set_cons_zero, List.set_cons_succ]
          refine wpAnyG_br (rs := [12]) (by kernel_rfl) (by simp) ?_
          intro j hj
          simp only [List.mem_cons, List.not_mem_nil, or_false] at hj
          rcases hj with rfl
          · skip
            refine ⟨_, rfl, fun K' hK => ?_⟩
            simp only [List.getElem_toArray, List.getElem_cons_zero, List.getElem_cons_succ]
            go_simp
            refine hK.out _ _ (Or.inr (by (repeat (first | (with_reducible exact Below.refl _ _) | (with_reducible exact Below.drew (Below.refl _ _)) | (with_reducible refine Below.drew ?_) | (with_reducible refine Below.alloc ?_ ?_ _; rotate_left; ((try simp) <;> (try omega))))))) ?_
            clear hK K'
            try simp only [Act.put, List.getElem_toArray, List.getElem_cons_zero, List.getElem_cons_succ, List.setIfInBounds_toArray, List.set_cons_zero, List.set_cons_succ]
            refine wpAnyG_takeW (i := 15) (v := ?_) rfl (by kernel_rfl) (by kernel_rfl) (by kernel_rfl) (fun _ _ _ h => h) (Or.inl ⟨by rfl, ?_⟩) ?_
            rotate_left
            · intro w' hSw
              go_simp
              try (with_reducible rfl)
            try simp only [Act.put, List.getElem_toArray, List.getElem_cons_zero, List.getElem_cons_succ, List.setIfInBounds_toArray, List.set_cons_zero, List.set_cons_succ]
            refine wpAnyG_br (rs := [17]) (by kernel_rfl) (by simp) ?_
            intro j hj
            simp only [List.mem_cons, List.not_mem_nil, or_false] at hj
            subst hj
            refine ⟨_, rfl, fun K' hK => ?_⟩
            simp only [List.getElem_toArray, List.getElem_cons_zero, List.getElem_cons_succ]
            go_simp
            refine hK.out _ _ (Or.inl rfl) ?_
            clear hK K'
            try simp only [Act.put, List.getElem_toArray, List.getElem_cons_zero, List.getElem_cons_succ, List.setIfInBounds_toArray, List.set_cons_zero, List.set_cons_succ]
            refine wpAnyG_done (by kernel_rfl) ?_ _
            go_wp2_with fail
            go_meet
            refine ⟨_, _, _, _, rfl, rfl, rfl, rfl, by simp [go_sem], by simp [go_sem], by simp [go_sem], by simp [go_sem], by simp [go_sem], by simp [go_sem], by simp [go_sem], by simp [go_sem], by simp [go_sem], by simp [go_sem], by simp [go_sem], by simp [go_sem], by simp [go_sem], fun o => by simp [go_sem], ?_, by (try simp); try omega, by (try simp); try omega, by (try simp); try omega, by (try simp); try omega, by (try simp); try omega, ?_⟩
            · repeat (first | (with_reducible exact fresh_lit' _ _ (by simp) c hc5) | (with_reducible refine FreshIn.drew ?_) | (with_reducible refine FreshIn.alloc ?_ _))
            · (repeat (first | (with_reducible exact Below.refl _ _) | (with_reducible exact Below.drew (Below.refl _ _)) | (with_reducible refine Below.drew ?_) | (with_reducible refine Below.alloc ?_ ?_ _; rotate_left; ((try simp) <;> (try omega)))))
      · skip
        refine ⟨_, rfl, fun K' hK => ?_⟩
        simp only [List.getElem_toArray, List.getElem_cons_zero, List.getElem_cons_succ]
        go_simp
        refine hK.out _ _ (Or.inr (by (repeat (first | (with_reducible exact Below.refl _ _) | (with_reducible exact Below.drew (Below.refl _ _)) | (with_reducible refine Below.drew ?_) | (with_reducible refine Below.alloc ?_ ?_ _; rotate_left; ((try simp) <;> (try omega))))))) ?_
        clear hK K'
        try simp only [Act.put, List.getElem_toArray, List.getElem_cons_zero, List.getElem_cons_succ, List.setIfInBounds_toArray, List.set_cons_zero, List.set_cons_succ]
        refine wpAnyG_br (rs := [6, 16]) (by kernel_rfl) (by simp) ?_
        intro j hj
        simp only [List.mem_cons, List.not_mem_nil, or_false] at hj
        rcases hj with rfl | rfl
        · skip
          refine ⟨_, rfl, fun K' hK => ?_⟩
          simp only [List.getElem_toArray, List.getElem_cons_zero, List.getElem_cons_succ]
          go_simp
          refine hK.out _ _ (Or.inr (by (repeat (first | (with_reducible exact Below.refl _ _) | (with_reducible exact Below.drew (Below.refl _ _)) | (with_reducible refine Below.drew ?_) | (with_reducible refine Below.alloc ?_ ?_ _; rotate_left; ((try simp) <;> (try omega))))))) ?_
          clear hK K'
          try simp only [Act.put, List.getElem_toArray, List.getElem_cons_zero, List.getElem_cons_succ, List.setIfInBounds_toArray, List.set_cons_zero, List.set_cons_succ]
          refine wpAnyG_takeW (i := 9) (v := .slice (some ⟨w2.heap.size + 1 + 1, 0, none⟩) 0 0) rfl (by kernel_rfl) (by kernel_rfl) (by kernel_rfl) (fun _ _ _ h => h) (Or.inl ⟨by rfl, ?_⟩) ?_
          · intro w' hSw
            refine exec_append_no (.tmp 15) (.tmp 17) 22 22 43 43 ie ?_ Try.underlying22 Try.underlying22 hie (w2.heap.size + 1 + 1) ?_ ?_
            · rfl
            · rfl
            · rfl
          try simp only [Act.put, List.getElem_toArray, List.getElem_cons_zero, List.getElem_cons_succ, List.setIfInBounds_toArray, List.set_cons_zero, List.set_cons_succ]
          refine wpAnyG_takeW (i := 15) (v := ?_) rfl (by kernel_rfl) (by kernel_rfl) (by kernel_rfl) (fun _ _ _ h => h) (Or.inl ⟨by rfl, ?_⟩) ?_
          rotate_left
          · intro w' hSw
            go_simp
            try (with_reducible rfl)
          try simp only [Act.put, List.getElem_toArray, List.getElem_cons_zero, List.getElem_cons_succ, List.setIfInBounds_toArray, List.set_cons_zero, List.set_cons_succ]
          refine wpAnyG_br (rs := [16]) (by kernel_rfl) (by simp) ?_
          intro j hj
          simp only [List.mem_cons, List.not_mem_nil, or_false] at hj
          rcases hj with rfl
          · skip
            refine ⟨_, rfl, fun K' hK => ?_⟩
            simp only [List.getElem_toArray, List.getElem_cons_zero, List.getElem_cons_succ]
            go_simp
            refine hK.out _ _ (Or.inr (by (repeat (first | (with_reducible exact Below.refl _ _) | (with_reducible exact Below.drew (Below.refl _ _)) | (with_reducible refine Below.drew ?_) | (with_reducible refine Below.alloc ?_ ?_ _; rotate_left; ((try simp) <;> (try omega))))))) ?_
            clear hK K'
            try simp only [Act.put, List.getElem_toArray, List.getElem_cons_zero, List.getElem_cons_succ, List.setIfInBounds_toArray, List.set_cons_zero, List.set_cons_succ]
            refine wpAnyG_br (rs := [17]) (by kernel_rfl) (by simp) ?_
            intro j hj
            simp only [List.mem_cons, List.not_mem_nil, or_false] at hj
            subst hj
            refine ⟨_, rfl, fun K' hK => ?_⟩
            simp only [List.getElem_toArray, List.getElem_cons_zero, List.getElem_cons_succ]
            go_simp
            refine hK.out _ _ (Or.inl rfl) ?_
            clear hK K'
            try simp only [Act.put, List.getElem_toArray, List.getElem_cons_zero, List.getElem_cons_succ, List.setIfInBounds_toArray, List.set_cons_zero, List.set_cons_succ]
            refine wpAnyG_done (by kernel_rfl) ?_ _
            go_wp2_with fail
            go_meet
            refine ⟨_, _, _, _, rfl, rfl, rfl, rfl, by simp [go_sem], by simp [go_sem], by simp [go_sem], by simp [go_sem], by simp [go_sem], by simp [go_sem], by simp [go_sem], by simp [go_sem], by simp [go_sem], by simp [go_sem], by simp [go_sem], by simp [go_sem], by simp [go_sem], fun o => by simp [go_sem], ?_, by (try simp); try omega, by (try simp); try omega, by (try simp); try omega, by (try simp); try omega, by (try simp); try omega, ?_⟩
            · repeat (first | (with_reducible exact fresh_lit' _ _ (by simp) c hc5) | (with_reducible refine FreshIn.drew ?_) | (with_reducible refine FreshIn.alloc ?_ _))
            · (repeat (first | (with_reducible exact Below.refl _ _) | (with_reducible exact Below.drew (Below.refl _ _)) | (with_reducible refine Below.drew ?_) | (with_reducible refine Below.alloc ?_ ?_ _; rotate_left; ((try simp) <;> (try omega)))))
        · skip
          refine ⟨_, rfl, fun K' hK => ?_⟩
          simp only [List.getElem_toArray, List.getElem_cons_zero, List.getElem_cons_succ]
          go_simp
          refine hK.out _ _ (Or.inr (by (repeat (first | (with_reducible exact Below.refl _ _) | (with_reducible exact Below.drew (Below.refl _ _)) | (with_reducible refine Below.drew ?_) | (with_reducible refine Below.alloc ?_ ?_ _; rotate_left; ((try simp) <;> (try omega))))))) ?_
          clear hK K'
          try simp only [Act.put, List.getElem_toArray, List.getElem_cons_zero, List.getElem_cons_succ, List.setIfInBounds_toArray, List.set_cons_zero, List.set_cons_succ]
          refine wpAnyG_br (rs := [6]) (by kernel_rfl) (by simp) ?_
          intro j hj
          simp only [List.mem_cons, List.not_mem_nil, or_false] at hj
          rcases hj with rfl
          · skip
            refine ⟨_, rfl, fun K' hK => ?_⟩
            simp only [List.getElem_toArray, List.getElem_cons_zero, List.getElem_cons_succ]
            go_simp
            refine hK.out _ _ (Or.inr (by (repeat (first | (with_reducible exact Below.refl _ _) | (with_reducible exact Below.drew (Below.refl _ _)) | (with_reducible refine Below.drew ?_) | (with_reducible refine Below.alloc ?_ ?_ _; rotate_left; ((try simp) <;> (try omega))))))) ?_
            clear hK K'
            try simp only [Act.put, List.getElem_toArray, List.getElem_cons_zero, List.getElem_cons_succ, List.setIfInBounds_toArray, List.set_cons_zero, List.set_cons_succ]
            refine wpAnyG_takeW (i := 9) (v := .slice (some ⟨w2.heap.size + 1 + 1 + 1, 0, none⟩) 0 0) rfl (by kernel_rfl) (by kernel_rfl) (by kernel_rfl) (fun _ _ _ h => h) (Or.inl ⟨by rfl, ?_⟩) ?_
            · intro w' hSw
              refine exec_append_no (.tmp 15) (.tmp 17) 22 22 43 43 ie ?_ Try.underlying22 Try.underlying22 hie (w2.heap.size + 1 + 1 + 1) ?_ ?_
              · rfl
              · rfl
              · rfl
            try simp only [Act.put, List.getElem_toArray, List.getElem_cons_zero, List.getElem_cons_succ, List.setIfInBounds_toArray, List.set_cons_zero, List.set_cons_succ]
            refine wpAnyG_takeW (i := 15) (v := ?_) rfl (by kernel_rfl) (by kernel_rfl) (by kernel_rfl) (fun _ _ _ h => h) (Or.inl ⟨by rfl, ?_⟩) ?_
            rotate_left
            · intro w' hSw
              go_simp
              try (with_reducible rfl)
            try simp only [Act.put, List.getElem_toArray, List.getElem_cons_zero, List.getElem_cons_succ, List.setIfInBounds_toArray, List.set_cons_zero, List.set_cons_succ]
            refine wpAnyG_br (rs := [17]) (by kernel_rfl) (by simp) ?_
            intro j hj
            simp only [List.mem_cons, List.not_mem_nil, or_false] at hj
            subst hj
            refine ⟨_, rfl, fun K' hK => ?_⟩
            simp only [List.getElem_toArray, List.getElem_cons_zero, List.getElem_cons_succ]
            go_simp
            refine hK.out _ _ (Or.inl rfl) ?_
            clear hK K'
            try simp only [Act.put, List.getElem_toArray, List.getElem_cons_zero, List.getElem_cons_succ, List.setIfInBounds_toArray, List.set_cons_zero, List.set_cons_succ]
            refine wpAnyG_done (by kernel_rfl) ?_ _
            go_wp2_with fail
            go_meet
            refine ⟨_, _, _, _, rfl, rfl, rfl, rfl, by simp [go_sem], by simp [go_sem], by simp [go_sem], by simp [go_sem], by simp [go_sem], by simp [go_sem], by simp [go_sem], by simp [go_sem], by simp [go_sem], by simp [go_sem], by simp [go_sem], by simp [go_sem], by simp [go_sem], fun o => by simp [go_sem], ?_, by (try simp); try omega, by (try simp); try omega, by (try simp); try omega, by (try simp); try omega, by (try simp); try omega, ?_⟩
            · repeat (first | (with_reducible exact fresh_lit' _ _ (by simp) c hc5) | (with_reducible refine FreshIn.drew ?_) | (with_reducible refine FreshIn.alloc ?_ _))
            · (repeat (first | (with_reducible exact Below.refl _ _) | (with_reducible exact Below.drew (Below.refl _ _)) | (with_reducible refine Below.drew ?_) | (with_reducible refine Below.alloc ?_ ?_ _; rotate_left; ((try simp) <;> (try omega)))))
      · skip
        refine ⟨_, rfl, fun K' hK => ?_⟩
        simp only [List.getElem_toArray, List.getElem_cons_zero, List.getElem_cons_succ]
        go_simp
        refine hK.out _ _ (Or.inr (by (repeat (first | (with_reducible exact Below.refl _ _) | (with_reducible exact Below.drew (Below.refl _ _)) | (with_reducible refine Below.drew ?_) | (with_reducible refine Below.alloc ?_ ?_ _; rotate_left; ((try simp) <;> (try omega))))))) ?_
        clear hK K'
        try simp only [Act.put, List.getElem_toArray, List.getElem_cons_zero, List.getElem_cons_succ, List.setIfInBounds_toArray, List.set_cons_zero, List.set_cons_succ]
        refine wpAnyG_br (rs := [6, 12]) (by kernel_rfl) (by simp) ?_
        intro j hj
        simp only [List.mem_cons, List.not_mem_nil, or_false] at hj
        rcases hj with rfl | rfl
        · skip
          refine ⟨_, rfl, fun K' hK => ?_⟩
          simp only [List.getElem_toArray, List.getElem_cons_zero, List.getElem_cons_succ]
          go_simp
          refine hK.out _ _ (Or.inr (by (repeat (first | (with_reducible exact Below.refl _ _) | (with_reducible exact Below.drew (Below.refl _ _)) | (with_reducible refine Below.drew ?_) | (with_reducible refine Below.alloc ?_ ?_ _; rotate_left; ((try simp) <;> (try omega))))))) ?_
          clear hK K'
          try simp only [Act.put, List.getElem_toArray, List.getElem_cons_zero, List.getElem_cons_succ, List.setIfInBounds_toArray, List.set_cons_zero, List.set_cons_succ]
          refine wpAnyG_takeW (i := 9) (v := .slice (some ⟨w2.heap.size + 1 + 1, 0, none⟩) 0 0) rfl (by kernel_rfl) (by kernel_rfl) (by kernel_rfl) (fun _ _ _ h => h) (Or.inl ⟨by rfl, ?_⟩) ?_
          · intro w' hSw
            refine exec_append_no (.tmp 15) (.tmp 17) 22 22 43 43 ie ?_ Try.underlying22 Try.underlying22 hie (w2.heap.size + 1 + 1) ?_ ?_
            · rfl
            · rfl
            · rfl
          try simp only [Act.put, List.getElem_toArray, List.getElem_cons_zero, List.getElem_cons_succ, List.setIfInBounds_toArray, List.set_cons_zero, List.set_cons_succ]
          refine wpAnyG_br (rs := [12]) (by kernel_rfl) (by simp) ?_
          intro j hj
          simp only [List.mem_cons, List.not_mem_nil, or_false] at hj
          rcases hj with rfl
          · skip
            refine ⟨_, rfl, fun K' hK => ?_⟩
            simp only [List.getElem_toArray, List.getElem_cons_zero, List.getElem_cons_succ]
            go_simp
            refine hK.out _ _ (Or.inr (by (repeat (first | (with_reducible exact Below.refl _ _) | (with_reducible exact Below.drew (Below.refl _ _)) | (with_reducible refine Below.drew ?_) | (with_reducible refine Below.alloc ?_ ?_ _; rotate_left; ((try simp) <;> (try omega))))))) ?_
            clear hK K'
            try simp only [Act.put, List.getElem_toArray, List.getElem_cons_zero, List.getElem_cons_succ, List.setIfInBounds_toArray, List.set_cons_zero, List.set_cons_succ]
            refine wpAnyG_takeW (i := 15) (v := ?_) rfl (by kernel_rfl) (by kernel_rfl) (by kernel_rfl) (fun _ _ _ h => h) (Or.inl ⟨by rfl, ?_⟩) ?_
            rotate_left
            · intro w' hSw
              go_simp
              try (with_reducible rfl)
            try simp only [Act.put, List.getElem_toArray, List.getElem_cons_zero, List.getElem_cons_succ, List.setIfInBounds_toArray, List.set_cons_zero, List.set_cons_succ]
            refine wpAnyG_br (rs := [17]) (by kernel_rfl) (by simp) ?_
            intro j hj
            simp only [List.mem_cons, List.not_mem_nil, or_false] at hj
            subst hj
            refine ⟨_, rfl, fun K' hK => ?_⟩
            simp only [List.getElem_toArray, List.getElem_cons_zero, List.getElem_cons_succ]
            go_simp
            refine hK.out _ _ (Or.inl rfl) ?_
            clear hK K'
            try simp only [Act.put, List.getElem_toArray, List.getElem_cons_zero, List.getElem_cons_succ, List.setIfInBounds_toArray, List.set_cons_zero, List.set_cons_succ]
            refine wpAnyG_done (by kernel_rfl) ?_ _
            go_wp2_with fail
            go_meet
            refine ⟨_, _, _, _, rfl, rfl, rfl, rfl, by simp [go_sem], by simp [go_sem], by simp [go_sem], by simp [go_sem], by simp [go_sem], by simp [go_sem], by simp [go_sem], by simp [go_sem], by simp [go_sem], by simp [go_sem], by simp [go_sem], by simp [go_sem], by simp [go_sem], fun o => by simp [go_sem], ?_, by (try simp); try omega, by (try simp); try omega, by (try simp); try omega, by (try simp); try omega, by (try simp); try omega, ?_⟩
            · repeat (first | (with_reducible exact fresh_lit' _ _ (by simp) c hc5) | (with_reducible refine FreshIn.drew ?_) | (with_reducible refine FreshIn.alloc ?_ _))
            · (repeat (first | (with_reducible exact Below.refl _ _) | (with_reducible exact Below.drew (Below.refl _ _)) | (with_reducible refine Below.drew ?_) | (with_reducible refine Below.alloc ?_ ?_ _; rotate_left; ((try simp) <;> (try omega)))))
        · skip
          refine ⟨_, rfl, fun K' hK => ?_⟩
          simp only [List.getElem_toArray, List.getElem_cons_zero, List.getElem_cons_succ]
          go_simp
          refine hK.out _ _ (Or.inr (by (repeat (first | (with_reducible exact Below.refl _ _) | (with_reducible exact Below.drew (Below.refl _ _)) | (with_reducible refine Below.drew ?_) | (with_reducible refine Below.alloc ?_ ?_ _; rotate_left; ((try simp) <;> (try omega))))))) ?_
          clear hK K'
          try simp only [Act.put, List.getElem_toArray, List.getElem_cons_zero, List.getElem_cons_succ, List.setIfInBounds_toArray, List.set_cons_zero, List.set_cons_succ]
          refine wpAnyG_br (rs := [6]) (by kernel_rfl) (by simp) ?_
          intro j hj
          simp only [List.mem_cons, List.not_mem_nil, or_false] at hj
          rcases hj with rfl
          · skip
            refine ⟨_, rfl, fun K' hK => ?_⟩
            simp only [List.getElem_toArray, List.getElem_cons_zero, List.getElem_cons_succ]
            go_simp
            refine hK.out _ _ (Or.inr (by (repeat (first | (with_reducible exact Below.refl _ _) | (with_reducible exact Below.drew (Below.refl _ _)) | (with_reducible refine Below.drew ?_) | (with_reducible refine Below.alloc ?_ ?_ _; rotate_left; ((try simp) <;> (try omega))))))) ?_
            clear hK K'
            try simp only [Act.put, List.getElem_toArray, List.getElem_cons_zero, List.getElem_cons_succ, List.setIfInBounds_toArray, List.set_cons_zero, List.set_cons_succ]
            refine wpAnyG_takeW (i := 9) (v := .slice (some ⟨w2.heap.size + 1 + 1 + 1, 0, none⟩) 0 0) rfl (by kernel_rfl) (by kernel_rfl) (by kernel_rfl) (fun _ _ _ h => h) (Or.inl ⟨by rfl, ?_⟩) ?_
            · intro w' hSw
              refine exec_append_no (.tmp 15) (.tmp 17) 22 22 43 43 ie ?_ Try.underlying22 Try.underlying22 hie (w2.heap.size + 1 + 1 + 1) ?_ ?_
              · rfl
              · rfl
              · rfl
            try simp only [Act.put, List.getElem_toArray, List.getElem_cons_zero, List.getElem_cons_succ, List.setIfInBounds_toArray, List.set_cons_zero, List.set_cons_succ]
            refine wpAnyG_takeW (i := 15) (v := ?_) rfl (by kernel_rfl) (by kernel_rfl) (by kernel_rfl) (fun _ _ _ h => h) (Or.inl ⟨by rfl, ?_⟩) ?_
            rotate_left
            · intro w' hSw
              go_simp
              try (with_reducible rfl)
            try simp only [Act.put, List.getElem_toArray, List.getElem_cons_zero, List.getElem_cons_succ, List.setIfInBounds_toArray, List.set_cons_zero, List.set_cons_succ]
            refine wpAnyG_br (rs := [17]) (by kernel_rfl) (by simp) ?_
            intro j hj
            simp only [List.mem_cons, List.not_mem_nil, or_false] at hj
            subst hj
            refine ⟨_, rfl, fun K' hK => ?_⟩
            simp only [List.getElem_toArray, List.getElem_cons_zero, List.getElem_cons_succ]
            go_simp
            refine hK.out _ _ (Or.inl rfl) ?_
            clear hK K'
            try simp only [Act.put, List.getElem_toArray, List.getElem_cons_zero, List.getElem_cons_succ, List.setIfInBounds_toArray, List.set_cons_zero, List.set_cons_succ]
            refine wpAnyG_done (by kernel_rfl) ?_ _
            go_wp2_with fail
            go_meet
            refine ⟨_, _, _, _, rfl, rfl, rfl, rfl, by simp [go_sem], by simp [go_sem], by simp [go_sem], by simp [go_sem], by simp [go_sem], by simp [go_sem], by simp [go_sem], by simp [go_sem], by simp [go_sem], by simp [go_sem], by simp [go_sem], by simp [go_sem], by simp [go_sem], fun o => by simp [go_sem], ?_, by (try simp); try omega, by (try simp); try omega, by (try simp); try omega, by (try simp); try omega, by (try simp); try omega, ?_⟩
            · repeat (first | (with_reducible exact fresh_lit' _ _ (by simp) c hc5) | (with_reducible refine FreshIn.drew ?_) | (with_reducible refine FreshIn.alloc ?_ _))
            · (repeat (first | (with_reducible exact Below.refl _ _) | (with_reducible exact Below.drew (Below.refl _ _)) | (with_reducible refine Below.drew ?_) | (with_reducible refine Below.alloc ?_ ?_ _; rotate_left; ((try simp) <;> (try omega)))))
    · skip
      refine ⟨_, rfl, fun K' hK => ?_⟩
      simp only [List.getElem_toArray, List.getElem_cons_zero, List.getElem_cons_succ]
      go_simp
      refine hK.out _ _ (Or.inr (by (repeat (first | (with_reducible exact Below.refl _ _) | (with_reducible exact Below.drew (Below.refl _ _)) | (with_reducible refine Below.drew ?_) | (with_reducible refine Below.alloc ?_ ?_ _; rotate_left; ((try simp) <;> (try omega))))))) ?_
      clear hK K'
      try simp only [Act.put, List.getElem_toArray, List.getElem_cons_zero, List.getElem_cons_succ, List.setIfInBounds_toArray, List.set_cons_zero, List.set_cons_succ]
      refine wpAnyG_br (rs := [6, 12, 14]) (by kernel_rfl) (by simp) ?_
      intro j hj
      simp only [List.mem_cons, List.not_mem_nil, or_false] at hj
      rcases hj with rfl | rfl | rfl
      · skip
        refine ⟨_, rfl, fun K' hK => ?_⟩
        simp only [List.getElem_toArray, List.getElem_cons_zero, List.getElem_cons_succ]
        go_simp
        refine hK.out _ _ (Or.inr (by (repeat (first | (with_reducible exact Below.refl _ _) | (with_reducible exact Below.drew (Below.refl _ _)) | (with_reducible refine Below.drew ?_) | (with_reducible refine Below.alloc ?_ ?_ _; rotate_left; ((try simp) <;> (try omega))))))) ?_
        clear hK K'
        try simp only [Act.put, List.getElem_toArray, List.getElem_cons_zero, List.getElem_cons_succ, List.setIfInBounds_toArray, List.set_cons_zero, List.set_cons_succ]
        refine wpAnyG_takeW (i := 9) (v := .slice (some ⟨w2.heap.size + 1, 0, none⟩) 0 0) rfl (by kernel_rfl) (by kernel_rfl) (by kernel_rfl) (fun _ _ _ h => h) (Or.inl ⟨by rfl, ?_⟩) ?_
        · intro w' hSw
          refine exec_append_no (.tmp 15) (.tmp 17) 22 22 43 43 ie ?_ Try.underlying22 Try.underlying22 hie (w2.heap.size + 1) ?_ ?_
          · rfl
          · rfl
          · rfl
        try simp only [Act.put, List.getElem_toArray, List.getElem_cons_zero, List.getElem_cons_succ, List.setIfInBounds_toArray, List.set_cons_zero, List.set_cons_succ]
        refine wpAnyG_br (rs := [12, 14]) (by kernel_rfl) (by simp) ?_
        intro j hj
        simp only [List.mem_cons, List.not_mem_nil, or_false] at hj
        rcases hj with rfl | rfl
        · skip
          refine ⟨_, rfl, fun K' hK => ?_⟩
          simp only [List.getElem_toArray, List.getElem_cons_zero, List.getElem_cons_succ]
          go_simp
          refine hK.out _ _ (Or.inr (by (repeat (first | (with_reducible exact Below.refl _ _) | (with_reducible exact Below.drew (Below.refl _ _)) | (with_reducible refine Below.drew ?_) | (with_reducible refine Below.alloc ?_ ?_ _; rotate_left; ((try simp) <;> (try omega))))))) ?_
          clear hK K'
          try simp only [Act.put, List.getElem_toArray, List.getElem_cons_zero, List.getElem_cons_succ, List.setIfInBounds_toArray, List.set_cons_zero, List.set_cons_succ]
          refine wpAnyG_br (rs := [14]) (by kernel_rfl) (by simp) ?_
          intro j hj
          simp only [List.mem_cons, List.not_mem_nil, or_false] at hj
          rcases hj with rfl
          · skip
            refine ⟨_, rfl, fun K' hK => ?_⟩
            simp only [List.getElem_toArray, List.getElem_cons_zero, List.getElem_cons_succ]
            go_simp
            refine hK.out _ _ (Or.inr (by (repeat (first | (with_reducible exact Below.refl _ _) | (with_reducible exact Below.drew (Below.refl _ _)) | (with_reducible refine Below.drew ?_) | (with_reducible refine Below.alloc ?_ ?_ _; rotate_left; ((try simp) <;> (try omega))))))) ?_
            clear hK K'
            try simp only [Act.put, List.getElem_toArray, List.getElem_cons_zero, List.getElem_cons_succ, List.setIfInBounds_toArray, List.set_cons_zero, List.set_cons_succ]
            refine wpAnyG_takeW (i := 15) (v := ?_) rfl (by kernel_rfl) (by kernel_rfl) (by kernel_rfl) (fun _ _ _ h => h) (Or.inl ⟨by rfl, ?_⟩) ?_
            rotate_left
            · intro w' hSw
              go_simp
              try (with_reducible rfl)
            try simp only [Act.put, List.getElem_toArray, List.getElem_cons_zero, List.getElem_cons_succ, List.setIfInBounds_toArray, List.set_cons_zero, List.set_cons_succ]
            refine wpAnyG_br (rs := [17]) (by kernel_rfl) (by simp) ?_
            intro j hj
            simp only [List.mem_cons, List.not_mem_nil, or_false] at hj
            subst hj
            refine ⟨_, rfl, fun K' hK => ?_⟩
            simp only [List.getElem_toArray, List.getElem_cons_zero, List.getElem_cons_succ]
            go_simp
            refine hK.out _ _ (Or.inl rfl) ?_
            clear hK K'
            try simp only [Act.put, List.getElem_toArray, List.getElem_cons_zero, List.getElem_cons_succ, List.setIfInBounds_toArray, List.set_cons_zero, List.set_cons_succ]
            refine wpAnyG_done (by kernel_rfl) ?_ _
            go_wp2_with fail
            go_meet
            refine ⟨_, _, _, _, rfl, rfl, rfl, rfl, by simp [go_sem], by simp [go_sem], by simp [go_sem], by simp [go_sem], by simp [go_sem], by simp [go_sem], by simp [go_sem], by simp [go_sem], by simp [go_sem], by simp [go_sem], by simp [go_sem], by simp [go_sem], by simp [go_sem], fun o => by simp [go_sem], ?_, by (try simp); try omega, by (try simp); try omega, by (try simp); try omega, by (try simp); try omega, by (try simp); try omega, ?_⟩
            · repeat (first | (with_reducible exact fresh_lit' _ _ (by simp) c hc5) | (with_reducible refine FreshIn.drew ?_) | (with_reducible refine FreshIn.alloc ?_ _))
            · (repeat (first | (with_reducible exact Below.refl _ _) | (with_reducible exact Below.drew (Below.refl _ _)) | (with_reducible refine Below.drew ?_) | (with_reducible refine Below.alloc ?_ ?_ _; rotate_left; ((try simp) <;> (try omega)))))
        · skip
          refine ⟨_, rfl, fun K' hK => ?_⟩
          simp only [List.getElem_toArray, List.getElem_cons_zero, List.getElem_cons_succ]
          go_simp
          refine hK.out _ _ (Or.inr (by (repeat (first | (with_reducible exact Below.refl _ _) | (with_reducible exact Below.drew (Below.refl _ _)) | (with_reducible refine Below.drew ?_) | (with_reducible refine Below.alloc ?_ ?_ _; rotate_left; ((try simp) <;> (try omega))))))) ?_
          clear hK K'
          try simp only [Act.put, List.getElem_toArray, List.getElem_cons_zero, List.getElem_cons_succ, List.setIfInBounds_toArray, List.set_cons_zero, List.set_cons_succ]
          refine wpAnyG_br (rs := [12]) (by kernel_rfl) (by simp) ?_
          intro j hj
          simp only [List.mem_cons, List.not_mem_nil, or_false] at hj
          rcases hj with rfl
          · skip
            refine ⟨_, rfl, fun K' hK => ?_⟩
            simp only [List.getElem_toArray, List.getElem_cons_zero, List.getElem_cons_succ]
            go_simp
            refine hK.out _ _ (Or.inr (by (repeat (first | (with_reducible exact Below.refl _ _) | (with_reducible exact Below.drew (Below.refl _ _)) | (with_reducible refine Below.drew ?_) | (with_reducible refine Below.alloc ?_ ?_ _; rotate_left; ((try simp) <;> (try omega))))))) ?_
            clear hK K'
            try simp only [Act.put, List.getElem_toArray, List.getElem_cons_zero, List.getElem_cons_succ, List.setIfInBounds_toArray, List.set_cons_zero, List.set_cons_succ]
            refine wpAnyG_takeW (i := 15) (v := ?_) rfl (by kernel_rfl) (by kernel_rfl) (by kernel_rfl) (fun _ _ _ h => h) (Or.inl ⟨by rfl, ?_⟩) ?_
            rotate_left
            · intro w' hSw
              go_simp
              try (with_reducible rfl)
            try simp only [Act.put, List.getElem_toArray, List.getElem_cons_zero, List.getElem_cons_succ, List.setIfInBounds_toArray, List.set_cons_zero, List.set_cons_succ]
            refine wpAnyG_br (rs := [17]) (by kernel_rfl) (by simp) ?_
            intro j hj
            simp only [List.mem_cons, List.not_mem_nil, or_false] at hj
            subst hj
            refine ⟨_, rfl, fun K' hK => ?_⟩
            simp only [List.getElem_toArray, List.getElem_cons_zero, List.getElem_cons_succ]
            go_simp
            refine hK.out _ _ (Or.inl rfl) ?_
            clear hK K'
            try simp only [Act.put, List.getElem_toArray, List.getElem_cons_zero, List.getElem_cons_succ, List.setIfInBounds_toArray, List.set_cons_zero, List.set_cons_succ]
            refine wpAnyG_done (by kernel_rfl) ?_ _
            go_wp2_with fail
            go_meet
            refine ⟨_, _, _, _, rfl, rfl, rfl, rfl, by simp [go_sem], by simp [go_sem], by simp [go_sem], by simp [go_sem], by simp [go_sem], by simp [go_sem], by simp [go_sem], by simp [go_sem], by simp [go_sem], by simp [go_sem], by simp [go_sem], by simp [go_sem], by simp [go_sem], fun o => by simp [go_sem], ?_, by (try simp); try omega, by (try simp); try omega, by (try simp); try omega, by (try simp); try omega, by (try simp); try omega, ?_⟩
            · repeat (first | (with_reducible exact fresh_lit' _ _ (by simp) c hc5) | (with_reducible refine FreshIn.drew ?_) | (with_reducible refine FreshIn.alloc ?_ _))
            · (repeat (first | (with_reducible exact Below.refl _ _) | (with_reducible exact Below.drew (Below.refl _ _)) | (with_reducible refine Below.drew ?_) | (with_reducible refine Below.alloc ?_ ?_ _; rotate_left; ((try simp) <;> (try omega)))))
      · skip
        refine ⟨_, rfl, fun K' hK => ?_⟩
        simp only [List.getElem_toArray, List.getElem_cons_zero, List.getElem_cons_succ]
        go_simp
        refine hK.out _ _ (Or.inr (by (repeat (first | (with_reducible exact Below.refl _ _) | (with_reducible exact Below.drew (Below.refl _ _)) | (with_reducible refine Below.drew ?_) | (with_reducible refine Below.alloc ?_ ?_ _; rotate_left; ((try simp) <;> (try omega))))))) ?_
        clear hK K'
        try simp only [Act.put, List.getElem_toArray, List.getElem_cons_zero, List.getElem_cons_succ, List.setIfInBounds_toArray, List.set_cons_zero, List.set_cons_succ]
        refine wpAnyG_br (rs := [6, 14]) (by kernel_rfl) (by simp) ?_
        intro j hj
        simp only [List.mem_cons, List.not_mem_nil, or_false] at hj
        rcases hj with rfl | rfl
        · skip
          refine ⟨_, rfl, fun K' hK => ?_⟩
          simp only [List.getElem_toArray, List.getElem_cons_zero, List.getElem_cons_succ]
          go_simp
          refine hK.out _ _ (Or.inr (by (repeat (first | (with_reducible exact Below.refl _ _) | (with_reducible exact Below.drew (Below.refl _ _)) | (with_reducible refine Below.drew ?_) | (with_reducible refine Below.alloc ?_ ?_ _; rotate_left; ((try simp) <;> (try omega))))))) ?_
          clear hK K'
          try simp only [Act.put, List.getElem_toArray, List.getElem_cons_zero, List.getElem_cons_succ, List.setIfInBounds_toArray, List.set_cons_zero, List.set_cons_succ]
          refine wpAnyG_takeW (i := 9) (v := .slice (some ⟨w2.heap.size + 1 + 1, 0, none⟩) 0 0) rfl (by kernel_rfl) (by kernel_rfl) (by kernel_rfl) (fun _ _ _ h => h) (Or.inl ⟨by rfl, ?_⟩) ?_
          · intro w' hSw
            refine exec_append_no (.tmp 15) (.tmp 17) 22 22 43 43 ie ?_ Try.underlying22 Try.underlying22 hie (w2.heap.size + 1 + 1) ?_ ?_
            · rfl
            · rfl
            · rfl
          try simp only [Act.put, List.getElem_toArray, List.getElem_cons_zero, List.getElem_cons_succ, List.setIfInBounds_toArray, List.set_cons_zero, List.set_cons_succ]
          refine wpAnyG_br (rs := [14]) (by kernel_rfl) (by simp) ?_
          intro j hj
          simp only [List.mem_cons, List.not_mem_nil, or_false] at hj
          rcases hj with rfl
          · skip
            refine ⟨_, rfl, fun K' hK => ?_⟩
            simp only [List.getElem_toArray, List.getElem_cons_zero, List.getElem_cons_succ]
            go_simp
            refine hK.out _ _ (Or.inr (by (repeat (first | (with_reducible exact Below.refl _ _) | (with_reducible exact Below.drew (Below.refl _ _)) | (with_reducible refine Below.drew ?_) | (with_reducible refine Below.alloc ?_ ?_ _; rotate_left; ((try simp) <;> (try omega))))))) ?_
            clear hK K'
            try simp only [Act.put, List.getElem_toArray, List.getElem_cons_zero, List.getElem_cons_succ, List.setIfInBounds_toArray, List.set_cons_zero, List.set_cons_succ]
            refine wpAnyG_takeW (i := 15) (v := ?_) rfl (by kernel_rfl) (by kernel_rfl) (by kernel_rfl) (fun _ _ _ h => h) (Or.inl ⟨by rfl, ?_⟩) ?_
            rotate_left
            · intro w' hSw
              go_simp
              try (with_reducible rfl)
            try simp only [Act.put, List.getElem_toArray, List.getElem_cons_zero, List.getElem_cons_succ, List.setIfInBounds_toArray, List.set_cons_zero, List.set_cons_succ]
            refine wpAnyG_br (rs := [17]) (by kernel_rfl) (by simp) ?_
            intro j hj
            simp only [List.mem_cons, List.not_mem_nil, or_false] at hj
            subst hj
            refine ⟨_, rfl, fun K' hK => ?_⟩
            simp only [List.getElem_toArray, List.getElem_cons_zero, List.getElem_cons_succ]
            go_simp
            refine hK.out _ _ (Or.inl rfl) ?_
            clear hK K'
            try simp only [Act.put, List.getElem_toArray, List.getElem_cons_zero, List.getElem_cons_succ, List.setIfInBounds_toArray, List.set_cons_zero, List.set_cons_succ]
            refine wpAnyG_done (by kernel_rfl) ?_ _
            go_wp2_with fail
            go_meet
            refine ⟨_, _, _, _, rfl, rfl, rfl, rfl, by simp [go_sem], by simp [go_sem], by simp [go_sem], by simp [go_sem], by simp [go_sem], by simp [go_sem], by simp [go_sem], by simp [go_sem], by simp [go_sem], by simp [go_sem], by simp [go_sem], by simp [go_sem], by simp [go_sem], fun o => by simp [go_sem], ?_, by (try simp); try omega, by (try simp); try omega, by (try simp); try omega, by (try simp); try omega, by (try simp); try omega, ?_⟩
            · repeat (first | (with_reducible exact fresh_lit' _ _ (by simp) c hc5) | (with_reducible refine FreshIn.drew ?_) | (with_reducible refine FreshIn.alloc ?_ _))
            · (repeat (first | (with_reducible exact Below.refl _ _) | (with_reducible exact Below.drew (Below.refl _ _)) | (with_reducible refine Below.drew ?_) | (with_reducible refine Below.alloc ?_ ?_ _; rotate_left; ((try simp) <;> (try omega)))))
        · skip
          refine ⟨_, rfl, fun K' hK => ?_⟩
          simp only [List.getElem_toArray, List.getElem_cons_zero, List.getElem_cons_succ]
          go_simp
          refine hK.out _ _ (Or.inr (by (repeat (first | (with_reducible exact Below.refl _ _) | (with_reducible exact Below.drew (Below.refl _ _)) | (with_reducible refine Below.drew ?_) | (with_reducible refine Below.alloc ?_ ?_ _; rotate_left; ((try simp) <;> (try omega))))))) ?_
          clear hK K'
          try simp only [Act.put, List.getElem_toArray, List.getElem_cons_zero, List.getElem_cons_succ, List.setIfInBounds_toArray, List.set_cons_zero, List.set_cons_succ]
          refine wpAnyG_br (rs := [6]) (by kernel_rfl) (by simp) ?_
          intro j hj
          simp only [List.mem_cons, List.not_mem_nil, or_false] at hj
          rcases hj with rfl
          · skip
            refine ⟨_, rfl, fun K' hK => ?_⟩
            simp only [List.getElem_toArray, List.getElem_cons_zero, List.getElem_cons_succ]
            go_simp
            refine hK.out _ _ (Or.inr (by (repeat (first | (with_reducible exact Below.refl _ _) | (with_reducible exact Below.drew (Below.refl _ _)) | (with_reducible refine Below.drew ?_) | (with_reducible refine Below.alloc ?_ ?_ _; rotate_left; ((try simp) <;> (try omega))))))) ?_
            clear hK K'
            try simp only [Act.put, List.getElem_toArray, List.getElem_cons_zero, List.getElem_cons_succ, List.setIfInBounds_toArray, List.set_cons_zero, List.set_cons_succ]
            refine wpAnyG_takeW (i := 9) (v := .slice (some ⟨w2.heap.size + 1 + 1 + 1, 0, none⟩) 0 0) rfl (by kernel_rfl) (by kernel_rfl) (by kernel_rfl) (fun _ _ _ h => h) (Or.inl ⟨by rfl, ?_⟩) ?_
            · intro w' hSw
              refine exec_append_no (.tmp 15) (.tmp 17) 22 22 43 43 ie ?_ Try.underlying22 Try.underlying22 hie (w2.heap.size + 1 + 1 + 1) ?_ ?_
              · rfl
              · rfl
              · rfl
            try simp only [Act.put, List.getElem_toArray, List.getElem_cons_zero, List.getElem_cons_succ, List.setIfInBounds_toArray, List.set_cons_zero, List.set_cons_succ]
            refine wpAnyG_takeW (i := 15) (v := ?_) rfl (by kernel_rfl) (by kernel_rfl) (by kernel_rfl) (fun _ _ _ h => h) (Or.inl ⟨by rfl, ?_⟩) ?_
            rotate_left
            · intro w' hSw
              go_simp
              try (with_reducible rfl)
            try simp only [Act.put, List.getElem_toArray, List.getElem_cons_zero, List.getElem_cons_succ, List.setIfInBounds_toArray, List.set_cons_zero, List.set_cons_succ]
            refine wpAnyG_br (rs := [17]) (by kernel_rfl) (by simp) ?_
            intro j hj
            simp only [List.mem_cons, List.not_mem_nil, or_false] at hj
            subst hj
            refine ⟨_, rfl, fun K' hK => ?_⟩
            simp only [List.getElem_toArray, List.getElem_cons_zero, List.getElem_cons_succ]
            go_simp
            refine hK.out _ _ (Or.inl rfl) ?_
            clear hK K'
            try simp only [Act.put, List.getElem_toArray, List.getElem_cons_zero, List.getElem_cons_succ, List.setIfInBounds_toArray, List.set_cons_zero, List.set_cons_succ]
            refine wpAnyG_done (by kernel_rfl) ?_ _
            go_wp2_with fail
            go_meet
            refine ⟨_, _, _, _, rfl, rfl, rfl, rfl, by simp [go_sem], by simp [go_sem], by simp [go_sem], by simp [go_sem], by simp [go_sem], by simp [go_sem], by simp [go_sem], by simp [go_sem], by simp [go_sem], by simp [go_sem], by simp [go_sem], by simp [go_sem], by simp [go_sem], fun o => by simp [go_sem], ?_, by (try simp); try omega, by (try simp); try omega, by (try simp); try omega, by (try simp); try omega, by (try simp); try omega, ?_⟩
            · repeat (first | (with_reducible exact fresh_lit' _ _ (by simp) c hc5) | (with_reducible refine FreshIn.drew ?_) | (with_reducible refine FreshIn.alloc ?_ _))
            · (repeat (first | (with_reducible exact Below.refl _ _) | (with_reducible exact Below.drew (Below.refl _ _)) | (with_reducible refine Below.drew ?_) | (with_reducible refine Below.alloc ?_ ?_ _; rotate_left; ((try simp) <;> (try omega)))))
      · skip
        refine ⟨_, rfl, fun K' hK => ?_⟩
        simp only [List.getElem_toArray, List.getElem_cons_zero, List.getElem_cons_succ]
        go_simp
        refine hK.out _ _ (Or.inr (by (repeat (first | (with_reducible exact Below.refl _ _) | (with_reducible exact Below.drew (Below.refl _ _)) | (with_reducible refine Below.drew ?_) | (with_reducible refine Below.alloc ?_ ?_ _; rotate_left; ((try simp) <;> (try omega))))))) ?_
        clear hK K'
        try simp only [Act.put, List.getElem_toArray, List.getElem_cons_zero, List.getElem_cons_succ, List.setIfInBounds_toArray, List.set_cons_zero, List.set_cons_succ]
        refine wpAnyG_br (rs := [6, 12]) (by kernel_rfl) (by simp) ?_
        intro j hj
        simp only [List.mem_cons, List.not_mem_nil, or_false] at hj
        rcases hj with rfl | rfl
        · skip
          refine ⟨_, rfl, fun K' hK => ?_⟩
          simp only [List.getElem_toArray, List.getElem_cons_zero, List.getElem_cons_succ]
          go_simp
          refine hK.out _ _ (Or.inr (by (repeat (first | (with_reducible exact Below.refl _ _) | (with_reducible exact Below.drew (Below.refl _ _)) | (with_reducible refine Below.drew ?_) | (with_reducible refine Below.alloc ?_ ?_ _; rotate_left; ((try simp) <;> (try omega))))))) ?_
          clear hK K'
          try simp only [Act.put, List.getElem_toArray, List.getElem_cons_zero, List.getElem_cons_succ, List.setIfInBounds_toArray, List.set_cons_zero, List.set_cons_succ]
          refine wpAnyG_takeW (i := 9) (v := .slice (some ⟨w2.heap.size + 1 + 1, 0, none⟩) 0 0) rfl (by kernel_rfl) (by kernel_rfl) (by kernel_rfl) (fun _ _ _ h => h) (Or.inl ⟨by rfl, ?_⟩) ?_
          · intro w' hSw
            refine exec_append_no (.tmp 15) (.tmp 17) 22 22 43 43 ie ?_ Try.underlying22 Try.underlying22 hie (w2.heap.size + 1 + 1) ?_ ?_
            · rfl
            · rfl
            · rfl
          try simp only [Act.put, List.getElem_toArray, List.getElem_cons_zero, List.getElem_cons_succ, List.setIfInBounds_toArray, List.set_cons_zero, List.set_cons_succ]
          refine wpAnyG_br (rs := [12]) (by kernel_rfl) (by simp) ?_
          intro j hj
          simp only [List.mem_cons, List.not_mem_nil, or_false] at hj
          rcases hj with rfl
          · skip
            refine ⟨_, rfl, fun K' hK => ?_⟩
            simp only [List.getElem_toArray, List.getElem_cons_zero, List.getElem_cons_succ]
            go_simp
            refine hK.out _ _ (Or.inr (by (repeat (first | (with_reducible exact Below.refl _ _) | (with_reducible exact Below.drew (Below.refl _ _)) | (with_reducible refine Below.drew ?_) | (with_reducible refine Below.alloc ?_ ?_ _; rotate_left; ((try simp) <;> (try omega))))))) ?_
            clear hK K'
            try simp only [Act.put, List.getElem_toArray, List.getElem_cons_zero, List.getElem_cons_succ, List.setIfInBounds_toArray, List.set_cons_zero, List.set_cons_succ]
            refine wpAnyG_takeW (i := 15) (v := ?_) rfl (by kernel_rfl) (by kernel_rfl) (by kernel_rfl) (fun _ _ _ h => h) (Or.inl ⟨by rfl, ?_⟩) ?_
            rotate_left
            · intro w' hSw
              go_simp
              try (with_reducible rfl)
            try simp only [Act.put, List.getElem_toArray, List.getElem_cons_zero, List.getElem_cons_succ, List.setIfInBounds_toArray, List.set_cons_zero, List.set_cons_succ]
            refine wpAnyG_br (rs := [17]) (by kernel_rfl) (by simp) ?_
            intro j hj
            simp only [List.mem_cons, List.not_mem_nil, or_false] at hj
            subst hj
            refine ⟨_, rfl, fun K' hK => ?_⟩
            simp only [List.getElem_toArray, List.getElem_cons_zero, List.getElem_cons_succ]
            go_simp
            refine hK.out _ _ (Or.inl rfl) ?_
            clear hK K'
            try simp only [Act.put, List.getElem_toArray, List.getElem_cons_zero, List.getElem_cons_succ, List.setIfInBounds_toArray, List.set_cons_zero, List.set_cons_succ]
            refine wpAnyG_done (by kernel_rfl) ?_ _
            go_wp2_with fail
            go_meet
            refine ⟨_, _, _, _, rfl, rfl, rfl, rfl, by simp [go_sem], by simp [go_sem], by simp [go_sem], by simp [go_sem], by simp [go_sem], by simp [go_sem], by simp [go_sem], by simp [go_sem], by simp [go_sem], by simp [go_sem], by simp [go_sem], by simp [go_sem], by simp [go_sem], fun o => by simp [go_sem], ?_, by (try simp); try omega, by (try simp); try omega, by (try simp); try omega, by (try simp); try omega, by (try simp); try omega, ?_⟩
            · repeat (first | (with_reducible exact fresh_lit' _ _ (by simp) c hc5) | (with_reducible refine FreshIn.drew ?_) | (with_reducible refine FreshIn.alloc ?_ _))
            · (repeat (first | (with_reducible exact Below.refl _ _) | (with_reducible exact Below.drew (Below.refl _ _)) | (with_reducible refine Below.drew ?_) | (with_reducible refine Below.alloc ?_ ?_ _; rotate_left; ((try simp) <;> (try omega)))))
        · skip
          refine ⟨_, rfl, fun K' hK => ?_⟩
          simp only [List.getElem_toArray, List.getElem_cons_zero, List.getElem_cons_succ]
          go_simp
          refine hK.out _ _ (Or.inr (by (repeat (first | (with_reducible exact Below.refl _ _) | (with_reducible exact Below.drew (Below.refl _ _)) | (with_reducible refine Below.drew ?_) | (with_reducible refine Below.alloc ?_ ?_ _; rotate_left; ((try simp) <;> (try omega))))))) ?_
          clear hK K'
          try simp only [Act.put, List.getElem_toArray, List.getElem_cons_zero, List.getElem_cons_succ, List.setIfInBounds_toArray, List.set_cons_zero, List.set_cons_succ]
          refine wpAnyG_br (rs := [6]) (by kernel_rfl) (by simp) ?_
          intro j hj
          simp only [List.mem_cons, List.not_mem_nil, or_false] at hj
          rcases hj with rfl
          · skip
            refine ⟨_, rfl, fun K' hK => ?_⟩
            simp only [List.getElem_toArray, List.getElem_cons_zero, List.getElem_cons_succ]
            go_simp
            refine hK.out _ _ (Or.inr (by (repeat (first | (with_reducible exact Below.refl _ _) | (with_reducible exact Below.drew (Below.refl _ _)) | (with_reducible refine Below.drew ?_) | (with_reducible refine Below.alloc ?_ ?_ _; rotate_left; ((try simp) <;> (try omega))))))) ?_
            clear hK K'
            try simp only [Act.put, List.getElem_toArray, List.getElem_cons_zero, List.getElem_cons_succ, List.setIfInBounds_toArray, List.set_cons_zero, List.set_cons_succ]
            refine wpAnyG_takeW (i := 9) (v := .slice (some ⟨w2.heap.size + 1 + 1 + 1, 0, none⟩) 0 0) rfl (by kernel_rfl) (by kernel_rfl) (by kernel_rfl) (fun _ _ _ h => h) (Or.inl ⟨by rfl, ?_⟩) ?_
            · intro w' hSw
              refine exec_append_no (.tmp 15) (.tmp 17) 22 22 43 43 ie ?_ Try.underlying22 Try.underlying22 hie (w2.heap.size + 1 + 1 + 1) ?_ ?_
              · rfl
              · rfl
              · rfl
            try simp only [Act.put, List.getElem_toArray, List.getElem_cons_zero, List.getElem_cons_succ, List.setIfInBounds_toArray, List.set_cons_zero, List.set_cons_succ]
            refine wpAnyG_takeW (i := 15) (v := ?_) rfl (by kernel_rfl) (by kernel_rfl) (by kernel_rfl) (fun _ _ _ h => h) (Or.inl ⟨by rfl, ?_⟩) ?_
            rotate_left
            · intro w' hSw
              go_simp
              try (with_reducible rfl)
            try simp only [Act.put, List.getElem_toArray, List.getElem_cons_zero, List.getElem_cons_succ, List.setIfInBounds_toArray, List.set_cons_zero, List.set_cons_succ]
            refine wpAnyG_br (rs := [17]) (by kernel_rfl) (by simp) ?_
            intro j hj
            simp only [List.mem_cons, List.not_mem_nil, or_false] at hj
            subst hj
            refine ⟨_, rfl, fun K' hK => ?_⟩
            simp only [List.getElem_toArray, List.getElem_cons_zero, List.getElem_cons_succ]
            go_simp
            refine hK.out _ _ (Or.inl rfl) ?_
            clear hK K'
            try simp only [Act.put, List.getElem_toArray, List.getElem_cons_zero, List.getElem_cons_succ, List.setIfInBounds_toArray, List.set_cons_zero, List.set_cons_succ]
            refine wpAnyG_done (by kernel_rfl) ?_ _
            go_wp2_with fail
            go_meet
            refine ⟨_, _, _, _, rfl, rfl, rfl, rfl, by simp [go_sem], by simp [go_sem], by simp [go_sem], by simp [go_sem], by simp [go_sem], by simp [go_sem], by simp [go_sem], by simp [go_sem], by simp [go_sem], by simp [go_sem], by simp [go_sem], by simp [go_sem], by simp [go_sem], fun o => by simp [go_sem], ?_, by (try simp); try omega, by (try simp); try omega, by (try simp); try omega, by (try simp); try omega, by (try simp); try omega, ?_⟩
            · repeat (first | (with_reducible exact fresh_lit' _ _ (by simp) c hc5) | (with_reducible refine FreshIn.drew ?_) | (with_reducible refine FreshIn.alloc ?_ _))
            · (repeat (first | (with_reducible exact Below.refl _ _) | (with_reducible exact Below.drew (Below.refl _ _)) | (with_reducible refine Below.drew ?_) | (with_reducible refine Below.alloc ?_ ?_ _; rotate_left; ((try simp) <;> (try omega)))))
  case rest =>
    obtain ⟨B, b6, b12, b14, rfl, rfl, rfl, rfl, n_0, n_1, n_2, n_3, n_4, n_5, n_6, n_7, n_8, n_9, n_10, n_11, n_12, nf, hF14, hl14, hu14, hne, hlB, huB, hbel⟩ := hcut
    obtain ⟨wd, hwd⟩ : ∃ x, x = wc := ⟨_, rfl⟩
    subst hwd
    have HBD := Lib.hid hbel
    have hzd := hbel.size
    go_wp2_with fail
    go_loopw [8] (fun i wr => ∃ (k : Nat) (a11 : Option Addr) (c11 : Nat), k ≤ c ∧ i = .int .i64 k ∧ FreshIn intE 3 1 wd.heap.size wr.heap.size (.slice a11 k c11) (List.replicate k 1) wr ∧ wr.cell? ⟨B, 0, none⟩ = some (.int .i64 id) ∧ wr.cell? ⟨B, 1, none⟩ = some (.int .i64 c) ∧ wr.cell? ⟨B, 2, none⟩ = some (.int .i64 0) ∧ wr.cell? ⟨B, 3, none⟩ = some (.int .i64 (-1)) ∧ wr.cell? ⟨B, 4, none⟩ = some (.int .i64 0) ∧ wr.cell? ⟨B, 5, none⟩ = some (.bool true) ∧ wr.cell? ⟨B, 6, none⟩ = some (.slice (some ⟨b6, 0, none⟩) 0 0) ∧ wr.cell? ⟨B, 7, none⟩ = some (.int .i64 0) ∧ wr.cell? ⟨B, 8, none⟩ = some (.int .i64 0) ∧ wr.cell? ⟨B, 9, none⟩ = some (.int .i64 (5 + id)) ∧ wr.cell? ⟨B, 10, none⟩ = some (.slice (some ⟨b12, 0, none⟩) 0 0) ∧ wr.cell? ⟨B, 11, none⟩ = some (.slice a11 k c11) ∧ wr.cell? ⟨B, 12, none⟩ = some (.slice (some ⟨b14, 0, none⟩) c c) ∧ (∀ o, wr.frozen? ⟨B, o, none⟩ = false) ∧ FreshIn intE 3 1 b14 (b14 + 1) (.slice (some ⟨b14, 0, none⟩) c c) (List.replicate c 0) wr ∧ wd.heap.size ≤ wr.heap.size ∧ Below w2.heap.size w2 wr) (fun i _ => c - (intOf i).toNat)
    case atStart => exact ⟨0, none, 0, Nat.zero_le _, rfl, FreshIn.nil _ _ _ _ _ _, n_0, n_1, n_2, n_3, n_4, n_5, n_6, n_7, n_8, n_9, n_10, n_11, n_12, nf, hF14, Nat.le_refl _, hbel⟩
    case round =>
      obtain ⟨k, a11, c11, hk, rfl, hF, m_0, m_1, m_2, m_3, m_4, m_5, m_6, m_7, m_8, m_9, m_10, m_11, m_12, mf, hG, hzr, hb⟩ := hrel
      have HF := Lib.hid hF
      have HG := Lib.hid hG
      have HB := Lib.hid hb
      clear hF hG hb
      by_cases hlt : k < c
      · go_wp2_with (first
          | (skip
             at_builtin
             refine wpList_append_fresh rfl (.tmp 31) (.tmp 32) 23 23 rfl (wd.heap.size) (wr.heap.size) 3 i0 (.int .i64 0) 1 8 Try.underlying23 hi hz0 hz1 hz2 rfl (by decide) (.slice a11 k c11) (List.replicate k 1) rfl (HF.out.alloc _) _ ([1]) rfl (Src.ofBox (enc := intE) (w := wr) Try.underlying23 (fun _ => rfl) intOne 1 #[.int .i64 1] 3 rfl wr.heap.size rfl) (by (try simp) <;> (try omega)) (by (try simp) <;> (try omega)) ?_
             intro a3 c3 w3 L3 hL3 hf3 hm3
             have hy3 := hm3.size
             simp at hy3
             have E3 : Hid (L3 = List.replicate (k + 1) 1) := by show _ = _; rw [hL3.out, List.replicate_succ']
             have E4 : Hid (L3.length = k + 1) := by show _ = _; rw [E3.out, List.length_replicate]
             have g_0 : w3.cell? ⟨B, 0, none⟩ = some (.int .i64 id) := by rw [hm3.cell (p := ⟨B, 0, none⟩) (by show B < _; simp; omega) (.inl (by show B < _; omega)), World.cell?_alloc_lt _ _ _ (by show B < _; omega)]; exact m_0
             have g_1 : w3.cell? ⟨B, 1, none⟩ = some (.int .i64 c) := by rw [hm3.cell (p := ⟨B, 1, none⟩) (by show B < _; simp; omega) (.inl (by show B < _; omega)), World.cell?_alloc_lt _ _ _ (by show B < _; omega)]; exact m_1
             have g_2 : w3.cell? ⟨B, 2, none⟩ = some (.int .i64 0) := by rw [hm3.cell (p := ⟨B, 2, none⟩) (by show B < _; simp; omega) (.inl (by show B < _; omega)), World.cell?_alloc_lt _ _ _ (by show B < _; omega)]; exact m_2
             have g_3 : w3.cell? ⟨B, 3, none⟩ = some (.int .i64 (-1)) := by rw [hm3.cell (p := ⟨B, 3, none⟩) (by show B < _; simp; omega) (.inl (by show B < _; omega)), World.cell?_alloc_lt _ _ _ (by show B < _; omega)]; exact m_3
             have g_4 : w3.cell? ⟨B, 4, none⟩ = some (.int .i64 0) := by rw [hm3.cell (p := ⟨B, 4, none⟩) (by show B < _; simp; omega) (.inl (by show B < _; omega)), World.cell?_alloc_lt _ _ _ (by show B < _; omega)]; exact m_4
             have g_5 : w3.cell? ⟨B, 5, none⟩ = some (.bool true) := by rw [hm3.cell (p := ⟨B, 5, none⟩) (by show B < _; simp; omega) (.inl (by show B < _; omega)), World.cell?_alloc_lt _ _ _ (by show B < _; omega)]; exact m_5
             have g_6 : w3.cell? ⟨B, 6, none⟩ = some (.slice (some ⟨b6, 0, none⟩) 0 0) := by rw [hm3.cell (p := ⟨B, 6, none⟩) (by show B < _; simp; omega) (.inl (by show B < _; omega)), World.cell?_alloc_lt _ _ _ (by show B < _; omega)]; exact m_6
             have g_7 : w3.cell? ⟨B, 7, none⟩ = some (.int .i64 0) := by rw [hm3.cell (p := ⟨B, 7, none⟩) (by show B < _; simp; omega) (.inl (by show B < _; omega)), World.cell?_alloc_lt _ _ _ (by show B < _; omega)]; exact m_7
             have g_8 : w3.cell? ⟨B, 8, none⟩ = some (.int .i64 0) := by rw [hm3.cell (p := ⟨B, 8, none⟩) (by show B < _; simp; omega) (.inl (by show B < _; omega)), World.cell?_alloc_lt _ _ _ (by show B < _; omega)]; exact m_8
             have g_9 : w3.cell? ⟨B, 9, none⟩ = some (.int .i64 (5 + id)) := by rw [hm3.cell (p := ⟨B, 9, none⟩) (by show B < _; simp; omega) (.inl (by show B < _; omega)), World.cell?_alloc_lt _ _ _ (by show B < _; omega)]; exact m_9
             have g_10 : w3.cell? ⟨B, 10, none⟩ = some (.slice (some ⟨b12, 0, none⟩) 0 0) := by rw [hm3.cell (p := ⟨B, 10, none⟩) (by show B < _; simp; omega) (.inl (by show B < _; omega)), World.cell?_alloc_lt _ _ _ (by show B < _; omega)]; exact m_10
             have g_11 : w3.cell? ⟨B, 11, none⟩ = some (.slice a11 k c11) := by rw [hm3.cell (p := ⟨B, 11, none⟩) (by show B < _; simp; omega) (.inl (by show B < _; omega)), World.cell?_alloc_lt _ _ _ (by show B < _; omega)]; exact m_11
             have g_12 : w3.cell? ⟨B, 12, none⟩ = some (.slice (some ⟨b14, 0, none⟩) c c) := by rw [hm3.cell (p := ⟨B, 12, none⟩) (by show B < _; simp; omega) (.inl (by show B < _; omega)), World.cell?_alloc_lt _ _ _ (by show B < _; omega)]; exact m_12
             have gf : ∀ o, w3.frozen? ⟨B, o, none⟩ = false := fun o => by rw [hm3.frozen (p := ⟨B, o, none⟩) (by show B < _; simp; omega) (.inl (by show B < _; omega)), World.frozen?_alloc_past _ _ _ (by omega)]; exact mf o
             skip))
        go_roundw
        case rel =>
          rw [E4.out]
          rw [E4.out, E3.out] at hf3
          refine ⟨k + 1, a3, c3, by omega, by go_num, ?_, by simp [go_sem, g_0], by simp [go_sem, g_1], by simp [go_sem, g_2], by simp [go_sem, g_3], by simp [go_sem, g_4], by simp [go_sem, g_5], by simp [go_sem, g_6], by simp [go_sem, g_7], by simp [go_sem, g_8], by simp [go_sem, g_9], by simp [go_sem, g_10], by simp [go_sem, g_11], by simp [go_sem, g_12], fun o => by simpa [go_sem] using gf o, ?_, by simp; omega, ?_⟩
          · have h := hf3.setCell (p := ⟨B, 11, none⟩) (by show B < _; omega) (.slice a3 (k + 1) c3)
            simpa using h
          · exact (((HG.out.alloc _).mid hm3 (.inl (by omega))).mid (Mid.setCell (Mid.refl B (B + 1) _) (p := ⟨B, 11, none⟩) (Nat.le_refl _) (Nat.lt_succ_self _) _) (by omega))
          · exact ((HB.out.alloc (by omega) _).trans (hm3.below (by omega) (by simp; omega))).setCell (by show _ ≤ B; omega) _
        case measure => simp [intOf]; omega
      · obtain rfl : k = c := by omega
        have zr_0 : wr.cell? ⟨w.heap.size + 1, 0, none⟩ = some (.int .i64 0) := (HB.out.cell (p := ⟨w.heap.size + 1, 0, none⟩) (by show w.heap.size + 1 < _; omega)).trans z_0
        have zr_1 : wr.cell? ⟨w.heap.size + 1, 1, none⟩ = some (.int .i64 0) := (HB.out.cell (p := ⟨w.heap.size + 1, 1, none⟩) (by show w.heap.size + 1 < _; omega)).trans z_1
        have zr_2 : wr.cell? ⟨w.heap.size + 1, 2, none⟩ = some (.int .i64 0) := (HB.out.cell (p := ⟨w.heap.size + 1, 2, none⟩) (by show w.heap.size + 1 < _; omega)).trans z_2
        have zr_3 : wr.cell? ⟨w.heap.size + 1, 3, none⟩ = some (.int .i64 0) := (HB.out.cell (p := ⟨w.heap.size + 1, 3, none⟩) (by show w.heap.size + 1 < _; omega)).trans z_3
        have zr_4 : wr.cell? ⟨w.heap.size + 1, 4, none⟩ = some (.int .i64 0) := (HB.out.cell (p := ⟨w.heap.size + 1, 4, none⟩) (by show w.heap.size + 1 < _; omega)).trans z_4
        have zr_5 : wr.cell? ⟨w.heap.size + 1, 5, none⟩ = some (.bool false) := (HB.out.cell (p := ⟨w.heap.size + 1, 5, none⟩) (by show w.heap.size + 1 < _; omega)).trans z_5
        have zr_6 : wr.cell? ⟨w.heap.size + 1, 6, none⟩ = some (.slice none 0 0) := (HB.out.cell (p := ⟨w.heap.size + 1, 6, none⟩) (by show w.heap.size + 1 < _; omega)).trans z_6
        have zr_7 : wr.cell? ⟨w.heap.size + 1, 7, none⟩ = some (.int .i64 0) := (HB.out.cell (p := ⟨w.heap.size + 1, 7, none⟩) (by show w.heap.size + 1 < _; omega)).trans z_7
        have zr_8 : wr.cell? ⟨w.heap.size + 1, 8, none⟩ = some (.int .i64 0) := (HB.out.cell (p := ⟨w.heap.size + 1, 8, none⟩) (by show w.heap.size + 1 < _; omega)).trans z_8
        have zr_9 : wr.cell? ⟨w.heap.size + 1, 9, none⟩ = some (.int .i64 0) := (HB.out.cell (p := ⟨w.heap.size + 1, 9, none⟩) (by show w.heap.size + 1 < _; omega)).trans z_9
        have zr_10 : wr.cell? ⟨w.heap.size + 1, 10, none⟩ = some (.slice none 0 0) := (HB.out.cell (p := ⟨w.heap.size + 1, 10, none⟩) (by show w.heap.size + 1 < _; omega)).trans z_10
        have zr_11 : wr.cell? ⟨w.heap.size + 1, 11, none⟩ = some (.slice none 0 0) := (HB.out.cell (p := ⟨w.heap.size + 1, 11, none⟩) (by show w.heap.size + 1 < _; omega)).trans z_11
        have zr_12 : wr.cell? ⟨w.heap.size + 1, 12, none⟩ = some (.slice none 0 0) := (HB.out.cell (p := ⟨w.heap.size + 1, 12, none⟩) (by show w.heap.size + 1 < _; omega)).trans z_12
        have zrf : ∀ o, wr.frozen? ⟨w.heap.size + 1, o, none⟩ = false := fun o => (HB.out.frozen (p := ⟨w.heap.size + 1, o, none⟩) (by show w.heap.size + 1 < _; omega)).trans (zf o)
        go_wp2_with fail
        refine bodyPost_ret (v := .agg #[.int .i64 id, .int .i64 k, .int .i64 0, .int .i64 (-1), .int .i64 0, .bool true, .slice (some ⟨b6, 0, none⟩) 0 0, .int .i64 0, .int .i64 0, .int .i64 (5 + id), .slice (some ⟨b12, 0, none⟩) 0 0, .slice a11 k c11, .slice (some ⟨b14, 0, none⟩) k k]) (by simp [results, Try.results11, go_sem, zr_0, zr_1, zr_2, zr_3, zr_4, zr_5, zr_6, zr_7, zr_8, zr_9, zr_10, zr_11, zr_12, zrf]) rfl ?_
        refine ⟨b6, b12, b14, a11, c11, rfl, ?_, ?_, ?_⟩
        · refine (slRep (e := 3) (lo := wd.heap.size) (hi := wr.heap.size) (ca := c11) ?_).mono (by omega) (by simp)
          repeat (first | (with_reducible exact HF.out) | (with_reducible refine FreshIn.setCell ?_ ?_ _; rotate_left; (show w.heap.size + 1 < _; omega)))
        · refine (slRep (e := 3) (lo := b14) (hi := b14 + 1) (ca := k) ?_).mono (by omega) (by simp; omega)
          repeat (first | (with_reducible exact HG.out) | (with_reducible refine FreshIn.setCell ?_ ?_ _; rotate_left; (show w.heap.size + 1 < _; omega)))
        · have h0 : Below w.heap.size w wr := HB2.out.trans (HB.out.mono (by omega))
          have HB0 := Lib.hid h0
          clear h0
          repeat (first | (with_reducible exact HB0.out) | (with_reducible refine Below.setCell ?_ ?_ _; rotate_left; (show w.heap.size ≤ w.heap.size + 1; omega)))
end Go.Proofs.Ytfehfjiemelffaa
