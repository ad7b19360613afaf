/- A state in memory of its own: spec.l07Own, impl.cloneState. No conditions but sizes. -/
import Derived.Test.YtckaccadgbcohaaMarkState
import Derived.Test.YtckaccadgbcohaaOwn2
import Derived.Test.YtckaccadgbcohaaTo
import Derived.Lib.LazyBuf
namespace Go.Proofs.Ytckaccadgbcohaa
set_option linter.unusedVariables false
set_option linter.unusedSimpArgs false
open Go.RowKit
theorem entOne : ∀ (x : Ent), ∀ u ∈ entE x, u.oneCell' = true := fun x u hu => by simp [entE] at hu; rcases hu with rfl | rfl <;> rfl
theorem fresh_madeE (w : World) (B : Nat) (hB : B ≤ w.heap.size) : Fresh entE 76 2 B (.slice (some ⟨w.heap.size, 0, none⟩) 0 0) [] (w.alloc (.cells #[] 76)) :=
  Fresh.of_own (World.ownsRow_made (base := B) w #[] 0 hB (by decide) rfl) rfl rfl
set_option maxRecDepth 100000 in
set_option maxHeartbeats 4000000 in
theorem l07Own_c (a : Option Addr) (ca : Nat) (xs : List Ent) (t v : Int) (w : World) (ha : Sl entE 2 w a xs) (la : xs.length ≤ 1048576) :
    Calls Try.prog 97 #[.agg #[.int .i64 t, .int .i64 v, .slice a xs.length ca]] w (FreshState t v xs w) := by
  obtain ⟨i0, hi, hz0, hz1, hz2⟩ := info_parts Try.infoEntry
  have HA := Lib.hid (((ha.alloc (.cells #[.int .i64 t, .int .i64 v, .slice a xs.length ca] 60)).alloc (.cells #[.int .i64 0, .int .i64 0, .slice none 0 0] 60)).alloc (.cells #[] 76))
  have h0 := (fresh_madeE ((w.alloc (.cells #[.int .i64 t, .int .i64 v, .slice a xs.length ca] 60)).alloc (.cells #[.int .i64 0, .int .i64 0, .slice none 0 0] 60)) (w.heap.size + 2) (by simp)).here
  simp only [World.size_alloc] at h0
  have HF := Lib.hid h0
  clear h0
  go_enter Try.func97, Try.ntmps97
  go_wp2_with (first
    | (skip
       at_builtin
       refine wpList_append_fresh rfl (.tmp 3) (.tmp 5) 51 51 rfl (w.heap.size + 2) (w.heap.size + 1 + 1 + 1) 76 i0 (.agg #[.int .i64 0, .string ⟨#[]⟩]) 2 24 Try.underlying51 hi hz0 hz1 hz2 rfl (by decide) (.slice (some ⟨w.heap.size + 1 + 1, 0, none⟩) 0 0) ([]) rfl (HF.out) _ (xs) rfl (Src.ofSl (enc := entE) (sz := 2) (xs := xs) Try.underlying51 (fun _ => rfl) entOne HA.out ca) (by (try simp) <;> (try omega)) (by (try simp) <;> (try omega)) ?_
       intro a1 c1 w1 L1 hL1 hf1 hm1
       have k0_0 : w1.cell? ⟨w.heap.size, 0, none⟩ = some (.int .i64 t) := by
         rw [hm1.cell (p := ⟨w.heap.size, 0, none⟩) (by first | (simp; done) | (simp; omega)) (.inl (by show w.heap.size < _; omega))]
         simp [go_sem]
       have k0_1 : w1.cell? ⟨w.heap.size, 1, none⟩ = some (.int .i64 v) := by
         rw [hm1.cell (p := ⟨w.heap.size, 1, none⟩) (by first | (simp; done) | (simp; omega)) (.inl (by show w.heap.size < _; omega))]
         simp [go_sem]
       have k0_2 : w1.cell? ⟨w.heap.size, 2, none⟩ = some (.slice a xs.length ca) := by
         rw [hm1.cell (p := ⟨w.heap.size, 2, none⟩) (by first | (simp; done) | (simp; omega)) (.inl (by show w.heap.size < _; omega))]
         simp [go_sem]
       have k1_0 : w1.cell? ⟨w.heap.size + 1, 0, none⟩ = some (.int .i64 0) := by
         rw [hm1.cell (p := ⟨w.heap.size + 1, 0, none⟩) (by first | (simp; done) | (simp; omega)) (.inl (by show w.heap.size + 1 < _; omega))]
         simp [go_sem]
       have k1_1 : w1.cell? ⟨w.heap.size + 1, 1, none⟩ = some (.int .i64 0) := by
         rw [hm1.cell (p := ⟨w.heap.size + 1, 1, none⟩) (by first | (simp; done) | (simp; omega)) (.inl (by show w.heap.size + 1 < _; omega))]
         simp [go_sem]
       have k1_2 : w1.cell? ⟨w.heap.size + 1, 2, none⟩ = some (.slice none 0 0) := by
         rw [hm1.cell (p := ⟨w.heap.size + 1, 2, none⟩) (by first | (simp; done) | (simp; omega)) (.inl (by show w.heap.size + 1 < _; omega))]
         simp [go_sem]
       have kf0 : ∀ o, w1.frozen? ⟨w.heap.size, o, none⟩ = false := fun o => by
         rw [hm1.frozen (p := ⟨w.heap.size, o, none⟩) (by first | (simp; done) | (simp; omega)) (.inl (by show w.heap.size < _; omega))]
         simp [go_sem]
       have kf1 : ∀ o, w1.frozen? ⟨w.heap.size + 1, o, none⟩ = false := fun o => by
         rw [hm1.frozen (p := ⟨w.heap.size + 1, o, none⟩) (by first | (simp; done) | (simp; omega)) (.inl (by show w.heap.size + 1 < _; omega))]
         simp [go_sem]
       have hz1' := hm1.size
       simp only [World.size_alloc] at hz1'
       skip))
  refine ⟨rfl, _, (by simp [results, Try.results97, go_sem, k0_0, k0_1, k0_2, k1_0, k1_1, k1_2]; rfl), ?_⟩
  obtain rfl : L1 = xs := by simpa using hL1.out
  have hb1 : Below w.heap.size w w1 := ((((Below.refl w.heap.size w).alloc (Nat.le_refl _) (.cells #[.int .i64 t, .int .i64 v, .slice a L1.length ca] 60)).alloc (by simp) (.cells #[.int .i64 0, .int .i64 0, .slice none 0 0] 60)).alloc (by simp; omega) (.cells #[] 76)).trans (hm1.below (by omega) (by simp; omega))
  exact ⟨a1, c1, rfl, ((((hf1.1.setCell (by simp) _).setCell (by simp) _).setCell (by simp) _).setCell (by simp) _).mono (by omega), (by repeat (first | exact Below.refl _ _ | (refine Below.alloc ?_ (by (try simp) <;> (try omega)) _) | (refine Below.setCell ?_ (by (try simp) <;> (try omega)) _) | (refine Below.drew ?_) | (refine Below.trans ?_ (Below.mono (by assumption) (by (try simp) <;> (try omega))))))⟩
set_option maxRecDepth 100000 in
set_option maxHeartbeats 4000000 in
theorem sliceClone_c (a : Option Addr) (ca : Nat) (xs : List Ent) (w : World) (ha : Sl entE 2 w a xs) (la : xs.length ≤ 1048576) :
    Calls Try.prog 118 #[.slice a xs.length ca] w (FreshR entE 76 2 w xs) := by
  obtain ⟨i0, hi, hz0, hz1, hz2⟩ := info_parts Try.infoEntry
  cases a with
  | none =>
    obtain rfl : xs = [] := by
      rcases ha with h | ⟨b, o, h, _⟩
      · exact h
      · cases h
    clear ha
    have hnil : ∀ w, (binOp .eql 51 (.slice none 0 ca) (.slice none 0 0)).run Try.prog w = .ok (.bool true) w := fun w => Lib.run_eql_slice_nil w _ _ _ _ _ _ _ Try.underlying51
    go_enter Try.func118, Try.ntmps118
    go_wp2_with fail
    go_ret
    exact ⟨_, rfl, (FreshIn.nil _ _ _ _ 0 _).1, Below.refl _ _⟩
  | some p =>
    have HA := Lib.hid (ha.alloc (.cells #[] 76))
    have h0 := (fresh_madeE w w.heap.size (Nat.le_refl _)).here
    simp only [World.size_alloc] at h0
    have HF := Lib.hid h0
    clear h0
    have hnil : ∀ w, (binOp .eql 51 (.slice (some p) xs.length ca) (.slice none 0 0)).run Try.prog w = .ok (.bool false) w := fun w => Lib.run_eql_slice_nil w _ _ _ _ _ _ _ Try.underlying51
    go_enter Try.func118, Try.ntmps118
    go_wp2_with (first
      | (skip
         at_builtin
         refine wpList_append_fresh rfl (.tmp 5) (.tmp 6) 51 51 rfl (w.heap.size) (w.heap.size + 1) 76 i0 (.agg #[.int .i64 0, .string ⟨#[]⟩]) 2 24 Try.underlying51 hi hz0 hz1 hz2 rfl (by decide) (.slice (some ⟨w.heap.size, 0, none⟩) 0 0) ([]) rfl (HF.out) _ (xs) rfl (Src.ofSl (enc := entE) (sz := 2) (xs := xs) Try.underlying51 (fun _ => rfl) entOne HA.out ca) (by (try simp) <;> (try omega)) (by (try simp) <;> (try omega)) ?_
         intro a1 c1 w1 L1 hL1 hf1 hm1
         skip))
    go_ret
    obtain rfl : L1 = xs := by simpa using hL1.out
    exact ⟨_, rfl, hf1.1, ((Below.refl w.heap.size w).alloc (Nat.le_refl _) (.cells #[] 76)).trans (hm1.below (by omega) (by simp))⟩
set_option maxRecDepth 100000 in
set_option maxHeartbeats 4000000 in
theorem cloneState_c (a : Option Addr) (ca : Nat) (xs : List Ent) (t v : Int) (w : World) (ha : Sl entE 2 w a xs) (la : xs.length ≤ 1048576) :
    Calls Try.prog 114 #[.agg #[.int .i64 t, .int .i64 v, .slice a xs.length ca]] w (FreshState t v xs w) := by
  go_enter Try.func114, Try.ntmps114
  go_wp2_with fail
  refine (sliceClone_c a ca xs _ ((ha.alloc _).alloc _) la).mono ?_
  rintro e w1 ⟨v1, rfl, hf1, hb1⟩
  obtain ⟨a1, c1, rfl, hc1, ho1⟩ := hf1
  have hz1 := hb1.size
  try simp at hz1
  have kc1_0 := fun o => hb1.cell (p := ⟨w.heap.size, o, none⟩) (by (try simp) <;> (try omega))
  have kf1_0 := fun o => hb1.frozen (p := ⟨w.heap.size, o, none⟩) (by (try simp) <;> (try omega))
  have hl1_0 : w.heap.size < w1.heap.size := by omega
  have kc1_1 := fun o => hb1.cell (p := ⟨w.heap.size + 1, o, none⟩) (by (try simp) <;> (try omega))
  have kf1_1 := fun o => hb1.frozen (p := ⟨w.heap.size + 1, o, none⟩) (by (try simp) <;> (try omega))
  have hl1_1 : w.heap.size + 1 < w1.heap.size := by omega
  have HO := Lib.hid ho1
  clear ho1
  go_wp2_with fail
  refine ⟨rfl, _, (by simp [results, Try.results114, go_sem, kc1_0, kc1_1]; rfl), ?_⟩
  have hf : Fresh entE 76 2 (w.heap.size + 2) (.slice a1 xs.length c1) xs w1 := ⟨_, _, rfl, hc1, by simpa using HO.out⟩
  exact ⟨a1, c1, rfl, ((((hf.setCell (by simp) _).setCell (by simp) _).setCell (by simp) _).setCell (by simp) _).mono (by omega), (by repeat (first | exact Below.refl _ _ | (refine Below.alloc ?_ (by (try simp) <;> (try omega)) _) | (refine Below.setCell ?_ (by (try simp) <;> (try omega)) _) | (refine Below.drew ?_) | (refine Below.trans ?_ (Below.mono (by assumption) (by (try simp) <;> (try omega))))))⟩
end Go.Proofs.Ytckaccadgbcohaa
