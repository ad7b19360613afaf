/- slices.Repeat of one int, up to five times. No other conditions. -/
import Derived.Test.YtfehfjiemelffaaOwn
import Derived.Test.YtfehfjiemelffaaMid
import Derived.Test.YtfehfjiemelffaaTo
import Derived.Laws.IdiomCopy
import Derived.Deep.RegionLaw
import Derived.Test.YtfehfjiemelffaaHeldG
import Derived.BigQuiet
namespace Go.Proofs.Ytfehfjiemelffaa
set_option linter.unusedVariables false
set_option linter.unusedSimpArgs false
open Go.RowKit
def rowL (n c : Nat) : List Int := (List.range c).map (fun j => if j < n then 1 else 0)
theorem rowL_length (n c : Nat) : (rowL n c).length = c := by simp [rowL]
theorem rowL_done (c : Nat) : rowL c c = List.replicate c 1 := by
  apply List.ext_getElem
  · simp [rowL]
  · intro i h1 h2
    simp [rowL] at h1 ⊢
    omega
theorem rowL_zero (c : Nat) : rowL 0 c = List.replicate c 0 := by
  apply List.ext_getElem
  · simp [rowL]
  · intro i h1 h2
    simp [rowL]
theorem flat_int (l : List Int) : l.flatMap intE = l.map (fun n => Value.int .i64 n) := by
  induction l with
  | nil => rfl
  | cons x l ih => simp [intE] at ih ⊢; exact ih
theorem rowL_set {n c : Nat} (hn : n < c) : ((rowL n c).flatMap intE).set n (.int .i64 1) = (rowL (n + 1) c).flatMap intE := by
  rw [flat_int, flat_int]
  apply List.ext_getElem
  · simp [rowL]
  · intro i h1 h2
    rw [List.getElem_set]
    simp only [rowL, List.getElem_map, List.getElem_range]
    by_cases h : n = i
    · subst h
      simp
    · rw [if_neg h]
      by_cases h3 : i < n
      · rw [if_pos h3, if_pos (by omega)]
      · rw [if_neg h3, if_neg (by omega)]
theorem ones_stored {B c cap g : Nat} : ∀ (m n : Nat) (w : World), w.ownsRow B 3 1 (.slice (some ⟨g, 0, none⟩) c cap) c ((rowL n c).flatMap intE) → n + m ≤ c →
    (w.setCells g n (List.replicate m (.int .i64 1))).ownsRow B 3 1 (.slice (some ⟨g, 0, none⟩) c cap) c ((rowL (n + m) c).flatMap intE)
  | 0, n, w, h, _ => h
  | m + 1, n, w, h, hn => by
    have h1 := (h.stored n (.int .i64 1)).1
    rw [rowL_set (by omega)] at h1
    have h2 := ones_stored m (n + 1) _ h1 (by omega)
    rw [show n + 1 + m = n + (m + 1) by omega] at h2
    exact h2
theorem below_setCells {B b : Nat} {a : World} (hb : B ≤ b) : ∀ (vs : List Value) (o : Nat) (w : World), Below B a w → Below B a (w.setCells b o vs)
  | [], _, _, h => h
  | v :: r, o, w, h => below_setCells hb r (o + 1) _ (h.setCell (p := ⟨b, o, none⟩) hb v)
theorem wp_copy_at {P : Program} {o : Oper} {a : Act} {w : World} {K : Act → World → Prop} {Q : Exit → Act → World → Prop}
    (s x : Operand) (t tx : TypeId) (ho : o.op = .call { callee := .builtin .copy, args := #[s, x], argTypes := #[t, tx] })
    (v u : Value) (hs : a.eval s = v) (hx : a.eval x = u) {v' : Value} {w' : World} (hr : (Builtin.copy_ #[t, tx] o.type #[v, u]).run P w = .ok v' w') (h : K (a.put o.dst v') w') : Oper.wp P o a w K Q := by
  unfold Oper.wp
  simp [execOp, ho, resolve, invoke, builtin, hs, hx, hr, Result.andThen]
  exact h
theorem copy_ones {B c cap g n m : Nat} {w : World} (ty : TypeId) (h : w.ownsRow B 3 1 (.slice (some ⟨g, 0, none⟩) c cap) c ((rowL n c).flatMap intE)) (hm : m = min n (c - n)) (hn : n ≤ c) (cap1 cap2 : Nat) :
    (Builtin.copy_ #[23, 23] ty #[.slice (some ⟨g, n, none⟩) (c - n) cap1, .slice (some ⟨g, 0, none⟩) n cap2]).run Try.prog w = .ok (goInt (m : Nat)) (w.setCells g n (List.replicate m (.int .i64 1))) := by
  have hmn : m ≤ n := by omega
  have hmc : n + m ≤ c := by omega
  have h1 := run_copy_cells (P := Try.prog) w 23 23 ty 3 g n (c - n) cap1 ⟨g, 0, none⟩ n cap2 (List.replicate m (.int .i64 1)) Try.underlying23 (by kernel_rfl) (by simp; omega)
    (fun j v hj => by
      rw [List.getElem?_replicate] at hj
      split at hj
      · next hjm =>
        cases hj
        rw [show (⟨g, 0, none⟩ : Addr).add j = ⟨g, j, none⟩ by simp [Addr.add]; exact fun h => h.symm, h.cellAt j (by omega), flat_int]
        have hjc : j < c := by omega
        have hjn : j < n := by omega
        simp [rowL, hjc, hjn]
      · cases hj)
    (fun j hj => by
      have hj2 : j < m := by simpa using hj
      have hjc : n + j < c := by omega
      rw [h.cellAt (n + j) (by omega), flat_int]
      simp [rowL, hjc])
    (fun j hj => h.frozenAt (n + j)) (fun v hv => by rw [List.eq_of_mem_replicate hv]; rfl)
  simpa using h1
set_option maxHeartbeats 2000000 in
theorem mul64_c (c : Int) (hc : c = 1 ∨ c = 2 ∨ c = 3 ∨ c = 4 ∨ c = 5) (w : World) :
    Calls Try.prog 27 #[.int .u64 1, .int .u64 c] w fun e w' => e = .returned (.tuple #[.int .u64 0, .int .u64 c]) ∧ w = w' := by
  rcases hc with rfl | rfl | rfl | rfl | rfl
  all_goals
    go_enter Try.func27, Try.ntmps27
    go_wp2_with fail
    go_ret2
    exact ⟨rfl, rfl⟩
set_option maxHeartbeats 2000000 in
theorem mul_c (c : Int) (hc : c = 1 ∨ c = 2 ∨ c = 3 ∨ c = 4 ∨ c = 5) (w : World) :
    Calls Try.prog 25 #[.int .u64 1, .int .u64 c] w fun e w' => e = .returned (.tuple #[.int .u64 0, .int .u64 c]) ∧ w = w' := by
  have HC := Lib.hid hc
  clear hc
  go_enter Try.func25, Try.ntmps25
  go_wp2_with fail
  refine (mul64_c c HC.out _).mono ?_
  rintro e w' ⟨rfl, rfl⟩
  go_wp2_with fail
  go_ret2
  exact ⟨rfl, rfl⟩
set_option maxRecDepth 100000 in
set_option maxHeartbeats 8000000 in
theorem repeat_c (b : Nat) (ca : Nat) (c : Nat) (hc : (c : Int) = 1 ∨ (c : Int) = 2 ∨ (c : Int) = 3 ∨ (c : Int) = 4 ∨ (c : Int) = 5) (w : World) (hb : b < w.heap.size) (h0 : w.cell? ⟨b, 0, none⟩ = some (.int .i64 1)) :
    Calls Try.prog 24 #[.slice (some ⟨b, 0, none⟩) 1 ca, .int .i64 c] w fun e w' => e = .returned (.slice (some ⟨w.heap.size, 0, none⟩) c c) ∧ Fresh intE 3 1 w.heap.size (.slice (some ⟨w.heap.size, 0, none⟩) c c) (List.replicate c 1) w' ∧ Below w.heap.size w w' := by
  have hc1 : 1 ≤ c := by omega
  have hc5 : c ≤ 5 := by omega
  have HC := Lib.hid hc
  clear hc
  have hcu : (c : Int) ≤ 9223372036854775807 := by omega
  have hc0 : (0 : Int) ≤ (c : Int) := by omega
  obtain ⟨i0, hi, hz0, hz1, hz2⟩ := info_parts Try.infoInt
  go_enter Try.func24, Try.ntmps24
  go_wp2_with fail
  refine (mul_c c HC.out _).mono ?_
  rintro e w1 ⟨rfl, rfl⟩
  go_wp2_with (at_make; refine wpList_make_full _ rfl _ _ 23 rfl w.heap.size 3 i0 (.int .i64 0) 1 Try.underlying23 hi hz0 hz1 .i64 .i64 _ _ c rfl rfl rfl rfl ?c1 ?c2 ?c3 ?_)
  case c1 => rw [hz2]; omega
  case c2 => unfold maxLen; omega
  case c3 => exact Nat.le_refl _
  intro w1 hown hg
  have hm := madeCells_flat intE 1 (0 : Int) #[.int .i64 0] rfl (fun _ => rfl) c
  have hown2 : w1.ownsRow w.heap.size 3 1 (.slice (some ⟨w.heap.size, 0, none⟩) c c) c ((rowL 0 c).flatMap intE) := by rw [rowL_zero, ← hm, Nat.mul_one]; exact hown
  have hb1 : Below w.heap.size w w1 := (Below.refl _ _).grown hg (Nat.le_refl _) (by simp)
  have h1 : w1.cell? ⟨b, 0, none⟩ = some (.int .i64 1) := (hb1.cell (p := ⟨b, 0, none⟩) hb).trans h0
  have hcp : ∀ ty, (Builtin.copy_ #[23, 23] ty #[.slice (some ⟨w.heap.size, 0, none⟩) c c, .slice (some ⟨b, 0, none⟩) 1 ca]).run Try.prog w1 = .ok (.int .i64 1) (w1.setCells w.heap.size 0 [.int .i64 1]) := fun ty => by
    have h := run_copy_cells (P := Try.prog) w1 23 23 ty 3 w.heap.size 0 c c ⟨b, 0, none⟩ 1 ca [.int .i64 1] Try.underlying23 (by kernel_rfl) (by show 1 = min 1 c; omega)
      (fun j v hj => by
        have hj0 : j = 0 := by
          have := (List.getElem?_eq_some_iff.1 hj).1
          simp at this
          omega
        subst hj0
        cases hj
        exact h1)
      (fun j hj => by
        have hj0 : j = 0 := by
          simp at hj
          omega
        subst hj0
        rw [hown2.cellAt 0 (by omega), flat_int]
        simp [rowL]
        omega)
      (fun j hj => hown2.frozenAt (0 + j)) (fun v hv => by simp at hv; subst hv; rfl)
    simpa [goInt] using h
  have HO1 := Lib.hid (ones_stored 1 0 w1 hown2 (by omega))
  have HB1 : Hid (Below w.heap.size w (w1.setCells w.heap.size 0 [.int .i64 1])) := below_setCells (Nat.le_refl _) _ _ _ hb1
  have HH1 : Hid (w.heap.size < w1.heap.size) := by
    have := HO1.out.lt (k := w.heap.size) rfl
    have h2 := hown2.lt (k := w.heap.size) rfl
    exact h2.2
  clear hm hown hown2 hg h1 hb1
  go_wp2_with fail
  clear hcp
  go_loopw [8] (fun nv wr => ∃ n : Nat, nv = .int .i64 n ∧ 1 ≤ n ∧ n ≤ c ∧ wr.ownsRow w.heap.size 3 1 (.slice (some ⟨w.heap.size, 0, none⟩) c c) c ((rowL n c).flatMap intE) ∧ Below w.heap.size w wr) (fun nv _ => c - (intOf nv).toNat)
  case atStart => exact ⟨1, rfl, Nat.le_refl _, hc1, HO1.out, HB1.out⟩
  case round =>
    obtain ⟨n, rfl, hn1, hnc, hown, hbel⟩ := hrel
    have HO := Lib.hid hown
    have HW := Lib.hid hbel
    clear hown hbel
    by_cases hlt : n < c
    · have hlt' : (n : Int) < (c : Int) := by omega
      have hn0 : (0 : Int) ≤ (n : Int) := by omega
      have hle : (n : Int) ≤ (c : Int) := by omega
      obtain ⟨m, hm⟩ : ∃ m, m = min n (c - n) := ⟨_, rfl⟩
      have hm1 : 1 ≤ m := by omega
      have hm2 : n + m ≤ c := by omega
      have hcn : ¬ c = n := by omega
      have em : IntKind.i64.wrap ((n : Int) + (m : Int)) = (n : Int) + (m : Int) := IntWalk.i64_in _ ⟨by omega, by omega⟩
      have HCP : Hid (∀ ty cap1 cap2, (Builtin.copy_ #[23, 23] ty #[.slice (some ⟨w.heap.size, n, none⟩) (c - n) cap1, .slice (some ⟨w.heap.size, 0, none⟩) n cap2]).run Try.prog wr.drew = .ok (goInt (m : Nat)) (wr.drew.setCells w.heap.size n (List.replicate m (.int .i64 1)))) := Lib.hid (fun ty cap1 cap2 => copy_ones (w := wr.drew) ty (show wr.drew.ownsRow _ _ _ _ _ _ from HO.out) hm (by omega) cap1 cap2)
      clear hm
      go_wp2_with fail
      refine wp_region_G (fun _ => True) (fun _ => false) (by kernel_rfl) trivial ?_
      refine wpAnyG_takeW (i := 0) (v := ?_) rfl (by kernel_rfl) (by kernel_rfl) (by kernel_rfl) (fun _ _ _ h => h) (Or.inl ⟨by rfl, ?_⟩) ?_
      rotate_left
      · intro w' hSw
        go_simp
        try (with_reducible rfl)
      try simp only [Act.put, List.getElem_toArray, List.getElem_cons_zero, List.getElem_cons_succ, List.setIfInBounds_toArray, List.set_cons_zero, List.set_cons_succ]
      refine wpAnyG_takeW (i := 1) (v := ?_) rfl (by kernel_rfl) (by kernel_rfl) (by kernel_rfl) (fun _ _ _ h => h) (Or.inl ⟨by rfl, ?_⟩) ?_
      rotate_left
      · intro w' hSw
        go_simp
        try (with_reducible rfl)
      try simp only [Act.put, List.getElem_toArray, List.getElem_cons_zero, List.getElem_cons_succ, List.setIfInBounds_toArray, List.set_cons_zero, List.set_cons_succ]
      refine wpAnyG_takeW (i := 2) (v := ?_) rfl (by kernel_rfl) (by kernel_rfl) (by kernel_rfl) (fun _ _ _ h => h) (Or.inl ⟨by rfl, ?_⟩) ?_
      rotate_left
      · intro w' hSw
        go_simp
        try (with_reducible rfl)
      try simp only [Act.put, List.getElem_toArray, List.getElem_cons_zero, List.getElem_cons_succ, List.setIfInBounds_toArray, List.set_cons_zero, List.set_cons_succ]
      refine wpAnyG_takeW (i := 3) (v := ?_) rfl (by kernel_rfl) (by kernel_rfl) (by kernel_rfl) (fun _ _ _ h => h) (Or.inl ⟨by rfl, ?_⟩) ?_
      rotate_left
      · intro w' hSw
        go_simp
        try (with_reducible rfl)
      try simp only [Act.put, List.getElem_toArray, List.getElem_cons_zero, List.getElem_cons_succ, List.setIfInBounds_toArray, List.set_cons_zero, List.set_cons_succ]
      refine wpAnyG_takeW (i := 4) (v := ?_) rfl (by kernel_rfl) (by kernel_rfl) (by kernel_rfl) (fun _ _ _ h => h) (Or.inl ⟨by rfl, ?_⟩) ?_
      rotate_left
      · intro w' hSw
        go_simp
        try (with_reducible rfl)
      try simp only [Act.put, List.getElem_toArray, List.getElem_cons_zero, List.getElem_cons_succ, List.setIfInBounds_toArray, List.set_cons_zero, List.set_cons_succ]
      refine wpAnyG_takeW (i := 5) (v := ?_) rfl (by kernel_rfl) (by kernel_rfl) (by kernel_rfl) (fun _ _ _ h => h) (Or.inl ⟨by rfl, ?_⟩) ?_
      rotate_left
      · intro w' hSw
        go_simp
        try (with_reducible rfl)
      try simp only [Act.put, List.getElem_toArray, List.getElem_cons_zero, List.getElem_cons_succ, List.setIfInBounds_toArray, List.set_cons_zero, List.set_cons_succ]
      refine wpAnyG_takeW (i := 6) (v := ?_) rfl (by kernel_rfl) (by kernel_rfl) (by kernel_rfl) (fun _ _ _ h => h) (Or.inl ⟨by rfl, ?_⟩) ?_
      rotate_left
      · intro w' hSw
        go_simp
        try (with_reducible rfl)
      try simp only [Act.put, List.getElem_toArray, List.getElem_cons_zero, List.getElem_cons_succ, List.setIfInBounds_toArray, List.set_cons_zero, List.set_cons_succ]
      refine wpAnyG_one (i := 7) (by kernel_rfl) rfl trivial (fun K' hK => ?_)
      simp only [List.getElem_toArray, List.getElem_cons_zero, List.getElem_cons_succ]
      rw [if_pos (by rfl)]
      refine wp_copy_at (.tmp 41) (.tmp 44) 23 23 rfl (.slice (some ⟨w.heap.size, n, none⟩) (c - n) (c - n)) (.slice (some ⟨w.heap.size, 0, none⟩) n c) (by simp [Act.eval, Act.put, hcn]) (by simp [Act.eval, Act.put, hcn]) (HCP.out _ _ _) ?_
      refine hK.out _ _ (Or.inr trivial) ?_
      clear hK K'
      simp only [goInt]
      try simp only [Act.put, List.getElem_toArray, List.getElem_cons_zero, List.getElem_cons_succ, List.setIfInBounds_toArray, List.set_cons_zero, List.set_cons_succ]
      refine wpAnyG_takeW (i := 8) (v := ?_) rfl (by kernel_rfl) (by kernel_rfl) (by kernel_rfl) (fun _ _ _ h => h) (Or.inl ⟨by rfl, ?_⟩) ?_
      rotate_left
      · intro w' hSw
        go_simp
        try (with_reducible rfl)
      try simp only [Act.put, List.getElem_toArray, List.getElem_cons_zero, List.getElem_cons_succ, List.setIfInBounds_toArray, List.set_cons_zero, List.set_cons_succ]
      refine wpAnyG_takeW (i := 9) (v := ?_) rfl (by kernel_rfl) (by kernel_rfl) (by kernel_rfl) (fun _ _ _ h => h) (Or.inl ⟨by rfl, ?_⟩) ?_
      rotate_left
      · intro w' hSw
        go_simp
        try (with_reducible rfl)
      try simp only [Act.put, List.getElem_toArray, List.getElem_cons_zero, List.getElem_cons_succ, List.setIfInBounds_toArray, List.set_cons_zero, List.set_cons_succ]
      refine wpAnyG_done (by kernel_rfl) ?_ _
      go_wp2_with fail
      go_roundw
      case rel => exact ⟨n + m, by first | rfl | (congr 1; omega), by omega, by omega, ones_stored m n wr.drew (show wr.drew.ownsRow _ _ _ _ _ _ from HO.out) (by omega), below_setCells (Nat.le_refl _) _ _ _ HW.out.drew⟩
      case measure => simp [intOf]; omega
    · obtain rfl : n = c := by omega
      go_wp2_with fail
      go_ret
      refine ⟨rfl, ?_, HW.out⟩
      have h := HO.out
      rw [rowL_done] at h
      exact Fresh.of_own h (by simp) rfl
end Go.Proofs.Ytfehfjiemelffaa
