/- New nodes: reset, newNode, spec.l08New. No conditions but sizes. -/
import Derived.OrdersHeld
import Derived.RegionTactic
import Derived.Deep.RegionLaw
import Derived.Deep.RegionHeld
import Derived.Test.YtckaccadgbcohaaOwn
import Derived.Test.YtckaccadgbcohaaMid
import Derived.Test.YtckaccadgbcohaaTo
import Derived.Laws.IdiomCopy
import Derived.BigQuiet
import Derived.Test.YtckaccadgbcohaaMark3
import Derived.Test.YtckaccadgbcohaaNode
import Derived.Deep.RegionHeld3
import Derived.Deep.OwnRows
import Derived.Deep.Upon
import Derived.Deep.DeepCutAuto
namespace Go.Proofs.Ytckaccadgbcohaa
set_option linter.unusedVariables false
set_option linter.unusedSimpArgs false
section
open Go
section
variable {P : Program} {ops : Array Oper} {Q : Exit → Act → World → Prop} {md : Region.Mode} {S : World → Prop} {ex : Nat → Bool}
/-- Whatever order is picked: each operation keeps S, but those of ex. -/
def wpAnyG (P : Program) (md : Region.Mode) (ops : Array Oper) (Q : Exit → Act → World → Prop) (S : World → Prop) (ex : Nat → Bool) : Nat → Array Bool → Act → World → Prop
  | 0, listed, a, w => Region.ready md ops listed = [] ∧ Q .normal a w
  | fuel + 1, listed, a, w =>
    (Region.ready md ops listed = [] → Q .normal a w) ∧
    ∀ i ∈ Region.ready md ops listed, wpOp P ops Q i (fun a' w' => (ex i = true ∨ (S w → S w')) ∧ wpAnyG P md ops Q S ex fuel (listed.setIfInBounds i true) a' w') a w
theorem wpAny_of_G : ∀ (fuel : Nat) (listed : Array Bool) (a : Act) (w : World), wpAnyG P md ops Q S ex fuel listed a w → wpAny P md ops Q fuel listed a w
  | 0, _, _, _, h => h
  | fuel + 1, _, _, _, h => ⟨h.1, fun i hi => wpOp_mono (fun a' w' h' => wpAny_of_G fuel _ a' w' h'.2) (h.2 i hi)⟩
/-- What is of ex waits for number i. -/
def waitsB (md : Region.Mode) (ops : Array Oper) (ex : Nat → Bool) (i : Nat) : Bool :=
  (List.range ops.size).all fun j => !ex j || (match ops[j]? with | some o => o.after.any fun e => Region.binds md e && e.on == i | none => true)
theorem wpAnyG_first {i : Nat} {oi : Oper} {v : Value} (hi : ops[i]? = some oi) (hsel : ∀ (j : Nat) (o : Oper) cs b, ops[j]? = some o → o.op ≠ .select cs b)
    (hQ : ∀ c a w, Q (.panic c) (a.put oi.dst v) w → Q (.panic c) a w)
    (hex : ∀ j oj, ops[j]? = some oj → ex j = true → ∃ e ∈ oj.after, Region.binds md e = true ∧ e.on = i) :
    ∀ (fuel : Nat) (listed : Array Bool) (a : Act) (w : World),
      (∀ j oj, ops[j]? = some oj → j ≠ i → listed.getD j true = false → (∀ e ∈ oj.after, Region.binds md e = true → e.on ≠ i) → oi.apart ops oj = true) →
      i ∈ Region.ready md ops listed → YieldsIf P ops S oi v a → S w →
      wpAnyG P md ops Q S ex fuel (listed.setIfInBounds i true) (a.put oi.dst v) w → wpAnyG P md ops Q S ex (fuel + 1) listed a w := by
  intro fuel
  induction fuel with
  | zero =>
    intro listed a w _ hr hy hS H
    refine ⟨fun h => (by rw [h] at hr; cases hr), fun j hj => ?_⟩
    by_cases hji : j = i
    · subst hji; exact hy.wpOp hi hS ⟨.inr id, H⟩
    · have := ready_mono hj hji
      rw [H.1] at this
      cases this
  | succ fuel ih =>
    intro listed a w hfree hr hy hS H
    refine ⟨fun h => (by rw [h] at hr; cases hr), fun j hj => ?_⟩
    by_cases hji : j = i
    · subst hji; exact hy.wpOp hi hS ⟨.inr id, H⟩
    · have h1 := H.2 j (ready_mono hj hji)
      obtain ⟨hjun, oj, hoj, hall⟩ := mem_ready.1 hj
      have hnot : ∀ e ∈ oj.after, Region.binds md e = true → e.on ≠ i := fun e he hb heq => by
        have h1 := hall e he hb
        have h0 := (mem_ready.1 hr).1
        rw [heq] at h1
        rcases Nat.lt_or_ge i listed.size with h' | h'
        · simp [h'] at h0 h1; rw [h0] at h1; cases h1
        · simp [Array.getElem?_eq_none h'] at h1
      have hjex : ex j = true → False := fun he => by
        obtain ⟨e, h2, h3, h4⟩ := hex j oj hoj he
        exact hnot e h2 h3 h4
      have h2 := wpOp_putIf hoj (hfree j oj hoj hji hjun hnot) (fun cs b => hsel i oi cs b hi) (fun cs b => hsel j oj cs b hoj) hQ hy h1
      have hfree' : ∀ k ok, ops[k]? = some ok → k ≠ i → (listed.setIfInBounds j true).getD k true = false →
          (∀ e ∈ ok.after, Region.binds md e = true → e.on ≠ i) → oi.apart ops ok = true := fun k ok hk hki hun hno => by
        refine hfree k ok hk hki ?_ hno
        by_cases hjk : j = k
        · subst hjk; exact hjun
        · rw [getD_set_ne true hjk] at hun; exact hun
      refine wpOp_mono (fun a' w' h3 => ?_) h2
      have hSw : S w' := h3.2.1.resolve_left (fun he => hjex he) hS
      refine ⟨.inr (fun _ => hSw), ih (listed.setIfInBounds j true) a' w' hfree' (ready_mono hr (Ne.symm hji)) h3.1 hSw ?_⟩
      rw [Array.setIfInBounds_comm _ _ hji]
      exact h3.2.2
theorem wpAnyG_firstW {i : Nat} {oi : Oper} {v : Value} (hi : ops[i]? = some oi) (hsel : ∀ (j : Nat) (o : Oper) cs b, ops[j]? = some o → o.op ≠ .select cs b)
    (hQ : ∀ c a w, Q (.panic c) (a.put oi.dst v) w → Q (.panic c) a w) :
    ∀ (fuel : Nat) (listed : Array Bool) (a : Act) (w : World),
      (∀ j oj, ops[j]? = some oj → j ≠ i → listed.getD j true = false → (∀ e ∈ oj.after, Region.binds md e = true → e.on ≠ i) → oi.apart ops oj = true) →
      i ∈ Region.ready md ops listed → YieldsIf P ops (fun _ => True) oi v a →
      wpAnyG P md ops Q S ex fuel (listed.setIfInBounds i true) (a.put oi.dst v) w → wpAnyG P md ops Q S ex (fuel + 1) listed a w := by
  intro fuel
  induction fuel with
  | zero =>
    intro listed a w _ hr hy H
    refine ⟨fun h => (by rw [h] at hr; cases hr), fun j hj => ?_⟩
    by_cases hji : j = i
    · subst hji; exact hy.wpOp hi trivial ⟨.inr id, H⟩
    · have := ready_mono hj hji
      rw [H.1] at this
      cases this
  | succ fuel ih =>
    intro listed a w hfree hr hy H
    refine ⟨fun h => (by rw [h] at hr; cases hr), fun j hj => ?_⟩
    by_cases hji : j = i
    · subst hji; exact hy.wpOp hi trivial ⟨.inr id, H⟩
    · have h1 := H.2 j (ready_mono hj hji)
      obtain ⟨hjun, oj, hoj, hall⟩ := mem_ready.1 hj
      have hnot : ∀ e ∈ oj.after, Region.binds md e = true → e.on ≠ i := fun e he hb heq => by
        have h1 := hall e he hb
        have h0 := (mem_ready.1 hr).1
        rw [heq] at h1
        rcases Nat.lt_or_ge i listed.size with h' | h'
        · simp [h'] at h0 h1; rw [h0] at h1; cases h1
        · simp [Array.getElem?_eq_none h'] at h1
      have h2 := wpOp_putIf hoj (hfree j oj hoj hji hjun hnot) (fun cs b => hsel i oi cs b hi) (fun cs b => hsel j oj cs b hoj) hQ hy h1
      have hfree' : ∀ k ok, ops[k]? = some ok → k ≠ i → (listed.setIfInBounds j true).getD k true = false →
          (∀ e ∈ ok.after, Region.binds md e = true → e.on ≠ i) → oi.apart ops ok = true := fun k ok hk hki hun hno => by
        refine hfree k ok hk hki ?_ hno
        by_cases hjk : j = k
        · subst hjk; exact hjun
        · rw [getD_set_ne true hjk] at hun; exact hun
      refine wpOp_mono (fun a' w' h3 => ?_) h2
      refine ⟨h3.2.1, ih (listed.setIfInBounds j true) a' w' hfree' (ready_mono hr (Ne.symm hji)) h3.1 ?_⟩
      rw [Array.setIfInBounds_comm _ _ hji]
      exact h3.2.2
theorem wpAnyG_takeW {i : Nat} {oi : Oper} {v : Value} {fuel : Nat} {listed : Array Bool} {a : Act} {w : World} (hi : ops[i]? = some oi)
    (hs : Region.noSelect ops = true) (hf : Region.free md ops listed i = true) (hr : (Region.ready md ops listed).contains i = true)
    (hQ : ∀ c a w, Q (.panic c) (a.put oi.dst v) w → Q (.panic c) a w) (hy : YieldsIf P ops (fun _ => True) oi v a)
    (h : wpAnyG P md ops Q S ex fuel (listed.setIfInBounds i true) (a.put oi.dst v) w) : wpAnyG P md ops Q S ex (fuel + 1) listed a w :=
  wpAnyG_firstW hi (Region.noSelect_spec hs) hQ fuel listed a w (Region.free_spec hi hf) (by simpa using hr) hy h
theorem waitsB_spec {i : Nat} (h : waitsB md ops ex i = true) : ∀ j oj, ops[j]? = some oj → ex j = true → ∃ e ∈ oj.after, Region.binds md e = true ∧ e.on = i := by
  intro j oj hj he
  have h1 := (List.all_eq_true.1 h) j (List.mem_range.2 (Array.getElem?_eq_some_iff.1 hj).1)
  rw [hj, he] at h1
  simp only [Bool.not_true, Bool.false_or] at h1
  obtain ⟨k, hk, h2⟩ := Array.any_eq_true.1 h1
  simp only [Bool.and_eq_true, beq_iff_eq] at h2
  exact ⟨oj.after[k], Array.getElem_mem hk, h2.1, h2.2⟩
theorem wpAnyG_take {i : Nat} {oi : Oper} {v : Value} {fuel : Nat} {listed : Array Bool} {a : Act} {w : World} (hi : ops[i]? = some oi)
    (hs : Region.noSelect ops = true) (hf : Region.free md ops listed i = true) (hr : (Region.ready md ops listed).contains i = true) (hw : waitsB md ops ex i = true)
    (hQ : ∀ c a w, Q (.panic c) (a.put oi.dst v) w → Q (.panic c) a w) (hS : S w) (hy : YieldsIf P ops S oi v a)
    (h : wpAnyG P md ops Q S ex fuel (listed.setIfInBounds i true) (a.put oi.dst v) w) : wpAnyG P md ops Q S ex (fuel + 1) listed a w :=
  wpAnyG_first hi (Region.noSelect_spec hs) hQ (waitsB_spec hw) fuel listed a w (Region.free_spec hi hf) (by simpa using hr) hy hS h
/-- One operation alone may come up. -/
theorem wpAnyG_one {i : Nat} {o : Oper} {fuel : Nat} {listed : Array Bool} {a : Act} {w : World} (hr : Region.ready md ops listed = [i]) (ho : ops[i]? = some o)
    (hS : S w) (h : ∀ K' : Act → World → Prop, Shut (∀ a w, (ex i = true ∨ S w) → wpAnyG P md ops Q S ex fuel (listed.setIfInBounds i true) a w → K' a w) → if Region.wanted o (yielded ops a.tmps) = true then Oper.wp P o a w K' Q else K' (a.put o.dst undef) w) : wpAnyG P md ops Q S ex (fuel + 1) listed a w :=
  ⟨fun h0 => (by rw [hr] at h0; cases h0), fun j hj => by
    rw [hr] at hj
    obtain rfl : j = i := by simpa using hj
    exact wpOp_step ho (fun K' hK => h K' (fun a w h1 h2 => hK a w ⟨h1.imp id (fun h3 _ => h3), h2⟩))⟩
theorem wpAnyG_done {listed : Array Bool} {a : Act} {w : World} (hr : Region.ready md ops listed = []) (h : Q .normal a w) : ∀ fuel, wpAnyG P md ops Q S ex fuel listed a w
  | 0 => ⟨hr, h⟩
  | _ + 1 => ⟨fun _ => h, by rw [hr]; simp⟩
theorem wp_region_G {id : Nat} {a : Act} {w : World} (S : World → Prop) (ex : Nat → Bool) (hm : P.follows .mixedOrders = true) (hS : S w.drew)
    (h : wpAnyG P .any ops Q S ex ops.size (Array.replicate ops.size false) a w.drew) : (Code.region id ops true).wp P Q a w :=
  wp_region_any hm (wpAny_of_G _ _ _ _ h)
end
end
section
open Go.RowKit
def rowL (n c : Nat) : List Int := (List.range c).map (fun j => if j < n then 1 else 0)
theorem rowL_length (n c : Nat) : (rowL n c).length = c := by simp [rowL]
theorem rowL_done (c : Nat) : rowL c c = List.replicate c 1 := by
  apply List.ext_getElem
  · simp [rowL]
  · intro i h1 h2
    simp [rowL] at h1 ⊢
    omega
theorem rowL_zero (c : Nat) : rowL 0 c = List.replicate c 0 := by
  apply List.ext_getElem
  · simp [rowL]
  · intro i h1 h2
    simp [rowL]
theorem flat_int (l : List Int) : l.flatMap intE = l.map (fun n => Value.int .i64 n) := by
  induction l with
  | nil => rfl
  | cons x l ih => simp [intE] at ih ⊢; exact ih
theorem rowL_set {n c : Nat} (hn : n < c) : ((rowL n c).flatMap intE).set n (.int .i64 1) = (rowL (n + 1) c).flatMap intE := by
  rw [flat_int, flat_int]
  apply List.ext_getElem
  · simp [rowL]
  · intro i h1 h2
    rw [List.getElem_set]
    simp only [rowL, List.getElem_map, List.getElem_range]
    by_cases h : n = i
    · subst h
      simp
    · rw [if_neg h]
      by_cases h3 : i < n
      · rw [if_pos h3, if_pos (by omega)]
      · rw [if_neg h3, if_neg (by omega)]
theorem ones_stored {B c cap g : Nat} : ∀ (m n : Nat) (w : World), w.ownsRow B 3 1 (.slice (some ⟨g, 0, none⟩) c cap) c ((rowL n c).flatMap intE) → n + m ≤ c →
    (w.setCells g n (List.replicate m (.int .i64 1))).ownsRow B 3 1 (.slice (some ⟨g, 0, none⟩) c cap) c ((rowL (n + m) c).flatMap intE)
  | 0, n, w, h, _ => h
  | m + 1, n, w, h, hn => by
    have h1 := (h.stored n (.int .i64 1)).1
    rw [rowL_set (by omega)] at h1
    have h2 := ones_stored m (n + 1) _ h1 (by omega)
    rw [show n + 1 + m = n + (m + 1) by omega] at h2
    exact h2
theorem below_setCells {B b : Nat} {a : World} (hb : B ≤ b) : ∀ (vs : List Value) (o : Nat) (w : World), Below B a w → Below B a (w.setCells b o vs)
  | [], _, _, h => h
  | v :: r, o, w, h => below_setCells hb r (o + 1) _ (h.setCell (p := ⟨b, o, none⟩) hb v)
theorem wp_copy_at {P : Program} {o : Oper} {a : Act} {w : World} {K : Act → World → Prop} {Q : Exit → Act → World → Prop}
    (s x : Operand) (t tx : TypeId) (ho : o.op = .call { callee := .builtin .copy, args := #[s, x], argTypes := #[t, tx] })
    (v u : Value) (hs : a.eval s = v) (hx : a.eval x = u) {v' : Value} {w' : World} (hr : (Builtin.copy_ #[t, tx] o.type #[v, u]).run P w = .ok v' w') (h : K (a.put o.dst v') w') : Oper.wp P o a w K Q := by
  unfold Oper.wp
  simp [execOp, ho, resolve, invoke, builtin, hs, hx, hr, Result.andThen]
  exact h
theorem copy_ones {B c cap g n m : Nat} {w : World} (ty : TypeId) (h : w.ownsRow B 3 1 (.slice (some ⟨g, 0, none⟩) c cap) c ((rowL n c).flatMap intE)) (hm : m = min n (c - n)) (hn : n ≤ c) (cap1 cap2 : Nat) :
    (Builtin.copy_ #[52, 52] ty #[.slice (some ⟨g, n, none⟩) (c - n) cap1, .slice (some ⟨g, 0, none⟩) n cap2]).run Try.prog w = .ok (goInt (m : Nat)) (w.setCells g n (List.replicate m (.int .i64 1))) := by
  have hmn : m ≤ n := by omega
  have hmc : n + m ≤ c := by omega
  have h1 := run_copy_cells (P := Try.prog) w 52 52 ty 3 g n (c - n) cap1 ⟨g, 0, none⟩ n cap2 (List.replicate m (.int .i64 1)) Try.underlying52 (by kernel_rfl) (by simp; omega)
    (fun j v hj => by
      rw [List.getElem?_replicate] at hj
      split at hj
      · next hjm =>
        cases hj
        rw [show (⟨g, 0, none⟩ : Addr).add j = ⟨g, j, none⟩ by simp [Addr.add]; exact fun h => h.symm, h.cellAt j (by omega), flat_int]
        have hjc : j < c := by omega
        have hjn : j < n := by omega
        simp [rowL, hjc, hjn]
      · cases hj)
    (fun j hj => by
      have hj2 : j < m := by simpa using hj
      have hjc : n + j < c := by omega
      rw [h.cellAt (n + j) (by omega), flat_int]
      simp [rowL, hjc])
    (fun j hj => h.frozenAt (n + j)) (fun v hv => by rw [List.eq_of_mem_replicate hv]; rfl)
  simpa using h1
set_option maxHeartbeats 2000000 in
theorem mul64_c (c : Int) (hc : c = 1 ∨ c = 2 ∨ c = 3 ∨ c = 4 ∨ c = 5) (w : World) :
    Calls Try.prog 123 #[.int .u64 1, .int .u64 c] w fun e w' => e = .returned (.tuple #[.int .u64 0, .int .u64 c]) ∧ w = w' := by
  rcases hc with rfl | rfl | rfl | rfl | rfl
  all_goals
    go_enter Try.func123, Try.ntmps123
    go_wp2_with fail
    go_ret2
    exact ⟨rfl, rfl⟩
set_option maxHeartbeats 2000000 in
theorem mul_c (c : Int) (hc : c = 1 ∨ c = 2 ∨ c = 3 ∨ c = 4 ∨ c = 5) (w : World) :
    Calls Try.prog 121 #[.int .u64 1, .int .u64 c] w fun e w' => e = .returned (.tuple #[.int .u64 0, .int .u64 c]) ∧ w = w' := by
  have HC := Lib.hid hc
  clear hc
  go_enter Try.func121, Try.ntmps121
  go_wp2_with fail
  refine (mul64_c c HC.out _).mono ?_
  rintro e w' ⟨rfl, rfl⟩
  go_wp2_with fail
  go_ret2
  exact ⟨rfl, rfl⟩
set_option maxRecDepth 100000 in
set_option maxHeartbeats 8000000 in
theorem repeat_c (b : Nat) (ca : Nat) (c : Nat) (hc : (c : Int) = 1 ∨ (c : Int) = 2 ∨ (c : Int) = 3 ∨ (c : Int) = 4 ∨ (c : Int) = 5) (w : World) (hb : b < w.heap.size) (h0 : w.cell? ⟨b, 0, none⟩ = some (.int .i64 1)) :
    Calls Try.prog 120 #[.slice (some ⟨b, 0, none⟩) 1 ca, .int .i64 c] w fun e w' => e = .returned (.slice (some ⟨w.heap.size, 0, none⟩) c c) ∧ Fresh intE 3 1 w.heap.size (.slice (some ⟨w.heap.size, 0, none⟩) c c) (List.replicate c 1) w' ∧ Below w.heap.size w w' := by
  have hc1 : 1 ≤ c := by omega
  have hc5 : c ≤ 5 := by omega
  have HC := Lib.hid hc
  clear hc
  have hcu : (c : Int) ≤ 9223372036854775807 := by omega
  have hc0 : (0 : Int) ≤ (c : Int) := by omega
  obtain ⟨i0, hi, hz0, hz1, hz2⟩ := info_parts Try.infoInt
  go_enter Try.func120, Try.ntmps120
  go_wp2_with fail
  refine (mul_c c HC.out _).mono ?_
  rintro e w1 ⟨rfl, rfl⟩
  go_wp2_with (at_make; refine wpList_make_full _ rfl _ _ 52 rfl w.heap.size 3 i0 (.int .i64 0) 1 Try.underlying52 hi hz0 hz1 .i64 .i64 _ _ c rfl rfl rfl rfl ?c1 ?c2 ?c3 ?_)
  case c1 => rw [hz2]; omega
  case c2 => unfold maxLen; omega
  case c3 => exact Nat.le_refl _
  intro w1 hown hg
  have hm := madeCells_flat intE 1 (0 : Int) #[.int .i64 0] rfl (fun _ => rfl) c
  have hown2 : w1.ownsRow w.heap.size 3 1 (.slice (some ⟨w.heap.size, 0, none⟩) c c) c ((rowL 0 c).flatMap intE) := by rw [rowL_zero, ← hm, Nat.mul_one]; exact hown
  have hb1 : Below w.heap.size w w1 := (Below.refl _ _).grown hg (Nat.le_refl _) (by simp)
  have h1 : w1.cell? ⟨b, 0, none⟩ = some (.int .i64 1) := (hb1.cell (p := ⟨b, 0, none⟩) hb).trans h0
  have hcp : ∀ ty, (Builtin.copy_ #[52, 52] ty #[.slice (some ⟨w.heap.size, 0, none⟩) c c, .slice (some ⟨b, 0, none⟩) 1 ca]).run Try.prog w1 = .ok (.int .i64 1) (w1.setCells w.heap.size 0 [.int .i64 1]) := fun ty => by
    have h := run_copy_cells (P := Try.prog) w1 52 52 ty 3 w.heap.size 0 c c ⟨b, 0, none⟩ 1 ca [.int .i64 1] Try.underlying52 (by kernel_rfl) (by show 1 = min 1 c; omega)
      (fun j v hj => by
        have hj0 : j = 0 := by
          have := (List.getElem?_eq_some_iff.1 hj).1
          simp at this
          omega
        subst hj0
        cases hj
        exact h1)
      (fun j hj => by
        have hj0 : j = 0 := by
          simp at hj
          omega
        subst hj0
        rw [hown2.cellAt 0 (by omega), flat_int]
        simp [rowL]
        omega)
      (fun j hj => hown2.frozenAt (0 + j)) (fun v hv => by simp at hv; subst hv; rfl)
    simpa [goInt] using h
  have HO1 := Lib.hid (ones_stored 1 0 w1 hown2 (by omega))
  have HB1 : Hid (Below w.heap.size w (w1.setCells w.heap.size 0 [.int .i64 1])) := below_setCells (Nat.le_refl _) _ _ _ hb1
  have HH1 : Hid (w.heap.size < w1.heap.size) := by
    have := HO1.out.lt (k := w.heap.size) rfl
    have h2 := hown2.lt (k := w.heap.size) rfl
    exact h2.2
  clear hm hown hown2 hg h1 hb1
  go_wp2_with fail
  clear hcp
  go_loopw [8] (fun nv wr => ∃ n : Nat, nv = .int .i64 n ∧ 1 ≤ n ∧ n ≤ c ∧ wr.ownsRow w.heap.size 3 1 (.slice (some ⟨w.heap.size, 0, none⟩) c c) c ((rowL n c).flatMap intE) ∧ Below w.heap.size w wr) (fun nv _ => c - (intOf nv).toNat)
  case atStart => exact ⟨1, rfl, Nat.le_refl _, hc1, HO1.out, HB1.out⟩
  case round =>
    obtain ⟨n, rfl, hn1, hnc, hown, hbel⟩ := hrel
    have HO := Lib.hid hown
    have HW := Lib.hid hbel
    clear hown hbel
    by_cases hlt : n < c
    · have hlt' : (n : Int) < (c : Int) := by omega
      have hn0 : (0 : Int) ≤ (n : Int) := by omega
      have hle : (n : Int) ≤ (c : Int) := by omega
      obtain ⟨m, hm⟩ : ∃ m, m = min n (c - n) := ⟨_, rfl⟩
      have hm1 : 1 ≤ m := by omega
      have hm2 : n + m ≤ c := by omega
      have hcn : ¬ c = n := by omega
      have em : IntKind.i64.wrap ((n : Int) + (m : Int)) = (n : Int) + (m : Int) := IntWalk.i64_in _ ⟨by omega, by omega⟩
      have HCP : Hid (∀ ty cap1 cap2, (Builtin.copy_ #[52, 52] ty #[.slice (some ⟨w.heap.size, n, none⟩) (c - n) cap1, .slice (some ⟨w.heap.size, 0, none⟩) n cap2]).run Try.prog wr.drew = .ok (goInt (m : Nat)) (wr.drew.setCells w.heap.size n (List.replicate m (.int .i64 1)))) := Lib.hid (fun ty cap1 cap2 => copy_ones (w := wr.drew) ty (show wr.drew.ownsRow _ _ _ _ _ _ from HO.out) hm (by omega) cap1 cap2)
      clear hm
      go_wp2_with fail
      refine wp_region_G (fun _ => True) (fun _ => false) (by kernel_rfl) trivial ?_
      refine wpAnyG_takeW (i := 0) (v := ?_) rfl (by kernel_rfl) (by kernel_rfl) (by kernel_rfl) (fun _ _ _ h => h) (Or.inl ⟨by rfl, ?_⟩) ?_
      rotate_left
      · intro w' hSw
        go_simp
        try (with_reducible rfl)
      try simp only [Act.put, List.getElem_toArray, List.getElem_cons_zero, List.getElem_cons_succ, List.setIfInBounds_toArray, List.set_cons_zero, List.set_cons_succ]
      refine wpAnyG_takeW (i := 1) (v := ?_) rfl (by kernel_rfl) (by kernel_rfl) (by kernel_rfl) (fun _ _ _ h => h) (Or.inl ⟨by rfl, ?_⟩) ?_
      rotate_left
      · intro w' hSw
        go_simp
        try (with_reducible rfl)
      try simp only [Act.put, List.getElem_toArray, List.getElem_cons_zero, List.getElem_cons_succ, List.setIfInBounds_toArray, List.set_cons_zero, List.set_cons_succ]
      refine wpAnyG_takeW (i := 2) (v := ?_) rfl (by kernel_rfl) (by kernel_rfl) (by kernel_rfl) (fun _ _ _ h => h) (Or.inl ⟨by rfl, ?_⟩) ?_
      rotate_left
      · intro w' hSw
        go_simp
        try (with_reducible rfl)
      try simp only [Act.put, List.getElem_toArray, List.getElem_cons_zero, List.getElem_cons_succ, List.setIfInBounds_toArray, List.set_cons_zero, List.set_cons_succ]
      refine wpAnyG_takeW (i := 3) (v := ?_) rfl (by kernel_rfl) (by kernel_rfl) (by kernel_rfl) (fun _ _ _ h => h) (Or.inl ⟨by rfl, ?_⟩) ?_
      rotate_left
      · intro w' hSw
        go_simp
        try (with_reducible rfl)
      try simp only [Act.put, List.getElem_toArray, List.getElem_cons_zero, List.getElem_cons_succ, List.setIfInBounds_toArray, List.set_cons_zero, List.set_cons_succ]
      refine wpAnyG_takeW (i := 4) (v := ?_) rfl (by kernel_rfl) (by kernel_rfl) (by kernel_rfl) (fun _ _ _ h => h) (Or.inl ⟨by rfl, ?_⟩) ?_
      rotate_left
      · intro w' hSw
        go_simp
        try (with_reducible rfl)
      try simp only [Act.put, List.getElem_toArray, List.getElem_cons_zero, List.getElem_cons_succ, List.setIfInBounds_toArray, List.set_cons_zero, List.set_cons_succ]
      refine wpAnyG_takeW (i := 5) (v := ?_) rfl (by kernel_rfl) (by kernel_rfl) (by kernel_rfl) (fun _ _ _ h => h) (Or.inl ⟨by rfl, ?_⟩) ?_
      rotate_left
      · intro w' hSw
        go_simp
        try (with_reducible rfl)
      try simp only [Act.put, List.getElem_toArray, List.getElem_cons_zero, List.getElem_cons_succ, List.setIfInBounds_toArray, List.set_cons_zero, List.set_cons_succ]
      refine wpAnyG_takeW (i := 6) (v := ?_) rfl (by kernel_rfl) (by kernel_rfl) (by kernel_rfl) (fun _ _ _ h => h) (Or.inl ⟨by rfl, ?_⟩) ?_
      rotate_left
      · intro w' hSw
        go_simp
        try (with_reducible rfl)
      try simp only [Act.put, List.getElem_toArray, List.getElem_cons_zero, List.getElem_cons_succ, List.setIfInBounds_toArray, List.set_cons_zero, List.set_cons_succ]
      refine wpAnyG_one (i := 7) (by kernel_rfl) rfl trivial (fun K' hK => ?_)
      simp only [List.getElem_toArray, List.getElem_cons_zero, List.getElem_cons_succ]
      rw [if_pos (by rfl)]
      refine wp_copy_at (.tmp 41) (.tmp 44) 52 52 rfl (.slice (some ⟨w.heap.size, n, none⟩) (c - n) (c - n)) (.slice (some ⟨w.heap.size, 0, none⟩) n c) (by simp [Act.eval, Act.put, hcn]) (by simp [Act.eval, Act.put, hcn]) (HCP.out _ _ _) ?_
      refine hK.out _ _ (Or.inr trivial) ?_
      clear hK K'
      simp only [goInt]
      try simp only [Act.put, List.getElem_toArray, List.getElem_cons_zero, List.getElem_cons_succ, List.setIfInBounds_toArray, List.set_cons_zero, List.set_cons_succ]
      refine wpAnyG_takeW (i := 8) (v := ?_) rfl (by kernel_rfl) (by kernel_rfl) (by kernel_rfl) (fun _ _ _ h => h) (Or.inl ⟨by rfl, ?_⟩) ?_
      rotate_left
      · intro w' hSw
        go_simp
        try (with_reducible rfl)
      try simp only [Act.put, List.getElem_toArray, List.getElem_cons_zero, List.getElem_cons_succ, List.setIfInBounds_toArray, List.set_cons_zero, List.set_cons_succ]
      refine wpAnyG_takeW (i := 9) (v := ?_) rfl (by kernel_rfl) (by kernel_rfl) (by kernel_rfl) (fun _ _ _ h => h) (Or.inl ⟨by rfl, ?_⟩) ?_
      rotate_left
      · intro w' hSw
        go_simp
        try (with_reducible rfl)
      try simp only [Act.put, List.getElem_toArray, List.getElem_cons_zero, List.getElem_cons_succ, List.setIfInBounds_toArray, List.set_cons_zero, List.set_cons_succ]
      refine wpAnyG_done (by kernel_rfl) ?_ _
      go_wp2_with fail
      go_roundw
      case rel => exact ⟨n + m, by first | rfl | (congr 1; omega), by omega, by omega, ones_stored m n wr.drew (show wr.drew.ownsRow _ _ _ _ _ _ from HO.out) (by omega), below_setCells (Nat.le_refl _) _ _ _ HW.out.drew⟩
      case measure => simp [intOf]; omega
    · obtain rfl : n = c := by omega
      go_wp2_with fail
      go_ret
      refine ⟨rfl, ?_, HW.out⟩
      have h := HO.out
      rw [rowL_done] at h
      exact Fresh.of_own h (by simp) rfl
end
section
open Go.RowKit
/-- A node whose four slices lie in memory of their own, in blocks from lo on and below hi, one behind the other. -/
def FreshNodeIn (lo hi : Nat) (N : NodeV) (w : World) (al : Option Addr) (cl : Nat) (av : Option Addr) (cv : Nat) (an : Option Addr) (cn : Nat) (am : Option Addr) (cm : Nat) : Prop :=
  ∃ b1 b2 n1 n2 m1 m2, lo ≤ b1 ∧ b1 ≤ b2 ∧ (b2 ≤ n1 ∧ n1 ≤ n2 ∧ n2 ≤ hi ∧ b2 ≤ m1 ∧ m1 ≤ m2 ∧ m2 ≤ hi) ∧ (n2 ≤ m1 ∨ m2 ≤ n1) ∧ FreshIn entE 76 2 lo b1 (.slice al N.log.length cl) N.log w ∧ FreshIn intE 3 1 b1 b2 (.slice av N.votes.length cv) N.votes w ∧
    FreshIn intE 3 1 n1 n2 (.slice an N.next.length cn) N.next w ∧ FreshIn intE 3 1 m1 m2 (.slice am N.mtch.length cm) N.mtch w
section
variable {N : NodeV} {w w' : World} {al av an am : Option Addr} {cl cv cn cm lo hi : Nat}
theorem FreshNode.here {B : Nat} (h : FreshNode B N w al cl av cv an cn am cm) : FreshNodeIn B w.heap.size N w al cl av cv an cn am cm := by
  obtain ⟨b1, b2, b3, h1, h2, h3, h4, k1, k2, k3, k4⟩ := h
  exact ⟨b1, b2, b2, b3, b3, w.heap.size, h1, h2, ⟨Nat.le_refl _, h3, h4, h3, h4, Nat.le_refl _⟩, .inl (Nat.le_refl _), k1, k2, k3, k4⟩
theorem FreshNodeIn.below (h : FreshNodeIn lo hi N w al cl av cv an cn am cm) (hb : Below w.heap.size w w') : FreshNodeIn lo hi N w' al cl av cv an cn am cm := by
  obtain ⟨b1, b2, n1, n2, m1, m2, h1, h2, h3, h4, k1, k2, k3, k4⟩ := h
  exact ⟨b1, b2, n1, n2, m1, m2, h1, h2, h3, h4, k1.below hb, k2.below hb, k3.below hb, k4.below hb⟩
theorem FreshNodeIn.mid {l r : Nat} (h : FreshNodeIn lo hi N w al cl av cv an cn am cm) (hm : Mid l r w w') (hd : hi ≤ l ∨ r ≤ lo) : FreshNodeIn lo hi N w' al cl av cv an cn am cm := by
  obtain ⟨b1, b2, n1, n2, m1, m2, h1, h2, h3, h4, k1, k2, k3, k4⟩ := h
  exact ⟨b1, b2, n1, n2, m1, m2, h1, h2, h3, h4, k1.mid hm (by omega), k2.mid hm (by omega), k3.mid hm (by omega), k4.mid hm (by omega)⟩
theorem FreshNodeIn.alloc (h : FreshNodeIn lo hi N w al cl av cv an cn am cm) (o : Obj) : FreshNodeIn lo hi N (w.alloc o) al cl av cv an cn am cm := h.below ((Below.refl _ _).alloc (Nat.le_refl _) _)
theorem FreshNodeIn.drew (h : FreshNodeIn lo hi N w al cl av cv an cn am cm) : FreshNodeIn lo hi N w.drew al cl av cv an cn am cm := h.below ((Below.refl _ _).drew)
theorem FreshNodeIn.sl (h : FreshNodeIn lo hi N w al cl av cv an cn am cm) : NodeSl w al av an am N := by
  obtain ⟨b1, b2, n1, n2, m1, m2, h1, h2, h3, h4, k1, k2, k3, k4⟩ := h
  exact ⟨k1.sl fun _ => rfl, k2.sl fun _ => rfl, k3.sl fun _ => rfl, k4.sl fun _ => rfl⟩
theorem FreshNodeIn.cap (h : FreshNodeIn lo hi N w al cl av cv an cn am cm) : N.log.length ≤ cl := by
  obtain ⟨b1, b2, n1, n2, m1, m2, h1, h2, h3, h4, ⟨⟨a', c', hv, hc, _⟩, _⟩, _⟩ := h
  cases hv
  exact hc
end
def markNum (N : NodeV) (K : Nat) : Nat := K + 2 * N.log.length + 1 * N.votes.length + 1 * N.next.length + 1 * N.mtch.length
/-- The four slices hold the marks from K on. -/
def MarkedIn (lo hi K : Nat) (N : NodeV) (w : World) (al : Option Addr) (cl : Nat) (av : Option Addr) (cv : Nat) (an : Option Addr) (cn : Nat) (am : Option Addr) (cm : Nat) : Prop :=
  ∃ b1 b2 n1 n2 m1 m2, lo ≤ b1 ∧ b1 ≤ b2 ∧ (b2 ≤ n1 ∧ n1 ≤ n2 ∧ n2 ≤ hi ∧ b2 ≤ m1 ∧ m1 ≤ m2 ∧ m2 ≤ hi) ∧ (n2 ≤ m1 ∨ m2 ≤ n1) ∧ FreshIn entE 76 2 lo b1 (.slice al N.log.length cl) ((List.range N.log.length).map (markE K)) w ∧
    FreshIn intE 3 1 b1 b2 (.slice av N.votes.length cv) ((List.range N.votes.length).map (markI (K + 2 * N.log.length))) w ∧
    FreshIn intE 3 1 n1 n2 (.slice an N.next.length cn) ((List.range N.next.length).map (markI (K + 2 * N.log.length + 1 * N.votes.length))) w ∧
    FreshIn intE 3 1 m1 m2 (.slice am N.mtch.length cm) ((List.range N.mtch.length).map (markI (K + 2 * N.log.length + 1 * N.votes.length + 1 * N.next.length))) w
section
variable {N : NodeV} {w w' : World} {al av an am : Option Addr} {cl cv cn cm lo hi K : Nat}
theorem MarkedIn.below (h : MarkedIn lo hi K N w al cl av cv an cn am cm) (hb : Below w.heap.size w w') : MarkedIn lo hi K N w' al cl av cv an cn am cm := by
  obtain ⟨b1, b2, n1, n2, m1, m2, h1, h2, h3, h4, k1, k2, k3, k4⟩ := h
  exact ⟨b1, b2, n1, n2, m1, m2, h1, h2, h3, h4, k1.below hb, k2.below hb, k3.below hb, k4.below hb⟩
theorem MarkedIn.mid {l r : Nat} (h : MarkedIn lo hi K N w al cl av cv an cn am cm) (hm : Mid l r w w') (hd : hi ≤ l ∨ r ≤ lo) : MarkedIn lo hi K N w' al cl av cv an cn am cm := by
  obtain ⟨b1, b2, n1, n2, m1, m2, h1, h2, h3, h4, k1, k2, k3, k4⟩ := h
  exact ⟨b1, b2, n1, n2, m1, m2, h1, h2, h3, h4, k1.mid hm (by omega), k2.mid hm (by omega), k3.mid hm (by omega), k4.mid hm (by omega)⟩
theorem MarkedIn.alloc (h : MarkedIn lo hi K N w al cl av cv an cn am cm) (o : Obj) : MarkedIn lo hi K N (w.alloc o) al cl av cv an cn am cm := h.below ((Below.refl _ _).alloc (Nat.le_refl _) _)
theorem MarkedIn.drew (h : MarkedIn lo hi K N w al cl av cv an cn am cm) : MarkedIn lo hi K N w.drew al cl av cv an cn am cm := h.below ((Below.refl _ _).drew)
end
theorem FreshIn.slr {α : Type} {enc : α → List Value} {sz lo hi n ca : Nat} {f : Nat → α} {a : Option Addr} {e : TypeId} {w : World} (hs : ∀ x, (enc x).length = sz) (h : FreshIn enc e sz lo hi (.slice a n ca) ((List.range n).map f) w) : Sl enc sz w a ((List.range n).map f) := by
  have h' : FreshIn enc e sz lo hi (.slice a ((List.range n).map f).length ca) ((List.range n).map f) w := by simpa using h
  exact h'.sl hs
end
section
open Go.RowKit
/-- A call that changes the node's block alone: Next and Match lie in two new blocks. -/
def ResetR (B c : Nat) (w w' : World) : Prop :=
  ∃ g1 g2, w.heap.size ≤ g1 ∧ w.heap.size ≤ g2 ∧ g1 ≠ g2 ∧ g1 < w'.heap.size ∧ g2 < w'.heap.size ∧
    FreshIn intE 3 1 g1 (g1 + 1) (.slice (some ⟨g1, 0, none⟩) c c) (List.replicate c 1) w' ∧ FreshIn intE 3 1 g2 (g2 + 1) (.slice (some ⟨g2, 0, none⟩) c c) (List.replicate c 0) w' ∧
    w'.cell? ⟨B, 11, none⟩ = some (.slice (some ⟨g1, 0, none⟩) c c) ∧ w'.cell? ⟨B, 12, none⟩ = some (.slice (some ⟨g2, 0, none⟩) c c) ∧
    (∀ j, j < 11 → w'.cell? ⟨B, j, none⟩ = w.cell? ⟨B, j, none⟩) ∧ (∀ o, w'.frozen? ⟨B, o, none⟩ = false) ∧ Mid B (B + 1) w w'
theorem fresh_at {g n cap : Nat} {xs : List Int} {w : World} {B : Nat} (h : Fresh intE 3 1 B (.slice (some ⟨g, 0, none⟩) n cap) xs w) (hB : g ≤ B) : FreshIn intE 3 1 g (g + 1) (.slice (some ⟨g, 0, none⟩) n cap) xs w :=
  ⟨h.mono hB, fun k hk => by cases hk; show g < g + 1; omega⟩
theorem Mid.allocN {lo hi : Nat} {a w : World} (h : Mid lo hi a w) (o : Obj) : Mid lo hi a (w.alloc o) := h.trans (Mid.of_below _ _ ((Below.refl _ _).alloc (Nat.le_refl _) _))
theorem made_size (c : Nat) : (madeCells #[.int .i64 0] c).size = c := by
  have h := madeCells_flat intE 1 (0 : Int) #[.int .i64 0] rfl (fun _ => rfl) c
  have h2 := congrArg List.length h
  rw [flat_int] at h2
  simpa using h2
theorem fresh_lit (w : World) (c : Nat) (hc : c ≤ 5) : FreshIn intE 3 1 w.heap.size (w.heap.size + 1) (.slice (some ⟨w.heap.size, 0, none⟩) c c) (List.replicate c 0) (w.alloc (.cells (madeCells #[.int .i64 0] c) 3)) := by
  refine FreshIn.of_owns (World.ownsRow_lit w (madeCells #[.int .i64 0] c) c (Nat.le_refl _) (by unfold maxLen; omega) (by rw [made_size]; omega)) (by simp) ?_ (by omega)
  have h := madeCells_flat intE 1 (0 : Int) #[.int .i64 0] rfl (fun _ => rfl) c
  rw [Nat.mul_one] at h
  exact h
theorem fresh_lit' (w : World) (g : Nat) (hg : g = w.heap.size) (c : Nat) (hc : c ≤ 5) : FreshIn intE 3 1 g (g + 1) (.slice (some ⟨g, 0, none⟩) c c) (List.replicate c 0) (w.alloc (.cells (madeCells #[.int .i64 0] c) 3)) := by
  subst hg
  exact fresh_lit w c hc
set_option maxRecDepth 100000 in
set_option maxHeartbeats 8000000 in
theorem reset_c (B c : Nat) (hc : (c : Int) = 1 ∨ (c : Int) = 2 ∨ (c : Int) = 3 ∨ (c : Int) = 4 ∨ (c : Int) = 5) (t : Int) (s11 s12 : Value) (w : World) (hB : B < w.heap.size) (h1 : w.cell? ⟨B, 1, none⟩ = some (.int .i64 c)) (h11 : w.cell? ⟨B, 11, none⟩ = some s11) (h12 : w.cell? ⟨B, 12, none⟩ = some s12) (hf : ∀ o, w.frozen? ⟨B, o, none⟩ = false) :
    Calls Try.prog 117 #[.pointer (some ⟨B, 0, none⟩), .int .i64 1] w fun e w' => e = .returned (.tuple #[]) ∧ ResetR B c w w' := by
  have HC := Lib.hid hc
  have hc5 : c ≤ 5 := by omega
  clear hc
  have HREP : Hid (∀ (b ca : Nat) (w' : World), b < w'.heap.size → w'.cell? ⟨b, 0, none⟩ = some (.int .i64 1) → Calls Try.prog 120 #[.slice (some ⟨b, 0, none⟩) 1 ca, .int .i64 c] w' fun e w'' => e = .returned (.slice (some ⟨w'.heap.size, 0, none⟩) c c) ∧ Fresh intE 3 1 w'.heap.size (.slice (some ⟨w'.heap.size, 0, none⟩) c c) (List.replicate c 1) w'' ∧ Below w'.heap.size w' w'') := Lib.hid (fun b ca w' h1 h2 => repeat_c b ca c HC.out w' h1 h2)
  have hmk : ∀ w', (Instr.makeSlice 52 (.int .i64 c) (.int .i64 c)).run Try.prog w' = .ok (.slice (some ⟨w'.heap.size, 0, none⟩) c c) (w'.alloc (.cells (madeCells #[.int .i64 0] c) 3)) := fun w' => run_make_row' 52 3 (.int .i64 0) 8 Try.underlying52 Try.infoInt rfl .i64 .i64 c (by omega) (by omega) w'
  have r1 : ∀ x, (w.alloc x).cell? ⟨B, 1, none⟩ = some (.int .i64 c) := fun x => by
    rw [World.cell?_alloc_lt _ _ _ hB]
    exact h1
  have r11 : ∀ x, (w.alloc x).cell? ⟨B, 11, none⟩ = some s11 := fun x => by
    rw [World.cell?_alloc_lt _ _ _ hB]
    exact h11
  have r12 : ∀ x, (w.alloc x).cell? ⟨B, 12, none⟩ = some s12 := fun x => by
    rw [World.cell?_alloc_lt _ _ _ hB]
    exact h12
  have rf : ∀ x o, (w.alloc x).frozen? ⟨B, o, none⟩ = false := fun x o => by
    rw [((Below.refl _ _).alloc (Nat.le_refl _) _ : Below _ _ _).frozen (p := ⟨B, o, none⟩) hB]
    exact hf o
  have hBx : ∀ x, B < (w.alloc x).heap.size := fun x => by
    rw [World.size_alloc]
    omega
  have t1 : ∀ x y, ((w.alloc x).alloc y).cell? ⟨B, 1, none⟩ = some (.int .i64 c) := fun x y => by
    rw [World.cell?_alloc_lt _ _ _ (hBx x)]
    exact r1 x
  have t11 : ∀ x y, ((w.alloc x).alloc y).cell? ⟨B, 11, none⟩ = some s11 := fun x y => by
    rw [World.cell?_alloc_lt _ _ _ (hBx x)]
    exact r11 x
  have t12 : ∀ x y, ((w.alloc x).alloc y).cell? ⟨B, 12, none⟩ = some s12 := fun x y => by
    rw [World.cell?_alloc_lt _ _ _ (hBx x)]
    exact r12 x
  have tf : ∀ x y o, ((w.alloc x).alloc y).frozen? ⟨B, o, none⟩ = false := fun x y o => by
    rw [((Below.refl _ _).alloc (Nat.le_refl _) _ : Below _ _ _).frozen (p := ⟨B, o, none⟩) (hBx x)]
    exact rf x o
  go_enter Try.func117, Try.ntmps117
  go_wp2_with fail
  have BA : Below w.heap.size w ((w.alloc (.cells #[.int .i64 1] 3)).drew) := ((Below.refl _ _).alloc (Nat.le_refl _) _).drew
  have BB : Below w.heap.size w (((w.alloc (.cells (madeCells #[.int .i64 0] c) 3)).alloc (.cells #[.int .i64 1] 3)).drew) := (((Below.refl _ _).alloc (Nat.le_refl _) _).alloc (by simp) _).drew
  have BC : Below w.heap.size w (((w.alloc (.cells #[.int .i64 1] 3)).alloc (.cells (madeCells #[.int .i64 0] c) 3)).drew) := (((Below.refl _ _).alloc (Nat.le_refl _) _).alloc (by simp) _).drew
  have ZB : FreshIn intE 3 1 w.heap.size (w.heap.size + 1) (.slice (some ⟨w.heap.size, 0, none⟩) c c) (List.replicate c 0) (((w.alloc (.cells (madeCells #[.int .i64 0] c) 3)).alloc (.cells #[.int .i64 1] 3)).drew) := ((fresh_lit w c (by omega)).alloc (.cells #[.int .i64 1] 3)).drew
  have ZC : FreshIn intE 3 1 (w.heap.size + 1) (w.heap.size + 1 + 1) (.slice (some ⟨w.heap.size + 1, 0, none⟩) c c) (List.replicate c 0) (((w.alloc (.cells #[.int .i64 1] 3)).alloc (.cells (madeCells #[.int .i64 0] c) 3)).drew) := by
    have h := (fresh_lit (w.alloc (.cells #[.int .i64 1] 3)) c (by omega)).drew
    rw [World.size_alloc] at h
    exact h
  have qA : w.heap.size ≤ ((w.alloc (.cells #[.int .i64 1] 3)).drew).heap.size := by rw [World.size_drew, World.size_alloc]; omega
  have qB : w.heap.size ≤ (((w.alloc (.cells (madeCells #[.int .i64 0] c) 3)).alloc (.cells #[.int .i64 1] 3)).drew).heap.size := by rw [World.size_drew, World.size_alloc, World.size_alloc]; omega
  have qC : w.heap.size ≤ (((w.alloc (.cells #[.int .i64 1] 3)).alloc (.cells (madeCells #[.int .i64 0] c) 3)).drew).heap.size := by rw [World.size_drew, World.size_alloc, World.size_alloc]; omega
  have hBA := Lib.hid BA
  have hBB := Lib.hid BB
  have hBC := Lib.hid BC
  have hZB := Lib.hid ZB
  have hZC := Lib.hid ZC
  clear BA BB BC ZB ZC
  go_region_held3 (fun w' => w'.cell? ⟨B, 1, none⟩ = some (.int .i64 c))
    (first | (first | exact h1 | exact r1 _ | exact t1 _ _ | exact u1 | (simp [go_sem, h1, r1, t1]; done) | (simp [go_sem, u1, hB2]; done) | (simp [go_sem, u1, u11, u12, hB2]; done) | (rw [World.cell?_alloc_lt _ _ _ hB2]; exact u1)) | go_keep)
    (first
      | (go_at_call 120
         refine (HREP.out _ _ _ ?hl ?hcc).mono ?_
         case hl => (simp; try omega)
         case hcc => (simp [go_sem])
         rintro e w2 ⟨rfl, hf2, hb2⟩
         have hz2 : w.heap.size + 1 ≤ w2.heap.size := by
           have := hb2.size
           simp at this
           omega
         have u1 : w2.cell? ⟨B, 1, none⟩ = some (.int .i64 c) := by
           rw [hb2.cell (p := ⟨B, 1, none⟩) (by simp; omega)]
           simp only [World.cell?_drew]
           first | (with_reducible exact r1 _) | (with_reducible exact t1 _ _)
         have u11 : w2.cell? ⟨B, 11, none⟩ = some (s11) := by
           rw [hb2.cell (p := ⟨B, 11, none⟩) (by simp; omega)]
           simp only [World.cell?_drew]
           first | (with_reducible exact r11 _) | (with_reducible exact t11 _ _)
         have u12 : w2.cell? ⟨B, 12, none⟩ = some (s12) := by
           rw [hb2.cell (p := ⟨B, 12, none⟩) (by simp; omega)]
           simp only [World.cell?_drew]
           first | (with_reducible exact r12 _) | (with_reducible exact t12 _ _)
         have uf : ∀ o, w2.frozen? ⟨B, o, none⟩ = false := fun o => by
           rw [hb2.frozen (p := ⟨B, o, none⟩) (by simp; omega)]
           simp only [World.frozen?_drew]
           first | (with_reducible exact rf _ o) | (with_reducible exact tf _ _ o)
         have HBW2 : Hid (Below w.heap.size w w2) := by
           first
           | (with_reducible exact Lib.hid (hBA.out.trans (hb2.mono qA)))
           | (with_reducible exact Lib.hid (hBB.out.trans (hb2.mono qB)))
           | (with_reducible exact Lib.hid (hBC.out.trans (hb2.mono qC)))
         have hB2 : B < w2.heap.size := by omega
         have HF2 := Lib.hid hf2
         first
         | (have HZ2 := Lib.hid (by with_reducible exact hZB.out.below hb2))
         | (have HZ3 := Lib.hid (by with_reducible exact hZC.out.below hb2))
         | skip
         clear hf2))
  all_goals
    go_wp2_with fail
    refine bodyPost_end (v := .tuple #[]) (by simp [results, Try.results117]) rfl ?_
    have hF2 := HF2.out
    simp only [World.size_drew, World.size_alloc] at hF2
    have hFA := fresh_at hF2 (Nat.le_refl _)
    have hzF := (hF2.lt (k := _) rfl).2
    dsimp only at hzF
    have hneB : ∀ g, w.heap.size ≤ g → ¬ B = g := fun g hg => by omega
    first
    | (fail_if_success (have hq := HZ2)
       fail_if_success (have hq := HZ3)
       refine ⟨rfl, w.heap.size + 1, w2.heap.size, by omega, by omega, by omega, by (simp; try omega), by simp, ?_, ?_, ?_, ?_, ?_, ?_, ?_⟩)
    | (have hZ := HZ2.out
       refine ⟨rfl, w.heap.size + 1 + 1, w.heap.size, by omega, by omega, by omega, by (simp; try omega), by (simp; try omega), ?_, ?_, ?_, ?_, ?_, ?_, ?_⟩)
    | (have hZ := HZ3.out
       refine ⟨rfl, w.heap.size + 1 + 1, w.heap.size + 1, by omega, by omega, by omega, by (simp; try omega), by (simp; try omega), ?_, ?_, ?_, ?_, ?_, ?_, ?_⟩)
    · repeat (first | (with_reducible exact hFA) | (with_reducible refine FreshIn.setCell ?_ ?_ _; rotate_left; (show B < _; omega)) | (with_reducible refine FreshIn.alloc ?_ _))
    · first
      | exact fresh_lit' _ _ (by simp) c hc5
      | (repeat (first | (with_reducible exact hZ) | (with_reducible refine FreshIn.setCell ?_ ?_ _; rotate_left; (show B < _; omega)) | (with_reducible refine FreshIn.alloc ?_ _)))
    · simp [go_sem, u1, u11, u12, uf, hB2]
    · simp [go_sem, u1, u11, u12, uf, hB2]
    · intro j hj
      have h := HBW2.out.cell (p := ⟨B, j, none⟩) hB
      have n1 : ¬ j = 11 := by omega
      have n2 : ¬ j = 12 := by omega
      have n3 : ¬ 11 = j := by omega
      have n4 : ¬ 12 = j := by omega
      rw [← h]
      simp [go_sem, hB2, n1, n2, n3, n4]
    · intro o
      simp [go_sem, uf, hB2]
    · repeat (first | (with_reducible exact Mid.of_below _ _ HBW2.out) | (with_reducible refine Mid.setCell ?_ ?_ ?_ _; rotate_left; (show B ≤ B; omega); (show B < B + 1; omega)) | (with_reducible refine Mid.allocN ?_ _))
end
section
open Go.RowKit
theorem follow_c (B c : Nat) (hc : (c : Int) = 1 ∨ (c : Int) = 2 ∨ (c : Int) = 3 ∨ (c : Int) = 4 ∨ (c : Int) = 5) (v4 v10 s11 s12 : Value) (w : World) (hB : B < w.heap.size) (h1 : w.cell? ⟨B, 1, none⟩ = some (.int .i64 c)) (h4 : w.cell? ⟨B, 4, none⟩ = some v4) (h10 : w.cell? ⟨B, 10, none⟩ = some v10) (h11 : w.cell? ⟨B, 11, none⟩ = some s11) (h12 : w.cell? ⟨B, 12, none⟩ = some s12) (hf : ∀ o, w.frozen? ⟨B, o, none⟩ = false) :
    Calls Try.prog 108 #[.pointer (some ⟨B, 0, none⟩)] w fun e w' => e = .returned (.tuple #[]) ∧ ResetR B c ((w.setCell ⟨B, 4, none⟩ (.int .i64 0)).setCell ⟨B, 10, none⟩ (.slice none 0 0)) w' := by
  have HR := Lib.hid (reset_c B c hc 0 s11 s12 ((w.setCell ⟨B, 4, none⟩ (.int .i64 0)).setCell ⟨B, 10, none⟩ (.slice none 0 0)) (by simpa using hB) (by simp [go_sem, h1]) (by simp [go_sem, h11]) (by simp [go_sem, h12]) (fun o => by simp [go_sem, hf]))
  clear hc
  go_enter Try.func108, Try.ntmps108
  go_wp2_with fail
  refine HR.out.mono ?_
  rintro e w1 ⟨rfl, hr⟩
  go_wp2_with fail
  refine bodyPost_end (v := .tuple #[]) (by simp [results, Try.results108]) rfl ?_
  exact ⟨rfl, hr⟩
/-- A new node: Next and Match in two new blocks. -/
def NewR (id : Int) (c : Nat) (w w' : World) (v : Value) : Prop :=
  ∃ g1 g2, v = .agg #[.int .i64 id, .int .i64 c, .int .i64 0, .int .i64 (-1), .int .i64 0, .bool true, .slice none 0 0, .int .i64 0, .int .i64 0, .int .i64 (5 + id), .slice none 0 0, .slice (some ⟨g1, 0, none⟩) c c, .slice (some ⟨g2, 0, none⟩) c c] ∧ w.heap.size ≤ g1 ∧ w.heap.size ≤ g2 ∧ g1 ≠ g2 ∧ g1 < w'.heap.size ∧ g2 < w'.heap.size ∧
    FreshIn intE 3 1 g1 (g1 + 1) (.slice (some ⟨g1, 0, none⟩) c c) (List.replicate c 1) w' ∧ FreshIn intE 3 1 g2 (g2 + 1) (.slice (some ⟨g2, 0, none⟩) c c) (List.replicate c 0) w' ∧ Below w.heap.size w w'
set_option maxRecDepth 100000 in
set_option maxHeartbeats 8000000 in
theorem newNode_c (id : Int) (c : Nat) (hc : (c : Int) = 1 ∨ (c : Int) = 2 ∨ (c : Int) = 3 ∨ (c : Int) = 4 ∨ (c : Int) = 5) (w : World) (h0 : 0 ≤ id) (h4 : id ≤ 4) :
    Calls Try.prog 87 #[.int .i64 id, .int .i64 c] w fun e w' => ∃ v, e = .returned v ∧ NewR id c w w' v := by
  have HC := Lib.hid hc
  clear hc
  have ew : IntKind.i64.wrap (5 + id) = 5 + id := IntWalk.i64_in _ ⟨by omega, by omega⟩
  go_enter Try.func87, Try.ntmps87
  go_wp2_with fail
  refine (follow_c (w.heap.size + 1) c HC.out (.int .i64 0) (.slice none 0 0) (.slice none 0 0) (.slice none 0 0) _ (by simp) (by simp [go_sem]) (by simp [go_sem]) (by simp [go_sem]) (by simp [go_sem]) (by simp [go_sem]) (fun o => by simp [go_sem])).mono ?_
  rintro e w1 ⟨rfl, g1, g2, hg1, hg2, hne, hlt1, hlt2, hf1, hf2, k11, k12, hk, hkf, hm⟩
  have hz := hm.size
  simp at hg1 hg2 hz
  have n_0 : w1.cell? ⟨w.heap.size + 1, 0, none⟩ = some (.int .i64 id) := (hk 0 (by omega)).trans (by simp [go_sem])
  have n_1 : w1.cell? ⟨w.heap.size + 1, 1, none⟩ = some (.int .i64 c) := (hk 1 (by omega)).trans (by simp [go_sem])
  have n_2 : w1.cell? ⟨w.heap.size + 1, 2, none⟩ = some (.int .i64 0) := (hk 2 (by omega)).trans (by simp [go_sem])
  have n_3 : w1.cell? ⟨w.heap.size + 1, 3, none⟩ = some (.int .i64 (-1)) := (hk 3 (by omega)).trans (by simp [go_sem])
  have n_4 : w1.cell? ⟨w.heap.size + 1, 4, none⟩ = some (.int .i64 0) := (hk 4 (by omega)).trans (by simp [go_sem])
  have n_5 : w1.cell? ⟨w.heap.size + 1, 5, none⟩ = some (.bool true) := (hk 5 (by omega)).trans (by simp [go_sem])
  have n_6 : w1.cell? ⟨w.heap.size + 1, 6, none⟩ = some (.slice none 0 0) := (hk 6 (by omega)).trans (by simp [go_sem])
  have n_7 : w1.cell? ⟨w.heap.size + 1, 7, none⟩ = some (.int .i64 0) := (hk 7 (by omega)).trans (by simp [go_sem])
  have n_8 : w1.cell? ⟨w.heap.size + 1, 8, none⟩ = some (.int .i64 0) := (hk 8 (by omega)).trans (by simp [go_sem])
  have n_9 : w1.cell? ⟨w.heap.size + 1, 9, none⟩ = some (.int .i64 (5 + id)) := (hk 9 (by omega)).trans (by simp [go_sem])
  have n_10 : w1.cell? ⟨w.heap.size + 1, 10, none⟩ = some (.slice none 0 0) := (hk 10 (by omega)).trans (by simp [go_sem])
  have z_0 : w1.cell? ⟨w.heap.size, 0, none⟩ = some (.int .i64 0) := (hm.cell (p := ⟨w.heap.size, 0, none⟩) (by simp; omega) (.inl (by show w.heap.size < w.heap.size + 1; omega))).trans (by simp [go_sem])
  have z_1 : w1.cell? ⟨w.heap.size, 1, none⟩ = some (.int .i64 0) := (hm.cell (p := ⟨w.heap.size, 1, none⟩) (by simp; omega) (.inl (by show w.heap.size < w.heap.size + 1; omega))).trans (by simp [go_sem])
  have z_2 : w1.cell? ⟨w.heap.size, 2, none⟩ = some (.int .i64 0) := (hm.cell (p := ⟨w.heap.size, 2, none⟩) (by simp; omega) (.inl (by show w.heap.size < w.heap.size + 1; omega))).trans (by simp [go_sem])
  have z_3 : w1.cell? ⟨w.heap.size, 3, none⟩ = some (.int .i64 0) := (hm.cell (p := ⟨w.heap.size, 3, none⟩) (by simp; omega) (.inl (by show w.heap.size < w.heap.size + 1; omega))).trans (by simp [go_sem])
  have z_4 : w1.cell? ⟨w.heap.size, 4, none⟩ = some (.int .i64 0) := (hm.cell (p := ⟨w.heap.size, 4, none⟩) (by simp; omega) (.inl (by show w.heap.size < w.heap.size + 1; omega))).trans (by simp [go_sem])
  have z_5 : w1.cell? ⟨w.heap.size, 5, none⟩ = some (.bool false) := (hm.cell (p := ⟨w.heap.size, 5, none⟩) (by simp; omega) (.inl (by show w.heap.size < w.heap.size + 1; omega))).trans (by simp [go_sem])
  have z_6 : w1.cell? ⟨w.heap.size, 6, none⟩ = some (.slice none 0 0) := (hm.cell (p := ⟨w.heap.size, 6, none⟩) (by simp; omega) (.inl (by show w.heap.size < w.heap.size + 1; omega))).trans (by simp [go_sem])
  have z_7 : w1.cell? ⟨w.heap.size, 7, none⟩ = some (.int .i64 0) := (hm.cell (p := ⟨w.heap.size, 7, none⟩) (by simp; omega) (.inl (by show w.heap.size < w.heap.size + 1; omega))).trans (by simp [go_sem])
  have z_8 : w1.cell? ⟨w.heap.size, 8, none⟩ = some (.int .i64 0) := (hm.cell (p := ⟨w.heap.size, 8, none⟩) (by simp; omega) (.inl (by show w.heap.size < w.heap.size + 1; omega))).trans (by simp [go_sem])
  have z_9 : w1.cell? ⟨w.heap.size, 9, none⟩ = some (.int .i64 0) := (hm.cell (p := ⟨w.heap.size, 9, none⟩) (by simp; omega) (.inl (by show w.heap.size < w.heap.size + 1; omega))).trans (by simp [go_sem])
  have z_10 : w1.cell? ⟨w.heap.size, 10, none⟩ = some (.slice none 0 0) := (hm.cell (p := ⟨w.heap.size, 10, none⟩) (by simp; omega) (.inl (by show w.heap.size < w.heap.size + 1; omega))).trans (by simp [go_sem])
  have z_11 : w1.cell? ⟨w.heap.size, 11, none⟩ = some (.slice none 0 0) := (hm.cell (p := ⟨w.heap.size, 11, none⟩) (by simp; omega) (.inl (by show w.heap.size < w.heap.size + 1; omega))).trans (by simp [go_sem])
  have z_12 : w1.cell? ⟨w.heap.size, 12, none⟩ = some (.slice none 0 0) := (hm.cell (p := ⟨w.heap.size, 12, none⟩) (by simp; omega) (.inl (by show w.heap.size < w.heap.size + 1; omega))).trans (by simp [go_sem])
  have zf : ∀ o, w1.frozen? ⟨w.heap.size, o, none⟩ = false := fun o => (hm.frozen (p := ⟨w.heap.size, o, none⟩) (by simp; omega) (.inl (by show w.heap.size < w.heap.size + 1; omega))).trans (by simp [go_sem])
  have HF1 := Lib.hid hf1
  have HF2 := Lib.hid hf2
  have HB1 : Hid (Below w.heap.size w w1) := by
    have h := hm.below (B := w.heap.size) (by omega) (by simp; try omega)
    refine Lib.hid (Below.trans ?_ h)
    repeat (first | (with_reducible exact Below.refl _ _) | (with_reducible refine Below.setCell ?_ ?_ _; rotate_left; (show w.heap.size ≤ w.heap.size + 1; omega)) | (with_reducible refine Below.alloc ?_ ?_ _; rotate_left; (simp)))
  clear hk hm hf1 hf2
  go_wp2_with fail
  refine bodyPost_ret (v := .agg #[.int .i64 id, .int .i64 c, .int .i64 0, .int .i64 (-1), .int .i64 0, .bool true, .slice none 0 0, .int .i64 0, .int .i64 0, .int .i64 (5 + id), .slice none 0 0, .slice (some ⟨g1, 0, none⟩) c c, .slice (some ⟨g2, 0, none⟩) c c]) (by simp [results, Try.results87, go_sem, n_0, n_1, n_2, n_3, n_4, n_5, n_6, n_7, n_8, n_9, n_10, k11, k12, z_0, z_1, z_2, z_3, z_4, z_5, z_6, z_7, z_8, z_9, z_10, z_11, z_12, zf]) rfl ?_
  refine ⟨_, rfl, g1, g2, rfl, by omega, by omega, hne, by simpa using hlt1, by simpa using hlt2, ?_, ?_, ?_⟩
  · repeat (first | (with_reducible exact HF1.out) | (with_reducible refine FreshIn.setCell ?_ ?_ _; rotate_left; (show w.heap.size < _; omega)))
  · repeat (first | (with_reducible exact HF2.out) | (with_reducible refine FreshIn.setCell ?_ ?_ _; rotate_left; (show w.heap.size < _; omega)))
  · repeat (first | (with_reducible exact HB1.out) | (with_reducible refine Below.setCell ?_ ?_ _; rotate_left; (show w.heap.size ≤ w.heap.size; omega)))
end
section
open Go.RowKit
section
variable {P : Program} {md : Region.Mode} {ops : Array Oper} {Q : Exit → Act → World → Prop} {S : World → Prop} {ex : Nat → Bool}
theorem stepG {i : Nat} {o : Oper} {fuel : Nat} {listed : Array Bool} {a : Act} {w : World} (ho : ops[i]? = some o)
    (h : ∀ K' : Act → World → Prop, Shut (∀ a w, (ex i = true ∨ S w) → wpAnyG P md ops Q S ex fuel (listed.setIfInBounds i true) a w → K' a w) → if Region.wanted o (yielded ops a.tmps) = true then Oper.wp P o a w K' Q else K' (a.put o.dst undef) w) :
    wpOp P ops Q i (fun a' w' => (ex i = true ∨ (S w → S w')) ∧ wpAnyG P md ops Q S ex fuel (listed.setIfInBounds i true) a' w') a w :=
  wpOp_step ho (fun K' hK => h K' (fun a w h1 h2 => hK a w ⟨h1.imp id (fun h3 _ => h3), h2⟩))
theorem wpAnyG_of {rs : List Nat} {fuel : Nat} {listed : Array Bool} {a : Act} {w : World} (hr : Region.ready md ops listed = rs) (hne : rs ≠ [])
    (h : ∀ j ∈ rs, wpOp P ops Q j (fun a' w' => (ex j = true ∨ (S w → S w')) ∧ wpAnyG P md ops Q S ex fuel (listed.setIfInBounds j true) a' w') a w) : wpAnyG P md ops Q S ex (fuel + 1) listed a w :=
  ⟨fun h0 => absurd (hr.symm.trans h0) hne, fun j hj => h j (by rw [hr] at hj; exact hj)⟩
theorem wpAnyG_br {rs : List Nat} {fuel : Nat} {listed : Array Bool} {a : Act} {w : World} (hr : Region.ready md ops listed = rs) (hne : rs ≠ [])
    (h : ∀ j ∈ rs, ∃ o, ops[j]? = some o ∧ ∀ K' : Act → World → Prop, Shut (∀ a w, (ex j = true ∨ S w) → wpAnyG P md ops Q S ex fuel (listed.setIfInBounds j true) a w → K' a w) → if Region.wanted o (yielded ops a.tmps) = true then Oper.wp P o a w K' Q else K' (a.put o.dst undef) w) : wpAnyG P md ops Q S ex (fuel + 1) listed a w :=
  wpAnyG_of hr hne (fun j hj => by
    obtain ⟨o, ho, h1⟩ := h j hj
    exact stepG ho h1)
end
theorem exec_append_no {P : Program} {o : Oper} {a : Act} {w : World} (s x : Operand) (t tx e e' : TypeId) (i : TypeInfo) (ho : o.op = .call { callee := .builtin .append, args := #[s, x], argTypes := #[t, tx] })
    (ht : P.underlying t = some (.slice e)) (htx : P.underlying tx = some (.slice e')) (hi : P.info? e = some i) (b : Nat) (hs : a.eval s = .slice (some ⟨b, 0, none⟩) 0 0) (hx : a.eval x = .slice none 0 0) : (execOp a.eval o).run P w = .ok (.value (.slice (some ⟨b, 0, none⟩) 0 0)) w := by
  have hr : (Builtin.append_ #[t, tx] o.type #[.slice (some ⟨b, 0, none⟩) 0 0, .slice none 0 0]).run P w = .ok (.slice (some ⟨b, 0, none⟩) 0 0) w := run_append_nothing w t tx o.type e i ht hi (some ⟨b, 0, none⟩) 0 0 (Nat.le_refl _) _ (Src.ofSl (enc := fun _ : Unit => List.replicate i.size (Value.int .i64 0)) (xs := []) htx (fun _ => by simp) (fun _ u hu => by rw [List.eq_of_mem_replicate hu]; rfl) (.inl rfl) 0)
  simp [execOp, ho, resolve, invoke, builtin, hs, hx, hr, Result.andThen]
theorem intOne : ∀ (x : Int), ∀ u ∈ intE x, u.oneCell' = true := fun x u hu => by simp [intE] at hu; subst hu; rfl
theorem slRep {e : TypeId} {lo hi k ca : Nat} {a : Option Addr} {v : Int} {w : World} (h : FreshIn intE e 1 lo hi (.slice a k ca) (List.replicate k v) w) : SlIn intE 1 lo hi w a (List.replicate k v) :=
  FreshIn.slIn (e := e) (lo := lo) (hi := hi) (cap := ca) (fun _ => rfl) (by rw [List.length_replicate]; exact h)
/-- What the reference's new node is: the slices read as a new node's. -/
def NnR (id : Int) (c : Nat) (w : World) (e : Ending) (w' : World) : Prop :=
  ∃ b6 b12 b14 a11 c11, e = .returned (.agg #[.int .i64 id, .int .i64 c, .int .i64 0, .int .i64 (-1), .int .i64 0, .bool true, .slice (some ⟨b6, 0, none⟩) 0 0, .int .i64 0, .int .i64 0, .int .i64 (5 + id), .slice (some ⟨b12, 0, none⟩) 0 0, .slice a11 c c11, .slice (some ⟨b14, 0, none⟩) c c]) ∧ SlIn intE 1 w.heap.size w'.heap.size w' a11 (List.replicate c 1) ∧ SlIn intE 1 w.heap.size w'.heap.size w' (some ⟨b14, 0, none⟩) (List.replicate c 0) ∧ Below w.heap.size w w'
/-- The new node's box before the loop. -/
def NnC (id : Int) (c : Nat) (w2 : World) (s7 s15 s21 s23 : Value) (wx : World) : Prop :=
  ∃ B b6 b12 b14, s7 = .pointer (some ⟨B, 0, none⟩) ∧ s15 = .slice (some ⟨b6, 0, none⟩) 0 0 ∧ s21 = .slice (some ⟨b12, 0, none⟩) 0 0 ∧ s23 = .slice (some ⟨b14, 0, none⟩) c c ∧ wx.cell? ⟨B, 0, none⟩ = some (.int .i64 id) ∧ wx.cell? ⟨B, 1, none⟩ = some (.int .i64 c) ∧ wx.cell? ⟨B, 2, none⟩ = some (.int .i64 0) ∧ wx.cell? ⟨B, 3, none⟩ = some (.int .i64 (-1)) ∧ wx.cell? ⟨B, 4, none⟩ = some (.int .i64 0) ∧ wx.cell? ⟨B, 5, none⟩ = some (.bool true) ∧ wx.cell? ⟨B, 6, none⟩ = some (.slice (some ⟨b6, 0, none⟩) 0 0) ∧ wx.cell? ⟨B, 7, none⟩ = some (.int .i64 0) ∧ wx.cell? ⟨B, 8, none⟩ = some (.int .i64 0) ∧ wx.cell? ⟨B, 9, none⟩ = some (.int .i64 (5 + id)) ∧ wx.cell? ⟨B, 10, none⟩ = some (.slice (some ⟨b12, 0, none⟩) 0 0) ∧ wx.cell? ⟨B, 11, none⟩ = some (.slice none 0 0) ∧ wx.cell? ⟨B, 12, none⟩ = some (.slice (some ⟨b14, 0, none⟩) c c) ∧ (∀ o, wx.frozen? ⟨B, o, none⟩ = false) ∧ FreshIn intE 3 1 b14 (b14 + 1) (.slice (some ⟨b14, 0, none⟩) c c) (List.replicate c 0) wx ∧ w2.heap.size ≤ b14 ∧ b14 < wx.heap.size ∧ b14 ≠ B ∧ w2.heap.size ≤ B ∧ B < wx.heap.size ∧ Below w2.heap.size w2 wx
set_option maxRecDepth 100000 in
set_option maxHeartbeats 16000000 in
theorem l08New_c (id : Int) (c : Nat) (hc : (c : Int) = 1 ∨ (c : Int) = 2 ∨ (c : Int) = 3 ∨ (c : Int) = 4 ∨ (c : Int) = 5) (w : World) (h0 : 0 ≤ id) (h4 : id ≤ 4) :
    Calls Try.prog 86 #[.int .i64 id, .int .i64 c, .agg #[.int .i64 0, .int .i64 (-1), .slice none 0 0]] w fun e w' => NnR id c w e w' := by
  obtain ⟨ie, hie, _, _, _⟩ := info_parts Try.infoEntry
  obtain ⟨i0, hi, hz0, hz1, hz2⟩ := info_parts Try.infoInt
  have ew : IntKind.i64.wrap (5 + id) = 5 + id := IntWalk.i64_in _ ⟨by omega, by omega⟩
  have hmk : ∀ w', (Instr.makeSlice 52 (.int .i64 c) (.int .i64 c)).run Try.prog w' = .ok (.slice (some ⟨w'.heap.size, 0, none⟩) c c) (w'.alloc (.cells (madeCells #[.int .i64 0] c) 3)) := fun w' => run_make_row' 52 3 (.int .i64 0) 8 Try.underlying52 Try.infoInt rfl .i64 .i64 c (by omega) (by omega) w'
  have hc5 : c ≤ 5 := by omega
  have HC := Lib.hid hc
  clear hc
  go_enter Try.func86, Try.ntmps86
  go_upto_region 1 with fail
  have s_0 : ((w.alloc (.cells #[.int .i64 0, .int .i64 (-1), .slice none 0 0] 60)).alloc (.cells #[.int .i64 0, .int .i64 0, .int .i64 0, .int .i64 0, .int .i64 0, .bool false, .slice none 0 0, .int .i64 0, .int .i64 0, .int .i64 0, .slice none 0 0, .slice none 0 0, .slice none 0 0] 54)).cell? ⟨w.heap.size, 0, none⟩ = some (.int .i64 0) := by simp [go_sem]
  have s_1 : ((w.alloc (.cells #[.int .i64 0, .int .i64 (-1), .slice none 0 0] 60)).alloc (.cells #[.int .i64 0, .int .i64 0, .int .i64 0, .int .i64 0, .int .i64 0, .bool false, .slice none 0 0, .int .i64 0, .int .i64 0, .int .i64 0, .slice none 0 0, .slice none 0 0, .slice none 0 0] 54)).cell? ⟨w.heap.size, 1, none⟩ = some (.int .i64 (-1)) := by simp [go_sem]
  have s_2 : ((w.alloc (.cells #[.int .i64 0, .int .i64 (-1), .slice none 0 0] 60)).alloc (.cells #[.int .i64 0, .int .i64 0, .int .i64 0, .int .i64 0, .int .i64 0, .bool false, .slice none 0 0, .int .i64 0, .int .i64 0, .int .i64 0, .slice none 0 0, .slice none 0 0, .slice none 0 0] 54)).cell? ⟨w.heap.size, 2, none⟩ = some (.slice none 0 0) := by simp [go_sem]
  have z_0 : ((w.alloc (.cells #[.int .i64 0, .int .i64 (-1), .slice none 0 0] 60)).alloc (.cells #[.int .i64 0, .int .i64 0, .int .i64 0, .int .i64 0, .int .i64 0, .bool false, .slice none 0 0, .int .i64 0, .int .i64 0, .int .i64 0, .slice none 0 0, .slice none 0 0, .slice none 0 0] 54)).cell? ⟨w.heap.size + 1, 0, none⟩ = some (.int .i64 0) := by simp [go_sem]
  have z_1 : ((w.alloc (.cells #[.int .i64 0, .int .i64 (-1), .slice none 0 0] 60)).alloc (.cells #[.int .i64 0, .int .i64 0, .int .i64 0, .int .i64 0, .int .i64 0, .bool false, .slice none 0 0, .int .i64 0, .int .i64 0, .int .i64 0, .slice none 0 0, .slice none 0 0, .slice none 0 0] 54)).cell? ⟨w.heap.size + 1, 1, none⟩ = some (.int .i64 0) := by simp [go_sem]
  have z_2 : ((w.alloc (.cells #[.int .i64 0, .int .i64 (-1), .slice none 0 0] 60)).alloc (.cells #[.int .i64 0, .int .i64 0, .int .i64 0, .int .i64 0, .int .i64 0, .bool false, .slice none 0 0, .int .i64 0, .int .i64 0, .int .i64 0, .slice none 0 0, .slice none 0 0, .slice none 0 0] 54)).cell? ⟨w.heap.size + 1, 2, none⟩ = some (.int .i64 0) := by simp [go_sem]
  have z_3 : ((w.alloc (.cells #[.int .i64 0, .int .i64 (-1), .slice none 0 0] 60)).alloc (.cells #[.int .i64 0, .int .i64 0, .int .i64 0, .int .i64 0, .int .i64 0, .bool false, .slice none 0 0, .int .i64 0, .int .i64 0, .int .i64 0, .slice none 0 0, .slice none 0 0, .slice none 0 0] 54)).cell? ⟨w.heap.size + 1, 3, none⟩ = some (.int .i64 0) := by simp [go_sem]
  have z_4 : ((w.alloc (.cells #[.int .i64 0, .int .i64 (-1), .slice none 0 0] 60)).alloc (.cells #[.int .i64 0, .int .i64 0, .int .i64 0, .int .i64 0, .int .i64 0, .bool false, .slice none 0 0, .int .i64 0, .int .i64 0, .int .i64 0, .slice none 0 0, .slice none 0 0, .slice none 0 0] 54)).cell? ⟨w.heap.size + 1, 4, none⟩ = some (.int .i64 0) := by simp [go_sem]
  have z_5 : ((w.alloc (.cells #[.int .i64 0, .int .i64 (-1), .slice none 0 0] 60)).alloc (.cells #[.int .i64 0, .int .i64 0, .int .i64 0, .int .i64 0, .int .i64 0, .bool false, .slice none 0 0, .int .i64 0, .int .i64 0, .int .i64 0, .slice none 0 0, .slice none 0 0, .slice none 0 0] 54)).cell? ⟨w.heap.size + 1, 5, none⟩ = some (.bool false) := by simp [go_sem]
  have z_6 : ((w.alloc (.cells #[.int .i64 0, .int .i64 (-1), .slice none 0 0] 60)).alloc (.cells #[.int .i64 0, .int .i64 0, .int .i64 0, .int .i64 0, .int .i64 0, .bool false, .slice none 0 0, .int .i64 0, .int .i64 0, .int .i64 0, .slice none 0 0, .slice none 0 0, .slice none 0 0] 54)).cell? ⟨w.heap.size + 1, 6, none⟩ = some (.slice none 0 0) := by simp [go_sem]
  have z_7 : ((w.alloc (.cells #[.int .i64 0, .int .i64 (-1), .slice none 0 0] 60)).alloc (.cells #[.int .i64 0, .int .i64 0, .int .i64 0, .int .i64 0, .int .i64 0, .bool false, .slice none 0 0, .int .i64 0, .int .i64 0, .int .i64 0, .slice none 0 0, .slice none 0 0, .slice none 0 0] 54)).cell? ⟨w.heap.size + 1, 7, none⟩ = some (.int .i64 0) := by simp [go_sem]
  have z_8 : ((w.alloc (.cells #[.int .i64 0, .int .i64 (-1), .slice none 0 0] 60)).alloc (.cells #[.int .i64 0, .int .i64 0, .int .i64 0, .int .i64 0, .int .i64 0, .bool false, .slice none 0 0, .int .i64 0, .int .i64 0, .int .i64 0, .slice none 0 0, .slice none 0 0, .slice none 0 0] 54)).cell? ⟨w.heap.size + 1, 8, none⟩ = some (.int .i64 0) := by simp [go_sem]
  have z_9 : ((w.alloc (.cells #[.int .i64 0, .int .i64 (-1), .slice none 0 0] 60)).alloc (.cells #[.int .i64 0, .int .i64 0, .int .i64 0, .int .i64 0, .int .i64 0, .bool false, .slice none 0 0, .int .i64 0, .int .i64 0, .int .i64 0, .slice none 0 0, .slice none 0 0, .slice none 0 0] 54)).cell? ⟨w.heap.size + 1, 9, none⟩ = some (.int .i64 0) := by simp [go_sem]
  have z_10 : ((w.alloc (.cells #[.int .i64 0, .int .i64 (-1), .slice none 0 0] 60)).alloc (.cells #[.int .i64 0, .int .i64 0, .int .i64 0, .int .i64 0, .int .i64 0, .bool false, .slice none 0 0, .int .i64 0, .int .i64 0, .int .i64 0, .slice none 0 0, .slice none 0 0, .slice none 0 0] 54)).cell? ⟨w.heap.size + 1, 10, none⟩ = some (.slice none 0 0) := by simp [go_sem]
  have z_11 : ((w.alloc (.cells #[.int .i64 0, .int .i64 (-1), .slice none 0 0] 60)).alloc (.cells #[.int .i64 0, .int .i64 0, .int .i64 0, .int .i64 0, .int .i64 0, .bool false, .slice none 0 0, .int .i64 0, .int .i64 0, .int .i64 0, .slice none 0 0, .slice none 0 0, .slice none 0 0] 54)).cell? ⟨w.heap.size + 1, 11, none⟩ = some (.slice none 0 0) := by simp [go_sem]
  have z_12 : ((w.alloc (.cells #[.int .i64 0, .int .i64 (-1), .slice none 0 0] 60)).alloc (.cells #[.int .i64 0, .int .i64 0, .int .i64 0, .int .i64 0, .int .i64 0, .bool false, .slice none 0 0, .int .i64 0, .int .i64 0, .int .i64 0, .slice none 0 0, .slice none 0 0, .slice none 0 0] 54)).cell? ⟨w.heap.size + 1, 12, none⟩ = some (.slice none 0 0) := by simp [go_sem]
  have zf : ∀ o, ((w.alloc (.cells #[.int .i64 0, .int .i64 (-1), .slice none 0 0] 60)).alloc (.cells #[.int .i64 0, .int .i64 0, .int .i64 0, .int .i64 0, .int .i64 0, .bool false, .slice none 0 0, .int .i64 0, .int .i64 0, .int .i64 0, .slice none 0 0, .slice none 0 0, .slice none 0 0] 54)).frozen? ⟨w.heap.size + 1, o, none⟩ = false := fun o => by simp [go_sem]
  have HB2 : Hid (Below w.heap.size w ((w.alloc (.cells #[.int .i64 0, .int .i64 (-1), .slice none 0 0] 60)).alloc (.cells #[.int .i64 0, .int .i64 0, .int .i64 0, .int .i64 0, .int .i64 0, .bool false, .slice none 0 0, .int .i64 0, .int .i64 0, .int .i64 0, .slice none 0 0, .slice none 0 0, .slice none 0 0] 54))) := (((Below.refl _ _).alloc (Nat.le_refl _) _).alloc (by simp) _)
  have hz : w.heap.size + 1 < ((w.alloc (.cells #[.int .i64 0, .int .i64 (-1), .slice none 0 0] 60)).alloc (.cells #[.int .i64 0, .int .i64 0, .int .i64 0, .int .i64 0, .int .i64 0, .bool false, .slice none 0 0, .int .i64 0, .int .i64 0, .int .i64 0, .slice none 0 0, .slice none 0 0, .slice none 0 0] 54)).heap.size := by simp
  generalize ((w.alloc (.cells #[.int .i64 0, .int .i64 (-1), .slice none 0 0] 60)).alloc (.cells #[.int .i64 0, .int .i64 0, .int .i64 0, .int .i64 0, .int .i64 0, .bool false, .slice none 0 0, .int .i64 0, .int .i64 0, .int .i64 0, .slice none 0 0, .slice none 0 0, .slice none 0 0] 54)) = w2 at *
  go_cut [7, 15, 21, 23] (fun s7 s15 s21 s23 wx => NnC id c w2 s7 s15 s21 s23 wx)
  case first =>
    have r_0 : ∀ x, (w2.alloc x).cell? ⟨w.heap.size, 0, none⟩ = some (.int .i64 0) := fun x => (World.cell?_alloc_lt _ _ _ (by show w.heap.size < _; omega)).trans s_0
    have r_1 : ∀ x, (w2.alloc x).cell? ⟨w.heap.size, 1, none⟩ = some (.int .i64 (-1)) := fun x => (World.cell?_alloc_lt _ _ _ (by show w.heap.size < _; omega)).trans s_1
    have r_2 : ∀ x, (w2.alloc x).cell? ⟨w.heap.size, 2, none⟩ = some (.slice none 0 0) := fun x => (World.cell?_alloc_lt _ _ _ (by show w.heap.size < _; omega)).trans s_2
    have hzw : w.heap.size < w2.heap.size := by omega
    refine wp_region_G (fun w' => Below w2.heap.size w2 w') (fun i => i == 17) (by kernel_rfl) (Below.refl _ _).drew ?_
    refine wpAnyG_takeW (i := 0) (v := ?_) rfl (by kernel_rfl) (by kernel_rfl) (by kernel_rfl) (fun _ _ _ h => h) (Or.inl ⟨by rfl, ?_⟩) ?_
    rotate_left
    · intro w' hSw
      go_simp
      try (with_reducible rfl)
    try simp only [Act.put, List.getElem_toArray, List.getElem_cons_zero, List.getElem_cons_succ, List.setIfInBounds_toArray, List.set_cons_zero, List.set_cons_succ]
    refine wpAnyG_takeW (i := 1) (v := ?_) rfl (by kernel_rfl) (by kernel_rfl) (by kernel_rfl) (fun _ _ _ h => h) (Or.inl ⟨by rfl, ?_⟩) ?_
    rotate_left
    · intro w' hSw
      go_simp
      try (with_reducible rfl)
    try simp only [Act.put, List.getElem_toArray, List.getElem_cons_zero, List.getElem_cons_succ, List.setIfInBounds_toArray, List.set_cons_zero, List.set_cons_succ]
    refine wpAnyG_takeW (i := 2) (v := ?_) rfl (by kernel_rfl) (by kernel_rfl) (by kernel_rfl) (fun _ _ _ h => h) (Or.inl ⟨by rfl, ?_⟩) ?_
    rotate_left
    · intro w' hSw
      go_simp
      try (with_reducible rfl)
    try simp only [Act.put, List.getElem_toArray, List.getElem_cons_zero, List.getElem_cons_succ, List.setIfInBounds_toArray, List.set_cons_zero, List.set_cons_succ]
    refine wpAnyG_takeW (i := 4) (v := ?_) rfl (by kernel_rfl) (by kernel_rfl) (by kernel_rfl) (fun _ _ _ h => h) (Or.inl ⟨by rfl, ?_⟩) ?_
    rotate_left
    · intro w' hSw
      go_simp
      try (with_reducible rfl)
    try simp only [Act.put, List.getElem_toArray, List.getElem_cons_zero, List.getElem_cons_succ, List.setIfInBounds_toArray, List.set_cons_zero, List.set_cons_succ]
    refine wpAnyG_takeW (i := 7) (v := ?_) rfl (by kernel_rfl) (by kernel_rfl) (by kernel_rfl) (fun _ _ _ h => h) (Or.inl ⟨by rfl, ?_⟩) ?_
    rotate_left
    · intro w' hSw
      go_simp
      try (with_reducible rfl)
    try simp only [Act.put, List.getElem_toArray, List.getElem_cons_zero, List.getElem_cons_succ, List.setIfInBounds_toArray, List.set_cons_zero, List.set_cons_succ]
    refine wpAnyG_takeW (i := 10) (v := ?_) rfl (by kernel_rfl) (by kernel_rfl) (by kernel_rfl) (fun _ _ _ h => h) (Or.inl ⟨by rfl, ?_⟩) ?_
    rotate_left
    · intro w' hSw
      go_simp
      try (with_reducible rfl)
    try simp only [Act.put, List.getElem_toArray, List.getElem_cons_zero, List.getElem_cons_succ, List.setIfInBounds_toArray, List.set_cons_zero, List.set_cons_succ]
    refine wpAnyG_takeW (i := 11) (v := ?_) rfl (by kernel_rfl) (by kernel_rfl) (by kernel_rfl) (fun _ _ _ h => h) (Or.inl ⟨by rfl, ?_⟩) ?_
    rotate_left
    · intro w' hSw
      go_simp
      try (with_reducible rfl)
    try simp only [Act.put, List.getElem_toArray, List.getElem_cons_zero, List.getElem_cons_succ, List.setIfInBounds_toArray, List.set_cons_zero, List.set_cons_succ]
    refine wpAnyG_takeW (i := 13) (v := ?_) rfl (by kernel_rfl) (by kernel_rfl) (by kernel_rfl) (fun _ _ _ h => h) (Or.inl ⟨by rfl, ?_⟩) ?_
    rotate_left
    · intro w' hSw
      go_simp
      try (with_reducible rfl)
    try simp only [Act.put, List.getElem_toArray, List.getElem_cons_zero, List.getElem_cons_succ, List.setIfInBounds_toArray, List.set_cons_zero, List.set_cons_succ]
    refine wpAnyG_take (i := 3) (v := ?_) rfl (by kernel_rfl) (by kernel_rfl) (by kernel_rfl) (by kernel_rfl) (fun _ _ _ h => h) (Below.refl _ _).drew (Or.inl ⟨by rfl, ?_⟩) ?_
    rotate_left
    · intro w' hSw
      have h0 := (hSw.cell (p := ⟨w.heap.size, 0, none⟩) hzw).trans s_0
      have h1 := (hSw.cell (p := ⟨w.heap.size, 1, none⟩) hzw).trans s_1
      have h2 := (hSw.cell (p := ⟨w.heap.size, 2, none⟩) hzw).trans s_2
      go_simp
      try (with_reducible rfl)
    try simp only [Act.put, List.getElem_toArray, List.getElem_cons_zero, List.getElem_cons_succ, List.setIfInBounds_toArray, List.set_cons_zero, List.set_cons_succ]
    refine wpAnyG_take (i := 5) (v := ?_) rfl (by kernel_rfl) (by kernel_rfl) (by kernel_rfl) (by kernel_rfl) (fun _ _ _ h => h) (Below.refl _ _).drew (Or.inl ⟨by rfl, ?_⟩) ?_
    rotate_left
    · intro w' hSw
      have h0 := (hSw.cell (p := ⟨w.heap.size, 0, none⟩) hzw).trans s_0
      have h1 := (hSw.cell (p := ⟨w.heap.size, 1, none⟩) hzw).trans s_1
      have h2 := (hSw.cell (p := ⟨w.heap.size, 2, none⟩) hzw).trans s_2
      go_simp
      try (with_reducible rfl)
    try simp only [Act.put, List.getElem_toArray, List.getElem_cons_zero, List.getElem_cons_succ, List.setIfInBounds_toArray, List.set_cons_zero, List.set_cons_succ]
    refine wpAnyG_take (i := 8) (v := ?_) rfl (by kernel_rfl) (by kernel_rfl) (by kernel_rfl) (by kernel_rfl) (fun _ _ _ h => h) (Below.refl _ _).drew (Or.inl ⟨by rfl, ?_⟩) ?_
    rotate_left
    · intro w' hSw
      have h0 := (hSw.cell (p := ⟨w.heap.size, 0, none⟩) hzw).trans s_0
      have h1 := (hSw.cell (p := ⟨w.heap.size, 1, none⟩) hzw).trans s_1
      have h2 := (hSw.cell (p := ⟨w.heap.size, 2, none⟩) hzw).trans s_2
      go_simp
      try (with_reducible rfl)
    try simp only [Act.put, List.getElem_toArray, List.getElem_cons_zero, List.getElem_cons_succ, List.setIfInBounds_toArray, List.set_cons_zero, List.set_cons_succ]
    refine wpAnyG_br (rs := [6, 12, 14, 16]) (by kernel_rfl) (by simp) ?_
    intro j hj
    simp only [List.mem_cons, List.not_mem_nil, or_false] at hj
    rcases hj with rfl | rfl | rfl | rfl
    · skip
      refine ⟨_, rfl, fun K' hK => ?_⟩
      simp only [List.getElem_toArray, List.getElem_cons_zero, List.getElem_cons_succ]
      go_simp
      refine hK.out _ _ (Or.inr (by (repeat (first | (with_reducible exact Below.refl _ _) | (with_reducible exact Below.drew (Below.refl _ _)) | (with_reducible refine Below.drew ?_) | (with_reducible refine Below.alloc ?_ ?_ _; rotate_left; ((try simp) <;> (try omega))))))) ?_
      clear hK K'
      try simp only [Act.put, List.getElem_toArray, List.getElem_cons_zero, List.getElem_cons_succ, List.setIfInBounds_toArray, List.set_cons_zero, List.set_cons_succ]
      refine wpAnyG_takeW (i := 9) (v := .slice (some ⟨w2.heap.size, 0, none⟩) 0 0) rfl (by kernel_rfl) (by kernel_rfl) (by kernel_rfl) (fun _ _ _ h => h) (Or.inl ⟨by rfl, ?_⟩) ?_
      · intro w' hSw
        refine exec_append_no (.tmp 15) (.tmp 17) 51 51 76 76 ie ?_ Try.underlying51 Try.underlying51 hie (w2.heap.size) ?_ ?_
        · rfl
        · rfl
        · rfl
      try simp only [Act.put, List.getElem_toArray, List.getElem_cons_zero, List.getElem_cons_succ, List.setIfInBounds_toArray, List.set_cons_zero, List.set_cons_succ]
      refine wpAnyG_br (rs := [12, 14, 16]) (by kernel_rfl) (by simp) ?_
      intro j hj
      simp only [List.mem_cons, List.not_mem_nil, or_false] at hj
      rcases hj with rfl | rfl | rfl
      · skip
        refine ⟨_, rfl, fun K' hK => ?_⟩
        simp only [List.getElem_toArray, List.getElem_cons_zero, List.getElem_cons_succ]
        go_simp
        refine hK.out _ _ (Or.inr (by (repeat (first | (with_reducible exact Below.refl _ _) | (with_reducible exact Below.drew (Below.refl _ _)) | (with_reducible refine Below.drew ?_) | (with_reducible refine Below.alloc ?_ ?_ _; rotate_left; ((try simp) <;> (try omega))))))) ?_
        clear hK K'
        try simp only [Act.put, List.getElem_toArray, List.getElem_cons_zero, List.getElem_cons_succ, List.setIfInBounds_toArray, List.set_cons_zero, List.set_cons_succ]
        refine wpAnyG_br (rs := [14, 16]) (by kernel_rfl) (by simp) ?_
        intro j hj
        simp only [List.mem_cons, List.not_mem_nil, or_false] at hj
        rcases hj with rfl | rfl
        · skip
          refine ⟨_, rfl, fun K' hK => ?_⟩
          simp only [List.getElem_toArray, List.getElem_cons_zero, List.getElem_cons_succ]
          go_simp
          refine hK.out _ _ (Or.inr (by (repeat (first | (with_reducible exact Below.refl _ _) | (with_reducible exact Below.drew (Below.refl _ _)) | (with_reducible refine Below.drew ?_) | (with_reducible refine Below.alloc ?_ ?_ _; rotate_left; ((try simp) <;> (try omega))))))) ?_
          clear hK K'
          try simp only [Act.put, List.getElem_toArray, List.getElem_cons_zero, List.getElem_cons_succ, List.setIfInBounds_toArray, List.set_cons_zero, List.set_cons_succ]
          refine wpAnyG_takeW (i := 15) (v := ?_) rfl (by kernel_rfl) (by kernel_rfl) (by kernel_rfl) (fun _ _ _ h => h) (Or.inl ⟨by rfl, ?_⟩) ?_
          rotate_left
          · intro w' hSw
            go_simp
            try (with_reducible rfl)
          try simp only [Act.put, List.getElem_toArray, List.getElem_cons_zero, List.getElem_cons_succ, List.setIfInBounds_toArray, List.set_cons_zero, List.set_cons_succ]
          refine wpAnyG_br (rs := [16]) (by kernel_rfl) (by simp) ?_
          intro j hj
          simp only [List.mem_cons, List.not_mem_nil, or_false] at hj
          rcases hj with rfl
          · skip
            refine ⟨_, rfl, fun K' hK => ?_⟩
            simp only [List.getElem_toArray, List.getElem_cons_zero, List.getElem_cons_succ]
            go_simp
            refine hK.out _ _ (Or.inr (by (repeat (first | (with_reducible exact Below.refl _ _) | (with_reducible exact Below.drew (Below.refl _ _)) | (with_reducible refine Below.drew ?_) | (with_reducible refine Below.alloc ?_ ?_ _; rotate_left; ((try simp) <;> (try omega))))))) ?_
            clear hK K'
            try simp only [Act.put, List.getElem_toArray, List.getElem_cons_zero, List.getElem_cons_succ, List.setIfInBounds_toArray, List.set_cons_zero, List.set_cons_succ]
            refine wpAnyG_br (rs := [17]) (by kernel_rfl) (by simp) ?_
            intro j hj
            simp only [List.mem_cons, List.not_mem_nil, or_false] at hj
            subst hj
            refine ⟨_, rfl, fun K' hK => ?_⟩
            simp only [List.getElem_toArray, List.getElem_cons_zero, List.getElem_cons_succ]
            go_simp
            refine hK.out _ _ (Or.inl rfl) ?_
            clear hK K'
            try simp only [Act.put, List.getElem_toArray, List.getElem_cons_zero, List.getElem_cons_succ, List.setIfInBounds_toArray, List.set_cons_zero, List.set_cons_succ]
            refine wpAnyG_done (by kernel_rfl) ?_ _
            go_wp2_with fail
            go_meet
            refine ⟨_, _, _, _, rfl, rfl, rfl, rfl, by simp [go_sem], by simp [go_sem], by simp [go_sem], by simp [go_sem], by simp [go_sem], by simp [go_sem], by simp [go_sem], by simp [go_sem], by simp [go_sem], by simp [go_sem], by simp [go_sem], by simp [go_sem], by simp [go_sem], fun o => by simp [go_sem], ?_, by (try simp); try omega, by (try simp); try omega, by (try simp); try omega, by (try simp); try omega, by (try simp); try omega, ?_⟩
            · repeat (first | (with_reducible exact fresh_lit' _ _ (by simp) c hc5) | (with_reducible refine FreshIn.drew ?_) | (with_reducible refine FreshIn.alloc ?_ _))
            · (repeat (first | (with_reducible exact Below.refl _ _) | (with_reducible exact Below.drew (Below.refl _ _)) | (with_reducible refine Below.drew ?_) | (with_reducible refine Below.alloc ?_ ?_ _; rotate_left; ((try simp) <;> (try omega)))))
        · skip
          refine ⟨_, rfl, fun K' hK => ?_⟩
          simp only [List.getElem_toArray, List.getElem_cons_zero, List.getElem_cons_succ]
          go_simp
          refine hK.out _ _ (Or.inr (by (repeat (first | (with_reducible exact Below.refl _ _) | (with_reducible exact Below.drew (Below.refl _ _)) | (with_reducible refine Below.drew ?_) | (with_reducible refine Below.alloc ?_ ?_ _; rotate_left; ((try simp) <;> (try omega))))))) ?_
          clear hK K'
          try simp only [Act.put, List.getElem_toArray, List.getElem_cons_zero, List.getElem_cons_succ, List.setIfInBounds_toArray, List.set_cons_zero, List.set_cons_succ]
          refine wpAnyG_br (rs := [14]) (by kernel_rfl) (by simp) ?_
          intro j hj
          simp only [List.mem_cons, List.not_mem_nil, or_false] at hj
          rcases hj with rfl
          · skip
            refine ⟨_, rfl, fun K' hK => ?_⟩
            simp only [List.getElem_toArray, List.getElem_cons_zero, List.getElem_cons_succ]
            go_simp
            refine hK.out _ _ (Or.inr (by (repeat (first | (with_reducible exact Below.refl _ _) | (with_reducible exact Below.drew (Below.refl _ _)) | (with_reducible refine Below.drew ?_) | (with_reducible refine Below.alloc ?_ ?_ _; rotate_left; ((try simp) <;> (try omega))))))) ?_
            clear hK K'
            try simp only [Act.put, List.getElem_toArray, List.getElem_cons_zero, List.getElem_cons_succ, List.setIfInBounds_toArray, List.set_cons_zero, List.set_cons_succ]
            refine wpAnyG_takeW (i := 15) (v := ?_) rfl (by kernel_rfl) (by kernel_rfl) (by kernel_rfl) (fun _ _ _ h => h) (Or.inl ⟨by rfl, ?_⟩) ?_
            rotate_left
            · intro w' hSw
              go_simp
              try (with_reducible rfl)
            try simp only [Act.put, List.getElem_toArray, List.getElem_cons_zero, List.getElem_cons_succ, List.setIfInBounds_toArray, List.set_cons_zero, List.set_cons_succ]
            refine wpAnyG_br (rs := [17]) (by kernel_rfl) (by simp) ?_
            intro j hj
            simp only [List.mem_cons, List.not_mem_nil, or_false] at hj
            subst hj
            refine ⟨_, rfl, fun K' hK => ?_⟩
            simp only [List.getElem_toArray, List.getElem_cons_zero, List.getElem_cons_succ]
            go_simp
            refine hK.out _ _ (Or.inl rfl) ?_
            clear hK K'
            try simp only [Act.put, List.getElem_toArray, List.getElem_cons_zero, List.getElem_cons_succ, List.setIfInBounds_toArray, List.set_cons_zero, List.set_cons_succ]
            refine wpAnyG_done (by kernel_rfl) ?_ _
            go_wp2_with fail
            go_meet
            refine ⟨_, _, _, _, rfl, rfl, rfl, rfl, by simp [go_sem], by simp [go_sem], by simp [go_sem], by simp [go_sem], by simp [go_sem], by simp [go_sem], by simp [go_sem], by simp [go_sem], by simp [go_sem], by simp [go_sem], by simp [go_sem], by simp [go_sem], by simp [go_sem], fun o => by simp [go_sem], ?_, by (try simp); try omega, by (try simp); try omega, by (try simp); try omega, by (try simp); try omega, by (try simp); try omega, ?_⟩
            · repeat (first | (with_reducible exact fresh_lit' _ _ (by simp) c hc5) | (with_reducible refine FreshIn.drew ?_) | (with_reducible refine FreshIn.alloc ?_ _))
            · (repeat (first | (with_reducible exact Below.refl _ _) | (with_reducible exact Below.drew (Below.refl _ _)) | (with_reducible refine Below.drew ?_) | (with_reducible refine Below.alloc ?_ ?_ _; rotate_left; ((try simp) <;> (try omega)))))
      · skip
        refine ⟨_, rfl, fun K' hK => ?_⟩
        simp only [List.getElem_toArray, List.getElem_cons_zero, List.getElem_cons_succ]
        go_simp
        refine hK.out _ _ (Or.inr (by (repeat (first | (with_reducible exact Below.refl _ _) | (with_reducible exact Below.drew (Below.refl _ _)) | (with_reducible refine Below.drew ?_) | (with_reducible refine Below.alloc ?_ ?_ _; rotate_left; ((try simp) <;> (try omega))))))) ?_
        clear hK K'
        try simp only [Act.put, List.getElem_toArray, List.getElem_cons_zero, List.getElem_cons_succ, List.setIfInBounds_toArray, List.set_cons_zero, List.set_cons_succ]
        refine wpAnyG_br (rs := [12, 16]) (by kernel_rfl) (by simp) ?_
        intro j hj
        simp only [List.mem_cons, List.not_mem_nil, or_false] at hj
        rcases hj with rfl | rfl
        · skip
          refine ⟨_, rfl, fun K' hK => ?_⟩
          simp only [List.getElem_toArray, List.getElem_cons_zero, List.getElem_cons_succ]
          go_simp
          refine hK.out _ _ (Or.inr (by (repeat (first | (with_reducible exact Below.refl _ _) | (with_reducible exact Below.drew (Below.refl _ _)) | (with_reducible refine Below.drew ?_) | (with_reducible refine Below.alloc ?_ ?_ _; rotate_left; ((try simp) <;> (try omega))))))) ?_
          clear hK K'
          try simp only [Act.put, List.getElem_toArray, List.getElem_cons_zero, List.getElem_cons_succ, List.setIfInBounds_toArray, List.set_cons_zero, List.set_cons_succ]
          refine wpAnyG_takeW (i := 15) (v := ?_) rfl (by kernel_rfl) (by kernel_rfl) (by kernel_rfl) (fun _ _ _ h => h) (Or.inl ⟨by rfl, ?_⟩) ?_
          rotate_left
          · intro w' hSw
            go_simp
            try (with_reducible rfl)
          try simp only [Act.put, List.getElem_toArray, List.getElem_cons_zero, List.getElem_cons_succ, List.setIfInBounds_toArray, List.set_cons_zero, List.set_cons_succ]
          refine wpAnyG_br (rs := [16]) (by kernel_rfl) (by simp) ?_
          intro j hj
          simp only [List.mem_cons, List.not_mem_nil, or_false] at hj
          rcases hj with rfl
          · skip
            refine ⟨_, rfl, fun K' hK => ?_⟩
            simp only [List.getElem_toArray, List.getElem_cons_zero, List.getElem_cons_succ]
            go_simp
            refine hK.out _ _ (Or.inr (by (repeat (first | (with_reducible exact Below.refl _ _) | (with_reducible exact Below.drew (Below.refl _ _)) | (with_reducible refine Below.drew ?_) | (with_reducible refine Below.alloc ?_ ?_ _; rotate_left; ((try simp) <;> (try omega))))))) ?_
            clear hK K'
            try simp only [Act.put, List.getElem_toArray, List.getElem_cons_zero, List.getElem_cons_succ, List.setIfInBounds_toArray, List.set_cons_zero, List.set_cons_succ]
            refine wpAnyG_br (rs := [17]) (by kernel_rfl) (by simp) ?_
            intro j hj
            simp only [List.mem_cons, List.not_mem_nil, or_false] at hj
            subst hj
            refine ⟨_, rfl, fun K' hK => ?_⟩
            simp only [List.getElem_toArray, List.getElem_cons_zero, List.getElem_cons_succ]
            go_simp
            refine hK.out _ _ (Or.inl rfl) ?_
            clear hK K'
            try simp only [Act.put, List.getElem_toArray, List.getElem_cons_zero, List.getElem_cons_succ, List.setIfInBounds_toArray, List.set_cons_zero, List.set_cons_succ]
            refine wpAnyG_done (by kernel_rfl) ?_ _
            go_wp2_with fail
            go_meet
            refine ⟨_, _, _, _, rfl, rfl, rfl, rfl, by simp [go_sem], by simp [go_sem], by simp [go_sem], by simp [go_sem], by simp [go_sem], by simp [go_sem], by simp [go_sem], by simp [go_sem], by simp [go_sem], by simp [go_sem], by simp [go_sem], by simp [go_sem], by simp [go_sem], fun o => by simp [go_sem], ?_, by (try simp); try omega, by (try simp); try omega, by (try simp); try omega, by (try simp); try omega, by (try simp); try omega, ?_⟩
            · repeat (first | (with_reducible exact fresh_lit' _ _ (by simp) c hc5) | (with_reducible refine FreshIn.drew ?_) | (with_reducible refine FreshIn.alloc ?_ _))
            · (repeat (first | (with_reducible exact Below.refl _ _) | (with_reducible exact Below.drew (Below.refl _ _)) | (with_reducible refine Below.drew ?_) | (with_reducible refine Below.alloc ?_ ?_ _; rotate_left; ((try simp) <;> (try omega)))))
        · skip
          refine ⟨_, rfl, fun K' hK => ?_⟩
          simp only [List.getElem_toArray, List.getElem_cons_zero, List.getElem_cons_succ]
          go_simp
          refine hK.out _ _ (Or.inr (by (repeat (first | (with_reducible exact Below.refl _ _) | (with_reducible exact Below.drew (Below.refl _ _)) | (with_reducible refine Below.drew ?_) | (with_reducible refine Below.alloc ?_ ?_ _; rotate_left; ((try simp) <;> (try omega))))))) ?_
          clear hK K'
          try simp only [Act.put, List.getElem_toArray, List.getElem_cons_zero, List.getElem_cons_succ, List.setIfInBounds_toArray, List.set_cons_zero, List.set_cons_succ]
          refine wpAnyG_br (rs := [12]) (by kernel_rfl) (by simp) ?_
          intro j hj
          simp only [List.mem_cons, List.not_mem_nil, or_false] at hj
          rcases hj with rfl
          · skip
            refine ⟨_, rfl, fun K' hK => ?_⟩
            simp only [List.getElem_toArray, List.getElem_cons_zero, List.getElem_cons_succ]
            go_simp
            refine hK.out _ _ (Or.inr (by (repeat (first | (with_reducible exact Below.refl _ _) | (with_reducible exact Below.drew (Below.refl _ _)) | (with_reducible refine Below.drew ?_) | (with_reducible refine Below.alloc ?_ ?_ _; rotate_left; ((try simp) <;> (try omega))))))) ?_
            clear hK K'
            try simp only [Act.put, List.getElem_toArray, List.getElem_cons_zero, List.getElem_cons_succ, List.setIfInBounds_toArray, List.set_cons_zero, List.set_cons_succ]
            refine wpAnyG_takeW (i := 15) (v := ?_) rfl (by kernel_rfl) (by kernel_rfl) (by kernel_rfl) (fun _ _ _ h => h) (Or.inl ⟨by rfl, ?_⟩) ?_
            rotate_left
            · intro w' hSw
              go_simp
              try (with_reducible rfl)
            try simp only [Act.put, List.getElem_toArray, List.getElem_cons_zero, List.getElem_cons_succ, List.setIfInBounds_toArray, List.set_cons_zero, List.set_cons_succ]
            refine wpAnyG_br (rs := [17]) (by kernel_rfl) (by simp) ?_
            intro j hj
            simp only [List.mem_cons, List.not_mem_nil, or_false] at hj
            subst hj
            refine ⟨_, rfl, fun K' hK => ?_⟩
            simp only [List.getElem_toArray, List.getElem_cons_zero, List.getElem_cons_succ]
            go_simp
            refine hK.out _ _ (Or.inl rfl) ?_
            clear hK K'
            try simp only [Act.put, List.getElem_toArray, List.getElem_cons_zero, List.getElem_cons_succ, List.setIfInBounds_toArray, List.set_cons_zero, List.set_cons_succ]
            refine wpAnyG_done (by kernel_rfl) ?_ _
            go_wp2_with fail
            go_meet
            refine ⟨_, _, _, _, rfl, rfl, rfl, rfl, by simp [go_sem], by simp [go_sem], by simp [go_sem], by simp [go_sem], by simp [go_sem], by simp [go_sem], by simp [go_sem], by simp [go_sem], by simp [go_sem], by simp [go_sem], by simp [go_sem], by simp [go_sem], by simp [go_sem], fun o => by simp [go_sem], ?_, by (try simp); try omega, by (try simp); try omega, by (try simp); try omega, by (try simp); try omega, by (try simp); try omega, ?_⟩
            · repeat (first | (with_reducible exact fresh_lit' _ _ (by simp) c hc5) | (with_reducible refine FreshIn.drew ?_) | (with_reducible refine FreshIn.alloc ?_ _))
            · (repeat (first | (with_reducible exact Below.refl _ _) | (with_reducible exact Below.drew (Below.refl _ _)) | (with_reducible refine Below.drew ?_) | (with_reducible refine Below.alloc ?_ ?_ _; rotate_left; ((try simp) <;> (try omega)))))
      · skip
        refine ⟨_, rfl, fun K' hK => ?_⟩
        simp only [List.getElem_toArray, List.getElem_cons_zero, List.getElem_cons_succ]
        go_simp
        refine hK.out _ _ (Or.inr (by (repeat (first | (with_reducible exact Below.refl _ _) | (with_reducible exact Below.drew (Below.refl _ _)) | (with_reducible refine Below.drew ?_) | (with_reducible refine Below.alloc ?_ ?_ _; rotate_left; ((try simp) <;> (try omega))))))) ?_
        clear hK K'
        try simp only [Act.put, List.getElem_toArray, List.getElem_cons_zero, List.getElem_cons_succ, List.setIfInBounds_toArray, List.set_cons_zero, List.set_cons_succ]
        refine wpAnyG_br (rs := [12, 14]) (by kernel_rfl) (by simp) ?_
        intro j hj
        simp only [List.mem_cons, List.not_mem_nil, or_false] at hj
        rcases hj with rfl | rfl
        · skip
          refine ⟨_, rfl, fun K' hK => ?_⟩
          simp only [List.getElem_toArray, List.getElem_cons_zero, List.getElem_cons_succ]
          go_simp
          refine hK.out _ _ (Or.inr (by (repeat (first | (with_reducible exact Below.refl _ _) | (with_reducible exact Below.drew (Below.refl _ _)) | (with_reducible refine Below.drew ?_) | (with_reducible refine Below.alloc ?_ ?_ _; rotate_left; ((try simp) <;> (try omega))))))) ?_
          clear hK K'
          try simp only [Act.put, List.getElem_toArray, List.getElem_cons_zero, List.getElem_cons_succ, List.setIfInBounds_toArray, List.set_cons_zero, List.set_cons_succ]
          refine wpAnyG_br (rs := [14]) (by kernel_rfl) (by simp) ?_
          intro j hj
          simp only [List.mem_cons, List.not_mem_nil, or_false] at hj
          rcases hj with rfl
          · skip
            refine ⟨_, rfl, fun K' hK => ?_⟩
            simp only [List.getElem_toArray, List.getElem_cons_zero, List.getElem_cons_succ]
            go_simp
            refine hK.out _ _ (Or.inr (by (repeat (first | (with_reducible exact Below.refl _ _) | (with_reducible exact Below.drew (Below.refl _ _)) | (with_reducible refine Below.drew ?_) | (with_reducible refine Below.alloc ?_ ?_ _; rotate_left; ((try simp) <;> (try omega))))))) ?_
            clear hK K'
            try simp only [Act.put, List.getElem_toArray, List.getElem_cons_zero, List.getElem_cons_succ, List.setIfInBounds_toArray, List.set_cons_zero, List.set_cons_succ]
            refine wpAnyG_takeW (i := 15) (v := ?_) rfl (by kernel_rfl) (by kernel_rfl) (by kernel_rfl) (fun _ _ _ h => h) (Or.inl ⟨by rfl, ?_⟩) ?_
            rotate_left
            · intro w' hSw
              go_simp
              try (with_reducible rfl)
            try simp only [Act.put, List.getElem_toArray, List.getElem_cons_zero, List.getElem_cons_succ, List.setIfInBounds_toArray, List.set_cons_zero, List.set_cons_succ]
            refine wpAnyG_br (rs := [17]) (by kernel_rfl) (by simp) ?_
            intro j hj
            simp only [List.mem_cons, List.not_mem_nil, or_false] at hj
            subst hj
            refine ⟨_, rfl, fun K' hK => ?_⟩
            simp only [List.getElem_toArray, List.getElem_cons_zero, List.getElem_cons_succ]
            go_simp
            refine hK.out _ _ (Or.inl rfl) ?_
            clear hK K'
            try simp only [Act.put, List.getElem_toArray, List.getElem_cons_zero, List.getElem_cons_succ, List.setIfInBounds_toArray, List.set_cons_zero, List.set_cons_succ]
            refine wpAnyG_done (by kernel_rfl) ?_ _
            go_wp2_with fail
            go_meet
            refine ⟨_, _, _, _, rfl, rfl, rfl, rfl, by simp [go_sem], by simp [go_sem], by simp [go_sem], by simp [go_sem], by simp [go_sem], by simp [go_sem], by simp [go_sem], by simp [go_sem], by simp [go_sem], by simp [go_sem], by simp [go_sem], by simp [go_sem], by simp [go_sem], fun o => by simp [go_sem], ?_, by (try simp); try omega, by (try simp); try omega, by (try simp); try omega, by (try simp); try omega, by (try simp); try omega, ?_⟩
            · repeat (first | (with_reducible exact fresh_lit' _ _ (by simp) c hc5) | (with_reducible refine FreshIn.drew ?_) | (with_reducible refine FreshIn.alloc ?_ _))
            · (repeat (first | (with_reducible exact Below.refl _ _) | (with_reducible exact Below.drew (Below.refl _ _)) | (with_reducible refine Below.drew ?_) | (with_reducible refine Below.alloc ?_ ?_ _; rotate_left; ((try simp) <;> (try omega)))))
        · skip
          refine ⟨_, rfl, fun K' hK => ?_⟩
          simp only [List.getElem_toArray, List.getElem_cons_zero, List.getElem_cons_succ]
          go_simp
          refine hK.out _ _ (Or.inr (by (repeat (first | (with_reducible exact Below.refl _ _) | (with_reducible exact Below.drew (Below.refl _ _)) | (with_reducible refine Below.drew ?_) | (with_reducible refine Below.alloc ?_ ?_ _; rotate_left; ((try simp) <;> (try omega))))))) ?_
          clear hK K'
          try simp only [Act.put, List.getElem_toArray, List.getElem_cons_zero, List.getElem_cons_succ, List.setIfInBounds_toArray, List.set_cons_zero, List.set_cons_succ]
          refine wpAnyG_br (rs := [12]) (by kernel_rfl) (by simp) ?_
          intro j hj
          simp only [List.mem_cons, List.not_mem_nil, or_false] at hj
          rcases hj with rfl
          · skip
            refine ⟨_, rfl, fun K' hK => ?_⟩
            simp only [List.getElem_toArray, List.getElem_cons_zero, List.getElem_cons_succ]
            go_simp
            refine hK.out _ _ (Or.inr (by (repeat (first | (with_reducible exact Below.refl _ _) | (with_reducible exact Below.drew (Below.refl _ _)) | (with_reducible refine Below.drew ?_) | (with_reducible refine Below.alloc ?_ ?_ _; rotate_left; ((try simp) <;> (try omega))))))) ?_
            clear hK K'
            try simp only [Act.put, List.getElem_toArray, List.getElem_cons_zero, List.getElem_cons_succ, List.setIfInBounds_toArray, List.set_cons_zero, List.set_cons_succ]
            refine wpAnyG_takeW (i := 15) (v := ?_) rfl (by kernel_rfl) (by kernel_rfl) (by kernel_rfl) (fun _ _ _ h => h) (Or.inl ⟨by rfl, ?_⟩) ?_
            rotate_left
            · intro w' hSw
              go_simp
              try (with_reducible rfl)
            try simp only [Act.put, List.getElem_toArray, List.getElem_cons_zero, List.getElem_cons_succ, List.setIfInBounds_toArray, List.set_cons_zero, List.set_cons_succ]
            refine wpAnyG_br (rs := [17]) (by kernel_rfl) (by simp) ?_
            intro j hj
            simp only [List.mem_cons, List.not_mem_nil, or_false] at hj
            subst hj
            refine ⟨_, rfl, fun K' hK => ?_⟩
            simp only [List.getElem_toArray, List.getElem_cons_zero, List.getElem_cons_succ]
            go_simp
            refine hK.out _ _ (Or.inl rfl) ?_
            clear hK K'
            try simp only [Act.put, List.getElem_toArray, List.getElem_cons_zero, List.getElem_cons_succ, List.setIfInBounds_toArray, List.set_cons_zero, List.set_cons_succ]
            refine wpAnyG_done (by kernel_rfl) ?_ _
            go_wp2_with fail
            go_meet
            refine ⟨_, _, _, _, rfl, rfl, rfl, rfl, by simp [go_sem], by simp [go_sem], by simp [go_sem], by simp [go_sem], by simp [go_sem], by simp [go_sem], by simp [go_sem], by simp [go_sem], by simp [go_sem], by simp [go_sem], by simp [go_sem], by simp [go_sem], by simp [go_sem], fun o => by simp [go_sem], ?_, by (try simp); try omega, by (try simp); try omega, by (try simp); try omega, by (try simp); try omega, by (try simp); try omega, ?_⟩
            · repeat (first | (with_reducible exact fresh_lit' _ _ (by simp) c hc5) | (with_reducible refine FreshIn.drew ?_) | (with_reducible refine FreshIn.alloc ?_ _))
            · (repeat (first | (with_reducible exact Below.refl _ _) | (with_reducible exact Below.drew (Below.refl _ _)) | (with_reducible refine Below.drew ?_) | (with_reducible refine Below.alloc ?_ ?_ _; rotate_left; ((try simp) <;> (try omega)))))
    · skip
      refine ⟨_, rfl, fun K' hK => ?_⟩
      simp only [List.getElem_toArray, List.getElem_cons_zero, List.getElem_cons_succ]
      go_simp
      refine hK.out _ _ (Or.inr (by (repeat (first | (with_reducible exact Below.refl _ _) | (with_reducible exact Below.drew (Below.refl _ _)) | (with_reducible refine Below.drew ?_) | (with_reducible refine Below.alloc ?_ ?_ _; rotate_left; ((try simp) <;> (try omega))))))) ?_
      clear hK K'
      try simp only [Act.put, List.getElem_toArray, List.getElem_cons_zero, List.getElem_cons_succ, List.setIfInBounds_toArray, List.set_cons_zero, List.set_cons_succ]
      refine wpAnyG_br (rs := [6, 14, 16]) (by kernel_rfl) (by simp) ?_
      intro j hj
      simp only [List.mem_cons, List.not_mem_nil, or_false] at hj
      rcases hj with rfl | rfl | rfl
      · skip
        refine ⟨_, rfl, fun K' hK => ?_⟩
        simp only [List.getElem_toArray, List.getElem_cons_zero, List.getElem_cons_succ]
        go_simp
        refine hK.out _ _ (Or.inr (by (repeat (first | (with_reducible exact Below.refl _ _) | (with_reducible exact Below.drew (Below.refl _ _)) | (with_reducible refine Below.drew ?_) | (with_reducible refine Below.alloc ?_ ?_ _; rotate_left; ((try simp) <;> (try omega))))))) ?_
        clear hK K'
        try simp only [Act.put, List.getElem_toArray, List.getElem_cons_zero, List.getElem_cons_succ, List.setIfInBounds_toArray, List.set_cons_zero, List.set_cons_succ]
        refine wpAnyG_takeW (i := 9) (v := .slice (some ⟨w2.heap.size + 1, 0, none⟩) 0 0) rfl (by kernel_rfl) (by kernel_rfl) (by kernel_rfl) (fun _ _ _ h => h) (Or.inl ⟨by rfl, ?_⟩) ?_
        · intro w' hSw
          refine exec_append_no (.tmp 15) (.tmp 17) 51 51 76 76 ie ?_ Try.underlying51 Try.underlying51 hie (w2.heap.size + 1) ?_ ?_
          · rfl
          · rfl
          · rfl
        try simp only [Act.put, List.getElem_toArray, List.getElem_cons_zero, List.getElem_cons_succ, List.setIfInBounds_toArray, List.set_cons_zero, List.set_cons_succ]
        refine wpAnyG_br (rs := [14, 16]) (by kernel_rfl) (by simp) ?_
        intro j hj
        simp only [List.mem_cons, List.not_mem_nil, or_false] at hj
        rcases hj with rfl | rfl
        · skip
          refine ⟨_, rfl, fun K' hK => ?_⟩
          simp only [List.getElem_toArray, List.getElem_cons_zero, List.getElem_cons_succ]
          go_simp
          refine hK.out _ _ (Or.inr (by (repeat (first | (with_reducible exact Below.refl _ _) | (with_reducible exact Below.drew (Below.refl _ _)) | (with_reducible refine Below.drew ?_) | (with_reducible refine Below.alloc ?_ ?_ _; rotate_left; ((try simp) <;> (try omega))))))) ?_
          clear hK K'
          try simp only [Act.put, List.getElem_toArray, List.getElem_cons_zero, List.getElem_cons_succ, List.setIfInBounds_toArray, List.set_cons_zero, List.set_cons_succ]
          refine wpAnyG_takeW (i := 15) (v := ?_) rfl (by kernel_rfl) (by kernel_rfl) (by kernel_rfl) (fun _ _ _ h => h) (Or.inl ⟨by rfl, ?_⟩) ?_
          rotate_left
          · intro w' hSw
            go_simp
            try (with_reducible rfl)
          try simp only [Act.put, List.getElem_toArray, List.getElem_cons_zero, List.getElem_cons_succ, List.setIfInBounds_toArray, List.set_cons_zero, List.set_cons_succ]
          refine wpAnyG_br (rs := [16]) (by kernel_rfl) (by simp) ?_
          intro j hj
          simp only [List.mem_cons, List.not_mem_nil, or_false] at hj
          rcases hj with rfl
          · skip
            refine ⟨_, rfl, fun K' hK => ?_⟩
            simp only [List.getElem_toArray, List.getElem_cons_zero, List.getElem_cons_succ]
            go_simp
            refine hK.out _ _ (Or.inr (by (repeat (first | (with_reducible exact Below.refl _ _) | (with_reducible exact Below.drew (Below.refl _ _)) | (with_reducible refine Below.drew ?_) | (with_reducible refine Below.alloc ?_ ?_ _; rotate_left; ((try simp) <;> (try omega))))))) ?_
            clear hK K'
            try simp only [Act.put, List.getElem_toArray, List.getElem_cons_zero, List.getElem_cons_succ, List.setIfInBounds_toArray, List.set_cons_zero, List.set_cons_succ]
            refine wpAnyG_br (rs := [17]) (by kernel_rfl) (by simp) ?_
            intro j hj
            simp only [List.mem_cons, List.not_mem_nil, or_false] at hj
            subst hj
            refine ⟨_, rfl, fun K' hK => ?_⟩
            simp only [List.getElem_toArray, List.getElem_cons_zero, List.getElem_cons_succ]
            go_simp
            refine hK.out _ _ (Or.inl rfl) ?_
            clear hK K'
            try simp only [Act.put, List.getElem_toArray, List.getElem_cons_zero, List.getElem_cons_succ, List.setIfInBounds_toArray, List.set_cons_zero, List.set_cons_succ]
            refine wpAnyG_done (by kernel_rfl) ?_ _
            go_wp2_with fail
            go_meet
            refine ⟨_, _, _, _, rfl, rfl, rfl, rfl, by simp [go_sem], by simp [go_sem], by simp [go_sem], by simp [go_sem], by simp [go_sem], by simp [go_sem], by simp [go_sem], by simp [go_sem], by simp [go_sem], by simp [go_sem], by simp [go_sem], by simp [go_sem], by simp [go_sem], fun o => by simp [go_sem], ?_, by (try simp); try omega, by (try simp); try omega, by (try simp); try omega, by (try simp); try omega, by (try simp); try omega, ?_⟩
            · repeat (first | (with_reducible exact fresh_lit' _ _ (by simp) c hc5) | (with_reducible refine FreshIn.drew ?_) | (with_reducible refine FreshIn.alloc ?_ _))
            · (repeat (first | (with_reducible exact Below.refl _ _) | (with_reducible exact Below.drew (Below.refl _ _)) | (with_reducible refine Below.drew ?_) | (with_reducible refine Below.alloc ?_ ?_ _; rotate_left; ((try simp) <;> (try omega)))))
        · skip
          refine ⟨_, rfl, fun K' hK => ?_⟩
          simp only [List.getElem_toArray, List.getElem_cons_zero, List.getElem_cons_succ]
          go_simp
          refine hK.out _ _ (Or.inr (by (repeat (first | (with_reducible exact Below.refl _ _) | (with_reducible exact Below.drew (Below.refl _ _)) | (with_reducible refine Below.drew ?_) | (with_reducible refine Below.alloc ?_ ?_ _; rotate_left; ((try simp) <;> (try omega))))))) ?_
          clear hK K'
          try simp only [Act.put, List.getElem_toArray, List.getElem_cons_zero, List.getElem_cons_succ, List.setIfInBounds_toArray, List.set_cons_zero, List.set_cons_succ]
          refine wpAnyG_br (rs := [14]) (by kernel_rfl) (by simp) ?_
          intro j hj
          simp only [List.mem_cons, List.not_mem_nil, or_false] at hj
          rcases hj with rfl
          · skip
            refine ⟨_, rfl, fun K' hK => ?_⟩
            simp only [List.getElem_toArray, List.getElem_cons_zero, List.getElem_cons_succ]
            go_simp
            refine hK.out _ _ (Or.inr (by (repeat (first | (with_reducible exact Below.refl _ _) | (with_reducible exact Below.drew (Below.refl _ _)) | (with_reducible refine Below.drew ?_) | (with_reducible refine Below.alloc ?_ ?_ _; rotate_left; ((try simp) <;> (try omega))))))) ?_
            clear hK K'
            try simp only [Act.put, List.getElem_toArray, List.getElem_cons_zero, List.getElem_cons_succ, List.setIfInBounds_toArray, List.set_cons_zero, List.set_cons_succ]
            refine wpAnyG_takeW (i := 15) (v := ?_) rfl (by kernel_rfl) (by kernel_rfl) (by kernel_rfl) (fun _ _ _ h => h) (Or.inl ⟨by rfl, ?_⟩) ?_
            rotate_left
            · intro w' hSw
              go_simp
              try (with_reducible rfl)
            try simp only [Act.put, List.getElem_toArray, List.getElem_cons_zero, List.getElem_cons_succ, List.setIfInBounds_toArray, List.set_cons_zero, List.set_cons_succ]
            refine wpAnyG_br (rs := [17]) (by kernel_rfl) (by simp) ?_
            intro j hj
            simp only [List.mem_cons, List.not_mem_nil, or_false] at hj
            subst hj
            refine ⟨_, rfl, fun K' hK => ?_⟩
            simp only [List.getElem_toArray, List.getElem_cons_zero, List.getElem_cons_succ]
            go_simp
            refine hK.out _ _ (Or.inl rfl) ?_
            clear hK K'
            try simp only [Act.put, List.getElem_toArray, List.getElem_cons_zero, List.getElem_cons_succ, List.setIfInBounds_toArray, List.set_cons_zero, List.set_cons_succ]
            refine wpAnyG_done (by kernel_rfl) ?_ _
            go_wp2_with fail
            go_meet
            refine ⟨_, _, _, _, rfl, rfl, rfl, rfl, by simp [go_sem], by simp [go_sem], by simp [go_sem], by simp [go_sem], by simp [go_sem], by simp [go_sem], by simp [go_sem], by simp [go_sem], by simp [go_sem], by simp [go_sem], by simp [go_sem], by simp [go_sem], by simp [go_sem], fun o => by simp [go_sem], ?_, by (try simp); try omega, by (try simp); try omega, by (try simp); try omega, by (try simp); try omega, by (try simp); try omega, ?_⟩
            · repeat (first | (with_reducible exact fresh_lit' _ _ (by simp) c hc5) | (with_reducible refine FreshIn.drew ?_) | (with_reducible refine FreshIn.alloc ?_ _))
            · (repeat (first | (with_reducible exact Below.refl _ _) | (with_reducible exact Below.drew (Below.refl _ _)) | (with_reducible refine Below.drew ?_) | (with_reducible refine Below.alloc ?_ ?_ _; rotate_left; ((try simp) <;> (try omega)))))
      · skip
        refine ⟨_, rfl, fun K' hK => ?_⟩
        simp only [List.getElem_toArray, List.getElem_cons_zero, List.getElem_cons_succ]
        go_simp
        refine hK.out _ _ (Or.inr (by (repeat (first | (with_reducible exact Below.refl _ _) | (with_reducible exact Below.drew (Below.refl _ _)) | (with_reducible refine Below.drew ?_) | (with_reducible refine Below.alloc ?_ ?_ _; rotate_left; ((try simp) <;> (try omega))))))) ?_
        clear hK K'
        try simp only [Act.put, List.getElem_toArray, List.getElem_cons_zero, List.getElem_cons_succ, List.setIfInBounds_toArray, List.set_cons_zero, List.set_cons_succ]
        refine wpAnyG_br (rs := [6, 16]) (by kernel_rfl) (by simp) ?_
        intro j hj
        simp only [List.mem_cons, List.not_mem_nil, or_false] at hj
        rcases hj with rfl | rfl
        · skip
          refine ⟨_, rfl, fun K' hK => ?_⟩
          simp only [List.getElem_toArray, List.getElem_cons_zero, List.getElem_cons_succ]
          go_simp
          refine hK.out _ _ (Or.inr (by (repeat (first | (with_reducible exact Below.refl _ _) | (with_reducible exact Below.drew (Below.refl _ _)) | (with_reducible refine Below.drew ?_) | (with_reducible refine Below.alloc ?_ ?_ _; rotate_left; ((try simp) <;> (try omega))))))) ?_
          clear hK K'
          try simp only [Act.put, List.getElem_toArray, List.getElem_cons_zero, List.getElem_cons_succ, List.setIfInBounds_toArray, List.set_cons_zero, List.set_cons_succ]
          refine wpAnyG_takeW (i := 9) (v := .slice (some ⟨w2.heap.size + 1 + 1, 0, none⟩) 0 0) rfl (by kernel_rfl) (by kernel_rfl) (by kernel_rfl) (fun _ _ _ h => h) (Or.inl ⟨by rfl, ?_⟩) ?_
          · intro w' hSw
            refine exec_append_no (.tmp 15) (.tmp 17) 51 51 76 76 ie ?_ Try.underlying51 Try.underlying51 hie (w2.heap.size + 1 + 1) ?_ ?_
            · rfl
            · rfl
            · rfl
          try simp only [Act.put, List.getElem_toArray, List.getElem_cons_zero, List.getElem_cons_succ, List.setIfInBounds_toArray, List.set_cons_zero, List.set_cons_succ]
          refine wpAnyG_takeW (i := 15) (v := ?_) rfl (by kernel_rfl) (by kernel_rfl) (by kernel_rfl) (fun _ _ _ h => h) (Or.inl ⟨by rfl, ?_⟩) ?_
          rotate_left
          · intro w' hSw
            go_simp
            try (with_reducible rfl)
          try simp only [Act.put, List.getElem_toArray, List.getElem_cons_zero, List.getElem_cons_succ, List.setIfInBounds_toArray, List.set_cons_zero, List.set_cons_succ]
          refine wpAnyG_br (rs := [16]) (by kernel_rfl) (by simp) ?_
          intro j hj
          simp only [List.mem_cons, List.not_mem_nil, or_false] at hj
          rcases hj with rfl
          · skip
            refine ⟨_, rfl, fun K' hK => ?_⟩
            simp only [List.getElem_toArray, List.getElem_cons_zero, List.getElem_cons_succ]
            go_simp
            refine hK.out _ _ (Or.inr (by (repeat (first | (with_reducible exact Below.refl _ _) | (with_reducible exact Below.drew (Below.refl _ _)) | (with_reducible refine Below.drew ?_) | (with_reducible refine Below.alloc ?_ ?_ _; rotate_left; ((try simp) <;> (try omega))))))) ?_
            clear hK K'
            try simp only [Act.put, List.getElem_toArray, List.getElem_cons_zero, List.getElem_cons_succ, List.setIfInBounds_toArray, List.set_cons_zero, List.set_cons_succ]
            refine wpAnyG_br (rs := [17]) (by kernel_rfl) (by simp) ?_
            intro j hj
            simp only [List.mem_cons, List.not_mem_nil, or_false] at hj
            subst hj
            refine ⟨_, rfl, fun K' hK => ?_⟩
            simp only [List.getElem_toArray, List.getElem_cons_zero, List.getElem_cons_succ]
            go_simp
            refine hK.out _ _ (Or.inl rfl) ?_
            clear hK K'
            try simp only [Act.put, List.getElem_toArray, List.getElem_cons_zero, List.getElem_cons_succ, List.setIfInBounds_toArray, List.set_cons_zero, List.set_cons_succ]
            refine wpAnyG_done (by kernel_rfl) ?_ _
            go_wp2_with fail
            go_meet
            refine ⟨_, _, _, _, rfl, rfl, rfl, rfl, by simp [go_sem], by simp [go_sem], by simp [go_sem], by simp [go_sem], by simp [go_sem], by simp [go_sem], by simp [go_sem], by simp [go_sem], by simp [go_sem], by simp [go_sem], by simp [go_sem], by simp [go_sem], by simp [go_sem], fun o => by simp [go_sem], ?_, by (try simp); try omega, by (try simp); try omega, by (try simp); try omega, by (try simp); try omega, by (try simp); try omega, ?_⟩
            · repeat (first | (with_reducible exact fresh_lit' _ _ (by simp) c hc5) | (with_reducible refine FreshIn.drew ?_) | (with_reducible refine FreshIn.alloc ?_ _))
            · (repeat (first | (with_reducible exact Below.refl _ _) | (with_reducible exact Below.drew (Below.refl _ _)) | (with_reducible refine Below.drew ?_) | (with_reducible refine Below.alloc ?_ ?_ _; rotate_left; ((try simp) <;> (try omega)))))
        · skip
          refine ⟨_, rfl, fun K' hK => ?_⟩
          simp only [List.getElem_toArray, List.getElem_cons_zero, List.getElem_cons_succ]
          go_simp
          refine hK.out _ _ (Or.inr (by (repeat (first | (with_reducible exact Below.refl _ _) | (with_reducible exact Below.drew (Below.refl _ _)) | (with_reducible refine Below.drew ?_) | (with_reducible refine Below.alloc ?_ ?_ _; rotate_left; ((try simp) <;> (try omega))))))) ?_
          clear hK K'
          try simp only [Act.put, List.getElem_toArray, List.getElem_cons_zero, List.getElem_cons_succ, List.setIfInBounds_toArray, List.set_cons_zero, List.set_cons_succ]
          refine wpAnyG_br (rs := [6]) (by kernel_rfl) (by simp) ?_
          intro j hj
          simp only [List.mem_cons, List.not_mem_nil, or_false] at hj
          rcases hj with rfl
          · skip
            refine ⟨_, rfl, fun K' hK => ?_⟩
            simp only [List.getElem_toArray, List.getElem_cons_zero, List.getElem_cons_succ]
            go_simp
            refine hK.out _ _ (Or.inr (by (repeat (first | (with_reducible exact Below.refl _ _) | (with_reducible exact Below.drew (Below.refl _ _)) | (with_reducible refine Below.drew ?_) | (with_reducible refine Below.alloc ?_ ?_ _; rotate_left; ((try simp) <;> (try omega))))))) ?_
            clear hK K'
            try simp only [Act.put, List.getElem_toArray, List.getElem_cons_zero, List.getElem_cons_succ, List.setIfInBounds_toArray, List.set_cons_zero, List.set_cons_succ]
            refine wpAnyG_takeW (i := 9) (v := .slice (some ⟨w2.heap.size + 1 + 1 + 1, 0, none⟩) 0 0) rfl (by kernel_rfl) (by kernel_rfl) (by kernel_rfl) (fun _ _ _ h => h) (Or.inl ⟨by rfl, ?_⟩) ?_
            · intro w' hSw
              refine exec_append_no (.tmp 15) (.tmp 17) 51 51 76 76 ie ?_ Try.underlying51 Try.underlying51 hie (w2.heap.size + 1 + 1 + 1) ?_ ?_
              · rfl
              · rfl
              · rfl
            try simp only [Act.put, List.getElem_toArray, List.getElem_cons_zero, List.getElem_cons_succ, List.setIfInBounds_toArray, List.set_cons_zero, List.set_cons_succ]
            refine wpAnyG_takeW (i := 15) (v := ?_) rfl (by kernel_rfl) (by kernel_rfl) (by kernel_rfl) (fun _ _ _ h => h) (Or.inl ⟨by rfl, ?_⟩) ?_
            rotate_left
            · intro w' hSw
              go_simp
              try (with_reducible rfl)
            try simp only [Act.put, List.getElem_toArray, List.getElem_cons_zero, List.getElem_cons_succ, List.setIfInBounds_toArray, List.set_cons_zero, List.set_cons_succ]
            refine wpAnyG_br (rs := [17]) (by kernel_rfl) (by simp) ?_
            intro j hj
            simp only [List.mem_cons, List.not_mem_nil, or_false] at hj
            subst hj
            refine ⟨_, rfl, fun K' hK => ?_⟩
            simp only [List.getElem_toArray, List.getElem_cons_zero, List.getElem_cons_succ]
            go_simp
            refine hK.out _ _ (Or.inl rfl) ?_
            clear hK K'
            try simp only [Act.put, List.getElem_toArray, List.getElem_cons_zero, List.getElem_cons_succ, List.setIfInBounds_toArray, List.set_cons_zero, List.set_cons_succ]
            refine wpAnyG_done (by kernel_rfl) ?_ _
            go_wp2_with fail
            go_meet
            refine ⟨_, _, _, _, rfl, rfl, rfl, rfl, by simp [go_sem], by simp [go_sem], by simp [go_sem], by simp [go_sem], by simp [go_sem], by simp [go_sem], by simp [go_sem], by simp [go_sem], by simp [go_sem], by simp [go_sem], by simp [go_sem], by simp [go_sem], by simp [go_sem], fun o => by simp [go_sem], ?_, by (try simp); try omega, by (try simp); try omega, by (try simp); try omega, by (try simp); try omega, by (try simp); try omega, ?_⟩
            · repeat (first | (with_reducible exact fresh_lit' _ _ (by simp) c hc5) | (with_reducible refine FreshIn.drew ?_) | (with_reducible refine FreshIn.alloc ?_ _))
            · (repeat (first | (with_reducible exact Below.refl _ _) | (with_reducible exact Below.drew (Below.refl _ _)) | (with_reducible refine Below.drew ?_) | (with_reducible refine Below.alloc ?_ ?_ _; rotate_left; ((try simp) <;> (try omega)))))
      · skip
        refine ⟨_, rfl, fun K' hK => ?_⟩
        simp only [List.getElem_toArray, List.getElem_cons_zero, List.getElem_cons_succ]
        go_simp
        refine hK.out _ _ (Or.inr (by (repeat (first | (with_reducible exact Below.refl _ _) | (with_reducible exact Below.drew (Below.refl _ _)) | (with_reducible refine Below.drew ?_) | (with_reducible refine Below.alloc ?_ ?_ _; rotate_left; ((try simp) <;> (try omega))))))) ?_
        clear hK K'
        try simp only [Act.put, List.getElem_toArray, List.getElem_cons_zero, List.getElem_cons_succ, List.setIfInBounds_toArray, List.set_cons_zero, List.set_cons_succ]
        refine wpAnyG_br (rs := [6, 14]) (by kernel_rfl) (by simp) ?_
        intro j hj
        simp only [List.mem_cons, List.not_mem_nil, or_false] at hj
        rcases hj with rfl | rfl
        · skip
          refine ⟨_, rfl, fun K' hK => ?_⟩
          simp only [List.getElem_toArray, List.getElem_cons_zero, List.getElem_cons_succ]
          go_simp
          refine hK.out _ _ (Or.inr (by (repeat (first | (with_reducible exact Below.refl _ _) | (with_reducible exact Below.drew (Below.refl _ _)) | (with_reducible refine Below.drew ?_) | (with_reducible refine Below.alloc ?_ ?_ _; rotate_left; ((try simp) <;> (try omega))))))) ?_
          clear hK K'
          try simp only [Act.put, List.getElem_toArray, List.getElem_cons_zero, List.getElem_cons_succ, List.setIfInBounds_toArray, List.set_cons_zero, List.set_cons_succ]
          refine wpAnyG_takeW (i := 9) (v := .slice (some ⟨w2.heap.size + 1 + 1, 0, none⟩) 0 0) rfl (by kernel_rfl) (by kernel_rfl) (by kernel_rfl) (fun _ _ _ h => h) (Or.inl ⟨by rfl, ?_⟩) ?_
          · intro w' hSw
            refine exec_append_no (.tmp 15) (.tmp 17) 51 51 76 76 ie ?_ Try.underlying51 Try.underlying51 hie (w2.heap.size + 1 + 1) ?_ ?_
            · rfl
            · rfl
            · rfl
          try simp only [Act.put, List.getElem_toArray, List.getElem_cons_zero, List.getElem_cons_succ, List.setIfInBounds_toArray, List.set_cons_zero, List.set_cons_succ]
          refine wpAnyG_br (rs := [14]) (by kernel_rfl) (by simp) ?_
          intro j hj
          simp only [List.mem_cons, List.not_mem_nil, or_false] at hj
          rcases hj with rfl
          · skip
            refine ⟨_, rfl, fun K' hK => ?_⟩
            simp only [List.getElem_toArray, List.getElem_cons_zero, List.getElem_cons_succ]
            go_simp
            refine hK.out _ _ (Or.inr (by (repeat (first | (with_reducible exact Below.refl _ _) | (with_reducible exact Below.drew (Below.refl _ _)) | (with_reducible refine Below.drew ?_) | (with_reducible refine Below.alloc ?_ ?_ _; rotate_left; ((try simp) <;> (try omega))))))) ?_
            clear hK K'
            try simp only [Act.put, List.getElem_toArray, List.getElem_cons_zero, List.getElem_cons_succ, List.setIfInBounds_toArray, List.set_cons_zero, List.set_cons_succ]
            refine wpAnyG_takeW (i := 15) (v := ?_) rfl (by kernel_rfl) (by kernel_rfl) (by kernel_rfl) (fun _ _ _ h => h) (Or.inl ⟨by rfl, ?_⟩) ?_
            rotate_left
            · intro w' hSw
              go_simp
              try (with_reducible rfl)
            try simp only [Act.put, List.getElem_toArray, List.getElem_cons_zero, List.getElem_cons_succ, List.setIfInBounds_toArray, List.set_cons_zero, List.set_cons_succ]
            refine wpAnyG_br (rs := [17]) (by kernel_rfl) (by simp) ?_
            intro j hj
            simp only [List.mem_cons, List.not_mem_nil, or_false] at hj
            subst hj
            refine ⟨_, rfl, fun K' hK => ?_⟩
            simp only [List.getElem_toArray, List.getElem_cons_zero, List.getElem_cons_succ]
            go_simp
            refine hK.out _ _ (Or.inl rfl) ?_
            clear hK K'
            try simp only [Act.put, List.getElem_toArray, List.getElem_cons_zero, List.getElem_cons_succ, List.setIfInBounds_toArray, List.set_cons_zero, List.set_cons_succ]
            refine wpAnyG_done (by kernel_rfl) ?_ _
            go_wp2_with fail
            go_meet
            refine ⟨_, _, _, _, rfl, rfl, rfl, rfl, by simp [go_sem], by simp [go_sem], by simp [go_sem], by simp [go_sem], by simp [go_sem], by simp [go_sem], by simp [go_sem], by simp [go_sem], by simp [go_sem], by simp [go_sem], by simp [go_sem], by simp [go_sem], by simp [go_sem], fun o => by simp [go_sem], ?_, by (try simp); try omega, by (try simp); try omega, by (try simp); try omega, by (try simp); try omega, by (try simp); try omega, ?_⟩
            · repeat (first | (with_reducible exact fresh_lit' _ _ (by simp) c hc5) | (with_reducible refine FreshIn.drew ?_) | (with_reducible refine FreshIn.alloc ?_ _))
            · (repeat (first | (with_reducible exact Below.refl _ _) | (with_reducible exact Below.drew (Below.refl _ _)) | (with_reducible refine Below.drew ?_) | (with_reducible refine Below.alloc ?_ ?_ _; rotate_left; ((try simp) <;> (try omega)))))
        · skip
          refine ⟨_, rfl, fun K' hK => ?_⟩
          simp only [List.getElem_toArray, List.getElem_cons_zero, List.getElem_cons_succ]
          go_simp
          refine hK.out _ _ (Or.inr (by (repeat (first | (with_reducible exact Below.refl _ _) | (with_reducible exact Below.drew (Below.refl _ _)) | (with_reducible refine Below.drew ?_) | (with_reducible refine Below.alloc ?_ ?_ _; rotate_left; ((try simp) <;> (try omega))))))) ?_
          clear hK K'
          try simp only [Act.put, List.getElem_toArray, List.getElem_cons_zero, List.getElem_cons_succ, List.setIfInBounds_toArray, List.set_cons_zero, List.set_cons_succ]
          refine wpAnyG_br (rs := [6]) (by kernel_rfl) (by simp) ?_
          intro j hj
          simp only [List.mem_cons, List.not_mem_nil, or_false] at hj
          rcases hj with rfl
          · skip
            refine ⟨_, rfl, fun K' hK => ?_⟩
            simp only [List.getElem_toArray, List.getElem_cons_zero, List.getElem_cons_succ]
            go_simp
            refine hK.out _ _ (Or.inr (by (repeat (first | (with_reducible exact Below.refl _ _) | (with_reducible exact Below.drew (Below.refl _ _)) | (with_reducible refine Below.drew ?_) | (with_reducible refine Below.alloc ?_ ?_ _; rotate_left; ((try simp) <;> (try omega))))))) ?_
            clear hK K'
            try simp only [Act.put, List.getElem_toArray, List.getElem_cons_zero, List.getElem_cons_succ, List.setIfInBounds_toArray, List.set_cons_zero, List.set_cons_succ]
            refine wpAnyG_takeW (i := 9) (v := .slice (some ⟨w2.heap.size + 1 + 1 + 1, 0, none⟩) 0 0) rfl (by kernel_rfl) (by kernel_rfl) (by kernel_rfl) (fun _ _ _ h => h) (Or.inl ⟨by rfl, ?_⟩) ?_
            · intro w' hSw
              refine exec_append_no (.tmp 15) (.tmp 17) 51 51 76 76 ie ?_ Try.underlying51 Try.underlying51 hie (w2.heap.size + 1 + 1 + 1) ?_ ?_
              · rfl
              · rfl
              · rfl
            try simp only [Act.put, List.getElem_toArray, List.getElem_cons_zero, List.getElem_cons_succ, List.setIfInBounds_toArray, List.set_cons_zero, List.set_cons_succ]
            refine wpAnyG_takeW (i := 15) (v := ?_) rfl (by kernel_rfl) (by kernel_rfl) (by kernel_rfl) (fun _ _ _ h => h) (Or.inl ⟨by rfl, ?_⟩) ?_
            rotate_left
            · intro w' hSw
              go_simp
              try (with_reducible rfl)
            try simp only [Act.put, List.getElem_toArray, List.getElem_cons_zero, List.getElem_cons_succ, List.setIfInBounds_toArray, List.set_cons_zero, List.set_cons_succ]
            refine wpAnyG_br (rs := [17]) (by kernel_rfl) (by simp) ?_
            intro j hj
            simp only [List.mem_cons, List.not_mem_nil, or_false] at hj
            subst hj
            refine ⟨_, rfl, fun K' hK => ?_⟩
            simp only [List.getElem_toArray, List.getElem_cons_zero, List.getElem_cons_succ]
            go_simp
            refine hK.out _ _ (Or.inl rfl) ?_
            clear hK K'
            try simp only [Act.put, List.getElem_toArray, List.getElem_cons_zero, List.getElem_cons_succ, List.setIfInBounds_toArray, List.set_cons_zero, List.set_cons_succ]
            refine wpAnyG_done (by kernel_rfl) ?_ _
            go_wp2_with fail
            go_meet
            refine ⟨_, _, _, _, rfl, rfl, rfl, rfl, by simp [go_sem], by simp [go_sem], by simp [go_sem], by simp [go_sem], by simp [go_sem], by simp [go_sem], by simp [go_sem], by simp [go_sem], by simp [go_sem], by simp [go_sem], by simp [go_sem], by simp [go_sem], by simp [go_sem], fun o => by simp [go_sem], ?_, by (try simp); try omega, by (try simp); try omega, by (try simp); try omega, by (try simp); try omega, by (try simp); try omega, ?_⟩
            · repeat (first | (with_reducible exact fresh_lit' _ _ (by simp) c hc5) | (with_reducible refine FreshIn.drew ?_) | (with_reducible refine FreshIn.alloc ?_ _))
            · (repeat (first | (with_reducible exact Below.refl _ _) | (with_reducible exact Below.drew (Below.refl _ _)) | (with_reducible refine Below.drew ?_) | (with_reducible refine Below.alloc ?_ ?_ _; rotate_left; ((try simp) <;> (try omega)))))
    · skip
      refine ⟨_, rfl, fun K' hK => ?_⟩
      simp only [List.getElem_toArray, List.getElem_cons_zero, List.getElem_cons_succ]
      go_simp
      refine hK.out _ _ (Or.inr (by (repeat (first | (with_reducible exact Below.refl _ _) | (with_reducible exact Below.drew (Below.refl _ _)) | (with_reducible refine Below.drew ?_) | (with_reducible refine Below.alloc ?_ ?_ _; rotate_left; ((try simp) <;> (try omega))))))) ?_
      clear hK K'
      try simp only [Act.put, List.getElem_toArray, List.getElem_cons_zero, List.getElem_cons_succ, List.setIfInBounds_toArray, List.set_cons_zero, List.set_cons_succ]
      refine wpAnyG_br (rs := [6, 12, 16]) (by kernel_rfl) (by simp) ?_
      intro j hj
      simp only [List.mem_cons, List.not_mem_nil, or_false] at hj
      rcases hj with rfl | rfl | rfl
      · skip
        refine ⟨_, rfl, fun K' hK => ?_⟩
        simp only [List.getElem_toArray, List.getElem_cons_zero, List.getElem_cons_succ]
        go_simp
        refine hK.out _ _ (Or.inr (by (repeat (first | (with_reducible exact Below.refl _ _) | (with_reducible exact Below.drew (Below.refl _ _)) | (with_reducible refine Below.drew ?_) | (with_reducible refine Below.alloc ?_ ?_ _; rotate_left; ((try simp) <;> (try omega))))))) ?_
        clear hK K'
        try simp only [Act.put, List.getElem_toArray, List.getElem_cons_zero, List.getElem_cons_succ, List.setIfInBounds_toArray, List.set_cons_zero, List.set_cons_succ]
        refine wpAnyG_takeW (i := 9) (v := .slice (some ⟨w2.heap.size + 1, 0, none⟩) 0 0) rfl (by kernel_rfl) (by kernel_rfl) (by kernel_rfl) (fun _ _ _ h => h) (Or.inl ⟨by rfl, ?_⟩) ?_
        · intro w' hSw
          refine exec_append_no (.tmp 15) (.tmp 17) 51 51 76 76 ie ?_ Try.underlying51 Try.underlying51 hie (w2.heap.size + 1) ?_ ?_
          · rfl
          · rfl
          · rfl
        try simp only [Act.put, List.getElem_toArray, List.getElem_cons_zero, List.getElem_cons_succ, List.setIfInBounds_toArray, List.set_cons_zero, List.set_cons_succ]
        refine wpAnyG_br (rs := [12, 16]) (by kernel_rfl) (by simp) ?_
        intro j hj
        simp only [List.mem_cons, List.not_mem_nil, or_false] at hj
        rcases hj with rfl | rfl
        · skip
          refine ⟨_, rfl, fun K' hK => ?_⟩
          simp only [List.getElem_toArray, List.getElem_cons_zero, List.getElem_cons_succ]
          go_simp
          refine hK.out _ _ (Or.inr (by (repeat (first | (with_reducible exact Below.refl _ _) | (with_reducible exact Below.drew (Below.refl _ _)) | (with_reducible refine Below.drew ?_) | (with_reducible refine Below.alloc ?_ ?_ _; rotate_left; ((try simp) <;> (try omega))))))) ?_
          clear hK K'
          try simp only [Act.put, List.getElem_toArray, List.getElem_cons_zero, List.getElem_cons_succ, List.setIfInBounds_toArray, List.set_cons_zero, List.set_cons_succ]
          refine wpAnyG_takeW (i := 15) (v := ?_) rfl (by kernel_rfl) (by kernel_rfl) (by kernel_rfl) (fun _ _ _ h => h) (Or.inl ⟨by rfl, ?_⟩) ?_
          rotate_left
          · intro w' hSw
            go_simp
            try (with_reducible rfl)
          try simp only [Act.put, List.getElem_toArray, List.getElem_cons_zero, List.getElem_cons_succ, List.setIfInBounds_toArray, List.set_cons_zero, List.set_cons_succ]
          refine wpAnyG_br (rs := [16]) (by kernel_rfl) (by simp) ?_
          intro j hj
          simp only [List.mem_cons, List.not_mem_nil, or_false] at hj
          rcases hj with rfl
          · skip
            refine ⟨_, rfl, fun K' hK => ?_⟩
            simp only [List.getElem_toArray, List.getElem_cons_zero, List.getElem_cons_succ]
            go_simp
            refine hK.out _ _ (Or.inr (by (repeat (first | (with_reducible exact Below.refl _ _) | (with_reducible exact Below.drew (Below.refl _ _)) | (with_reducible refine Below.drew ?_) | (with_reducible refine Below.alloc ?_ ?_ _; rotate_left; ((try simp) <;> (try omega))))))) ?_
            clear hK K'
            try simp only [Act.put, List.getElem_toArray, List.getElem_cons_zero, List.getElem_cons_succ, List.setIfInBounds_toArray, List.set_cons_zero, List.set_cons_succ]
            refine wpAnyG_br (rs := [17]) (by kernel_rfl) (by simp) ?_
            intro j hj
            simp only [List.mem_cons, List.not_mem_nil, or_false] at hj
            subst hj
            refine ⟨_, rfl, fun K' hK => ?_⟩
            simp only [List.getElem_toArray, List.getElem_cons_zero, List.getElem_cons_succ]
            go_simp
            refine hK.out _ _ (Or.inl rfl) ?_
            clear hK K'
            try simp only [Act.put, List.getElem_toArray, List.getElem_cons_zero, List.getElem_cons_succ, List.setIfInBounds_toArray, List.set_cons_zero, List.set_cons_succ]
            refine wpAnyG_done (by kernel_rfl) ?_ _
            go_wp2_with fail
            go_meet
            refine ⟨_, _, _, _, rfl, rfl, rfl, rfl, by simp [go_sem], by simp [go_sem], by simp [go_sem], by simp [go_sem], by simp [go_sem], by simp [go_sem], by simp [go_sem], by simp [go_sem], by simp [go_sem], by simp [go_sem], by simp [go_sem], by simp [go_sem], by simp [go_sem], fun o => by simp [go_sem], ?_, by (try simp); try omega, by (try simp); try omega, by (try simp); try omega, by (try simp); try omega, by (try simp); try omega, ?_⟩
            · repeat (first | (with_reducible exact fresh_lit' _ _ (by simp) c hc5) | (with_reducible refine FreshIn.drew ?_) | (with_reducible refine FreshIn.alloc ?_ _))
            · (repeat (first | (with_reducible exact Below.refl _ _) | (with_reducible exact Below.drew (Below.refl _ _)) | (with_reducible refine Below.drew ?_) | (with_reducible refine Below.alloc ?_ ?_ _; rotate_left; ((try simp) <;> (try omega)))))
        · skip
          refine ⟨_, rfl, fun K' hK => ?_⟩
          simp only [List.getElem_toArray, List.getElem_cons_zero, List.getElem_cons_succ]
          go_simp
          refine hK.out _ _ (Or.inr (by (repeat (first | (with_reducible exact Below.refl _ _) | (with_reducible exact Below.drew (Below.refl _ _)) | (with_reducible refine Below.drew ?_) | (with_reducible refine Below.alloc ?_ ?_ _; rotate_left; ((try simp) <;> (try omega))))))) ?_
          clear hK K'
          try simp only [Act.put, List.getElem_toArray, List.getElem_cons_zero, List.getElem_cons_succ, List.setIfInBounds_toArray, List.set_cons_zero, List.set_cons_succ]
          refine wpAnyG_br (rs := [12]) (by kernel_rfl) (by simp) ?_
          intro j hj
          simp only [List.mem_cons, List.not_mem_nil, or_false] at hj
          rcases hj with rfl
          · skip
            refine ⟨_, rfl, fun K' hK => ?_⟩
            simp only [List.getElem_toArray, List.getElem_cons_zero, List.getElem_cons_succ]
            go_simp
            refine hK.out _ _ (Or.inr (by (repeat (first | (with_reducible exact Below.refl _ _) | (with_reducible exact Below.drew (Below.refl _ _)) | (with_reducible refine Below.drew ?_) | (with_reducible refine Below.alloc ?_ ?_ _; rotate_left; ((try simp) <;> (try omega))))))) ?_
            clear hK K'
            try simp only [Act.put, List.getElem_toArray, List.getElem_cons_zero, List.getElem_cons_succ, List.setIfInBounds_toArray, List.set_cons_zero, List.set_cons_succ]
            refine wpAnyG_takeW (i := 15) (v := ?_) rfl (by kernel_rfl) (by kernel_rfl) (by kernel_rfl) (fun _ _ _ h => h) (Or.inl ⟨by rfl, ?_⟩) ?_
            rotate_left
            · intro w' hSw
              go_simp
              try (with_reducible rfl)
            try simp only [Act.put, List.getElem_toArray, List.getElem_cons_zero, List.getElem_cons_succ, List.setIfInBounds_toArray, List.set_cons_zero, List.set_cons_succ]
            refine wpAnyG_br (rs := [17]) (by kernel_rfl) (by simp) ?_
            intro j hj
            simp only [List.mem_cons, List.not_mem_nil, or_false] at hj
            subst hj
            refine ⟨_, rfl, fun K' hK => ?_⟩
            simp only [List.getElem_toArray, List.getElem_cons_zero, List.getElem_cons_succ]
            go_simp
            refine hK.out _ _ (Or.inl rfl) ?_
            clear hK K'
            try simp only [Act.put, List.getElem_toArray, List.getElem_cons_zero, List.getElem_cons_succ, List.setIfInBounds_toArray, List.set_cons_zero, List.set_cons_succ]
            refine wpAnyG_done (by kernel_rfl) ?_ _
            go_wp2_with fail
            go_meet
            refine ⟨_, _, _, _, rfl, rfl, rfl, rfl, by simp [go_sem], by simp [go_sem], by simp [go_sem], by simp [go_sem], by simp [go_sem], by simp [go_sem], by simp [go_sem], by simp [go_sem], by simp [go_sem], by simp [go_sem], by simp [go_sem], by simp [go_sem], by simp [go_sem], fun o => by simp [go_sem], ?_, by (try simp); try omega, by (try simp); try omega, by (try simp); try omega, by (try simp); try omega, by (try simp); try omega, ?_⟩
            · repeat (first | (with_reducible exact fresh_lit' _ _ (by simp) c hc5) | (with_reducible refine FreshIn.drew ?_) | (with_reducible refine FreshIn.alloc ?_ _))
            · (repeat (first | (with_reducible exact Below.refl _ _) | (with_reducible exact Below.drew (Below.refl _ _)) | (with_reducible refine Below.drew ?_) | (with_reducible refine Below.alloc ?_ ?_ _; rotate_left; ((try simp) <;> (try omega)))))
      · skip
        refine ⟨_, rfl, fun K' hK => ?_⟩
        simp only [List.getElem_toArray, List.getElem_cons_zero, List.getElem_cons_succ]
        go_simp
        refine hK.out _ _ (Or.inr (by (repeat (first | (with_reducible exact Below.refl _ _) | (with_reducible exact Below.drew (Below.refl _ _)) | (with_reducible refine Below.drew ?_) | (with_reducible refine Below.alloc ?_ ?_ _; rotate_left; ((try simp) <;> (try omega))))))) ?_
        clear hK K'
        try simp only [Act.put, List.getElem_toArray, List.getElem_cons_zero, List.getElem_cons_succ, List.setIfInBounds_toArray, List.set_cons_zero, List.set_cons_succ]
        refine wpAnyG_br (rs := [6, 16]) (by kernel_rfl) (by simp) ?_
        intro j hj
        simp only [List.mem_cons, List.not_mem_nil, or_false] at hj
        rcases hj with rfl | rfl
        · skip
          refine ⟨_, rfl, fun K' hK => ?_⟩
          simp only [List.getElem_toArray, List.getElem_cons_zero, List.getElem_cons_succ]
          go_simp
          refine hK.out _ _ (Or.inr (by (repeat (first | (with_reducible exact Below.refl _ _) | (with_reducible exact Below.drew (Below.refl _ _)) | (with_reducible refine Below.drew ?_) | (with_reducible refine Below.alloc ?_ ?_ _; rotate_left; ((try simp) <;> (try omega))))))) ?_
          clear hK K'
          try simp only [Act.put, List.getElem_toArray, List.getElem_cons_zero, List.getElem_cons_succ, List.setIfInBounds_toArray, List.set_cons_zero, List.set_cons_succ]
          refine wpAnyG_takeW (i := 9) (v := .slice (some ⟨w2.heap.size + 1 + 1, 0, none⟩) 0 0) rfl (by kernel_rfl) (by kernel_rfl) (by kernel_rfl) (fun _ _ _ h => h) (Or.inl ⟨by rfl, ?_⟩) ?_
          · intro w' hSw
            refine exec_append_no (.tmp 15) (.tmp 17) 51 51 76 76 ie ?_ Try.underlying51 Try.underlying51 hie (w2.heap.size + 1 + 1) ?_ ?_
            · rfl
            · rfl
            · rfl
          try simp only [Act.put, List.getElem_toArray, List.getElem_cons_zero, List.getElem_cons_succ, List.setIfInBounds_toArray, List.set_cons_zero, List.set_cons_succ]
          refine wpAnyG_takeW (i := 15) (v := ?_) rfl (by kernel_rfl) (by kernel_rfl) (by kernel_rfl) (fun _ _ _ h => h) (Or.inl ⟨by rfl, ?_⟩) ?_
          rotate_left
          · intro w' hSw
            go_simp
            try (with_reducible rfl)
          try simp only [Act.put, List.getElem_toArray, List.getElem_cons_zero, List.getElem_cons_succ, List.setIfInBounds_toArray, List.set_cons_zero, List.set_cons_succ]
          refine wpAnyG_br (rs := [16]) (by kernel_rfl) (by simp) ?_
          intro j hj
          simp only [List.mem_cons, List.not_mem_nil, or_false] at hj
          rcases hj with rfl
          · skip
            refine ⟨_, rfl, fun K' hK => ?_⟩
            simp only [List.getElem_toArray, List.getElem_cons_zero, List.getElem_cons_succ]
            go_simp
            refine hK.out _ _ (Or.inr (by (repeat (first | (with_reducible exact Below.refl _ _) | (with_reducible exact Below.drew (Below.refl _ _)) | (with_reducible refine Below.drew ?_) | (with_reducible refine Below.alloc ?_ ?_ _; rotate_left; ((try simp) <;> (try omega))))))) ?_
            clear hK K'
            try simp only [Act.put, List.getElem_toArray, List.getElem_cons_zero, List.getElem_cons_succ, List.setIfInBounds_toArray, List.set_cons_zero, List.set_cons_succ]
            refine wpAnyG_br (rs := [17]) (by kernel_rfl) (by simp) ?_
            intro j hj
            simp only [List.mem_cons, List.not_mem_nil, or_false] at hj
            subst hj
            refine ⟨_, rfl, fun K' hK => ?_⟩
            simp only [List.getElem_toArray, List.getElem_cons_zero, List.getElem_cons_succ]
            go_simp
            refine hK.out _ _ (Or.inl rfl) ?_
            clear hK K'
            try simp only [Act.put, List.getElem_toArray, List.getElem_cons_zero, List.getElem_cons_succ, List.setIfInBounds_toArray, List.set_cons_zero, List.set_cons_succ]
            refine wpAnyG_done (by kernel_rfl) ?_ _
            go_wp2_with fail
            go_meet
            refine ⟨_, _, _, _, rfl, rfl, rfl, rfl, by simp [go_sem], by simp [go_sem], by simp [go_sem], by simp [go_sem], by simp [go_sem], by simp [go_sem], by simp [go_sem], by simp [go_sem], by simp [go_sem], by simp [go_sem], by simp [go_sem], by simp [go_sem], by simp [go_sem], fun o => by simp [go_sem], ?_, by (try simp); try omega, by (try simp); try omega, by (try simp); try omega, by (try simp); try omega, by (try simp); try omega, ?_⟩
            · repeat (first | (with_reducible exact fresh_lit' _ _ (by simp) c hc5) | (with_reducible refine FreshIn.drew ?_) | (with_reducible refine FreshIn.alloc ?_ _))
            · (repeat (first | (with_reducible exact Below.refl _ _) | (with_reducible exact Below.drew (Below.refl _ _)) | (with_reducible refine Below.drew ?_) | (with_reducible refine Below.alloc ?_ ?_ _; rotate_left; ((try simp) <;> (try omega)))))
        · skip
          refine ⟨_, rfl, fun K' hK => ?_⟩
          simp only [List.getElem_toArray, List.getElem_cons_zero, List.getElem_cons_succ]
          go_simp
          refine hK.out _ _ (Or.inr (by (repeat (first | (with_reducible exact Below.refl _ _) | (with_reducible exact Below.drew (Below.refl _ _)) | (with_reducible refine Below.drew ?_) | (with_reducible refine Below.alloc ?_ ?_ _; rotate_left; ((try simp) <;> (try omega))))))) ?_
          clear hK K'
          try simp only [Act.put, List.getElem_toArray, List.getElem_cons_zero, List.getElem_cons_succ, List.setIfInBounds_toArray, List.set_cons_zero, List.set_cons_succ]
          refine wpAnyG_br (rs := [6]) (by kernel_rfl) (by simp) ?_
          intro j hj
          simp only [List.mem_cons, List.not_mem_nil, or_false] at hj
          rcases hj with rfl
          · skip
            refine ⟨_, rfl, fun K' hK => ?_⟩
            simp only [List.getElem_toArray, List.getElem_cons_zero, List.getElem_cons_succ]
            go_simp
            refine hK.out _ _ (Or.inr (by (repeat (first | (with_reducible exact Below.refl _ _) | (with_reducible exact Below.drew (Below.refl _ _)) | (with_reducible refine Below.drew ?_) | (with_reducible refine Below.alloc ?_ ?_ _; rotate_left; ((try simp) <;> (try omega))))))) ?_
            clear hK K'
            try simp only [Act.put, List.getElem_toArray, List.getElem_cons_zero, List.getElem_cons_succ, List.setIfInBounds_toArray, List.set_cons_zero, List.set_cons_succ]
            refine wpAnyG_takeW (i := 9) (v := .slice (some ⟨w2.heap.size + 1 + 1 + 1, 0, none⟩) 0 0) rfl (by kernel_rfl) (by kernel_rfl) (by kernel_rfl) (fun _ _ _ h => h) (Or.inl ⟨by rfl, ?_⟩) ?_
            · intro w' hSw
              refine exec_append_no (.tmp 15) (.tmp 17) 51 51 76 76 ie ?_ Try.underlying51 Try.underlying51 hie (w2.heap.size + 1 + 1 + 1) ?_ ?_
              · rfl
              · rfl
              · rfl
            try simp only [Act.put, List.getElem_toArray, List.getElem_cons_zero, List.getElem_cons_succ, List.setIfInBounds_toArray, List.set_cons_zero, List.set_cons_succ]
            refine wpAnyG_takeW (i := 15) (v := ?_) rfl (by kernel_rfl) (by kernel_rfl) (by kernel_rfl) (fun _ _ _ h => h) (Or.inl ⟨by rfl, ?_⟩) ?_
            rotate_left
            · intro w' hSw
              go_simp
              try (with_reducible rfl)
            try simp only [Act.put, List.getElem_toArray, List.getElem_cons_zero, List.getElem_cons_succ, List.setIfInBounds_toArray, List.set_cons_zero, List.set_cons_succ]
            refine wpAnyG_br (rs := [17]) (by kernel_rfl) (by simp) ?_
            intro j hj
            simp only [List.mem_cons, List.not_mem_nil, or_false] at hj
            subst hj
            refine ⟨_, rfl, fun K' hK => ?_⟩
            simp only [List.getElem_toArray, List.getElem_cons_zero, List.getElem_cons_succ]
            go_simp
            refine hK.out _ _ (Or.inl rfl) ?_
            clear hK K'
            try simp only [Act.put, List.getElem_toArray, List.getElem_cons_zero, List.getElem_cons_succ, List.setIfInBounds_toArray, List.set_cons_zero, List.set_cons_succ]
            refine wpAnyG_done (by kernel_rfl) ?_ _
            go_wp2_with fail
            go_meet
            refine ⟨_, _, _, _, rfl, rfl, rfl, rfl, by simp [go_sem], by simp [go_sem], by simp [go_sem], by simp [go_sem], by simp [go_sem], by simp [go_sem], by simp [go_sem], by simp [go_sem], by simp [go_sem], by simp [go_sem], by simp [go_sem], by simp [go_sem], by simp [go_sem], fun o => by simp [go_sem], ?_, by (try simp); try omega, by (try simp); try omega, by (try simp); try omega, by (try simp); try omega, by (try simp); try omega, ?_⟩
            · repeat (first | (with_reducible exact fresh_lit' _ _ (by simp) c hc5) | (with_reducible refine FreshIn.drew ?_) | (with_reducible refine FreshIn.alloc ?_ _))
            · (repeat (first | (with_reducible exact Below.refl _ _) | (with_reducible exact Below.drew (Below.refl _ _)) | (with_reducible refine Below.drew ?_) | (with_reducible refine Below.alloc ?_ ?_ _; rotate_left; ((try simp) <;> (try omega)))))
      · skip
        refine ⟨_, rfl, fun K' hK => ?_⟩
        simp only [List.getElem_toArray, List.getElem_cons_zero, List.getElem_cons_succ]
        go_simp
        refine hK.out _ _ (Or.inr (by (repeat (first | (with_reducible exact Below.refl _ _) | (with_reducible exact Below.drew (Below.refl _ _)) | (with_reducible refine Below.drew ?_) | (with_reducible refine Below.alloc ?_ ?_ _; rotate_left; ((try simp) <;> (try omega))))))) ?_
        clear hK K'
        try simp only [Act.put, List.getElem_toArray, List.getElem_cons_zero, List.getElem_cons_succ, List.setIfInBounds_toArray, List.set_cons_zero, List.set_cons_succ]
        refine wpAnyG_br (rs := [6, 12]) (by kernel_rfl) (by simp) ?_
        intro j hj
        simp only [List.mem_cons, List.not_mem_nil, or_false] at hj
        rcases hj with rfl | rfl
        · skip
          refine ⟨_, rfl, fun K' hK => ?_⟩
          simp only [List.getElem_toArray, List.getElem_cons_zero, List.getElem_cons_succ]
          go_simp
          refine hK.out _ _ (Or.inr (by (repeat (first | (with_reducible exact Below.refl _ _) | (with_reducible exact Below.drew (Below.refl _ _)) | (with_reducible refine Below.drew ?_) | (with_reducible refine Below.alloc ?_ ?_ _; rotate_left; ((try simp) <;> (try omega))))))) ?_
          clear hK K'
          try simp only [Act.put, List.getElem_toArray, List.getElem_cons_zero, List.getElem_cons_succ, List.setIfInBounds_toArray, List.set_cons_zero, List.set_cons_succ]
          refine wpAnyG_takeW (i := 9) (v := .slice (some ⟨w2.heap.size + 1 + 1, 0, none⟩) 0 0) rfl (by kernel_rfl) (by kernel_rfl) (by kernel_rfl) (fun _ _ _ h => h) (Or.inl ⟨by rfl, ?_⟩) ?_
          · intro w' hSw
            refine exec_append_no (.tmp 15) (.tmp 17) 51 51 76 76 ie ?_ Try.underlying51 Try.underlying51 hie (w2.heap.size + 1 + 1) ?_ ?_
            · rfl
            · rfl
            · rfl
          try simp only [Act.put, List.getElem_toArray, List.getElem_cons_zero, List.getElem_cons_succ, List.setIfInBounds_toArray, List.set_cons_zero, List.set_cons_succ]
          refine wpAnyG_br (rs := [12]) (by kernel_rfl) (by simp) ?_
          intro j hj
          simp only [List.mem_cons, List.not_mem_nil, or_false] at hj
          rcases hj with rfl
          · skip
            refine ⟨_, rfl, fun K' hK => ?_⟩
            simp only [List.getElem_toArray, List.getElem_cons_zero, List.getElem_cons_succ]
            go_simp
            refine hK.out _ _ (Or.inr (by (repeat (first | (with_reducible exact Below.refl _ _) | (with_reducible exact Below.drew (Below.refl _ _)) | (with_reducible refine Below.drew ?_) | (with_reducible refine Below.alloc ?_ ?_ _; rotate_left; ((try simp) <;> (try omega))))))) ?_
            clear hK K'
            try simp only [Act.put, List.getElem_toArray, List.getElem_cons_zero, List.getElem_cons_succ, List.setIfInBounds_toArray, List.set_cons_zero, List.set_cons_succ]
            refine wpAnyG_takeW (i := 15) (v := ?_) rfl (by kernel_rfl) (by kernel_rfl) (by kernel_rfl) (fun _ _ _ h => h) (Or.inl ⟨by rfl, ?_⟩) ?_
            rotate_left
            · intro w' hSw
              go_simp
              try (with_reducible rfl)
            try simp only [Act.put, List.getElem_toArray, List.getElem_cons_zero, List.getElem_cons_succ, List.setIfInBounds_toArray, List.set_cons_zero, List.set_cons_succ]
            refine wpAnyG_br (rs := [17]) (by kernel_rfl) (by simp) ?_
            intro j hj
            simp only [List.mem_cons, List.not_mem_nil, or_false] at hj
            subst hj
            refine ⟨_, rfl, fun K' hK => ?_⟩
            simp only [List.getElem_toArray, List.getElem_cons_zero, List.getElem_cons_succ]
            go_simp
            refine hK.out _ _ (Or.inl rfl) ?_
            clear hK K'
            try simp only [Act.put, List.getElem_toArray, List.getElem_cons_zero, List.getElem_cons_succ, List.setIfInBounds_toArray, List.set_cons_zero, List.set_cons_succ]
            refine wpAnyG_done (by kernel_rfl) ?_ _
            go_wp2_with fail
            go_meet
            refine ⟨_, _, _, _, rfl, rfl, rfl, rfl, by simp [go_sem], by simp [go_sem], by simp [go_sem], by simp [go_sem], by simp [go_sem], by simp [go_sem], by simp [go_sem], by simp [go_sem], by simp [go_sem], by simp [go_sem], by simp [go_sem], by simp [go_sem], by simp [go_sem], fun o => by simp [go_sem], ?_, by (try simp); try omega, by (try simp); try omega, by (try simp); try omega, by (try simp); try omega, by (try simp); try omega, ?_⟩
            · repeat (first | (with_reducible exact fresh_lit' _ _ (by simp) c hc5) | (with_reducible refine FreshIn.drew ?_) | (with_reducible refine FreshIn.alloc ?_ _))
            · (repeat (first | (with_reducible exact Below.refl _ _) | (with_reducible exact Below.drew (Below.refl _ _)) | (with_reducible refine Below.drew ?_) | (with_reducible refine Below.alloc ?_ ?_ _; rotate_left; ((try simp) <;> (try omega)))))
        · skip
          refine ⟨_, rfl, fun K' hK => ?_⟩
          simp only [List.getElem_toArray, List.getElem_cons_zero, List.getElem_cons_succ]
          go_simp
          refine hK.out _ _ (Or.inr (by (repeat (first | (with_reducible exact Below.refl _ _) | (with_reducible exact Below.drew (Below.refl _ _)) | (with_reducible refine Below.drew ?_) | (with_reducible refine Below.alloc ?_ ?_ _; rotate_left; ((try simp) <;> (try omega))))))) ?_
          clear hK K'
          try simp only [Act.put, List.getElem_toArray, List.getElem_cons_zero, List.getElem_cons_succ, List.setIfInBounds_toArray, List.set_cons_zero, List.set_cons_succ]
          refine wpAnyG_br (rs := [6]) (by kernel_rfl) (by simp) ?_
          intro j hj
          simp only [List.mem_cons, List.not_mem_nil, or_false] at hj
          rcases hj with rfl
          · skip
            refine ⟨_, rfl, fun K' hK => ?_⟩
            simp only [List.getElem_toArray, List.getElem_cons_zero, List.getElem_cons_succ]
            go_simp
            refine hK.out _ _ (Or.inr (by (repeat (first | (with_reducible exact Below.refl _ _) | (with_reducible exact Below.drew (Below.refl _ _)) | (with_reducible refine Below.drew ?_) | (with_reducible refine Below.alloc ?_ ?_ _; rotate_left; ((try simp) <;> (try omega))))))) ?_
            clear hK K'
            try simp only [Act.put, List.getElem_toArray, List.getElem_cons_zero, List.getElem_cons_succ, List.setIfInBounds_toArray, List.set_cons_zero, List.set_cons_succ]
            refine wpAnyG_takeW (i := 9) (v := .slice (some ⟨w2.heap.size + 1 + 1 + 1, 0, none⟩) 0 0) rfl (by kernel_rfl) (by kernel_rfl) (by kernel_rfl) (fun _ _ _ h => h) (Or.inl ⟨by rfl, ?_⟩) ?_
            · intro w' hSw
              refine exec_append_no (.tmp 15) (.tmp 17) 51 51 76 76 ie ?_ Try.underlying51 Try.underlying51 hie (w2.heap.size + 1 + 1 + 1) ?_ ?_
              · rfl
              · rfl
              · rfl
            try simp only [Act.put, List.getElem_toArray, List.getElem_cons_zero, List.getElem_cons_succ, List.setIfInBounds_toArray, List.set_cons_zero, List.set_cons_succ]
            refine wpAnyG_takeW (i := 15) (v := ?_) rfl (by kernel_rfl) (by kernel_rfl) (by kernel_rfl) (fun _ _ _ h => h) (Or.inl ⟨by rfl, ?_⟩) ?_
            rotate_left
            · intro w' hSw
              go_simp
              try (with_reducible rfl)
            try simp only [Act.put, List.getElem_toArray, List.getElem_cons_zero, List.getElem_cons_succ, List.setIfInBounds_toArray, List.set_cons_zero, List.set_cons_succ]
            refine wpAnyG_br (rs := [17]) (by kernel_rfl) (by simp) ?_
            intro j hj
            simp only [List.mem_cons, List.not_mem_nil, or_false] at hj
            subst hj
            refine ⟨_, rfl, fun K' hK => ?_⟩
            simp only [List.getElem_toArray, List.getElem_cons_zero, List.getElem_cons_succ]
            go_simp
            refine hK.out _ _ (Or.inl rfl) ?_
            clear hK K'
            try simp only [Act.put, List.getElem_toArray, List.getElem_cons_zero, List.getElem_cons_succ, List.setIfInBounds_toArray, List.set_cons_zero, List.set_cons_succ]
            refine wpAnyG_done (by kernel_rfl) ?_ _
            go_wp2_with fail
            go_meet
            refine ⟨_, _, _, _, rfl, rfl, rfl, rfl, by simp [go_sem], by simp [go_sem], by simp [go_sem], by simp [go_sem], by simp [go_sem], by simp [go_sem], by simp [go_sem], by simp [go_sem], by simp [go_sem], by simp [go_sem], by simp [go_sem], by simp [go_sem], by simp [go_sem], fun o => by simp [go_sem], ?_, by (try simp); try omega, by (try simp); try omega, by (try simp); try omega, by (try simp); try omega, by (try simp); try omega, ?_⟩
            · repeat (first | (with_reducible exact fresh_lit' _ _ (by simp) c hc5) | (with_reducible refine FreshIn.drew ?_) | (with_reducible refine FreshIn.alloc ?_ _))
            · (repeat (first | (with_reducible exact Below.refl _ _) | (with_reducible exact Below.drew (Below.refl _ _)) | (with_reducible refine Below.drew ?_) | (with_reducible refine Below.alloc ?_ ?_ _; rotate_left; ((try simp) <;> (try omega)))))
    · skip
      refine ⟨_, rfl, fun K' hK => ?_⟩
      simp only [List.getElem_toArray, List.getElem_cons_zero, List.getElem_cons_succ]
      go_simp
      refine hK.out _ _ (Or.inr (by (repeat (first | (with_reducible exact Below.refl _ _) | (with_reducible exact Below.drew (Below.refl _ _)) | (with_reducible refine Below.drew ?_) | (with_reducible refine Below.alloc ?_ ?_ _; rotate_left; ((try simp) <;> (try omega))))))) ?_
      clear hK K'
      try simp only [Act.put, List.getElem_toArray, List.getElem_cons_zero, List.getElem_cons_succ, List.setIfInBounds_toArray, List.set_cons_zero, List.set_cons_succ]
      refine wpAnyG_br (rs := [6, 12, 14]) (by kernel_rfl) (by simp) ?_
      intro j hj
      simp only [List.mem_cons, List.not_mem_nil, or_false] at hj
      rcases hj with rfl | rfl | rfl
      · skip
        refine ⟨_, rfl, fun K' hK => ?_⟩
        simp only [List.getElem_toArray, List.getElem_cons_zero, List.getElem_cons_succ]
        go_simp
        refine hK.out _ _ (Or.inr (by (repeat (first | (with_reducible exact Below.refl _ _) | (with_reducible exact Below.drew (Below.refl _ _)) | (with_reducible refine Below.drew ?_) | (with_reducible refine Below.alloc ?_ ?_ _; rotate_left; ((try simp) <;> (try omega))))))) ?_
        clear hK K'
        try simp only [Act.put, List.getElem_toArray, List.getElem_cons_zero, List.getElem_cons_succ, List.setIfInBounds_toArray, List.set_cons_zero, List.set_cons_succ]
        refine wpAnyG_takeW (i := 9) (v := .slice (some ⟨w2.heap.size + 1, 0, none⟩) 0 0) rfl (by kernel_rfl) (by kernel_rfl) (by kernel_rfl) (fun _ _ _ h => h) (Or.inl ⟨by rfl, ?_⟩) ?_
        · intro w' hSw
          refine exec_append_no (.tmp 15) (.tmp 17) 51 51 76 76 ie ?_ Try.underlying51 Try.underlying51 hie (w2.heap.size + 1) ?_ ?_
          · rfl
          · rfl
          · rfl
        try simp only [Act.put, List.getElem_toArray, List.getElem_cons_zero, List.getElem_cons_succ, List.setIfInBounds_toArray, List.set_cons_zero, List.set_cons_succ]
        refine wpAnyG_br (rs := [12, 14]) (by kernel_rfl) (by simp) ?_
        intro j hj
        simp only [List.mem_cons, List.not_mem_nil, or_false] at hj
        rcases hj with rfl | rfl
        · skip
          refine ⟨_, rfl, fun K' hK => ?_⟩
          simp only [List.getElem_toArray, List.getElem_cons_zero, List.getElem_cons_succ]
          go_simp
          refine hK.out _ _ (Or.inr (by (repeat (first | (with_reducible exact Below.refl _ _) | (with_reducible exact Below.drew (Below.refl _ _)) | (with_reducible refine Below.drew ?_) | (with_reducible refine Below.alloc ?_ ?_ _; rotate_left; ((try simp) <;> (try omega))))))) ?_
          clear hK K'
          try simp only [Act.put, List.getElem_toArray, List.getElem_cons_zero, List.getElem_cons_succ, List.setIfInBounds_toArray, List.set_cons_zero, List.set_cons_succ]
          refine wpAnyG_br (rs := [14]) (by kernel_rfl) (by simp) ?_
          intro j hj
          simp only [List.mem_cons, List.not_mem_nil, or_false] at hj
          rcases hj with rfl
          · skip
            refine ⟨_, rfl, fun K' hK => ?_⟩
            simp only [List.getElem_toArray, List.getElem_cons_zero, List.getElem_cons_succ]
            go_simp
            refine hK.out _ _ (Or.inr (by (repeat (first | (with_reducible exact Below.refl _ _) | (with_reducible exact Below.drew (Below.refl _ _)) | (with_reducible refine Below.drew ?_) | (with_reducible refine Below.alloc ?_ ?_ _; rotate_left; ((try simp) <;> (try omega))))))) ?_
            clear hK K'
            try simp only [Act.put, List.getElem_toArray, List.getElem_cons_zero, List.getElem_cons_succ, List.setIfInBounds_toArray, List.set_cons_zero, List.set_cons_succ]
            refine wpAnyG_takeW (i := 15) (v := ?_) rfl (by kernel_rfl) (by kernel_rfl) (by kernel_rfl) (fun _ _ _ h => h) (Or.inl ⟨by rfl, ?_⟩) ?_
            rotate_left
            · intro w' hSw
              go_simp
              try (with_reducible rfl)
            try simp only [Act.put, List.getElem_toArray, List.getElem_cons_zero, List.getElem_cons_succ, List.setIfInBounds_toArray, List.set_cons_zero, List.set_cons_succ]
            refine wpAnyG_br (rs := [17]) (by kernel_rfl) (by simp) ?_
            intro j hj
            simp only [List.mem_cons, List.not_mem_nil, or_false] at hj
            subst hj
            refine ⟨_, rfl, fun K' hK => ?_⟩
            simp only [List.getElem_toArray, List.getElem_cons_zero, List.getElem_cons_succ]
            go_simp
            refine hK.out _ _ (Or.inl rfl) ?_
            clear hK K'
            try simp only [Act.put, List.getElem_toArray, List.getElem_cons_zero, List.getElem_cons_succ, List.setIfInBounds_toArray, List.set_cons_zero, List.set_cons_succ]
            refine wpAnyG_done (by kernel_rfl) ?_ _
            go_wp2_with fail
            go_meet
            refine ⟨_, _, _, _, rfl, rfl, rfl, rfl, by simp [go_sem], by simp [go_sem], by simp [go_sem], by simp [go_sem], by simp [go_sem], by simp [go_sem], by simp [go_sem], by simp [go_sem], by simp [go_sem], by simp [go_sem], by simp [go_sem], by simp [go_sem], by simp [go_sem], fun o => by simp [go_sem], ?_, by (try simp); try omega, by (try simp); try omega, by (try simp); try omega, by (try simp); try omega, by (try simp); try omega, ?_⟩
            · repeat (first | (with_reducible exact fresh_lit' _ _ (by simp) c hc5) | (with_reducible refine FreshIn.drew ?_) | (with_reducible refine FreshIn.alloc ?_ _))
            · (repeat (first | (with_reducible exact Below.refl _ _) | (with_reducible exact Below.drew (Below.refl _ _)) | (with_reducible refine Below.drew ?_) | (with_reducible refine Below.alloc ?_ ?_ _; rotate_left; ((try simp) <;> (try omega)))))
        · skip
          refine ⟨_, rfl, fun K' hK => ?_⟩
          simp only [List.getElem_toArray, List.getElem_cons_zero, List.getElem_cons_succ]
          go_simp
          refine hK.out _ _ (Or.inr (by (repeat (first | (with_reducible exact Below.refl _ _) | (with_reducible exact Below.drew (Below.refl _ _)) | (with_reducible refine Below.drew ?_) | (with_reducible refine Below.alloc ?_ ?_ _; rotate_left; ((try simp) <;> (try omega))))))) ?_
          clear hK K'
          try simp only [Act.put, List.getElem_toArray, List.getElem_cons_zero, List.getElem_cons_succ, List.setIfInBounds_toArray, List.set_cons_zero, List.set_cons_succ]
          refine wpAnyG_br (rs := [12]) (by kernel_rfl) (by simp) ?_
          intro j hj
          simp only [List.mem_cons, List.not_mem_nil, or_false] at hj
          rcases hj with rfl
          · skip
            refine ⟨_, rfl, fun K' hK => ?_⟩
            simp only [List.getElem_toArray, List.getElem_cons_zero, List.getElem_cons_succ]
            go_simp
            refine hK.out _ _ (Or.inr (by (repeat (first | (with_reducible exact Below.refl _ _) | (with_reducible exact Below.drew (Below.refl _ _)) | (with_reducible refine Below.drew ?_) | (with_reducible refine Below.alloc ?_ ?_ _; rotate_left; ((try simp) <;> (try omega))))))) ?_
            clear hK K'
            try simp only [Act.put, List.getElem_toArray, List.getElem_cons_zero, List.getElem_cons_succ, List.setIfInBounds_toArray, List.set_cons_zero, List.set_cons_succ]
            refine wpAnyG_takeW (i := 15) (v := ?_) rfl (by kernel_rfl) (by kernel_rfl) (by kernel_rfl) (fun _ _ _ h => h) (Or.inl ⟨by rfl, ?_⟩) ?_
            rotate_left
            · intro w' hSw
              go_simp
              try (with_reducible rfl)
            try simp only [Act.put, List.getElem_toArray, List.getElem_cons_zero, List.getElem_cons_succ, List.setIfInBounds_toArray, List.set_cons_zero, List.set_cons_succ]
            refine wpAnyG_br (rs := [17]) (by kernel_rfl) (by simp) ?_
            intro j hj
            simp only [List.mem_cons, List.not_mem_nil, or_false] at hj
            subst hj
            refine ⟨_, rfl, fun K' hK => ?_⟩
            simp only [List.getElem_toArray, List.getElem_cons_zero, List.getElem_cons_succ]
            go_simp
            refine hK.out _ _ (Or.inl rfl) ?_
            clear hK K'
            try simp only [Act.put, List.getElem_toArray, List.getElem_cons_zero, List.getElem_cons_succ, List.setIfInBounds_toArray, List.set_cons_zero, List.set_cons_succ]
            refine wpAnyG_done (by kernel_rfl) ?_ _
            go_wp2_with fail
            go_meet
            refine ⟨_, _, _, _, rfl, rfl, rfl, rfl, by simp [go_sem], by simp [go_sem], by simp [go_sem], by simp [go_sem], by simp [go_sem], by simp [go_sem], by simp [go_sem], by simp [go_sem], by simp [go_sem], by simp [go_sem], by simp [go_sem], by simp [go_sem], by simp [go_sem], fun o => by simp [go_sem], ?_, by (try simp); try omega, by (try simp); try omega, by (try simp); try omega, by (try simp); try omega, by (try simp); try omega, ?_⟩
            · repeat (first | (with_reducible exact fresh_lit' _ _ (by simp) c hc5) | (with_reducible refine FreshIn.drew ?_) | (with_reducible refine FreshIn.alloc ?_ _))
            · (repeat (first | (with_reducible exact Below.refl _ _) | (with_reducible exact Below.drew (Below.refl _ _)) | (with_reducible refine Below.drew ?_) | (with_reducible refine Below.alloc ?_ ?_ _; rotate_left; ((try simp) <;> (try omega)))))
      · skip
        refine ⟨_, rfl, fun K' hK => ?_⟩
        simp only [List.getElem_toArray, List.getElem_cons_zero, List.getElem_cons_succ]
        go_simp
        refine hK.out _ _ (Or.inr (by (repeat (first | (with_reducible exact Below.refl _ _) | (with_reducible exact Below.drew (Below.refl _ _)) | (with_reducible refine Below.drew ?_) | (with_reducible refine Below.alloc ?_ ?_ _; rotate_left; ((try simp) <;> (try omega))))))) ?_
        clear hK K'
        try simp only [Act.put, List.getElem_toArray, List.getElem_cons_zero, List.getElem_cons_succ, List.setIfInBounds_toArray, List.set_cons_zero, List.set_cons_succ]
        refine wpAnyG_br (rs := [6, 14]) (by kernel_rfl) (by simp) ?_
        intro j hj
        simp only [List.mem_cons, List.not_mem_nil, or_false] at hj
        rcases hj with rfl | rfl
        · skip
          refine ⟨_, rfl, fun K' hK => ?_⟩
          simp only [List.getElem_toArray, List.getElem_cons_zero, List.getElem_cons_succ]
          go_simp
          refine hK.out _ _ (Or.inr (by (repeat (first | (with_reducible exact Below.refl _ _) | (with_reducible exact Below.drew (Below.refl _ _)) | (with_reducible refine Below.drew ?_) | (with_reducible refine Below.alloc ?_ ?_ _; rotate_left; ((try simp) <;> (try omega))))))) ?_
          clear hK K'
          try simp only [Act.put, List.getElem_toArray, List.getElem_cons_zero, List.getElem_cons_succ, List.setIfInBounds_toArray, List.set_cons_zero, List.set_cons_succ]
          refine wpAnyG_takeW (i := 9) (v := .slice (some ⟨w2.heap.size + 1 + 1, 0, none⟩) 0 0) rfl (by kernel_rfl) (by kernel_rfl) (by kernel_rfl) (fun _ _ _ h => h) (Or.inl ⟨by rfl, ?_⟩) ?_
          · intro w' hSw
            refine exec_append_no (.tmp 15) (.tmp 17) 51 51 76 76 ie ?_ Try.underlying51 Try.underlying51 hie (w2.heap.size + 1 + 1) ?_ ?_
            · rfl
            · rfl
            · rfl
          try simp only [Act.put, List.getElem_toArray, List.getElem_cons_zero, List.getElem_cons_succ, List.setIfInBounds_toArray, List.set_cons_zero, List.set_cons_succ]
          refine wpAnyG_br (rs := [14]) (by kernel_rfl) (by simp) ?_
          intro j hj
          simp only [List.mem_cons, List.not_mem_nil, or_false] at hj
          rcases hj with rfl
          · skip
            refine ⟨_, rfl, fun K' hK => ?_⟩
            simp only [List.getElem_toArray, List.getElem_cons_zero, List.getElem_cons_succ]
            go_simp
            refine hK.out _ _ (Or.inr (by (repeat (first | (with_reducible exact Below.refl _ _) | (with_reducible exact Below.drew (Below.refl _ _)) | (with_reducible refine Below.drew ?_) | (with_reducible refine Below.alloc ?_ ?_ _; rotate_left; ((try simp) <;> (try omega))))))) ?_
            clear hK K'
            try simp only [Act.put, List.getElem_toArray, List.getElem_cons_zero, List.getElem_cons_succ, List.setIfInBounds_toArray, List.set_cons_zero, List.set_cons_succ]
            refine wpAnyG_takeW (i := 15) (v := ?_) rfl (by kernel_rfl) (by kernel_rfl) (by kernel_rfl) (fun _ _ _ h => h) (Or.inl ⟨by rfl, ?_⟩) ?_
            rotate_left
            · intro w' hSw
              go_simp
              try (with_reducible rfl)
            try simp only [Act.put, List.getElem_toArray, List.getElem_cons_zero, List.getElem_cons_succ, List.setIfInBounds_toArray, List.set_cons_zero, List.set_cons_succ]
            refine wpAnyG_br (rs := [17]) (by kernel_rfl) (by simp) ?_
            intro j hj
            simp only [List.mem_cons, List.not_mem_nil, or_false] at hj
            subst hj
            refine ⟨_, rfl, fun K' hK => ?_⟩
            simp only [List.getElem_toArray, List.getElem_cons_zero, List.getElem_cons_succ]
            go_simp
            refine hK.out _ _ (Or.inl rfl) ?_
            clear hK K'
            try simp only [Act.put, List.getElem_toArray, List.getElem_cons_zero, List.getElem_cons_succ, List.setIfInBounds_toArray, List.set_cons_zero, List.set_cons_succ]
            refine wpAnyG_done (by kernel_rfl) ?_ _
            go_wp2_with fail
            go_meet
            refine ⟨_, _, _, _, rfl, rfl, rfl, rfl, by simp [go_sem], by simp [go_sem], by simp [go_sem], by simp [go_sem], by simp [go_sem], by simp [go_sem], by simp [go_sem], by simp [go_sem], by simp [go_sem], by simp [go_sem], by simp [go_sem], by simp [go_sem], by simp [go_sem], fun o => by simp [go_sem], ?_, by (try simp); try omega, by (try simp); try omega, by (try simp); try omega, by (try simp); try omega, by (try simp); try omega, ?_⟩
            · repeat (first | (with_reducible exact fresh_lit' _ _ (by simp) c hc5) | (with_reducible refine FreshIn.drew ?_) | (with_reducible refine FreshIn.alloc ?_ _))
            · (repeat (first | (with_reducible exact Below.refl _ _) | (with_reducible exact Below.drew (Below.refl _ _)) | (with_reducible refine Below.drew ?_) | (with_reducible refine Below.alloc ?_ ?_ _; rotate_left; ((try simp) <;> (try omega)))))
        · skip
          refine ⟨_, rfl, fun K' hK => ?_⟩
          simp only [List.getElem_toArray, List.getElem_cons_zero, List.getElem_cons_succ]
          go_simp
          refine hK.out _ _ (Or.inr (by (repeat (first | (with_reducible exact Below.refl _ _) | (with_reducible exact Below.drew (Below.refl _ _)) | (with_reducible refine Below.drew ?_) | (with_reducible refine Below.alloc ?_ ?_ _; rotate_left; ((try simp) <;> (try omega))))))) ?_
          clear hK K'
          try simp only [Act.put, List.getElem_toArray, List.getElem_cons_zero, List.getElem_cons_succ, List.setIfInBounds_toArray, List.set_cons_zero, List.set_cons_succ]
          refine wpAnyG_br (rs := [6]) (by kernel_rfl) (by simp) ?_
          intro j hj
          simp only [List.mem_cons, List.not_mem_nil, or_false] at hj
          rcases hj with rfl
          · skip
            refine ⟨_, rfl, fun K' hK => ?_⟩
            simp only [List.getElem_toArray, List.getElem_cons_zero, List.getElem_cons_succ]
            go_simp
            refine hK.out _ _ (Or.inr (by (repeat (first | (with_reducible exact Below.refl _ _) | (with_reducible exact Below.drew (Below.refl _ _)) | (with_reducible refine Below.drew ?_) | (with_reducible refine Below.alloc ?_ ?_ _; rotate_left; ((try simp) <;> (try omega))))))) ?_
            clear hK K'
            try simp only [Act.put, List.getElem_toArray, List.getElem_cons_zero, List.getElem_cons_succ, List.setIfInBounds_toArray, List.set_cons_zero, List.set_cons_succ]
            refine wpAnyG_takeW (i := 9) (v := .slice (some ⟨w2.heap.size + 1 + 1 + 1, 0, none⟩) 0 0) rfl (by kernel_rfl) (by kernel_rfl) (by kernel_rfl) (fun _ _ _ h => h) (Or.inl ⟨by rfl, ?_⟩) ?_
            · intro w' hSw
              refine exec_append_no (.tmp 15) (.tmp 17) 51 51 76 76 ie ?_ Try.underlying51 Try.underlying51 hie (w2.heap.size + 1 + 1 + 1) ?_ ?_
              · rfl
              · rfl
              · rfl
            try simp only [Act.put, List.getElem_toArray, List.getElem_cons_zero, List.getElem_cons_succ, List.setIfInBounds_toArray, List.set_cons_zero, List.set_cons_succ]
            refine wpAnyG_takeW (i := 15) (v := ?_) rfl (by kernel_rfl) (by kernel_rfl) (by kernel_rfl) (fun _ _ _ h => h) (Or.inl ⟨by rfl, ?_⟩) ?_
            rotate_left
            · intro w' hSw
              go_simp
              try (with_reducible rfl)
            try simp only [Act.put, List.getElem_toArray, List.getElem_cons_zero, List.getElem_cons_succ, List.setIfInBounds_toArray, List.set_cons_zero, List.set_cons_succ]
            refine wpAnyG_br (rs := [17]) (by kernel_rfl) (by simp) ?_
            intro j hj
            simp only [List.mem_cons, List.not_mem_nil, or_false] at hj
            subst hj
            refine ⟨_, rfl, fun K' hK => ?_⟩
            simp only [List.getElem_toArray, List.getElem_cons_zero, List.getElem_cons_succ]
            go_simp
            refine hK.out _ _ (Or.inl rfl) ?_
            clear hK K'
            try simp only [Act.put, List.getElem_toArray, List.getElem_cons_zero, List.getElem_cons_succ, List.setIfInBounds_toArray, List.set_cons_zero, List.set_cons_succ]
            refine wpAnyG_done (by kernel_rfl) ?_ _
            go_wp2_with fail
            go_meet
            refine ⟨_, _, _, _, rfl, rfl, rfl, rfl, by simp [go_sem], by simp [go_sem], by simp [go_sem], by simp [go_sem], by simp [go_sem], by simp [go_sem], by simp [go_sem], by simp [go_sem], by simp [go_sem], by simp [go_sem], by simp [go_sem], by simp [go_sem], by simp [go_sem], fun o => by simp [go_sem], ?_, by (try simp); try omega, by (try simp); try omega, by (try simp); try omega, by (try simp); try omega, by (try simp); try omega, ?_⟩
            · repeat (first | (with_reducible exact fresh_lit' _ _ (by simp) c hc5) | (with_reducible refine FreshIn.drew ?_) | (with_reducible refine FreshIn.alloc ?_ _))
            · (repeat (first | (with_reducible exact Below.refl _ _) | (with_reducible exact Below.drew (Below.refl _ _)) | (with_reducible refine Below.drew ?_) | (with_reducible refine Below.alloc ?_ ?_ _; rotate_left; ((try simp) <;> (try omega)))))
      · skip
        refine ⟨_, rfl, fun K' hK => ?_⟩
        simp only [List.getElem_toArray, List.getElem_cons_zero, List.getElem_cons_succ]
        go_simp
        refine hK.out _ _ (Or.inr (by (repeat (first | (with_reducible exact Below.refl _ _) | (with_reducible exact Below.drew (Below.refl _ _)) | (with_reducible refine Below.drew ?_) | (with_reducible refine Below.alloc ?_ ?_ _; rotate_left; ((try simp) <;> (try omega))))))) ?_
        clear hK K'
        try simp only [Act.put, List.getElem_toArray, List.getElem_cons_zero, List.getElem_cons_succ, List.setIfInBounds_toArray, List.set_cons_zero, List.set_cons_succ]
        refine wpAnyG_br (rs := [6, 12]) (by kernel_rfl) (by simp) ?_
        intro j hj
        simp only [List.mem_cons, List.not_mem_nil, or_false] at hj
        rcases hj with rfl | rfl
        · skip
          refine ⟨_, rfl, fun K' hK => ?_⟩
          simp only [List.getElem_toArray, List.getElem_cons_zero, List.getElem_cons_succ]
          go_simp
          refine hK.out _ _ (Or.inr (by (repeat (first | (with_reducible exact Below.refl _ _) | (with_reducible exact Below.drew (Below.refl _ _)) | (with_reducible refine Below.drew ?_) | (with_reducible refine Below.alloc ?_ ?_ _; rotate_left; ((try simp) <;> (try omega))))))) ?_
          clear hK K'
          try simp only [Act.put, List.getElem_toArray, List.getElem_cons_zero, List.getElem_cons_succ, List.setIfInBounds_toArray, List.set_cons_zero, List.set_cons_succ]
          refine wpAnyG_takeW (i := 9) (v := .slice (some ⟨w2.heap.size + 1 + 1, 0, none⟩) 0 0) rfl (by kernel_rfl) (by kernel_rfl) (by kernel_rfl) (fun _ _ _ h => h) (Or.inl ⟨by rfl, ?_⟩) ?_
          · intro w' hSw
            refine exec_append_no (.tmp 15) (.tmp 17) 51 51 76 76 ie ?_ Try.underlying51 Try.underlying51 hie (w2.heap.size + 1 + 1) ?_ ?_
            · rfl
            · rfl
            · rfl
          try simp only [Act.put, List.getElem_toArray, List.getElem_cons_zero, List.getElem_cons_succ, List.setIfInBounds_toArray, List.set_cons_zero, List.set_cons_succ]
          refine wpAnyG_br (rs := [12]) (by kernel_rfl) (by simp) ?_
          intro j hj
          simp only [List.mem_cons, List.not_mem_nil, or_false] at hj
          rcases hj with rfl
          · skip
            refine ⟨_, rfl, fun K' hK => ?_⟩
            simp only [List.getElem_toArray, List.getElem_cons_zero, List.getElem_cons_succ]
            go_simp
            refine hK.out _ _ (Or.inr (by (repeat (first | (with_reducible exact Below.refl _ _) | (with_reducible exact Below.drew (Below.refl _ _)) | (with_reducible refine Below.drew ?_) | (with_reducible refine Below.alloc ?_ ?_ _; rotate_left; ((try simp) <;> (try omega))))))) ?_
            clear hK K'
            try simp only [Act.put, List.getElem_toArray, List.getElem_cons_zero, List.getElem_cons_succ, List.setIfInBounds_toArray, List.set_cons_zero, List.set_cons_succ]
            refine wpAnyG_takeW (i := 15) (v := ?_) rfl (by kernel_rfl) (by kernel_rfl) (by kernel_rfl) (fun _ _ _ h => h) (Or.inl ⟨by rfl, ?_⟩) ?_
            rotate_left
            · intro w' hSw
              go_simp
              try (with_reducible rfl)
            try simp only [Act.put, List.getElem_toArray, List.getElem_cons_zero, List.getElem_cons_succ, List.setIfInBounds_toArray, List.set_cons_zero, List.set_cons_succ]
            refine wpAnyG_br (rs := [17]) (by kernel_rfl) (by simp) ?_
            intro j hj
            simp only [List.mem_cons, List.not_mem_nil, or_false] at hj
            subst hj
            refine ⟨_, rfl, fun K' hK => ?_⟩
            simp only [List.getElem_toArray, List.getElem_cons_zero, List.getElem_cons_succ]
            go_simp
            refine hK.out _ _ (Or.inl rfl) ?_
            clear hK K'
            try simp only [Act.put, List.getElem_toArray, List.getElem_cons_zero, List.getElem_cons_succ, List.setIfInBounds_toArray, List.set_cons_zero, List.set_cons_succ]
            refine wpAnyG_done (by kernel_rfl) ?_ _
            go_wp2_with fail
            go_meet
            refine ⟨_, _, _, _, rfl, rfl, rfl, rfl, by simp [go_sem], by simp [go_sem], by simp [go_sem], by simp [go_sem], by simp [go_sem], by simp [go_sem], by simp [go_sem], by simp [go_sem], by simp [go_sem], by simp [go_sem], by simp [go_sem], by simp [go_sem], by simp [go_sem], fun o => by simp [go_sem], ?_, by (try simp); try omega, by (try simp); try omega, by (try simp); try omega, by (try simp); try omega, by (try simp); try omega, ?_⟩
            · repeat (first | (with_reducible exact fresh_lit' _ _ (by simp) c hc5) | (with_reducible refine FreshIn.drew ?_) | (with_reducible refine FreshIn.alloc ?_ _))
            · (repeat (first | (with_reducible exact Below.refl _ _) | (with_reducible exact Below.drew (Below.refl _ _)) | (with_reducible refine Below.drew ?_) | (with_reducible refine Below.alloc ?_ ?_ _; rotate_left; ((try simp) <;> (try omega)))))
        · skip
          refine ⟨_, rfl, fun K' hK => ?_⟩
          simp only [List.getElem_toArray, List.getElem_cons_zero, List.getElem_cons_succ]
          go_simp
          refine hK.out _ _ (Or.inr (by (repeat (first | (with_reducible exact Below.refl _ _) | (with_reducible exact Below.drew (Below.refl _ _)) | (with_reducible refine Below.drew ?_) | (with_reducible refine Below.alloc ?_ ?_ _; rotate_left; ((try simp) <;> (try omega))))))) ?_
          clear hK K'
          try simp only [Act.put, List.getElem_toArray, List.getElem_cons_zero, List.getElem_cons_succ, List.setIfInBounds_toArray, List.set_cons_zero, List.set_cons_succ]
          refine wpAnyG_br (rs := [6]) (by kernel_rfl) (by simp) ?_
          intro j hj
          simp only [List.mem_cons, List.not_mem_nil, or_false] at hj
          rcases hj with rfl
          · skip
            refine ⟨_, rfl, fun K' hK => ?_⟩
            simp only [List.getElem_toArray, List.getElem_cons_zero, List.getElem_cons_succ]
            go_simp
            refine hK.out _ _ (Or.inr (by (repeat (first | (with_reducible exact Below.refl _ _) | (with_reducible exact Below.drew (Below.refl _ _)) | (with_reducible refine Below.drew ?_) | (with_reducible refine Below.alloc ?_ ?_ _; rotate_left; ((try simp) <;> (try omega))))))) ?_
            clear hK K'
            try simp only [Act.put, List.getElem_toArray, List.getElem_cons_zero, List.getElem_cons_succ, List.setIfInBounds_toArray, List.set_cons_zero, List.set_cons_succ]
            refine wpAnyG_takeW (i := 9) (v := .slice (some ⟨w2.heap.size + 1 + 1 + 1, 0, none⟩) 0 0) rfl (by kernel_rfl) (by kernel_rfl) (by kernel_rfl) (fun _ _ _ h => h) (Or.inl ⟨by rfl, ?_⟩) ?_
            · intro w' hSw
              refine exec_append_no (.tmp 15) (.tmp 17) 51 51 76 76 ie ?_ Try.underlying51 Try.underlying51 hie (w2.heap.size + 1 + 1 + 1) ?_ ?_
              · rfl
              · rfl
              · rfl
            try simp only [Act.put, List.getElem_toArray, List.getElem_cons_zero, List.getElem_cons_succ, List.setIfInBounds_toArray, List.set_cons_zero, List.set_cons_succ]
            refine wpAnyG_takeW (i := 15) (v := ?_) rfl (by kernel_rfl) (by kernel_rfl) (by kernel_rfl) (fun _ _ _ h => h) (Or.inl ⟨by rfl, ?_⟩) ?_
            rotate_left
            · intro w' hSw
              go_simp
              try (with_reducible rfl)
            try simp only [Act.put, List.getElem_toArray, List.getElem_cons_zero, List.getElem_cons_succ, List.setIfInBounds_toArray, List.set_cons_zero, List.set_cons_succ]
            refine wpAnyG_br (rs := [17]) (by kernel_rfl) (by simp) ?_
            intro j hj
            simp only [List.mem_cons, List.not_mem_nil, or_false] at hj
            subst hj
            refine ⟨_, rfl, fun K' hK => ?_⟩
            simp only [List.getElem_toArray, List.getElem_cons_zero, List.getElem_cons_succ]
            go_simp
            refine hK.out _ _ (Or.inl rfl) ?_
            clear hK K'
            try simp only [Act.put, List.getElem_toArray, List.getElem_cons_zero, List.getElem_cons_succ, List.setIfInBounds_toArray, List.set_cons_zero, List.set_cons_succ]
            refine wpAnyG_done (by kernel_rfl) ?_ _
            go_wp2_with fail
            go_meet
            refine ⟨_, _, _, _, rfl, rfl, rfl, rfl, by simp [go_sem], by simp [go_sem], by simp [go_sem], by simp [go_sem], by simp [go_sem], by simp [go_sem], by simp [go_sem], by simp [go_sem], by simp [go_sem], by simp [go_sem], by simp [go_sem], by simp [go_sem], by simp [go_sem], fun o => by simp [go_sem], ?_, by (try simp); try omega, by (try simp); try omega, by (try simp); try omega, by (try simp); try omega, by (try simp); try omega, ?_⟩
            · repeat (first | (with_reducible exact fresh_lit' _ _ (by simp) c hc5) | (with_reducible refine FreshIn.drew ?_) | (with_reducible refine FreshIn.alloc ?_ _))
            · (repeat (first | (with_reducible exact Below.refl _ _) | (with_reducible exact Below.drew (Below.refl _ _)) | (with_reducible refine Below.drew ?_) | (with_reducible refine Below.alloc ?_ ?_ _; rotate_left; ((try simp) <;> (try omega)))))
  case rest =>
    obtain ⟨B, b6, b12, b14, rfl, rfl, rfl, rfl, n_0, n_1, n_2, n_3, n_4, n_5, n_6, n_7, n_8, n_9, n_10, n_11, n_12, nf, hF14, hl14, hu14, hne, hlB, huB, hbel⟩ := hcut
    obtain ⟨wd, hwd⟩ : ∃ x, x = wc := ⟨_, rfl⟩
    subst hwd
    have HBD := Lib.hid hbel
    have hzd := hbel.size
    go_wp2_with fail
    go_loopw [8] (fun i wr => ∃ (k : Nat) (a11 : Option Addr) (c11 : Nat), k ≤ c ∧ i = .int .i64 k ∧ FreshIn intE 3 1 wd.heap.size wr.heap.size (.slice a11 k c11) (List.replicate k 1) wr ∧ wr.cell? ⟨B, 0, none⟩ = some (.int .i64 id) ∧ wr.cell? ⟨B, 1, none⟩ = some (.int .i64 c) ∧ wr.cell? ⟨B, 2, none⟩ = some (.int .i64 0) ∧ wr.cell? ⟨B, 3, none⟩ = some (.int .i64 (-1)) ∧ wr.cell? ⟨B, 4, none⟩ = some (.int .i64 0) ∧ wr.cell? ⟨B, 5, none⟩ = some (.bool true) ∧ wr.cell? ⟨B, 6, none⟩ = some (.slice (some ⟨b6, 0, none⟩) 0 0) ∧ wr.cell? ⟨B, 7, none⟩ = some (.int .i64 0) ∧ wr.cell? ⟨B, 8, none⟩ = some (.int .i64 0) ∧ wr.cell? ⟨B, 9, none⟩ = some (.int .i64 (5 + id)) ∧ wr.cell? ⟨B, 10, none⟩ = some (.slice (some ⟨b12, 0, none⟩) 0 0) ∧ wr.cell? ⟨B, 11, none⟩ = some (.slice a11 k c11) ∧ wr.cell? ⟨B, 12, none⟩ = some (.slice (some ⟨b14, 0, none⟩) c c) ∧ (∀ o, wr.frozen? ⟨B, o, none⟩ = false) ∧ FreshIn intE 3 1 b14 (b14 + 1) (.slice (some ⟨b14, 0, none⟩) c c) (List.replicate c 0) wr ∧ wd.heap.size ≤ wr.heap.size ∧ Below w2.heap.size w2 wr) (fun i _ => c - (intOf i).toNat)
    case atStart => exact ⟨0, none, 0, Nat.zero_le _, rfl, FreshIn.nil _ _ _ _ _ _, n_0, n_1, n_2, n_3, n_4, n_5, n_6, n_7, n_8, n_9, n_10, n_11, n_12, nf, hF14, Nat.le_refl _, hbel⟩
    case round =>
      obtain ⟨k, a11, c11, hk, rfl, hF, m_0, m_1, m_2, m_3, m_4, m_5, m_6, m_7, m_8, m_9, m_10, m_11, m_12, mf, hG, hzr, hb⟩ := hrel
      have HF := Lib.hid hF
      have HG := Lib.hid hG
      have HB := Lib.hid hb
      clear hF hG hb
      by_cases hlt : k < c
      · go_wp2_with (first
          | (skip
             at_builtin
             refine wpList_append_fresh rfl (.tmp 31) (.tmp 32) 52 52 rfl (wd.heap.size) (wr.heap.size) 3 i0 (.int .i64 0) 1 8 Try.underlying52 hi hz0 hz1 hz2 rfl (by decide) (.slice a11 k c11) (List.replicate k 1) rfl (HF.out.alloc _) _ ([1]) rfl (Src.ofBox (enc := intE) (w := wr) Try.underlying52 (fun _ => rfl) intOne 1 #[.int .i64 1] 3 rfl wr.heap.size rfl) (by (try simp) <;> (try omega)) (by (try simp) <;> (try omega)) ?_
             intro a3 c3 w3 L3 hL3 hf3 hm3
             have hy3 := hm3.size
             simp at hy3
             have E3 : Hid (L3 = List.replicate (k + 1) 1) := by show _ = _; rw [hL3.out, List.replicate_succ']
             have E4 : Hid (L3.length = k + 1) := by show _ = _; rw [E3.out, List.length_replicate]
             have g_0 : w3.cell? ⟨B, 0, none⟩ = some (.int .i64 id) := by rw [hm3.cell (p := ⟨B, 0, none⟩) (by show B < _; simp; omega) (.inl (by show B < _; omega)), World.cell?_alloc_lt _ _ _ (by show B < _; omega)]; exact m_0
             have g_1 : w3.cell? ⟨B, 1, none⟩ = some (.int .i64 c) := by rw [hm3.cell (p := ⟨B, 1, none⟩) (by show B < _; simp; omega) (.inl (by show B < _; omega)), World.cell?_alloc_lt _ _ _ (by show B < _; omega)]; exact m_1
             have g_2 : w3.cell? ⟨B, 2, none⟩ = some (.int .i64 0) := by rw [hm3.cell (p := ⟨B, 2, none⟩) (by show B < _; simp; omega) (.inl (by show B < _; omega)), World.cell?_alloc_lt _ _ _ (by show B < _; omega)]; exact m_2
             have g_3 : w3.cell? ⟨B, 3, none⟩ = some (.int .i64 (-1)) := by rw [hm3.cell (p := ⟨B, 3, none⟩) (by show B < _; simp; omega) (.inl (by show B < _; omega)), World.cell?_alloc_lt _ _ _ (by show B < _; omega)]; exact m_3
             have g_4 : w3.cell? ⟨B, 4, none⟩ = some (.int .i64 0) := by rw [hm3.cell (p := ⟨B, 4, none⟩) (by show B < _; simp; omega) (.inl (by show B < _; omega)), World.cell?_alloc_lt _ _ _ (by show B < _; omega)]; exact m_4
             have g_5 : w3.cell? ⟨B, 5, none⟩ = some (.bool true) := by rw [hm3.cell (p := ⟨B, 5, none⟩) (by show B < _; simp; omega) (.inl (by show B < _; omega)), World.cell?_alloc_lt _ _ _ (by show B < _; omega)]; exact m_5
             have g_6 : w3.cell? ⟨B, 6, none⟩ = some (.slice (some ⟨b6, 0, none⟩) 0 0) := by rw [hm3.cell (p := ⟨B, 6, none⟩) (by show B < _; simp; omega) (.inl (by show B < _; omega)), World.cell?_alloc_lt _ _ _ (by show B < _; omega)]; exact m_6
             have g_7 : w3.cell? ⟨B, 7, none⟩ = some (.int .i64 0) := by rw [hm3.cell (p := ⟨B, 7, none⟩) (by show B < _; simp; omega) (.inl (by show B < _; omega)), World.cell?_alloc_lt _ _ _ (by show B < _; omega)]; exact m_7
             have g_8 : w3.cell? ⟨B, 8, none⟩ = some (.int .i64 0) := by rw [hm3.cell (p := ⟨B, 8, none⟩) (by show B < _; simp; omega) (.inl (by show B < _; omega)), World.cell?_alloc_lt _ _ _ (by show B < _; omega)]; exact m_8
             have g_9 : w3.cell? ⟨B, 9, none⟩ = some (.int .i64 (5 + id)) := by rw [hm3.cell (p := ⟨B, 9, none⟩) (by show B < _; simp; omega) (.inl (by show B < _; omega)), World.cell?_alloc_lt _ _ _ (by show B < _; omega)]; exact m_9
             have g_10 : w3.cell? ⟨B, 10, none⟩ = some (.slice (some ⟨b12, 0, none⟩) 0 0) := by rw [hm3.cell (p := ⟨B, 10, none⟩) (by show B < _; simp; omega) (.inl (by show B < _; omega)), World.cell?_alloc_lt _ _ _ (by show B < _; omega)]; exact m_10
             have g_11 : w3.cell? ⟨B, 11, none⟩ = some (.slice a11 k c11) := by rw [hm3.cell (p := ⟨B, 11, none⟩) (by show B < _; simp; omega) (.inl (by show B < _; omega)), World.cell?_alloc_lt _ _ _ (by show B < _; omega)]; exact m_11
             have g_12 : w3.cell? ⟨B, 12, none⟩ = some (.slice (some ⟨b14, 0, none⟩) c c) := by rw [hm3.cell (p := ⟨B, 12, none⟩) (by show B < _; simp; omega) (.inl (by show B < _; omega)), World.cell?_alloc_lt _ _ _ (by show B < _; omega)]; exact m_12
             have gf : ∀ o, w3.frozen? ⟨B, o, none⟩ = false := fun o => by rw [hm3.frozen (p := ⟨B, o, none⟩) (by show B < _; simp; omega) (.inl (by show B < _; omega)), World.frozen?_alloc_past _ _ _ (by omega)]; exact mf o
             skip))
        go_roundw
        case rel =>
          rw [E4.out]
          rw [E4.out, E3.out] at hf3
          refine ⟨k + 1, a3, c3, by omega, by go_num, ?_, by simp [go_sem, g_0], by simp [go_sem, g_1], by simp [go_sem, g_2], by simp [go_sem, g_3], by simp [go_sem, g_4], by simp [go_sem, g_5], by simp [go_sem, g_6], by simp [go_sem, g_7], by simp [go_sem, g_8], by simp [go_sem, g_9], by simp [go_sem, g_10], by simp [go_sem, g_11], by simp [go_sem, g_12], fun o => by simpa [go_sem] using gf o, ?_, by simp; omega, ?_⟩
          · have h := hf3.setCell (p := ⟨B, 11, none⟩) (by show B < _; omega) (.slice a3 (k + 1) c3)
            simpa using h
          · exact (((HG.out.alloc _).mid hm3 (.inl (by omega))).mid (Mid.setCell (Mid.refl B (B + 1) _) (p := ⟨B, 11, none⟩) (Nat.le_refl _) (Nat.lt_succ_self _) _) (by omega))
          · exact ((HB.out.alloc (by omega) _).trans (hm3.below (by omega) (by simp; omega))).setCell (by show _ ≤ B; omega) _
        case measure => simp [intOf]; omega
      · obtain rfl : k = c := by omega
        have zr_0 : wr.cell? ⟨w.heap.size + 1, 0, none⟩ = some (.int .i64 0) := (HB.out.cell (p := ⟨w.heap.size + 1, 0, none⟩) (by show w.heap.size + 1 < _; omega)).trans z_0
        have zr_1 : wr.cell? ⟨w.heap.size + 1, 1, none⟩ = some (.int .i64 0) := (HB.out.cell (p := ⟨w.heap.size + 1, 1, none⟩) (by show w.heap.size + 1 < _; omega)).trans z_1
        have zr_2 : wr.cell? ⟨w.heap.size + 1, 2, none⟩ = some (.int .i64 0) := (HB.out.cell (p := ⟨w.heap.size + 1, 2, none⟩) (by show w.heap.size + 1 < _; omega)).trans z_2
        have zr_3 : wr.cell? ⟨w.heap.size + 1, 3, none⟩ = some (.int .i64 0) := (HB.out.cell (p := ⟨w.heap.size + 1, 3, none⟩) (by show w.heap.size + 1 < _; omega)).trans z_3
        have zr_4 : wr.cell? ⟨w.heap.size + 1, 4, none⟩ = some (.int .i64 0) := (HB.out.cell (p := ⟨w.heap.size + 1, 4, none⟩) (by show w.heap.size + 1 < _; omega)).trans z_4
        have zr_5 : wr.cell? ⟨w.heap.size + 1, 5, none⟩ = some (.bool false) := (HB.out.cell (p := ⟨w.heap.size + 1, 5, none⟩) (by show w.heap.size + 1 < _; omega)).trans z_5
        have zr_6 : wr.cell? ⟨w.heap.size + 1, 6, none⟩ = some (.slice none 0 0) := (HB.out.cell (p := ⟨w.heap.size + 1, 6, none⟩) (by show w.heap.size + 1 < _; omega)).trans z_6
        have zr_7 : wr.cell? ⟨w.heap.size + 1, 7, none⟩ = some (.int .i64 0) := (HB.out.cell (p := ⟨w.heap.size + 1, 7, none⟩) (by show w.heap.size + 1 < _; omega)).trans z_7
        have zr_8 : wr.cell? ⟨w.heap.size + 1, 8, none⟩ = some (.int .i64 0) := (HB.out.cell (p := ⟨w.heap.size + 1, 8, none⟩) (by show w.heap.size + 1 < _; omega)).trans z_8
        have zr_9 : wr.cell? ⟨w.heap.size + 1, 9, none⟩ = some (.int .i64 0) := (HB.out.cell (p := ⟨w.heap.size + 1, 9, none⟩) (by show w.heap.size + 1 < _; omega)).trans z_9
        have zr_10 : wr.cell? ⟨w.heap.size + 1, 10, none⟩ = some (.slice none 0 0) := (HB.out.cell (p := ⟨w.heap.size + 1, 10, none⟩) (by show w.heap.size + 1 < _; omega)).trans z_10
        have zr_11 : wr.cell? ⟨w.heap.size + 1, 11, none⟩ = some (.slice none 0 0) := (HB.out.cell (p := ⟨w.heap.size + 1, 11, none⟩) (by show w.heap.size + 1 < _; omega)).trans z_11
        have zr_12 : wr.cell? ⟨w.heap.size + 1, 12, none⟩ = some (.slice none 0 0) := (HB.out.cell (p := ⟨w.heap.size + 1, 12, none⟩) (by show w.heap.size + 1 < _; omega)).trans z_12
        have zrf : ∀ o, wr.frozen? ⟨w.heap.size + 1, o, none⟩ = false := fun o => (HB.out.frozen (p := ⟨w.heap.size + 1, o, none⟩) (by show w.heap.size + 1 < _; omega)).trans (zf o)
        go_wp2_with fail
        refine bodyPost_ret (v := .agg #[.int .i64 id, .int .i64 k, .int .i64 0, .int .i64 (-1), .int .i64 0, .bool true, .slice (some ⟨b6, 0, none⟩) 0 0, .int .i64 0, .int .i64 0, .int .i64 (5 + id), .slice (some ⟨b12, 0, none⟩) 0 0, .slice a11 k c11, .slice (some ⟨b14, 0, none⟩) k k]) (by simp [results, Try.results86, go_sem, zr_0, zr_1, zr_2, zr_3, zr_4, zr_5, zr_6, zr_7, zr_8, zr_9, zr_10, zr_11, zr_12, zrf]) rfl ?_
        refine ⟨b6, b12, b14, a11, c11, rfl, ?_, ?_, ?_⟩
        · refine (slRep (e := 3) (lo := wd.heap.size) (hi := wr.heap.size) (ca := c11) ?_).mono (by omega) (by simp)
          repeat (first | (with_reducible exact HF.out) | (with_reducible refine FreshIn.setCell ?_ ?_ _; rotate_left; (show w.heap.size + 1 < _; omega)))
        · refine (slRep (e := 3) (lo := b14) (hi := b14 + 1) (ca := k) ?_).mono (by omega) (by simp; omega)
          repeat (first | (with_reducible exact HG.out) | (with_reducible refine FreshIn.setCell ?_ ?_ _; rotate_left; (show w.heap.size + 1 < _; omega)))
        · have h0 : Below w.heap.size w wr := HB2.out.trans (HB.out.mono (by omega))
          have HB0 := Lib.hid h0
          clear h0
          repeat (first | (with_reducible exact HB0.out) | (with_reducible refine Below.setCell ?_ ?_ _; rotate_left; (show w.heap.size ≤ w.heap.size + 1; omega)))
end
end Go.Proofs.Ytckaccadgbcohaa
