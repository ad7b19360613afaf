/- Contracts of the functions that the claim reaches. No conditions but sizes. -/
import Derived.Test.YtjmpgeffkdjpdaaGreatDoorPRz0
import Derived.OrdersHeld
import Derived.RegionTactic
import Derived.Deep.RegionLaw
import Derived.Deep.RegionHeld
import Derived.Below
import Derived.Lib.Hide
import Derived.WalkKit
import Derived.WalkSpells
import Derived.Deep.Quiet
import Derived.Deep.AppendSrc
import Derived.Deep.Upon
import Derived.Test.YtjmpgeffkdjpdaaGreatDoorRows
import Derived.BigRegion
import Derived.Deep.RegionHeld3
import Derived.Laws.CopyOwn
import Derived.Lib.ItoaNum
import Derived.WalkLawsBesides
import Derived.Deep.DeepCutAuto
import Derived.OwnWalk
import Derived.Laws.IdiomStrings
import Derived.Laws.ShiftsVar
import Derived.Lib.Builder
import Derived.Lib.AppendStr
import Derived.Lib.UnsafeStr
import Derived.Lib.MakeNoZero
import Derived.Laws.Externs
import Derived.Shelf.Strings.Builder1
import Derived.Lib.Strings
import Derived.Lib.Bytealg
namespace Go.Proofs.YtjmpgeffkdjpdaaGreatDoor
set_option linter.unusedVariables false
set_option linter.unusedSimpArgs false
set_option maxRecDepth 100000
set_option maxHeartbeats 16000000
section
open Go
section
variable {P : Program} {ops : Array Oper} {Q : Exit → Act → World → Prop} {md : Region.Mode} {S : World → Prop} {ex : Nat → Bool}
def wpAnyG (P : Program) (md : Region.Mode) (ops : Array Oper) (Q : Exit → Act → World → Prop) (S : World → Prop) (ex : Nat → Bool) : Nat → Array Bool → Act → World → Prop
  | 0, listed, a, w => Region.ready md ops listed = [] ∧ Q .normal a w
  | fuel + 1, listed, a, w =>
    (Region.ready md ops listed = [] → Q .normal a w) ∧
    ∀ i ∈ Region.ready md ops listed, wpOp P ops Q i (fun a' w' => (ex i = true ∨ (S w → S w')) ∧ wpAnyG P md ops Q S ex fuel (listed.setIfInBounds i true) a' w') a w
theorem wpAny_of_G : ∀ (fuel : Nat) (listed : Array Bool) (a : Act) (w : World), wpAnyG P md ops Q S ex fuel listed a w → wpAny P md ops Q fuel listed a w
  | 0, _, _, _, h => h
  | fuel + 1, _, _, _, h => ⟨h.1, fun i hi => wpOp_mono (fun a' w' h' => wpAny_of_G fuel _ a' w' h'.2) (h.2 i hi)⟩
def waitsB (md : Region.Mode) (ops : Array Oper) (ex : Nat → Bool) (i : Nat) : Bool :=
  (List.range ops.size).all fun j => !ex j || (match ops[j]? with | some o => o.after.any fun e => Region.binds md e && e.on == i | none => true)
theorem wpAnyG_first {i : Nat} {oi : Oper} {v : Value} (hi : ops[i]? = some oi) (hsel : ∀ (j : Nat) (o : Oper) cs b, ops[j]? = some o → o.op ≠ .select cs b)
    (hQ : ∀ c a w, Q (.panic c) (a.put oi.dst v) w → Q (.panic c) a w)
    (hex : ∀ j oj, ops[j]? = some oj → ex j = true → ∃ e ∈ oj.after, Region.binds md e = true ∧ e.on = i) :
    ∀ (fuel : Nat) (listed : Array Bool) (a : Act) (w : World),
      (∀ j oj, ops[j]? = some oj → j ≠ i → listed.getD j true = false → (∀ e ∈ oj.after, Region.binds md e = true → e.on ≠ i) → oi.apart ops oj = true) →
      i ∈ Region.ready md ops listed → YieldsIf P ops S oi v a → S w →
      wpAnyG P md ops Q S ex fuel (listed.setIfInBounds i true) (a.put oi.dst v) w → wpAnyG P md ops Q S ex (fuel + 1) listed a w := by
  intro fuel
  induction fuel with
  | zero =>
    intro listed a w _ hr hy hS H
    refine ⟨fun h => (by rw [h] at hr; cases hr), fun j hj => ?_⟩
    by_cases hji : j = i
    · subst hji; exact hy.wpOp hi hS ⟨.inr id, H⟩
    · have := ready_mono hj hji
      rw [H.1] at this
      cases this
  | succ fuel ih =>
    intro listed a w hfree hr hy hS H
    refine ⟨fun h => (by rw [h] at hr; cases hr), fun j hj => ?_⟩
    by_cases hji : j = i
    · subst hji; exact hy.wpOp hi hS ⟨.inr id, H⟩
    · have h1 := H.2 j (ready_mono hj hji)
      obtain ⟨hjun, oj, hoj, hall⟩ := mem_ready.1 hj
      have hnot : ∀ e ∈ oj.after, Region.binds md e = true → e.on ≠ i := fun e he hb heq => by
        have h1 := hall e he hb
        have h0 := (mem_ready.1 hr).1
        rw [heq] at h1
        rcases Nat.lt_or_ge i listed.size with h' | h'
        · simp [h'] at h0 h1; rw [h0] at h1; cases h1
        · simp [Array.getElem?_eq_none h'] at h1
      have hjex : ex j = true → False := fun he => by
        obtain ⟨e, h2, h3, h4⟩ := hex j oj hoj he
        exact hnot e h2 h3 h4
      have h2 := wpOp_putIf hoj (hfree j oj hoj hji hjun hnot) (fun cs b => hsel i oi cs b hi) (fun cs b => hsel j oj cs b hoj) hQ hy h1
      have hfree' : ∀ k ok, ops[k]? = some ok → k ≠ i → (listed.setIfInBounds j true).getD k true = false →
          (∀ e ∈ ok.after, Region.binds md e = true → e.on ≠ i) → oi.apart ops ok = true := fun k ok hk hki hun hno => by
        refine hfree k ok hk hki ?_ hno
        by_cases hjk : j = k
        · subst hjk; exact hjun
        · rw [getD_set_ne true hjk] at hun; exact hun
      refine wpOp_mono (fun a' w' h3 => ?_) h2
      have hSw : S w' := h3.2.1.resolve_left (fun he => hjex he) hS
      refine ⟨.inr (fun _ => hSw), ih (listed.setIfInBounds j true) a' w' hfree' (ready_mono hr (Ne.symm hji)) h3.1 hSw ?_⟩
      rw [Array.setIfInBounds_comm _ _ hji]
      exact h3.2.2
theorem wpAnyG_firstW {i : Nat} {oi : Oper} {v : Value} (hi : ops[i]? = some oi) (hsel : ∀ (j : Nat) (o : Oper) cs b, ops[j]? = some o → o.op ≠ .select cs b)
    (hQ : ∀ c a w, Q (.panic c) (a.put oi.dst v) w → Q (.panic c) a w) :
    ∀ (fuel : Nat) (listed : Array Bool) (a : Act) (w : World),
      (∀ j oj, ops[j]? = some oj → j ≠ i → listed.getD j true = false → (∀ e ∈ oj.after, Region.binds md e = true → e.on ≠ i) → oi.apart ops oj = true) →
      i ∈ Region.ready md ops listed → YieldsIf P ops (fun _ => True) oi v a →
      wpAnyG P md ops Q S ex fuel (listed.setIfInBounds i true) (a.put oi.dst v) w → wpAnyG P md ops Q S ex (fuel + 1) listed a w := by
  intro fuel
  induction fuel with
  | zero =>
    intro listed a w _ hr hy H
    refine ⟨fun h => (by rw [h] at hr; cases hr), fun j hj => ?_⟩
    by_cases hji : j = i
    · subst hji; exact hy.wpOp hi trivial ⟨.inr id, H⟩
    · have := ready_mono hj hji
      rw [H.1] at this
      cases this
  | succ fuel ih =>
    intro listed a w hfree hr hy H
    refine ⟨fun h => (by rw [h] at hr; cases hr), fun j hj => ?_⟩
    by_cases hji : j = i
    · subst hji; exact hy.wpOp hi trivial ⟨.inr id, H⟩
    · have h1 := H.2 j (ready_mono hj hji)
      obtain ⟨hjun, oj, hoj, hall⟩ := mem_ready.1 hj
      have hnot : ∀ e ∈ oj.after, Region.binds md e = true → e.on ≠ i := fun e he hb heq => by
        have h1 := hall e he hb
        have h0 := (mem_ready.1 hr).1
        rw [heq] at h1
        rcases Nat.lt_or_ge i listed.size with h' | h'
        · simp [h'] at h0 h1; rw [h0] at h1; cases h1
        · simp [Array.getElem?_eq_none h'] at h1
      have h2 := wpOp_putIf hoj (hfree j oj hoj hji hjun hnot) (fun cs b => hsel i oi cs b hi) (fun cs b => hsel j oj cs b hoj) hQ hy h1
      have hfree' : ∀ k ok, ops[k]? = some ok → k ≠ i → (listed.setIfInBounds j true).getD k true = false →
          (∀ e ∈ ok.after, Region.binds md e = true → e.on ≠ i) → oi.apart ops ok = true := fun k ok hk hki hun hno => by
        refine hfree k ok hk hki ?_ hno
        by_cases hjk : j = k
        · subst hjk; exact hjun
        · rw [getD_set_ne true hjk] at hun; exact hun
      refine wpOp_mono (fun a' w' h3 => ?_) h2
      refine ⟨h3.2.1, ih (listed.setIfInBounds j true) a' w' hfree' (ready_mono hr (Ne.symm hji)) h3.1 ?_⟩
      rw [Array.setIfInBounds_comm _ _ hji]
      exact h3.2.2
theorem wpAnyG_takeW {i : Nat} {oi : Oper} {v : Value} {fuel : Nat} {listed : Array Bool} {a : Act} {w : World} (hi : ops[i]? = some oi)
    (hs : Region.noSelect ops = true) (hf : Region.free md ops listed i = true) (hr : (Region.ready md ops listed).contains i = true)
    (hQ : ∀ c a w, Q (.panic c) (a.put oi.dst v) w → Q (.panic c) a w) (hy : YieldsIf P ops (fun _ => True) oi v a)
    (h : wpAnyG P md ops Q S ex fuel (listed.setIfInBounds i true) (a.put oi.dst v) w) : wpAnyG P md ops Q S ex (fuel + 1) listed a w :=
  wpAnyG_firstW hi (Region.noSelect_spec hs) hQ fuel listed a w (Region.free_spec hi hf) (by simpa using hr) hy h
theorem waitsB_spec {i : Nat} (h : waitsB md ops ex i = true) : ∀ j oj, ops[j]? = some oj → ex j = true → ∃ e ∈ oj.after, Region.binds md e = true ∧ e.on = i := by
  intro j oj hj he
  have h1 := (List.all_eq_true.1 h) j (List.mem_range.2 (Array.getElem?_eq_some_iff.1 hj).1)
  rw [hj, he] at h1
  simp only [Bool.not_true, Bool.false_or] at h1
  obtain ⟨k, hk, h2⟩ := Array.any_eq_true.1 h1
  simp only [Bool.and_eq_true, beq_iff_eq] at h2
  exact ⟨oj.after[k], Array.getElem_mem hk, h2.1, h2.2⟩
theorem wpAnyG_take {i : Nat} {oi : Oper} {v : Value} {fuel : Nat} {listed : Array Bool} {a : Act} {w : World} (hi : ops[i]? = some oi)
    (hs : Region.noSelect ops = true) (hf : Region.free md ops listed i = true) (hr : (Region.ready md ops listed).contains i = true) (hw : waitsB md ops ex i = true)
    (hQ : ∀ c a w, Q (.panic c) (a.put oi.dst v) w → Q (.panic c) a w) (hS : S w) (hy : YieldsIf P ops S oi v a)
    (h : wpAnyG P md ops Q S ex fuel (listed.setIfInBounds i true) (a.put oi.dst v) w) : wpAnyG P md ops Q S ex (fuel + 1) listed a w :=
  wpAnyG_first hi (Region.noSelect_spec hs) hQ (waitsB_spec hw) fuel listed a w (Region.free_spec hi hf) (by simpa using hr) hy hS h
theorem wpAnyG_one {i : Nat} {o : Oper} {fuel : Nat} {listed : Array Bool} {a : Act} {w : World} (hr : Region.ready md ops listed = [i]) (ho : ops[i]? = some o)
    (hS : S w) (h : ∀ K' : Act → World → Prop, Shut (∀ a w, (ex i = true ∨ S w) → wpAnyG P md ops Q S ex fuel (listed.setIfInBounds i true) a w → K' a w) → if Region.wanted o (yielded ops a.tmps) = true then Oper.wp P o a w K' Q else K' (a.put o.dst undef) w) : wpAnyG P md ops Q S ex (fuel + 1) listed a w :=
  ⟨fun h0 => (by rw [hr] at h0; cases h0), fun j hj => by
    rw [hr] at hj
    obtain rfl : j = i := by simpa using hj
    exact wpOp_step ho (fun K' hK => h K' (fun a w h1 h2 => hK a w ⟨h1.imp id (fun h3 _ => h3), h2⟩))⟩
theorem wpAnyG_done {listed : Array Bool} {a : Act} {w : World} (hr : Region.ready md ops listed = []) (h : Q .normal a w) : ∀ fuel, wpAnyG P md ops Q S ex fuel listed a w
  | 0 => ⟨hr, h⟩
  | _ + 1 => ⟨fun _ => h, by rw [hr]; simp⟩
theorem wp_region_G {id : Nat} {a : Act} {w : World} (S : World → Prop) (ex : Nat → Bool) (hm : P.follows .mixedOrders = true) (hS : S w.drew)
    (h : wpAnyG P .any ops Q S ex ops.size (Array.replicate ops.size false) a w.drew) : (Code.region id ops true).wp P Q a w :=
  wp_region_any hm (wpAny_of_G _ _ _ _ h)
end
end
section
variable {P : Program} {md : Region.Mode} {ops : Array Oper} {Q : Exit → Act → World → Prop} {S : World → Prop} {ex : Nat → Bool} {oi : Oper} {fuel : Nat} {listed : Array Bool} {a : Act} {w : World}
theorem tW (v : Value) (i : Nat) (hi : ops[i]? = some oi) (h2 : ∀ w, True → (execOp a.eval oi).run P w = .ok (.value v) w) (h : wpAnyG P md ops Q S ex fuel (listed.setIfInBounds i true) (a.put oi.dst v) w)
    (hs : Region.noSelect ops = true := by kernel_rfl) (hf : Region.free md ops listed i = true := by kernel_rfl) (hr : (Region.ready md ops listed).contains i = true := by kernel_rfl)
    (hQ : ∀ c a w, Q (.panic c) (a.put oi.dst v) w → Q (.panic c) a w := by exact fun _ _ _ h => h) (h1 : Region.wanted oi (yielded ops a.tmps) = true := by rfl) : wpAnyG P md ops Q S ex (fuel + 1) listed a w := wpAnyG_takeW hi hs hf hr hQ (.inl ⟨h1, h2⟩) h
theorem tL (v : Value) (i : Nat) (hi : ops[i]? = some oi) (hS : S w) (h2 : ∀ w, S w → (execOp a.eval oi).run P w = .ok (.value v) w) (h : wpAnyG P md ops Q S ex fuel (listed.setIfInBounds i true) (a.put oi.dst v) w)
    (hs : Region.noSelect ops = true := by kernel_rfl) (hf : Region.free md ops listed i = true := by kernel_rfl) (hr : (Region.ready md ops listed).contains i = true := by kernel_rfl) (hw : waitsB md ops ex i = true := by kernel_rfl)
    (hQ : ∀ c a w, Q (.panic c) (a.put oi.dst v) w → Q (.panic c) a w := by exact fun _ _ _ h => h) (h1 : Region.wanted oi (yielded ops a.tmps) = true := by rfl) : wpAnyG P md ops Q S ex (fuel + 1) listed a w := wpAnyG_take hi hs hf hr hw hQ hS (.inl ⟨h1, h2⟩) h
end
section
open Go Go.RowKit
section
variable {P : Program} {ops : Array Oper} {Q : Exit → Act → World → Prop} {md : Region.Mode} {S : World → Prop} {ex : Nat → Bool}
def dcB (md : Region.Mode) (ops : Array Oper) (listed : Array Bool) : Bool :=
  (List.range ops.size).all fun j => !listed.getD j false || (match ops[j]? with | some o => o.after.all fun e => !Region.binds md e || listed.getD e.on false | none => true)
def DC (md : Region.Mode) (ops : Array Oper) (listed : Array Bool) : Prop :=
  ∀ j o, ops[j]? = some o → listed.getD j false = true → ∀ e ∈ o.after, Region.binds md e = true → listed.getD e.on false = true
theorem dcB_spec {listed : Array Bool} (h : dcB md ops listed = true) : DC md ops listed := by
  intro j o hj hl e he hb
  have h1 := (List.all_eq_true.1 h) j (List.mem_range.2 (Array.getElem?_eq_some_iff.1 hj).1)
  rw [hj, hl] at h1
  simp only [Bool.not_true, Bool.false_or, Array.all_eq_true_iff_forall_mem, Bool.or_eq_true, Bool.not_eq_true'] at h1
  rcases h1 e he with h2 | h2
  · rw [hb] at h2; cases h2
  · exact h2
theorem getD_tf {listed : Array Bool} {j : Nat} (h : listed.getD j false = true) : j < listed.size ∧ listed.getD j true = true := by
  rcases Nat.lt_or_ge j listed.size with h1 | h1
  · simp [Array.getD, h1] at h ⊢
    exact h
  · simp [Array.getD, Nat.not_lt.2 h1] at h
theorem DC.set {listed : Array Bool} {i : Nat} (h : DC md ops listed) (hr : i ∈ Region.ready md ops listed) : DC md ops (listed.setIfInBounds i true) := by
  obtain ⟨_, o, ho, hall⟩ := mem_ready.1 hr
  intro j oj hj hl e he hb
  by_cases hji : j = i
  · subst hji
    rw [ho] at hj
    cases hj
    exact getD_set_true (hall e he hb)
  · refine getD_set_true (h j oj hj ?_ e he hb)
    rw [getD_set_ne false (Ne.symm hji)] at hl
    exact hl
def reachL (md : Region.Mode) (ops : Array Oper) (i : Nat) : Nat → List Bool
  | 0 => []
  | j + 1 => (fun r : List Bool => (j == i || (match ops[j]? with | some o => o.after.any fun e => Region.binds md e && (decide (e.on < j) && r.getD (j - 1 - e.on) false) | none => false)) :: r) (reachL md ops i j)
theorem reachL_len (i : Nat) : ∀ n, (reachL md ops i n).length = n
  | 0 => rfl
  | n + 1 => by simp only [reachL, List.length_cons, reachL_len i n]
theorem reachL_listed {listed : Array Bool} {i : Nat} (hdc : DC md ops listed) (n : Nat) : ∀ k, k < n → (reachL md ops i n).getD (n - 1 - k) false = true → listed.getD k false = true → listed.getD i false = true := by
  induction n with
  | zero => intro k hk; omega
  | succ n ih =>
    intro k hk hr hl
    by_cases hkn : k = n
    · subst hkn
      simp only [reachL, Nat.add_sub_cancel, Nat.sub_self, List.getD_cons_zero, Bool.or_eq_true, beq_iff_eq] at hr
      rcases hr with rfl | hr
      · exact hl
      · cases ho : ops[k]? with
        | none => rw [ho] at hr; cases hr
        | some o =>
          rw [ho] at hr
          obtain ⟨e, he, h2⟩ := Array.any_eq_true'.1 hr
          simp only [Bool.and_eq_true, decide_eq_true_eq] at h2
          exact ih e.on h2.2.1 h2.2.2 (hdc k o ho hl e he h2.1)
    · have h1 : n + 1 - 1 - k = (n - 1 - k) + 1 := by omega
      rw [h1] at hr
      simp only [reachL, List.getD_cons_succ] at hr
      exact ih k (by omega) hr hl
def waitsR (md : Region.Mode) (ops : Array Oper) (ex : Nat → Bool) (i : Nat) : Bool :=
  (fun r : List Bool => (List.range ops.size).all fun j => !ex j || (j != i && r.getD (ops.size - 1 - j) false)) (reachL md ops i ops.size)
theorem waitsR_spec {listed : Array Bool} {i : Nat} (h : waitsR md ops ex i = true) (hdc : DC md ops listed) : ∀ j, j ∈ Region.ready md ops listed → ex j = true → listed.getD i false = true := by
  intro j hj he
  obtain ⟨_, o, ho, hall⟩ := mem_ready.1 hj
  have hlt := (Array.getElem?_eq_some_iff.1 ho).1
  have h1 := (List.all_eq_true.1 h) j (List.mem_range.2 hlt)
  simp only [he, Bool.not_true, Bool.false_or, Bool.and_eq_true, bne_iff_ne] at h1
  have hr := h1.2
  have hj2 : ops.size - 1 - j < (reachL md ops i ops.size).length := by rw [reachL_len]; omega
  -- the head case by hand: j is not listed, but what it waits for is
  have key : ∀ n, j < n → n ≤ ops.size → (reachL md ops i n).getD (n - 1 - j) false = true → listed.getD i false = true := by
    intro n
    induction n with
    | zero => intro h0; omega
    | succ n ih =>
      intro hjn hn hr
      by_cases hkn : j = n
      · subst hkn
        simp only [reachL, Nat.add_sub_cancel, Nat.sub_self, List.getD_cons_zero, Bool.or_eq_true, beq_iff_eq] at hr
        rcases hr with h0 | hr
        · exact absurd h0 h1.1
        · rw [ho] at hr
          obtain ⟨e, he2, h2⟩ := Array.any_eq_true'.1 hr
          simp only [Bool.and_eq_true, decide_eq_true_eq] at h2
          exact reachL_listed hdc j e.on h2.2.1 h2.2.2 (hall e he2 h2.1)
      · have h1 : n + 1 - 1 - j = (n - 1 - j) + 1 := by omega
        rw [h1] at hr
        simp only [reachL, List.getD_cons_succ] at hr
        exact ih (by omega) (by omega) hr
  exact key ops.size hlt (Nat.le_refl _) hr
theorem wpAnyG_firstT {i : Nat} {oi : Oper} {v : Value} (hi : ops[i]? = some oi) (hsel : ∀ (j : Nat) (o : Oper) cs b, ops[j]? = some o → o.op ≠ .select cs b)
    (hQ : ∀ c a w, Q (.panic c) (a.put oi.dst v) w → Q (.panic c) a w)
    (hex : ∀ listed, DC md ops listed → ∀ j, j ∈ Region.ready md ops listed → ex j = true → listed.getD i false = true) :
    ∀ (fuel : Nat) (listed : Array Bool) (a : Act) (w : World), DC md ops listed →
      (∀ j oj, ops[j]? = some oj → j ≠ i → listed.getD j true = false → (∀ e ∈ oj.after, Region.binds md e = true → e.on ≠ i) → oi.apart ops oj = true) →
      i ∈ Region.ready md ops listed → YieldsIf P ops S oi v a → S w →
      wpAnyG P md ops Q S ex fuel (listed.setIfInBounds i true) (a.put oi.dst v) w → wpAnyG P md ops Q S ex (fuel + 1) listed a w := by
  intro fuel
  induction fuel with
  | zero =>
    intro listed a w hdc _ hr hy hS H
    refine ⟨fun h => (by rw [h] at hr; cases hr), fun j hj => ?_⟩
    by_cases hji : j = i
    · subst hji; exact hy.wpOp hi hS ⟨.inr id, H⟩
    · have := ready_mono hj hji
      rw [H.1] at this
      cases this
  | succ fuel ih =>
    intro listed a w hdc hfree hr hy hS H
    refine ⟨fun h => (by rw [h] at hr; cases hr), fun j hj => ?_⟩
    by_cases hji : j = i
    · subst hji; exact hy.wpOp hi hS ⟨.inr id, H⟩
    · have h1 := H.2 j (ready_mono hj hji)
      obtain ⟨hjun, oj, hoj, hall⟩ := mem_ready.1 hj
      have hun := (mem_ready.1 hr).1
      have hnl : ¬ listed.getD i false = true := fun h => by
        have := (getD_tf h).2
        rw [hun] at this
        cases this
      have hnot : ∀ e ∈ oj.after, Region.binds md e = true → e.on ≠ i := fun e he hb heq => by
        have h1 := hall e he hb
        rw [heq] at h1
        exact hnl h1
      have h2 := wpOp_putIf hoj (hfree j oj hoj hji hjun hnot) (fun cs b => hsel i oi cs b hi) (fun cs b => hsel j oj cs b hoj) hQ hy h1
      have hfree' : ∀ k ok, ops[k]? = some ok → k ≠ i → (listed.setIfInBounds j true).getD k true = false →
          (∀ e ∈ ok.after, Region.binds md e = true → e.on ≠ i) → oi.apart ops ok = true := fun k ok hk hki hun hno => by
        refine hfree k ok hk hki ?_ hno
        by_cases hjk : j = k
        · subst hjk; exact hjun
        · rw [getD_set_ne true hjk] at hun; exact hun
      refine wpOp_mono (fun a' w' h3 => ?_) h2
      have hSw : S w' := h3.2.1.resolve_left (fun he => hnl (hex listed hdc j hj he)) hS
      refine ⟨.inr (fun _ => hSw), ih (listed.setIfInBounds j true) a' w' (hdc.set hj) hfree' (ready_mono hr (Ne.symm hji)) h3.1 hSw ?_⟩
      rw [Array.setIfInBounds_comm _ _ hji]
      exact h3.2.2
end
def doneA (n : Nat) (rest : List Nat) : Array Bool := ((List.range n).map fun i => !rest.contains i).toArray
def wpO (P : Program) (ops : Array Oper) (Q : Exit → Act → World → Prop) (S : World → Prop) (ex : List Nat) (rest : List Nat) (a : Act) (w : World) : Prop :=
  wpAnyG P .any ops Q S (fun i => ex.contains i) rest.length (doneA ops.size rest) a w
def wless (o : Oper) : Bool :=
  match o.op with
  | .move _ | .assign _ | .pick _ _ _ | .build _ _ | .nilCheck _ | .binOp _ _ _ _ _ | .unOp _ _ _ | .convert _ _ _ | .slice _ _ _ _ _ | .fieldAddr _ _ _ | .field _ _ _ | .indexAddr _ _ _ | .index _ _ _ | .extract _ _ => true
  | .call c => match c.callee with | .builtin .len | .builtin .cap | .builtin .min | .builtin .max => true | _ => false
  | _ => false
def isLoad (o : Oper) : Bool := match o.op with | .load _ _ => true | _ => false
section
variable {P : Program} {ops : Array Oper} {Q : Exit → Act → World → Prop} {S : World → Prop} {w : World} {ex rest : List Nat} {a a' : Act} {i : Nat} {oi : Oper} {v : Value}
theorem belowC {W w' : World} (h : Below W.heap.size W w') {b o : Nat} (hb : b < W.heap.size) : w'.cell? ⟨b, o, none⟩ = W.cell? ⟨b, o, none⟩ := h.cell (p := ⟨b, o, none⟩) hb
theorem wp_region_O {id : Nat} (S : World → Prop) (ex rest : List Nat) (h : wpO P ops Q S ex rest a w.drew) (hm : P.follows .mixedOrders = true := by kernel_rfl)
    (hl : rest.length = ops.size := by kernel_rfl) (hr : doneA ops.size rest = Array.replicate ops.size false := by kernel_rfl) : (Code.region id ops true).wp P Q a w := by
  refine wp_region_any hm (wpAny_of_G (S := S) (ex := fun i => ex.contains i) _ _ _ _ ?_)
  unfold wpO at h
  rw [hl, hr] at h
  exact h
theorem oW (hi : ops[i]? = some oi := by rfl) (hk : wless oi = true := by rfl) (h1 : Region.wanted oi (yielded ops a.tmps) = true := by rfl)
    (h2 : ∀ w, (execOp a.eval oi).run P w = .ok (.value v) w := by intro w; go_simp; try rfl)
    (ha : a.put oi.dst v = a' := by (try simp only [Act.put,j1,j2,j3,j4,j5,j6]); try rfl)
    (h : wpO P ops Q S ex rest a' w)
    (hs : Region.noSelect ops = true := by kernel_rfl) (hf : Region.free .any ops (doneA ops.size (i :: rest)) i = true := by kernel_rfl) (hr : (Region.ready .any ops (doneA ops.size (i :: rest))).contains i = true := by kernel_rfl)
    (hd : (doneA ops.size (i :: rest)).setIfInBounds i true = doneA ops.size rest := by kernel_rfl)
    (hQ : ∀ c a w, Q (.panic c) (a.put oi.dst v) w → Q (.panic c) a w := by exact fun _ _ _ h => h) : wpO P ops Q S ex (i :: rest) a w := by
  subst ha
  unfold wpO at h ⊢
  rw [← hd] at h
  exact wpAnyG_takeW hi hs hf hr hQ (.inl ⟨h1, fun w _ => h2 w⟩) h
theorem oL (hi : ops[i]? = some oi := by rfl) (hk : isLoad oi = true := by rfl) (h1 : Region.wanted oi (yielded ops a.tmps) = true := by rfl)
    (hS : S w := by first | exact (Below.refl _ _).drew | assumption)
    (h2 : ∀ w', S w' → (execOp a.eval oi).run P w' = .ok (.value v) w' := by intro w' hS; (try have hc := fun b o => belowC hS (b := b) (o := o)); (try dsimp only at hS); go_simp; try rfl)
    (ha : a.put oi.dst v = a' := by (try simp only [Act.put,j1,j2,j3,j4,j5,j6]); try rfl)
    (h : wpO P ops Q S ex rest a' w)
    (hw : waitsR .any ops (fun i => ex.contains i) i = true := by kernel_rfl) (hdc : dcB .any ops (doneA ops.size (i :: rest)) = true := by kernel_rfl)
    (hs : Region.noSelect ops = true := by kernel_rfl) (hf : Region.free .any ops (doneA ops.size (i :: rest)) i = true := by kernel_rfl) (hr : (Region.ready .any ops (doneA ops.size (i :: rest))).contains i = true := by kernel_rfl)
    (hd : (doneA ops.size (i :: rest)).setIfInBounds i true = doneA ops.size rest := by kernel_rfl)
    (hQ : ∀ c a w, Q (.panic c) (a.put oi.dst v) w → Q (.panic c) a w := by exact fun _ _ _ h => h) : wpO P ops Q S ex (i :: rest) a w := by
  subst ha
  unfold wpO at h ⊢
  rw [← hd] at h
  exact wpAnyG_firstT hi (Region.noSelect_spec hs) hQ (fun l hl => waitsR_spec hw hl) rest.length _ a w (dcB_spec hdc) (Region.free_spec hi hf) (by simpa using hr) (.inl ⟨h1, h2⟩) hS h
theorem oO (hi : ops[i]? = some oi := by rfl) (hr : Region.ready .any ops (doneA ops.size (i :: rest)) = [i] := by kernel_rfl)
    (hd : (doneA ops.size (i :: rest)).setIfInBounds i true = doneA ops.size rest := by kernel_rfl)
    (hS : ex.contains i = true ∨ S w := by first | exact Or.inl rfl | exact Or.inr (Below.refl _ _).drew | exact Or.inr (by assumption))
    (h : ∀ K' : Act → World → Prop, Shut (∀ a w, (ex.contains i = true ∨ S w) → wpO P ops Q S ex rest a w → K' a w) → if Region.wanted oi (yielded ops a.tmps) = true then Oper.wp P oi a w K' Q else K' (a.put oi.dst undef) w) : wpO P ops Q S ex (i :: rest) a w := by
  unfold wpO at h ⊢
  rw [← hd] at h
  refine ⟨fun h0 => (by rw [hr] at h0; cases h0), fun j hj => ?_⟩
  rw [hr] at hj
  obtain rfl : j = i := by simpa using hj
  refine wpOp_step hi (fun K' hK => h K' (fun a w h1 h2 => hK a w ⟨?_, h2⟩))
  rcases h1 with h1 | h1
  · exact .inl h1
  · exact .inr fun _ => h1
theorem oN {K' : Act → World → Prop} (hK : Shut (∀ a w, (ex.contains i = true ∨ S w) → wpO P ops Q S ex rest a w → K' a w))
    (hS : ex.contains i = true ∨ S w := by first | exact Or.inl rfl | exact Or.inr (Below.refl _ _).drew | exact Or.inr (by assumption))
    (ha : a = a' := by (try simp only [Act.put,j1,j2,j3,j4,j5,j6]); try rfl)
    (h : wpO P ops Q S ex rest a' w) : K' a w := by
  subst ha
  exact hK.out a w hS h
theorem oD (h : Q .normal a w) (hr : Region.ready .any ops (doneA ops.size []) = [] := by kernel_rfl) : wpO P ops Q S ex [] a w := ⟨hr, h⟩
end
end
section
open Go.RowKit
def Sl {α : Type} (enc : α → List Value) (sz : Nat) (w : World) (a : Option Addr) (xs : List α) : Prop :=
  xs = [] ∨ ∃ b off, a = some ⟨b, off, none⟩ ∧ b < w.heap.size ∧ ∀ i (h : i < xs.length) j, j < sz → w.cell? ⟨b, off + i * sz + j, none⟩ = (enc xs[i])[j]?
def intE (n : Int) : List Value := [.int .i64 n]
def strE (s : ByteArray) : List Value := [.string s]
def byteE (b : UInt8) : List Value := [.int .u8 b.toNat]
section
variable {α : Type} {enc : α → List Value} {sz : Nat} {w w' : World} {a : Option Addr} {xs : List α}
theorem Sl.nil : Sl enc sz w a [] := .inl rfl
theorem Sl.at (h : Sl enc sz w a xs) {i : Nat} (hi : i < xs.length) : ∃ b off, a = some ⟨b, off, none⟩ ∧ b < w.heap.size ∧ ∀ i (h : i < xs.length) j, j < sz → w.cell? ⟨b, off + i * sz + j, none⟩ = (enc xs[i])[j]? := by
  rcases h with rfl | h
  · simp at hi
  · exact h
theorem Sl.below {B : Nat} (h : Sl enc sz w a xs) (hb : Below B w w') (hB : ∀ b off, a = some ⟨b, off, none⟩ → b < B) : Sl enc sz w' a xs := by
  rcases h with h | ⟨b, off, rfl, hlt, hc⟩
  · exact .inl h
  · exact .inr ⟨b, off, rfl, Nat.lt_of_lt_of_le hlt hb.size, fun i hi j hj => by rw [hb.cell (p := ⟨b, _, none⟩) (hB b off rfl)]; exact hc i hi j hj⟩
theorem Sl.keep (h : Sl enc sz w a xs) (hb : Below w.heap.size w w') : Sl enc sz w' a xs := by
  rcases h with h | ⟨b, off, rfl, hlt, hc⟩
  · exact .inl h
  · exact .inr ⟨b, off, rfl, Nat.lt_of_lt_of_le hlt hb.size, fun i hi j hj => by rw [hb.cell (p := ⟨b, _, none⟩) hlt]; exact hc i hi j hj⟩
theorem Sl.grown {row : Option Nat} (h : Sl enc sz w a xs) (hg : w.grownBy w' row) (hne : ∀ b off, a = some ⟨b, off, none⟩ → some b ≠ row) : Sl enc sz w' a xs := by
  rcases h with h | ⟨b, off, rfl, hlt, hc⟩
  · exact .inl h
  · refine .inr ⟨b, off, rfl, Nat.lt_of_lt_of_le hlt hg.size, fun i hi j hj => ?_⟩
    rw [World.cell?_of_block (a := ⟨b, _, none⟩) (hg.block b hlt (hne b off rfl))]
    exact hc i hi j hj
theorem Sl.alloc (h : Sl enc sz w a xs) (o : Obj) : Sl enc sz (w.alloc o) a xs := h.keep ((Below.refl _ _).alloc (Nat.le_refl _) _)
theorem Sl.drew (h : Sl enc sz w a xs) : Sl enc sz w.drew a xs := h.keep ((Below.refl _ _).drew)
theorem below_drewN (w : World) (n B : Nat) : Below B w (w.drewN n) := ⟨rfl, rfl, rfl, Nat.le_refl _, fun _ _ => rfl⟩
theorem Sl.drewN (h : Sl enc sz w a xs) (n : Nat) : Sl enc sz (w.drewN n) a xs := h.keep (below_drewN w n _)
theorem flat_get (enc : α → List Value) (sz : Nat) (hs : ∀ x, (enc x).length = sz) : ∀ (xs : List α) (i : Nat) (h : i < xs.length) (j : Nat), j < sz → (xs.flatMap enc)[i * sz + j]? = (enc xs[i])[j]?
  | [], i, h, _, _ => by simp at h
  | x :: xs, 0, _, j, hj => by
    simp only [List.flatMap_cons, Nat.zero_mul, Nat.zero_add, List.getElem_cons_zero]
    rw [List.getElem?_append_left (by rw [hs]; exact hj)]
  | x :: xs, i + 1, h, j, hj => by
    simp only [List.flatMap_cons, List.getElem_cons_succ]
    rw [List.getElem?_append_right (by rw [hs, Nat.add_mul]; omega), hs, show (i + 1) * sz + j - sz = i * sz + j by rw [Nat.add_mul]; omega]
    exact flat_get enc sz hs xs i (by simpa using h) j hj
theorem flat_length (enc : α → List Value) (sz : Nat) (hs : ∀ x, (enc x).length = sz) (xs : List α) : (xs.flatMap enc).length = xs.length * sz := by
  induction xs with
  | nil => simp
  | cons x xs ih => simp [List.flatMap_cons, ih, hs, Nat.add_mul, Nat.add_comm]
theorem Sl.of_own {base : Nat} {e : TypeId} {n cap : Nat} (hs : ∀ x, (enc x).length = sz) (h : w.ownsRow base e sz (.slice a n cap) xs.length (xs.flatMap enc)) : Sl enc sz w a xs := by
  by_cases hx : xs = []
  · exact .inl hx
  rcases h.2 with ⟨hv, hn⟩ | ⟨g, cap', cur, hv, hb, hg, hle, hm, hsz, ht⟩
  · exact .inl (List.eq_nil_of_length_eq_zero hn)
  · simp only [Value.slice.injEq] at hv
    obtain ⟨rfl, rfl, rfl⟩ := hv
    refine .inr ⟨g, 0, rfl, (Array.getElem?_eq_some_iff.1 hg).1, fun i hi j hj => ?_⟩
    have hown := World.ownsRow.cells h (g := g) rfl
    have hf := flat_get enc sz hs xs i hi j hj
    have hlt : j < (enc xs[i]).length := by rw [hs]; exact hj
    rw [List.getElem?_eq_getElem hlt] at hf ⊢
    have := hown _ _ hf
    rw [Nat.zero_add]
    have hadd : (⟨g, 0, none⟩ : Addr).add (i * sz + j) = ⟨g, i * sz + j, none⟩ := by unfold Addr.add; split <;> simp_all
    rwa [hadd] at this
theorem madeCells_flat (enc : α → List Value) (sz : Nat) (zero : α) (z : Array Value) (hz : z.toList = enc zero) (hs : ∀ x, (enc x).length = sz) (n : Nat) :
    (madeCells z (n * sz)).toList = (List.replicate n zero).flatMap enc := by
  have hzs : z.size = sz := by rw [← Array.length_toList, hz, hs]
  apply List.ext_getElem?
  intro j
  by_cases hj : j < n * sz
  · have hsz : 0 < sz := by
      rcases Nat.eq_zero_or_pos sz with h | h
      · rw [h] at hj; simp at hj
      · exact h
    have hq : j / sz < n := Nat.div_lt_of_lt_mul (by rw [Nat.mul_comm]; exact hj)
    have hr : j % sz < sz := Nat.mod_lt _ hsz
    have hj' : j = j / sz * sz + j % sz := by rw [Nat.mul_comm]; exact (Nat.div_add_mod j sz).symm
    have h1 := flat_get enc sz hs (List.replicate n zero) (j / sz) (by simpa using hq) (j % sz) hr
    rw [← hj'] at h1
    rw [h1]
    simp only [List.getElem_replicate]
    rw [← hz]
    simp only [madeCells, Array.toList_map, Array.toList_range, List.getElem?_map, List.getElem?_range hj, Option.map_some, hzs]
    have hr' : j % sz < z.size := by omega
    rw [getElem!_pos z (j % sz) hr']
    simp [hr']
  · rw [List.getElem?_eq_none (by simp [size_madeCells]; omega), List.getElem?_eq_none (by rw [flat_length enc sz hs]; simp; omega)]
theorem flat_set1 (enc : α → List Value) (hs : ∀ x, (enc x).length = 1) (ys : List α) (k : Nat) (hk : k < ys.length) (x : α) (u : Value) (hx : enc x = [u]) : (ys.flatMap enc).set k u = (ys.set k x).flatMap enc := by
  induction ys generalizing k with
  | nil => simp at hk
  | cons y ys ih =>
    obtain ⟨v, hv⟩ := List.length_eq_one_iff.1 (hs y)
    cases k with
    | zero => simp [List.flatMap_cons, hv, hx]
    | succ k => simp [List.flatMap_cons, hv, ih k (by simpa using hk)]
theorem flat_set2 (enc : α → List Value) (hs : ∀ x, (enc x).length = 2) (ys : List α) (k : Nat) (hk : k < ys.length) (x : α) (u0 u1 : Value) (hx : enc x = [u0, u1]) : ((ys.flatMap enc).set (k * 2) u0).set (k * 2 + 1) u1 = (ys.set k x).flatMap enc := by
  induction ys generalizing k with
  | nil => simp at hk
  | cons y ys ih =>
    obtain ⟨v0, v1, hv⟩ : ∃ v0 v1, enc y = [v0, v1] := by
      match h : enc y, hs y with
      | [a, b], _ => exact ⟨a, b, rfl⟩
    cases k with
    | zero => simp [List.flatMap_cons, hv, hx]
    | succ k =>
      rw [show (k + 1) * 2 = k * 2 + 1 + 1 by omega]
      simp [List.flatMap_cons, hv]
      exact ih k (by simpa using hk)
def Fresh (enc : α → List Value) (e : TypeId) (sz B : Nat) (v : Value) (xs : List α) (w : World) : Prop :=
  ∃ a cap, v = .slice a xs.length cap ∧ xs.length ≤ cap ∧ w.ownsRow B e sz (.slice a xs.length cap) xs.length (xs.flatMap enc)
theorem own_form {base : Nat} {e : TypeId} {sz : Nat} {v : Value} {n : Nat} {cs : List Value} {w : World} (h : w.ownsRow base e sz v n cs) : ∃ a cap, v = .slice a n cap ∧ n ≤ cap ∧ cap ≤ 9223372036854775807 := by
  rcases h.2 with ⟨rfl, rfl⟩ | ⟨g, cap, cur, rfl, _, _, h1, h2, _⟩
  · exact ⟨none, 0, rfl, Nat.le_refl _, by omega⟩
  · exact ⟨_, cap, rfl, h1, by unfold maxLen at h2; omega⟩
theorem Fresh.of_own {e : TypeId} {B : Nat} {v : Value} {n : Nat} {cs : List Value} {xs : List α} (h : w.ownsRow B e sz v n cs) (hn : n = xs.length) (hc : cs = xs.flatMap enc) : Fresh enc e sz B v xs w := by
  subst hn hc
  obtain ⟨a, cap, rfl, h1, _⟩ := own_form h
  exact ⟨a, cap, rfl, h1, h⟩
theorem Fresh.sl {e : TypeId} {B : Nat} {cap : Nat} (hs : ∀ x, (enc x).length = sz) (h : Fresh enc e sz B (.slice a xs.length cap) xs w) : Sl enc sz w a xs := by
  obtain ⟨a', cap', hv, h1, h2⟩ := h
  cases hv
  exact Sl.of_own (n := xs.length) hs h2
theorem Fresh.kept {e : TypeId} {B : Nat} {v : Value} {row : Option Nat} (h : Fresh enc e sz B v xs w) (hg : w.grownBy w' row) (hne : v.ownBlock = none ∨ v.ownBlock ≠ row) : Fresh enc e sz B v xs w' := by
  obtain ⟨a', cap', rfl, h1, h2⟩ := h
  exact ⟨a', cap', rfl, h1, h2.kept hg hne⟩
theorem grownBy_of_below {w w' : World} (h : Below w.heap.size w w') : w.grownBy w' none := ⟨h.os, h.tape, h.output, h.size, fun k hk _ => h.block k hk⟩
theorem Fresh.below {e : TypeId} {B : Nat} {v : Value} (h : Fresh enc e sz B v xs w) (hb : Below w.heap.size w w') : Fresh enc e sz B v xs w' :=
  h.kept (grownBy_of_below hb) (by cases hv : v.ownBlock <;> simp)
theorem Fresh.mono {e : TypeId} {B B' : Nat} {v : Value} (h : Fresh enc e sz B v xs w) (hB : B' ≤ B) : Fresh enc e sz B' v xs w := by
  obtain ⟨a', cap', rfl, h1, h2, h3⟩ := h
  refine ⟨a', cap', rfl, h1, h2, ?_⟩
  rcases h3 with h3 | ⟨g, cap, cur, hv, hg, r⟩
  · exact .inl h3
  · exact .inr ⟨g, cap, cur, hv, Nat.le_trans hB hg, r⟩
theorem Fresh.setCell {e : TypeId} {B : Nat} {v : Value} (h : Fresh enc e sz B v xs w) {p : Addr} (hp : p.block < B) (u : Value) : Fresh enc e sz B v xs (w.setCell p u) := by
  obtain ⟨a', cap', rfl, h1, h2⟩ := h
  exact ⟨a', cap', rfl, h1, ownsRow_setCell_below h2 hp u⟩
theorem Fresh.alloc {e : TypeId} {B : Nat} {v : Value} (h : Fresh enc e sz B v xs w) (o : Obj) : Fresh enc e sz B v xs (w.alloc o) := h.below ((Below.refl _ _).alloc (Nat.le_refl _) _)
theorem Fresh.lt {e : TypeId} {B : Nat} {v : Value} (h : Fresh enc e sz B v xs w) {k : Nat} (hk : v.ownBlock = some k) : B ≤ k ∧ k < w.heap.size := by
  obtain ⟨a', cap', rfl, h1, h2⟩ := h
  exact h2.lt k hk
theorem Sl.setCell {p : Addr} (h : Sl enc sz w a xs) (hp : ∀ b off, a = some ⟨b, off, none⟩ → b ≠ p.block) (u : Value) : Sl enc sz (w.setCell p u) a xs := by
  rcases h with h | ⟨b, off, rfl, hlt, hc⟩
  · exact .inl h
  · exact .inr ⟨b, off, rfl, by simpa using hlt, fun i hi j hj => by rw [World.cell?_setCell_other _ _ _ _ (fun e => hp b off rfl (by rw [e]))]; exact hc i hi j hj⟩
def FreshIn (enc : α → List Value) (e : TypeId) (sz lo hi : Nat) (v : Value) (xs : List α) (w : World) : Prop := Fresh enc e sz lo v xs w ∧ ∀ k, v.ownBlock = some k → k < hi
theorem Fresh.here {e : TypeId} {B : Nat} {v : Value} (h : Fresh enc e sz B v xs w) : FreshIn enc e sz B w.heap.size v xs w := ⟨h, fun _ hk => (h.lt hk).2⟩
theorem FreshIn.below {e : TypeId} {lo hi : Nat} {v : Value} (h : FreshIn enc e sz lo hi v xs w) (hb : Below w.heap.size w w') : FreshIn enc e sz lo hi v xs w' := ⟨h.1.below hb, h.2⟩
theorem FreshIn.setCell {e : TypeId} {lo hi : Nat} {v : Value} (h : FreshIn enc e sz lo hi v xs w) {p : Addr} (hp : p.block < lo) (u : Value) : FreshIn enc e sz lo hi v xs (w.setCell p u) := ⟨h.1.setCell hp u, h.2⟩
theorem FreshIn.mono {e : TypeId} {lo hi lo' hi' : Nat} {v : Value} (h : FreshIn enc e sz lo hi v xs w) (h1 : lo' ≤ lo) (h2 : hi ≤ hi') : FreshIn enc e sz lo' hi' v xs w := ⟨h.1.mono h1, fun k hk => Nat.lt_of_lt_of_le (h.2 k hk) h2⟩
theorem FreshIn.sl {e : TypeId} {lo hi : Nat} {cap : Nat} (hs : ∀ x, (enc x).length = sz) (h : FreshIn enc e sz lo hi (.slice a xs.length cap) xs w) : Sl enc sz w a xs := h.1.sl hs
theorem FreshIn.grown {e : TypeId} {lo hi : Nat} {v : Value} {row : Option Nat} (h : FreshIn enc e sz lo hi v xs w) (hg : w.grownBy w' row) (hr : ∀ k, row = some k → k < lo ∨ hi ≤ k) : FreshIn enc e sz lo hi v xs w' := by
  refine ⟨h.1.kept hg ?_, h.2⟩
  cases hv : v.ownBlock with
  | none => exact .inl rfl
  | some k =>
    right
    intro he
    have h1 := h.2 k hv
    have h2 := (h.1.lt hv).1
    rcases hr k he.symm with h3 | h3 <;> omega
end
end
section
open Go.RowKit
structure Mid (lo hi : Nat) (w w' : World) : Prop where
  os : w'.os = w.os
  tape : w'.tape = w.tape
  output : w'.output = w.output
  size : w.heap.size ≤ w'.heap.size
  block : ∀ k, k < w.heap.size → (k < lo ∨ hi ≤ k) → w'.heap[k]? = w.heap[k]?
theorem Mid.refl (lo hi : Nat) (w : World) : Mid lo hi w w := ⟨rfl, rfl, rfl, Nat.le_refl _, fun _ _ _ => rfl⟩
theorem Mid.trans {lo hi : Nat} {a b c : World} (h : Mid lo hi a b) (k : Mid lo hi b c) : Mid lo hi a c :=
  ⟨k.os.trans h.os, k.tape.trans h.tape, k.output.trans h.output, Nat.le_trans h.size k.size, fun i hi hd => (k.block i (Nat.lt_of_lt_of_le hi h.size) hd).trans (h.block i hi hd)⟩
theorem Mid.of_below {w w' : World} (lo hi : Nat) (h : Below w.heap.size w w') : Mid lo hi w w' := ⟨h.os, h.tape, h.output, h.size, fun k hk _ => h.block k hk⟩
theorem Mid.mono {lo hi lo' hi' : Nat} {w w' : World} (h : Mid lo hi w w') (h1 : lo' ≤ lo) (h2 : hi ≤ hi') : Mid lo' hi' w w' :=
  ⟨h.os, h.tape, h.output, h.size, fun k hk hd => h.block k hk (by omega)⟩
theorem Mid.below {lo hi B : Nat} {w w' : World} (h : Mid lo hi w w') (h1 : B ≤ lo) (h2 : B ≤ w.heap.size) : Below B w w' :=
  ⟨h.os, h.tape, h.output, h.size, fun k hk => h.block k (by omega) (by omega)⟩
theorem Mid.setCell {lo hi : Nat} {a w : World} (h : Mid lo hi a w) {p : Addr} (h1 : lo ≤ p.block) (h2 : p.block < hi) (u : Value) : Mid lo hi a (w.setCell p u) :=
  h.trans ⟨rfl, rfl, rfl, by simp [World.setCell], fun k _ hd => Below.heap_setCell _ _ _ _ (by omega)⟩
theorem Mid.cell {lo hi : Nat} {w w' : World} (h : Mid lo hi w w') {p : Addr} (hp : p.block < w.heap.size) (hd : p.block < lo ∨ hi ≤ p.block) : w'.cell? p = w.cell? p :=
  World.cell?_of_block (w := w) (h.block p.block hp hd)
theorem Mid.frozen {lo hi : Nat} {w w' : World} (h : Mid lo hi w w') {p : Addr} (hp : p.block < w.heap.size) (hd : p.block < lo ∨ hi ≤ p.block) : w'.frozen? p = w.frozen? p :=
  World.frozen?_of_block (w := w) (h.block p.block hp hd)
section
variable {α : Type} {enc : α → List Value} {sz : Nat} {w w' : World} {a : Option Addr} {xs : List α}
theorem FreshIn.alloc {e : TypeId} {lo hi : Nat} {v : Value} (h : FreshIn enc e sz lo hi v xs w) (o : Obj) : FreshIn enc e sz lo hi v xs (w.alloc o) := h.below ((Below.refl _ _).alloc (Nat.le_refl _) _)
theorem FreshIn.drew {e : TypeId} {lo hi : Nat} {v : Value} (h : FreshIn enc e sz lo hi v xs w) : FreshIn enc e sz lo hi v xs w.drew := h.below ((Below.refl _ _).drew)
theorem SlIn.alloc {lo hi : Nat} (h : Sl enc sz w a xs ∧ ∀ b off, a = some ⟨b, off, none⟩ → lo ≤ b ∧ b < hi) (o : Obj) : Sl enc sz (w.alloc o) a xs ∧ ∀ b off, a = some ⟨b, off, none⟩ → lo ≤ b ∧ b < hi := ⟨h.1.alloc o, h.2⟩
def SlIn (enc : α → List Value) (sz lo hi : Nat) (w : World) (a : Option Addr) (xs : List α) : Prop := Sl enc sz w a xs ∧ ∀ b off, a = some ⟨b, off, none⟩ → lo ≤ b ∧ b < hi
theorem SlIn.below {lo hi : Nat} (h : SlIn enc sz lo hi w a xs) (hb : Below w.heap.size w w') : SlIn enc sz lo hi w' a xs := ⟨h.1.keep hb, h.2⟩
theorem SlIn.mono {lo hi lo' hi' : Nat} (h : SlIn enc sz lo hi w a xs) (h1 : lo' ≤ lo) (h2 : hi ≤ hi') : SlIn enc sz lo' hi' w a xs := ⟨h.1, fun b off e => by have := h.2 b off e; omega⟩
end
end
section
open Go.RowKit
theorem setCells_own (g : Nat) (e : TypeId) : ∀ (news : List Value) (o : Nat) (w : World) (cur : Array Value), w.heap[g]? = some (.cells cur e (0, 0)) → o + news.length ≤ cur.size →
    ∃ cur', (w.setCells g o news).heap[g]? = some (.cells cur' e (0, 0)) ∧ cur'.size = cur.size ∧ cur'.toList.take (o + news.length) = cur.toList.take o ++ news
  | [], o, w, cur, hg, _ => ⟨cur, hg, rfl, by simp⟩
  | v :: r, o, w, cur, hg, hl => by
    simp only [List.length_cons] at hl
    obtain ⟨cur', h1, h2, h3⟩ := setCells_own g e r (o + 1) (w.setCell ⟨g, o, none⟩ v) (cur.setIfInBounds o v) (heap_setCell_same w g o cur e v hg) (by simp; omega)
    refine ⟨cur', h1, by simpa using h2, ?_⟩
    rw [show o + (v :: r).length = o + 1 + r.length by simp; omega, h3]
    have hlt : o < cur.toList.length := by rw [Array.length_toList]; omega
    have hlt' : o < cur.size := by omega
    rw [Array.toList_setIfInBounds, List.take_succ_eq_append_getElem (by simpa using hlt'), List.getElem_set_self, List.take_set_of_le (Nat.le_refl _), List.append_assoc]
    rfl
theorem setCells_grown (g : Nat) : ∀ (news : List Value) (o : Nat) (w : World), w.grownBy (w.setCells g o news) (some g)
  | [], _, w => World.grownBy.refl _ _
  | v :: r, o, w => by
    have h1 := setCells_grown g r (o + 1) (w.setCell ⟨g, o, none⟩ v)
    refine ⟨h1.os, h1.tape, h1.output, by rw [World.setCells]; have := h1.size; simpa using this, fun k hk hne => ?_⟩
    have := h1.block k (by simpa using hk) hne
    rw [World.setCells, this]
    exact Below.heap_setCell _ _ _ _ (fun e => hne (by rw [e]))
theorem run_append_own_src {P : Program} (w : World) (base : Nat) (t tx ty e : TypeId) (i : TypeInfo) (z : Value) (size bytes : Nat) (ht : P.underlying t = some (.slice e)) (hi : P.info? e = some i) (hz : i.zero = some z)
    (hsize : i.size = size) (hby : i.bytes = bytes) (hzs : z.cells.size = size)
    (v : Value) (n : Nat) (xs : List Value) (hown : w.ownsRow base e size v n xs) (x : Value) (m : Nat) (news : List Value) (hs : Src P size tx x m news w)
    (h63 : n + m ≤ maxLen) (hbytes : (n + m) * bytes ≤ 140737488355328) (hbase : base ≤ w.heap.size) :
    ∃ v' w', (Builtin.append_ #[t, tx] ty #[v, x]).run P w = .ok v' w' ∧ w'.ownsRow base e size v' (n + m) (xs ++ news) ∧ w.grownBy w' v.ownBlock ∧ (v'.ownBlock = v.ownBlock ∨ v'.ownBlock = some w.heap.size) := by
  subst hsize
  subst hby
  have hsmall : ((n + m : Nat) : Int) ≤ 9223372036854775807 := by simp only [maxLen] at h63; omega
  have hnl := hs.newsLen
  have hlen : (xs ++ news).length = (n + m) * i.size := by rw [List.length_append, hown.1, hnl, Nat.add_mul]
  have grown : ∀ (old : Nat) (row : Option Nat),
      (w.drew.alloc (.cells ((xs ++ news).toArray ++ Builtin.zeroCells z.cells (grownCap w (n + m) old e - (n + m))) e)).ownsRow base e i.size
        (.slice (some ⟨w.heap.size, 0, none⟩) (n + m) (grownCap w (n + m) old e)) (n + m) (xs ++ news) ∧
      w.grownBy (w.drew.alloc (.cells ((xs ++ news).toArray ++ Builtin.zeroCells z.cells (grownCap w (n + m) old e - (n + m))) e)) row := by
    intro old row
    have hge := grownCap_ge w (n + m) old e
    have hcm : grownCap w (n + m) old e ≤ maxLen := grownCap_le_maxLen w (n + m) old e h63
    refine ⟨⟨hlen, .inr ⟨w.heap.size, _, _, rfl, hbase, heap_alloc_new w.drew _, hge, hcm, ?_, ?_⟩⟩, ⟨rfl, rfl, rfl, by simp, fun k hk _ => Below.heap_alloc w.drew _ k hk⟩⟩
    · simp only [Array.size_append, List.size_toArray, size_zeroCells, hzs]
      rw [hlen, ← Nat.add_mul]
      congr 1
      omega
    · rw [← hlen, Array.toList_append]
      exact List.take_left
  rcases hown.2 with ⟨rfl, rfl⟩ | ⟨g, cap, cur, rfl, hbg, hg, hnc, hcm, hcs, htake⟩
  · have hx : xs = [] := List.eq_nil_of_length_eq_zero (by simpa using hown.1)
    subst hx
    by_cases hm : m = 0
    · subst hm
      have hn : news = [] := List.eq_nil_of_length_eq_zero (by simpa using hnl)
      subst hn
      exact ⟨.slice none 0 0, w, run_append_nothing w t tx ty e i ht hi none 0 0 (Nat.le_refl _) x hs, World.ownsRow_nil w base e i.size, ⟨rfl, rfl, rfl, Nat.le_refl _, fun _ _ _ => rfl⟩, .inl rfl⟩
    · have hr := run_append_grow_src (P := P) w t tx ty e i z ht hi hz none 0 0 [] (run_firstCells_none w.drew i.size 0 0 0) x m news hs (by omega) (by simpa using hsmall) (growslice_fits (by omega) hbytes)
      have hgr := grown 0 (Value.ownBlock (.slice none 0 0))
      simp only [List.nil_append] at hgr hr ⊢
      exact ⟨_, _, hr, hgr.1, hgr.2, .inr rfl⟩
  · by_cases hroom : n + m ≤ cap
    · have hfit : n * i.size + news.length ≤ cur.size := by rw [hnl, hcs, ← Nat.add_mul]; exact Nat.mul_le_mul_right _ hroom
      have hc : ∀ j, j < news.length → (w.cell? ⟨g, 0 + n * i.size + j, none⟩).isSome = true := by
        intro j hj
        rw [cell_of_row w g _ cur e (0, 0) hg]
        rw [Array.getElem?_eq_getElem (by omega)]
        rfl
      have hf : ∀ j, j < news.length → w.frozen? ⟨g, 0 + n * i.size + j, none⟩ = false := fun j hj => frozen_of_row w g _ cur e hg
      have hr := run_append_room_src (P := P) w t tx ty e i ht hi g 0 n cap x m news hs hroom hc hf
      obtain ⟨cur', h1, h2, h3⟩ := setCells_own g e news (0 + n * i.size) w cur hg (by omega)
      refine ⟨_, _, hr, ⟨hlen, .inr ⟨g, cap, cur', rfl, hbg, h1, hroom, hcm, by omega, ?_⟩⟩, setCells_grown g news _ w, .inl rfl⟩
      rw [Nat.add_mul, ← hnl]
      have h4 : 0 + n * i.size = n * i.size := Nat.zero_add _
      rw [h4] at h3
      rw [h3, htake]
    · have holds : ∀ j u, xs[j]? = some u → w.drew.cell? ((⟨g, 0, none⟩ : Addr).add j) = some u := by
        have := hown.cells (g := g) rfl
        intro j u hu
        simpa using this j u hu
      have hr := run_append_grow_src (P := P) w t tx ty e i z ht hi hz (some ⟨g, 0, none⟩) n cap xs (run_firstCells_some w.drew i.size n ⟨g, 0, none⟩ n cap xs hown.1 holds) x m news hs (by omega) hsmall (growslice_fits (by omega) hbytes)
      have hgr := grown cap (Value.ownBlock (.slice (some ⟨g, 0, none⟩) n cap))
      exact ⟨_, _, hr, hgr.1, hgr.2, .inr rfl⟩
theorem wpList_append_src {P : Program} (w : World) {ops : Array Oper} {rest : List Oper} {o : Oper} {a : Act} {Q : Exit → Act → World → Prop} (hgd : o.guard = none) (s x : Operand) (t tx : TypeId)
    (ho : o.op = .call { callee := .builtin .append, args := #[s, x], argTypes := #[t, tx] })
    (base : Nat) (e : TypeId) (i : TypeInfo) (z : Value) (size bytes : Nat) (ht : P.underlying t = some (.slice e)) (hi : P.info? e = some i) (hz : i.zero = some z)
    (hsize : i.size = size) (hby : i.bytes = bytes) (hzs : z.cells.size = size)
    (v : Value) (n : Nat) (xs : List Value) (hs : a.eval s = v) (hown : w.ownsRow base e size v n xs)
    (xv : Value) (m : Nat) (news : List Value) (hx : a.eval x = xv) (hsrc : Src P size tx xv m news w)
    (h63 : n + m ≤ maxLen) (hbytes : (n + m) * bytes ≤ 140737488355328) (hbase : base ≤ w.heap.size)
    (h : ∀ v' w', w'.ownsRow base e size v' (n + m) (xs ++ news) → w.grownBy w' v.ownBlock → (v'.ownBlock = v.ownBlock ∨ v'.ownBlock = some w.heap.size) → wpList P ops Q rest (a.put o.dst v') w') : wpList P ops Q (o :: rest) a w := by
  refine wpList_plain hgd fun K hK => ?_
  obtain ⟨v', w', hr, h2, h3, h4⟩ := run_append_own_src (P := P) w base t tx o.type e i z size bytes ht hi hz hsize hby hzs v n xs hown xv m news hsrc h63 hbytes hbase
  unfold Oper.wp execOp
  simp only [ho, resolve, invoke, builtin, Sem.run_bind, Sem.run_pure, Result.andThen_ok, List.map_toArray, List.map_cons, List.map_nil, hs, hx, hr]
  exact hK _ _ (h v' w' h2 h3 h4)
section
variable {α : Type} {enc : α → List Value} {sz : Nat} {w w' : World} {a : Option Addr} {xs : List α}
theorem Src.ofSl {P : Program} {tx e' : TypeId} (hk : P.underlying tx = some (.slice e')) (hs : ∀ x, (enc x).length = sz) (h1 : ∀ x, ∀ u ∈ enc x, u.oneCell' = true) (h : Sl enc sz w a xs) (c : Nat) : Src P sz tx (.slice a xs.length c) xs.length (xs.flatMap enc) w := by
  have hone : ∀ u ∈ xs.flatMap enc, u.oneCell' = true := fun u hu => by
    obtain ⟨x, _, hx⟩ := List.mem_flatMap.1 hu
    exact h1 x u hx
  rcases h with rfl | ⟨b, off, rfl, hlt, hc⟩
  · cases a with
    | none => exact Src.ofNil w hk c
    | some a => exact Src.ofSlice w hk a 0 c [] (by simp) (by simp) (by simp)
  · refine Src.ofSlice w hk ⟨b, off, none⟩ _ c _ (flat_length enc sz hs xs) (fun j u hu => ?_) hone
    have hj : j < xs.length * sz := by rw [← flat_length enc sz hs xs]; exact (List.getElem?_eq_some_iff.1 hu).1
    have hsz : 0 < sz := by
      rcases Nat.eq_zero_or_pos sz with h | h
      · rw [h] at hj; simp at hj
      · exact h
    have hq : j / sz < xs.length := Nat.div_lt_of_lt_mul (by rw [Nat.mul_comm]; exact hj)
    have hr : j % sz < sz := Nat.mod_lt _ hsz
    have hj' : j = j / sz * sz + j % sz := by rw [Nat.mul_comm]; exact (Nat.div_add_mod j sz).symm
    have h2 := hc (j / sz) hq (j % sz) hr
    have h3 := flat_get enc sz hs xs (j / sz) hq (j % sz) hr
    rw [← hj', hu] at h3
    rw [← h3] at h2
    have hadd : (⟨b, off, none⟩ : Addr).add j = ⟨b, off + j / sz * sz + j % sz, none⟩ := by
      rw [Addr.add_lit, Nat.add_assoc, ← hj']
    rw [hadd, h2]
theorem byteCells_flat (s : ByteArray) : byteCells s = s.data.toList.flatMap byteE := by
  unfold byteCells
  induction s.data.toList with
  | nil => rfl
  | cons b l ih => simp [List.flatMap_cons, ih, byteE]
theorem FreshIn.nil (enc : α → List Value) (e : TypeId) (sz lo hi : Nat) (w : World) : FreshIn enc e sz lo hi (.slice none 0 0) [] w :=
  ⟨⟨none, 0, rfl, Nat.le_refl _, World.ownsRow_nil _ _ _ _⟩, fun _ hk => by simp [Value.ownBlock] at hk⟩
theorem FreshIn.block {e : TypeId} {lo hi n cap : Nat} (h : FreshIn enc e sz lo hi (.slice a n cap) xs w) (h0 : 0 < xs.length) : ∃ g, a = some ⟨g, 0, none⟩ ∧ lo ≤ g ∧ g < hi ∧ g < w.heap.size ∧ w.ownsRow lo e sz (.slice (some ⟨g, 0, none⟩) xs.length cap) xs.length (xs.flatMap enc) := by
  obtain ⟨⟨a', cap', hv, h1, h2⟩, h3⟩ := h
  cases hv
  rcases h2.2 with ⟨_, hn⟩ | ⟨g, cap', cur, hv, hg, hb, _⟩
  · omega
  · cases hv
    exact ⟨g, rfl, hg, h3 g rfl, (Array.getElem?_eq_some_iff.1 hb).1, h2⟩
theorem FreshIn.len {e : TypeId} {lo hi n cap : Nat} (h : FreshIn enc e sz lo hi (.slice a n cap) xs w) : n = xs.length := by
  obtain ⟨⟨a', cap', hv, h1, h2⟩, h3⟩ := h
  cases hv
  rfl
theorem FreshIn.of_owns {e : TypeId} {lo hi g n cap : Nat} {cs : List Value} (h : w.ownsRow lo e sz (.slice (some ⟨g, 0, none⟩) n cap) n cs) (hn : n = xs.length) (hc : cs = xs.flatMap enc) (hg : g < hi) : FreshIn enc e sz lo hi (.slice (some ⟨g, 0, none⟩) n cap) xs w :=
  ⟨Fresh.of_own h hn hc, fun k hk => by cases hk; exact hg⟩
theorem own_below {base : Nat} {e : TypeId} {size : Nat} {v : Value} {n : Nat} {cs : List Value} (h : w.ownsRow base e size v n cs) (hb : Below w.heap.size w w') : w'.ownsRow base e size v n cs :=
  h.kept (grownBy_of_below hb) (by cases hv : v.ownBlock <;> simp)
theorem Mid.of_grown {lo hi : Nat} {row : Option Nat} (h : w.grownBy w' row) (hr : ∀ k, row = some k → lo ≤ k ∧ k < hi) : Mid lo hi w w' :=
  ⟨h.os, h.tape, h.output, h.size, fun k hk hd => h.block k hk (fun e => by have := hr k e.symm; omega)⟩
theorem FreshIn.row {e : TypeId} {lo hi : Nat} {v : Value} (h : FreshIn enc e sz lo hi v xs w) : ∀ k, v.ownBlock = some k → lo ≤ k ∧ k < hi := fun k hk => ⟨(h.1.lt hk).1, h.2 k hk⟩
theorem wpList_append_fresh {P : Program} {ops : Array Oper} {rest : List Oper} {o : Oper} {a : Act} {Q : Exit → Act → World → Prop} (hgd : o.guard = none) (s x : Operand) (t tx : TypeId)
    (ho : o.op = .call { callee := .builtin .append, args := #[s, x], argTypes := #[t, tx] })
    (lo hi : Nat) (e : TypeId) (i : TypeInfo) (z : Value) (size bytes : Nat) (ht : P.underlying t = some (.slice e)) (hinfo : P.info? e = some i) (hz : i.zero = some z)
    (hsize : i.size = size) (hby : i.bytes = bytes) (hzs : z.cells.size = size) (hbp : 0 < bytes)
    (v : Value) (zs : List α) (hs : a.eval s = v) (hF : FreshIn enc e size lo hi v zs w)
    (xv : Value) (ys : List α) (hx : a.eval x = xv) (hsrc : Src P size tx xv ys.length (ys.flatMap enc) w)
    (hbytes : (zs.length + ys.length) * bytes ≤ 140737488355328) (hlo : lo ≤ w.heap.size)
    (h : ∀ a' c' w' us, Hid (us = zs ++ ys) → FreshIn enc e size lo w'.heap.size (.slice a' us.length c') us w' → Mid lo hi w w' → wpList P ops Q rest (a.put o.dst (.slice a' us.length c')) w') : wpList P ops Q (o :: rest) a w := by
  have hrow := hF.row
  obtain ⟨⟨a', cap', rfl, h1, h2⟩, h3⟩ := hF
  refine wpList_append_src w hgd s x t tx ho lo e i z size bytes ht hinfo hz hsize hby hzs _ zs.length (zs.flatMap enc) hs h2 xv ys.length (ys.flatMap enc) hx hsrc ?_ hbytes hlo ?_
  · have : zs.length + ys.length ≤ (zs.length + ys.length) * bytes := Nat.le_mul_of_pos_right _ hbp
    unfold maxLen; omega
  · intro v' w' k1 k2 k3
    have hf : Fresh enc e size lo v' (zs ++ ys) w' := Fresh.of_own k1 (by simp) (by simp)
    obtain ⟨a1, c1, rfl, _⟩ := id hf
    exact h a1 c1 w' _ rfl hf.here (Mid.of_grown k2 hrow)
theorem Src.ofBox {P : Program} {tx e' : TypeId} (hk : P.underlying tx = some (.slice e')) (hs : ∀ x, (enc x).length = sz) (h1 : ∀ x, ∀ u ∈ enc x, u.oneCell' = true) (x : α) (cs : Array Value) (T : TypeId) (hc : cs.toList = enc x) (b : Nat) (hb : b = w.heap.size) :
    Src P sz tx (.slice (some ⟨b, 0, none⟩) 1 1) [x].length ([x].flatMap enc) (w.alloc (.cells cs T)) := by
  subst hb
  refine Src.ofSlice _ hk ⟨w.heap.size, 0, none⟩ 1 1 _ (by simp [hs]) (fun j u hu => ?_) (fun u hu => h1 x u (by simpa using hu))
  have hj : cs[j]? = some u := by
    rw [← Array.getElem?_toList, hc]; simpa using hu
  rw [Addr.add_lit, Nat.zero_add, World.cell?_alloc_new]
  exact hj
theorem Src.ofStr {P : Program} {tx : TypeId} {w : World} (hk : P.underlying tx = some .string) (s : ByteArray) : Src P 1 tx (.string s) s.data.toList.length (s.data.toList.flatMap byteE) w := by
  rw [← byteCells_flat]
  exact Src.ofString w hk s
end
end
section
open Go.RowKit
structure Upd (g lo hi : Nat) (S : Nat → Prop) (w w' : World) : Prop where
  os : w'.os = w.os
  tape : w'.tape = w.tape
  output : w'.output = w.output
  size : w.heap.size ≤ w'.heap.size
  block : ∀ k, k < w.heap.size → k ≠ g → ¬ S k → w'.heap[k]? = w.heap[k]?
  cell : ∀ o, (o < lo ∨ hi ≤ o) → w'.cell? ⟨g, o, none⟩ = w.cell? ⟨g, o, none⟩
  fz : ∀ o, w'.frozen? ⟨g, o, none⟩ = w.frozen? ⟨g, o, none⟩
section
variable {g lo hi : Nat} {S : Nat → Prop} {a w w' : World}
theorem Upd.refl : Upd g lo hi S w w := ⟨rfl, rfl, rfl, Nat.le_refl _, fun _ _ _ _ => rfl, fun _ _ => rfl, fun _ => rfl⟩
theorem Upd.trans (h : Upd g lo hi S a w) (k : Upd g lo hi S w w') : Upd g lo hi S a w' :=
  ⟨k.os.trans h.os, k.tape.trans h.tape, k.output.trans h.output, Nat.le_trans h.size k.size, fun i h1 h2 h3 => (k.block i (Nat.lt_of_lt_of_le h1 h.size) h2 h3).trans (h.block i h1 h2 h3), fun o ho => (k.cell o ho).trans (h.cell o ho), fun o => (k.fz o).trans (h.fz o)⟩
theorem Upd.setCell (h : Upd g lo hi S a w) (o : Nat) (h1 : lo ≤ o) (h2 : o < hi) (u : Value) : Upd g lo hi S a (w.setCell ⟨g, o, none⟩ u) :=
  h.trans ⟨rfl, rfl, rfl, by simp [World.setCell], fun k _ hk _ => Below.heap_setCell _ _ _ _ hk, fun o' ho => World.cell?_setCell_other _ _ _ _ (fun e => by cases e; omega), fun o' => World.frozen?_setCell _ _ _ _⟩
theorem Upd.below (h : Upd g lo hi S a w) (hb : Below w.heap.size w w') (hg : g < w.heap.size) : Upd g lo hi S a w' :=
  h.trans ⟨hb.os, hb.tape, hb.output, hb.size, fun k h1 _ _ => hb.block k h1, fun o _ => hb.cell (p := ⟨g, o, none⟩) hg, fun o => hb.frozen (p := ⟨g, o, none⟩) hg⟩
theorem Upd.mono {lo' hi' : Nat} {T : Nat → Prop} (h : Upd g lo hi S w w') (h1 : lo' ≤ lo) (h2 : hi ≤ hi') (hS : ∀ k, S k → T k) : Upd g lo' hi' T w w' :=
  ⟨h.os, h.tape, h.output, h.size, fun k a b c => h.block k a b (fun hs => c (hS k hs)), fun o ho => h.cell o (by omega), h.fz⟩
theorem Upd.toBelow {B : Nat} (h : Upd g lo hi S w w') (hB : B ≤ w.heap.size) (h1 : B ≤ g) (hS : ∀ k, S k → B ≤ k) : Below B w w' :=
  ⟨h.os, h.tape, h.output, h.size, fun k hk => h.block k (by omega) (by omega) (fun hs => by have := hS k hs; omega)⟩
variable {α : Type} {enc : α → List Value} {sz : Nat} {ad : Option Addr} {xs : List α}
theorem Sl.row (h : Sl enc sz w (some ⟨g, 0, none⟩) xs) (hg : g < w.heap.size) {q : Nat} (hq : q < xs.length) (hu : Upd g (q * sz) (q * sz + sz) S w w') (x : α) (hx : ∀ j, j < sz → w'.cell? ⟨g, q * sz + j, none⟩ = (enc x)[j]?) : Sl enc sz w' (some ⟨g, 0, none⟩) (xs.set q x) := by
  obtain ⟨b, off, he, hlt, hc⟩ := h.at hq
  simp only [Option.some.injEq, Addr.mk.injEq] at he
  obtain ⟨rfl, rfl, _⟩ := he
  refine .inr ⟨g, 0, rfl, Nat.lt_of_lt_of_le hg hu.size, fun i hi j hj => ?_⟩
  have hi' : i < xs.length := by simpa using hi
  rw [Nat.zero_add]
  by_cases hiq : i = q
  · subst hiq
    rw [hx j hj]
    simp
  · have h1 := hc i hi' j hj
    rw [Nat.zero_add] at h1
    rw [hu.cell _ (by
      rcases Nat.lt_or_gt_of_ne hiq with h | h
      · left
        have : (i + 1) * sz ≤ q * sz := Nat.mul_le_mul_right _ h
        rw [Nat.add_mul] at this
        omega
      · right
        have : (q + 1) * sz ≤ i * sz := Nat.mul_le_mul_right _ h
        rw [Nat.add_mul] at this
        omega), h1]
    rw [List.getElem_set_ne (fun e => hiq e.symm)]
def blkOf : Option Addr → List Nat
  | some p => [p.block]
  | none => []
theorem FreshIn.tight {e : TypeId} {B n c : Nat} (h : FreshIn enc e sz B w.heap.size (.slice ad n c) xs w) : ∃ b, FreshIn enc e sz b (b + 1) (.slice ad n c) xs w ∧ b ≤ w.heap.size ∧ (∀ k, b ≤ k → k < b + 1 → k < w.heap.size → k ∈ blkOf ad) ∧ (b < w.heap.size → b ∈ blkOf ad ∧ B ≤ b) := by
  obtain ⟨⟨a', cap', hv, h1, h2, h3⟩, h4⟩ := h
  cases hv
  rcases h3 with ⟨h3, hn⟩ | ⟨b, cap, cur, hv, hg, hb, r'⟩
  · refine ⟨w.heap.size, ⟨⟨ad, c, rfl, h1, h2, .inl ⟨h3, hn⟩⟩, fun k hk => ?_⟩, Nat.le_refl _, fun k h5 _ h6 => by omega, fun h5 => by omega⟩
    rw [h3] at hk
    simp [Value.ownBlock] at hk
  · cases hv
    have hlt := (Array.getElem?_eq_some_iff.1 hb).1
    refine ⟨b, ⟨⟨_, _, rfl, h1, h2, .inr ⟨b, _, cur, rfl, Nat.le_refl _, hb, r'⟩⟩, fun k hk => ?_⟩, Nat.le_of_lt hlt, fun k h5 h6 _ => ?_, fun _ => ⟨by simp [blkOf], hg⟩⟩
    · simp [Value.ownBlock] at hk
      omega
    · have : k = b := by omega
      subst this
      simp [blkOf]
end
end
section
open Go.RowKit
theorem Tryz.infoString : (Tryz.prog.info? 9).map (fun i => (i.zero, i.size, i.bytes)) = some (some (.string ⟨#[]⟩), 1, 16) := by kernel_rfl
def FreshR {α : Type} (enc : α → List Value) (e : TypeId) (sz : Nat) (w : World) (xs : List α) (en : Ending) (w' : World) : Prop :=
  ∃ v, en = .returned v ∧ Fresh enc e sz w.heap.size v xs w' ∧ Below w.heap.size w w'
theorem Tryz.infoInt : (Tryz.prog.info? 3).map (fun i => (i.zero, i.size, i.bytes)) = some (some (.int .i64 0), 1, 8) := by kernel_rfl
theorem Tryz.infoByte : (Tryz.prog.info? 5).map (fun i => (i.zero, i.size, i.bytes)) = some (some (.int .u8 0), 1, 1) := by kernel_rfl
end
section
open Go.RowKit
def over {α : Type} (f : Nat → α) (xs : List α) (k : Nat) : List α := (List.range k).map f ++ xs.drop k
end
section
open Go.RowKit
def Sep (g : Nat) (bs : List (List Nat)) : Prop :=
  (∀ i (h : i < bs.length), g ∉ bs[i] ∧ bs[i].Nodup) ∧ ∀ i j (hi : i < bs.length) (hj : j < bs.length), i ≠ j → ∀ b ∈ bs[i], b ∉ bs[j]
structure RowsR {R : Type} (enc : R → List Value) (sz : Nat) (ok : Nat → World → R → Prop) (blk : R → List Nat) (B : Nat) (w : World) (g : Nat) (rs : List R) : Prop where
  low : B ≤ g
  lt : g < w.heap.size
  sl : Sl enc sz w (some ⟨g, 0, none⟩) rs
  fz : ∀ o, w.frozen? ⟨g, o, none⟩ = false
  ok : ∀ i (h : i < rs.length), ok B w rs[i]
  sep : Sep g (rs.map blk)
section
variable {R : Type} {enc : R → List Value} {sz : Nat} {ok : Nat → World → R → Prop} {blk : R → List Nat} {B : Nat} {w w' : World} {g : Nat} {rs : List R}
theorem RowsR.step (h : RowsR enc sz ok blk B w g rs) {q : Nat} (hq : q < rs.length) {x : R} (hb : blk x = blk rs[q])
    (hu : Upd g (q * sz) (q * sz + sz) (· ∈ blk rs[q]) w w') (hx : ∀ j, j < sz → w'.cell? ⟨g, q * sz + j, none⟩ = (enc x)[j]?) (ho : ok B w' x)
    (hk : ∀ r, ok B w r → (∀ k ∈ blk r, k ≠ g ∧ k ∉ blk rs[q]) → ok B w' r) : RowsR enc sz ok blk B w' g (rs.set q x) where
  low := h.low
  lt := Nat.lt_of_lt_of_le h.lt hu.size
  sl := Sl.row h.sl h.lt hq hu x hx
  fz := fun o => (hu.fz o).trans (h.fz o)
  ok := fun i hi => by
    have hi' : i < rs.length := by simpa using hi
    by_cases hiq : i = q
    · subst hiq
      simpa using ho
    · rw [List.getElem_set_ne (fun e => hiq e.symm)]
      refine hk _ (h.ok i hi') (fun k hk' => ⟨fun e => ?_, ?_⟩)
      · subst e
        have := (h.sep.1 i (by simpa using hi')).1
        simp at this
        exact this hk'
      · have := h.sep.2 i q (by simpa using hi') (by simpa using hq) hiq k (by simpa using hk')
        simpa using this
  sep := by
    have : (rs.set q x).map blk = rs.map blk := by
      rw [List.map_set, hb]
      exact List.ext_getElem (by simp) (fun i h1 h2 => by
        by_cases hiq : q = i
        · subst hiq; simp
        · rw [List.getElem_set_ne hiq])
    rw [this]
    exact h.sep
theorem RowsR.in (h : RowsR enc sz ok blk B w g rs) {q : Nat} (hq : q < rs.length) : g ∉ blk rs[q] ∧ (blk rs[q]).Nodup := by
  have := h.sep.1 q (by simpa using hq)
  simpa using this
theorem RowsR.below (h : RowsR enc sz ok blk B w g rs) (hb : Below w.heap.size w w') (hk : ∀ r, ok B w r → ok B w' r) : RowsR enc sz ok blk B w' g rs where
  low := h.low
  lt := Nat.lt_of_lt_of_le h.lt hb.size
  sl := h.sl.keep hb
  fz := fun o => (hb.frozen (p := ⟨g, o, none⟩) h.lt).trans (h.fz o)
  ok := fun i hi => hk _ (h.ok i hi)
  sep := h.sep
end
end
section
open Go.RowKit
structure RowsG {R : Type} (own : Nat → World → R → Prop) (blk : R → List Nat) (st : R → Prop) (B : Nat) (w : World) (L : List R) : Prop where
  ow : ∀ r ∈ L, own B w r
  nd : ∀ r ∈ L, (blk r).Nodup
  bd : ∀ r ∈ L, ∀ b ∈ blk r, B ≤ b ∧ b < w.heap.size
  sta : ∀ r ∈ L, st r
  ap : L.Pairwise (fun r s => ∀ b ∈ blk r, b ∉ blk s)
section
variable {R : Type} {own : Nat → World → R → Prop} {blk : R → List Nat} {st : R → Prop} {B lo : Nat} {w w' : World} {L : List R} {t : R}
theorem RowsG.nil : RowsG own blk st B w [] := ⟨by simp, by simp, by simp, by simp, .nil⟩
theorem RowsG.to (h : RowsG own blk st B w L) (hz : w.heap.size ≤ w'.heap.size) (hk : ∀ r, own B w r → own B w' r) : RowsG own blk st B w' L :=
  ⟨fun r hr => hk r (h.ow r hr), h.nd, fun r hr b hb => ⟨(h.bd r hr b hb).1, Nat.lt_of_lt_of_le (h.bd r hr b hb).2 hz⟩, h.sta, h.ap⟩
theorem RowsG.rows {enc : R → List Value} {sz B' g : Nat} (h : RowsG own blk st B w L) (hs : Sl enc sz w (some ⟨g, 0, none⟩) L) (hB : B' ≤ g) (hg : g < B) (hgw : g < w.heap.size) (hf : ∀ o, w.frozen? ⟨g, o, none⟩ = false) (hm : ∀ r, own B w r → own B' w r) : RowsR enc sz own blk B' w g L where
  low := hB
  lt := hgw
  sl := hs
  fz := hf
  ok := fun i hi => hm _ (h.ow _ (List.getElem_mem hi))
  sep := by
    refine ⟨fun i hi => ?_, fun i j hi hj hij b hb => ?_⟩
    · have hi' : i < L.length := by simpa using hi
      rw [List.getElem_map]
      refine ⟨fun hb => ?_, h.nd _ (List.getElem_mem hi')⟩
      have := h.bd _ (List.getElem_mem hi') g hb
      omega
    · have hi' : i < L.length := by simpa using hi
      have hj' : j < L.length := by simpa using hj
      rw [List.getElem_map] at hb ⊢
      have hp := List.pairwise_iff_getElem.1 h.ap
      rcases Nat.lt_or_gt_of_ne hij with hlt | hlt
      · exact hp i j hi' hj' hlt b hb
      · exact fun hbj => hp j i hj' hi' hlt b hbj hb
theorem blkOf_nodup (a : Option Addr) : (blkOf a).Nodup := by cases a <;> simp [blkOf]
theorem FreshIn.blks {α : Type} {enc : α → List Value} {sz : Nat} {e : TypeId} {hi n c : Nat} {ad : Option Addr} {xs : List α} (h : FreshIn enc e sz lo hi (.slice ad n c) xs w) : ∀ k ∈ blkOf ad, lo ≤ k ∧ k < hi := by
  intro k hk
  cases ad with
  | none => simp [blkOf] at hk
  | some p =>
    simp only [blkOf, List.mem_singleton] at hk
    subst hk
    exact (FreshIn.row h) p.block (by simp [Value.ownBlock])
theorem FreshIn.low {α : Type} {enc : α → List Value} {sz : Nat} {e : TypeId} {hi n c : Nat} {ad : Option Addr} {xs : List α} {B' : Nat} (h : FreshIn enc e sz lo hi (.slice ad n c) xs w) (h1 : B' ≤ lo) : FreshIn enc e sz B' hi (.slice ad n c) xs w := h.mono h1 (Nat.le_refl _)
theorem FreshIn.keepB {α : Type} {enc : α → List Value} {sz : Nat} {e : TypeId} {n c : Nat} {ad : Option Addr} {xs : List α} (h : FreshIn enc e sz B w.heap.size (.slice ad n c) xs w) (hb : Below w.heap.size w w') : FreshIn enc e sz B w'.heap.size (.slice ad n c) xs w' := (h.below hb).mono (Nat.le_refl _) hb.size
theorem FreshIn.setB {α : Type} {enc : α → List Value} {sz : Nat} {e : TypeId} {n c : Nat} {ad : Option Addr} {xs : List α} (h : FreshIn enc e sz B w.heap.size (.slice ad n c) xs w) {p : Addr} (hp : p.block < B) (u : Value) : FreshIn enc e sz B (w.setCell p u).heap.size (.slice ad n c) xs (w.setCell p u) := by
  have := h.setCell hp u
  simpa [World.setCell] using this
end
end
section
open Go.RowKit
section
variable {α : Type} {enc : α → List Value} {w : World}
theorem wp_append_fresh {P : Program} {o : Oper} {a : Act} {K : Act → World → Prop} {Q : Exit → Act → World → Prop} (s x : Operand) (t tx : TypeId)
    (ho : o.op = .call { callee := .builtin .append, args := #[s, x], argTypes := #[t, tx] })
    (lo hi : Nat) (e : TypeId) (i : TypeInfo) (z : Value) (size bytes : Nat) (ht : P.underlying t = some (.slice e)) (hinfo : P.info? e = some i) (hz : i.zero = some z)
    (hsize : i.size = size) (hby : i.bytes = bytes) (hzs : z.cells.size = size) (hbp : 0 < bytes)
    (v : Value) (zs : List α) (hs : a.eval s = v) (hF : FreshIn enc e size lo hi v zs w)
    (xv : Value) (ys : List α) (hx : a.eval x = xv) (hsrc : Src P size tx xv ys.length (ys.flatMap enc) w)
    (hbytes : (zs.length + ys.length) * bytes ≤ 140737488355328) (hlo : lo ≤ w.heap.size)
    (h : ∀ a' c' w' us, Hid (us = zs ++ ys) → FreshIn enc e size lo w'.heap.size (.slice a' us.length c') us w' → Mid lo hi w w' → K (a.put o.dst (.slice a' us.length c')) w') : o.wp P a w K Q := by
  have hrow := hF.row
  obtain ⟨⟨a', cap', rfl, h1, h2⟩, h3⟩ := hF
  have h63 : zs.length + ys.length ≤ maxLen := by
    have : zs.length + ys.length ≤ (zs.length + ys.length) * bytes := Nat.le_mul_of_pos_right _ hbp
    unfold maxLen; omega
  obtain ⟨v', w', hr, k1, k2, k3⟩ := run_append_own_src (P := P) w lo t tx o.type e i z size bytes ht hinfo hz hsize hby hzs _ zs.length (zs.flatMap enc) h2 xv ys.length (ys.flatMap enc) hsrc h63 hbytes hlo
  have hf : Fresh enc e size lo v' (zs ++ ys) w' := Fresh.of_own k1 (by simp) (by simp)
  obtain ⟨a1, c1, rfl, _⟩ := id hf
  unfold Oper.wp execOp
  simp only [ho, resolve, invoke, builtin, Sem.run_bind, Sem.run_pure, Result.andThen_ok, List.map_toArray, List.map_cons, List.map_nil, hs, hx, hr]
  exact h a1 c1 w' _ rfl hf.here (Mid.of_grown k2 hrow)
theorem step_append_fresh {P : Program} {ops : Array Oper} {o : Oper} {a : Act} {K : Act → World → Prop} {Q : Exit → Act → World → Prop} {E : Prop} (hgd : o.guard = none) (s x : Operand) (t tx : TypeId)
    (ho : o.op = .call { callee := .builtin .append, args := #[s, x], argTypes := #[t, tx] })
    (lo hi : Nat) (e : TypeId) (i : TypeInfo) (z : Value) (size bytes : Nat) (ht : P.underlying t = some (.slice e)) (hinfo : P.info? e = some i) (hz : i.zero = some z)
    (hsize : i.size = size) (hby : i.bytes = bytes) (hzs : z.cells.size = size) (hbp : 0 < bytes)
    (v : Value) (zs : List α) (hs : a.eval s = v) (hF : FreshIn enc e size lo hi v zs w)
    (xv : Value) (ys : List α) (hx : a.eval x = xv) (hsrc : Src P size tx xv ys.length (ys.flatMap enc) w)
    (hbytes : (zs.length + ys.length) * bytes ≤ 140737488355328) (hlo : lo ≤ w.heap.size)
    (h : ∀ a' c' w' us, Hid (us = zs ++ ys) → FreshIn enc e size lo w'.heap.size (.slice a' us.length c') us w' → Mid lo hi w w' → K (a.put o.dst (.slice a' us.length c')) w') :
    if Region.wanted o (yielded ops a.tmps) = true then Oper.wp P o a w K Q else E := by
  have hw : Region.wanted o (yielded ops a.tmps) = true := by simp [Region.wanted, hgd]
  rw [if_pos hw]
  exact wp_append_fresh s x t tx ho lo hi e i z size bytes ht hinfo hz hsize hby hzs hbp v zs hs hF xv ys hx hsrc hbytes hlo h
end
end
section
open Go.RowKit
structure Ch (M : Nat → Prop) (w w' : World) : Prop where
  os : w'.os = w.os
  tape : w'.tape = w.tape
  output : w'.output = w.output
  size : w.heap.size ≤ w'.heap.size
  block : ∀ k, k < w.heap.size → ¬ M k → w'.heap[k]? = w.heap[k]?
section
variable {M N : Nat → Prop} {a w w' : World}
theorem Ch.refl : Ch M w w := ⟨rfl, rfl, rfl, Nat.le_refl _, fun _ _ _ => rfl⟩
theorem Ch.trans (h : Ch M a w) (k : Ch N w w') (hN : ∀ i, N i → M i ∨ a.heap.size ≤ i) : Ch M a w' :=
  ⟨k.os.trans h.os, k.tape.trans h.tape, k.output.trans h.output, Nat.le_trans h.size k.size, fun i h1 h2 => (k.block i (Nat.lt_of_lt_of_le h1 h.size) (fun t => by
    rcases hN i t with h4 | h4
    · exact h2 h4
    · omega)).trans (h.block i h1 h2)⟩
theorem Ch.mono (h : Ch N w w') (hN : ∀ i, N i → M i ∨ w.heap.size ≤ i) : Ch M w w' := Ch.trans Ch.refl h hN
theorem Ch.of_below (h : Below w.heap.size w w') : Ch M w w' := ⟨h.os, h.tape, h.output, h.size, fun k hk _ => h.block k hk⟩
theorem Ch.of_mid {l r : Nat} (h : Mid l r w w') (hM : ∀ k, l ≤ k → k < r → k < w.heap.size → M k) : Ch M w w' :=
  ⟨h.os, h.tape, h.output, h.size, fun k hk hn => h.block k hk (by
    rcases Nat.lt_or_ge k l with h1 | h1
    · exact .inl h1
    · rcases Nat.lt_or_ge k r with h2 | h2
      · exact absurd (hM k h1 h2 hk) hn
      · exact .inr h2)⟩
theorem Ch.setCell (h : Ch M a w) {p : Addr} (hp : M p.block ∨ a.heap.size ≤ p.block) (u : Value) : Ch M a (w.setCell p u) :=
  h.trans (N := fun k => k = p.block) ⟨rfl, rfl, rfl, by simp [World.setCell], fun k _ hk => Below.heap_setCell _ _ _ _ hk⟩ (fun i hi => by subst hi; exact hp)
theorem Ch.alloc (h : Ch M a w) (o : Obj) : Ch M a (w.alloc o) := h.trans (N := fun _ => False) (Ch.of_below ((Below.refl _ _).alloc (Nat.le_refl _) _)) (fun _ h => h.elim)
theorem Ch.drew (h : Ch M a w) : Ch M a w.drew := h.trans (N := fun _ => False) (Ch.of_below ((Below.refl _ _).drew)) (fun _ h => h.elim)
theorem Ch.below1 (h : Ch M a w) (k : Below w.heap.size w w') : Ch M a w' := h.trans (N := fun _ => False) (Ch.of_below k) (fun _ h => h.elim)
theorem Ch.cell (h : Ch M w w') {p : Addr} (hp : p.block < w.heap.size) (hd : ¬ M p.block) : w'.cell? p = w.cell? p := World.cell?_of_block (w := w) (h.block p.block hp hd)
theorem Ch.frozen (h : Ch M w w') {p : Addr} (hp : p.block < w.heap.size) (hd : ¬ M p.block) : w'.frozen? p = w.frozen? p := World.frozen?_of_block (w := w) (h.block p.block hp hd)
theorem Ch.below {B : Nat} (h : Ch M w w') (hB : B ≤ w.heap.size) (hM : ∀ k, M k → B ≤ k) : Below B w w' :=
  ⟨h.os, h.tape, h.output, h.size, fun k hk => h.block k (by omega) (fun hm => by have := hM k hm; omega)⟩
variable {α : Type} {enc : α → List Value} {sz : Nat} {ad : Option Addr} {xs : List α}
theorem Sl.ch (h : Sl enc sz w ad xs) (hc : Ch M w w') (hd : ∀ k ∈ blkOf ad, ¬ M k) : Sl enc sz w' ad xs := by
  rcases h with h1 | ⟨b, off, rfl, hlt, hq⟩
  · exact .inl h1
  · exact .inr ⟨b, off, rfl, Nat.lt_of_lt_of_le hlt hc.size, fun i hi j hj => by
      rw [hc.cell (p := ⟨b, _, none⟩) hlt (hd b (by simp [blkOf]))]; exact hq i hi j hj⟩
theorem FreshIn.ch {e : TypeId} {B n c : Nat} (h : FreshIn enc e sz B w.heap.size (.slice ad n c) xs w) (hu : Ch M w w') (hd : ∀ k ∈ blkOf ad, ¬ M k) : FreshIn enc e sz B w'.heap.size (.slice ad n c) xs w' := by
  obtain ⟨⟨a', cap', hv, h1, h2, h3⟩, h4⟩ := h
  refine ⟨⟨a', cap', hv, h1, h2, ?_⟩, fun k hk => Nat.lt_of_lt_of_le (h4 k hk) hu.size⟩
  cases hv
  rcases h3 with h3 | ⟨b, cap, cur, hv, hg, hb, r'⟩
  · exact .inl h3
  · refine .inr ⟨b, cap, cur, hv, hg, ?_, r'⟩
    cases hv
    rw [hu.block b (Array.getElem?_eq_some_iff.1 hb).1 (hd b (by simp [blkOf]))]
    exact hb
end
structure OwnL {R : Type} (own : Nat → World → R → Prop) (blk : R → List Nat) : Prop where
  ch : ∀ {lo w w' r} {M : Nat → Prop}, own lo w r → Ch M w w' → (∀ k ∈ blk r, ¬ M k) → own lo w' r
  low : ∀ {lo lo' w r}, lo' ≤ lo → own lo w r → own lo' w r
  bd : ∀ {lo w r}, own lo w r → ∀ k ∈ blk r, lo ≤ k ∧ k < w.heap.size
  nd : ∀ {lo w r}, own lo w r → (blk r).Nodup
def roB {R : Type} (blk : R → List Nat) (am : Option Addr) (L : List R) : List Nat := blkOf am ++ L.flatMap blk
structure RO {R : Type} (enc : R → List Value) (T : TypeId) (sz : Nat) (own : Nat → World → R → Prop) (blk : R → List Nat) (lo : Nat) (L : List R) (am : Option Addr) (cm : Nat) (w : World) : Prop where
  row : FreshIn enc T sz lo w.heap.size (.slice am L.length cm) L w
  ow : ∀ r ∈ L, own lo w r
  nd : (roB blk am L).Nodup
section
variable {R : Type} {enc : R → List Value} {T : TypeId} {sz : Nat} {own : Nat → World → R → Prop} {blk : R → List Nat} {lo : Nat} {L : List R} {am : Option Addr} {cm : Nat} {w w' : World} {M : Nat → Prop}
theorem RO.nil : RO enc T sz own blk lo [] none 0 w := ⟨FreshIn.nil _ _ _ _ _ _, by simp, by simp [roB, blkOf]⟩
theorem RO.ch (hO : OwnL own blk) (h : RO enc T sz own blk lo L am cm w) (hc : Ch M w w') (hd : ∀ k ∈ roB blk am L, ¬ M k) : RO enc T sz own blk lo L am cm w' :=
  ⟨h.row.ch hc (fun k hk => hd k (by simp [roB, hk])), fun r hr => hO.ch (h.ow r hr) hc (fun k hk => hd k (by simp only [roB, List.mem_append, List.mem_flatMap]; exact .inr ⟨r, hr, hk⟩)), h.nd⟩
theorem RO.keep (hO : OwnL own blk) (h : RO enc T sz own blk lo L am cm w) (hb : Below w.heap.size w w') : RO enc T sz own blk lo L am cm w' := h.ch hO (M := fun _ => False) (Ch.of_below hb) (fun _ _ h => h)
theorem RO.bd (hO : OwnL own blk) (h : RO enc T sz own blk lo L am cm w) : ∀ k ∈ roB blk am L, lo ≤ k ∧ k < w.heap.size := by
  intro k hk
  simp only [roB, List.mem_append, List.mem_flatMap] at hk
  rcases hk with hk | ⟨r, hr, hk⟩
  · exact FreshIn.blks h.row k hk
  · exact hO.bd (h.ow r hr) k hk
theorem RO.low (hO : OwnL own blk) {lo' : Nat} (h : RO enc T sz own blk lo L am cm w) (hl : lo' ≤ lo) : RO enc T sz own blk lo' L am cm w := ⟨h.row.mono hl (Nat.le_refl _), fun r hr => hO.low hl (h.ow r hr), h.nd⟩
theorem RO.push (hO : OwnL own blk) {x : R} {us : List R} {am' : Option Addr} {cm' : Nat} (h : RO enc T sz own blk lo L am cm w) (hx : own lo w x) (hd : ∀ k ∈ blk x, k ∉ roB blk am L)
    (hus : us = L ++ [x]) (hf : FreshIn enc T sz lo w'.heap.size (.slice am' us.length cm') us w') (hc : Ch (· ∈ blkOf am) w w') (hk : ∀ k ∈ blkOf am', k ∈ blkOf am ∨ k = w.heap.size) : RO enc T sz own blk lo us am' cm' w' := by
  have hnd := h.nd
  simp only [roB, List.nodup_append] at hnd
  obtain ⟨n1, n2, n3⟩ := hnd
  subst hus
  refine ⟨hf, fun r hr => ?_, ?_⟩
  · rcases List.mem_append.1 hr with hr | hr
    · exact hO.ch (h.ow r hr) hc (fun k hk1 hk2 => n3 k hk2 k (List.mem_flatMap.2 ⟨r, hr, hk1⟩) rfl)
    · simp at hr; subst hr
      exact hO.ch hx hc (fun k hk1 hk2 => hd k hk1 (by simp [roB, hk2]))
  · simp only [roB, List.flatMap_append, List.flatMap_cons, List.flatMap_nil, List.append_nil, List.nodup_append]
    refine ⟨blkOf_nodup _, ⟨n2, hO.nd hx, fun k hk1 j hj e => ?_⟩, fun k hk1 j hj e => ?_⟩
    · subst e
      exact hd k hj (by simp only [roB, List.mem_append]; exact .inr hk1)
    · subst e
      have hb : k ∈ L.flatMap blk ++ blk x → k < w.heap.size := fun hk2 => by
        rcases List.mem_append.1 hk2 with hk2 | hk2
        · obtain ⟨r, hr, hk3⟩ := List.mem_flatMap.1 hk2
          exact (hO.bd (h.ow r hr) k hk3).2
        · exact (hO.bd hx k hk2).2
      have hlt := hb (by simpa using hj)
      rcases hk k hk1 with h1 | h1
      · rcases List.mem_append.1 (by simpa using hj : k ∈ L.flatMap blk ++ blk x) with h2 | h2
        · exact n3 k h1 k h2 rfl
        · exact hd k h2 (by simp [roB, h1])
      · omega
end
section
variable {α : Type} {enc : α → List Value} {w : World}
theorem blkOf_own' {a : Option Addr} {n c : Nat} {k : Nat} : k ∈ blkOf a ↔ (Value.slice a n c).ownBlock = some k := by
  cases a with
  | none => simp [blkOf, Value.ownBlock]
  | some p => simp [blkOf, Value.ownBlock, eq_comm]
theorem wpList_append_ch {P : Program} {ops : Array Oper} {rest : List Oper} {o : Oper} {a : Act} {Q : Exit → Act → World → Prop} (s x : Operand) (t tx : TypeId)
    (lo : Nat) (e : TypeId) (i : TypeInfo) (z : Value) (size bytes : Nat) (ht : P.underlying t = some (.slice e)) (hinfo : P.info? e = some i) (hz : i.zero = some z)
    (hsize : i.size = size) (hby : i.bytes = bytes) (hzs : z.cells.size = size) (hbp : 0 < bytes)
    (ad : Option Addr) (n c : Nat) (zs : List α) (hF : FreshIn enc e size lo w.heap.size (.slice ad n c) zs w)
    (xv : Value) (ys : List α) (hsrc : Src P size tx xv ys.length (ys.flatMap enc) w)
    (hbytes : (zs.length + ys.length) * bytes ≤ 140737488355328) (hlo : lo ≤ w.heap.size)
    (hgd : o.guard = none) (ho : o.op = .call { callee := .builtin .append, args := #[s, x], argTypes := #[t, tx] }) (hs : a.eval s = .slice ad n c) (hx : a.eval x = xv)
    (h : ∀ a' c' w' us, Hid (us = zs ++ ys) → FreshIn enc e size lo w'.heap.size (.slice a' us.length c') us w' → Ch (· ∈ blkOf ad) w w' → (∀ k ∈ blkOf a', k ∈ blkOf ad ∨ k = w.heap.size) → wpList P ops Q rest (a.put o.dst (.slice a' us.length c')) w') : wpList P ops Q (o :: rest) a w := by
  obtain ⟨b, t1, t2, t3, t4⟩ := hF.tight
  have hblk := FreshIn.blks hF
  have hrow := t1.row
  obtain ⟨⟨a', cap', hv, h1, h2⟩, h3⟩ := t1
  cases hv
  refine wpList_append_src w hgd s x t tx ho b e i z size bytes ht hinfo hz hsize hby hzs _ zs.length (zs.flatMap enc) hs h2 xv ys.length (ys.flatMap enc) hx hsrc ?_ hbytes t2 ?_
  · have : zs.length + ys.length ≤ (zs.length + ys.length) * bytes := Nat.le_mul_of_pos_right _ hbp
    unfold maxLen; omega
  · intro v' w' k1 k2 k3
    have hf : Fresh enc e size b v' (zs ++ ys) w' := Fresh.of_own k1 (by simp) (by simp)
    obtain ⟨a1, c1, rfl, _⟩ := id hf
    have hm : Mid b (b + 1) w w' := Mid.of_grown k2 hrow
    have hk : ∀ k ∈ blkOf a1, k ∈ blkOf ad ∨ k = w.heap.size := fun k hk => by
      have hk' := (blkOf_own' (n := (zs ++ ys).length) (c := c1)).1 hk
      rcases k3 with k3 | k3
      · exact .inl ((blkOf_own' (n := zs.length) (c := c)).2 (k3 ▸ hk'))
      · rw [k3] at hk'
        exact .inr (Option.some.inj hk').symm
    refine h a1 c1 w' _ rfl ?_ (Ch.of_mid hm t3) hk
    rcases Nat.lt_or_ge b w.heap.size with hb | hb
    · exact hf.here.mono (t4 hb).2 (Nat.le_refl _)
    · exact hf.here.mono (by omega) (Nat.le_refl _)
end
end
section
open Go.RowKit
section
variable {α : Type} {enc : α → List Value} {w : World}
theorem step_append_wp {P : Program} {o : Oper} {a : Act} {K : Act → World → Prop} {Q : Exit → Act → World → Prop} (s x : Operand) (t tx : TypeId)
    (ho : o.op = .call { callee := .builtin .append, args := #[s, x], argTypes := #[t, tx] })
    (lo hi : Nat) (e : TypeId) (i : TypeInfo) (z : Value) (size bytes : Nat) (ht : P.underlying t = some (.slice e)) (hinfo : P.info? e = some i) (hz : i.zero = some z)
    (hsize : i.size = size) (hby : i.bytes = bytes) (hzs : z.cells.size = size) (hbp : 0 < bytes)
    (ad : Option Addr) (n c : Nat) (zs : List α) (hs : a.eval s = .slice ad n c) (hF : FreshIn enc e size lo hi (.slice ad n c) zs w)
    (xv : Value) (ys : List α) (hx : a.eval x = xv) (hsrc : Src P size tx xv ys.length (ys.flatMap enc) w)
    (hbytes : (zs.length + ys.length) * bytes ≤ 140737488355328) (hlo : lo ≤ w.heap.size)
    (h : ∀ a' c' w' us, Hid (us = zs ++ ys) → FreshIn enc e size lo w'.heap.size (.slice a' us.length c') us w' → Mid lo hi w w' → (∀ k ∈ blkOf a', k ∈ blkOf ad ∨ k = w.heap.size) → K (a.put o.dst (.slice a' us.length c')) w') :
    Oper.wp P o a w K Q := by
  have hrow := hF.row
  obtain ⟨⟨a', cap', hv, h1, h2⟩, h3⟩ := hF
  cases hv
  have h63 : zs.length + ys.length ≤ maxLen := by
    have : zs.length + ys.length ≤ (zs.length + ys.length) * bytes := Nat.le_mul_of_pos_right _ hbp
    unfold maxLen; omega
  obtain ⟨v', w', hr, k1, k2, k3⟩ := run_append_own_src (P := P) w lo t tx o.type e i z size bytes ht hinfo hz hsize hby hzs _ zs.length (zs.flatMap enc) h2 xv ys.length (ys.flatMap enc) hsrc h63 hbytes hlo
  have hf : Fresh enc e size lo v' (zs ++ ys) w' := Fresh.of_own k1 (by simp) (by simp)
  obtain ⟨a1, c1, rfl, _⟩ := id hf
  unfold Oper.wp execOp
  simp only [ho, resolve, invoke, builtin, Sem.run_bind, Sem.run_pure, Result.andThen_ok, List.map_toArray, List.map_cons, List.map_nil, hs, hx, hr]
  refine h a1 c1 w' _ rfl hf.here (Mid.of_grown k2 hrow) (fun k hk => ?_)
  have hk' := (blkOf_own' (n := (zs ++ ys).length) (c := c1)).1 hk
  rcases k3 with k3 | k3
  · exact .inl ((blkOf_own' (n := zs.length) (c := c)).2 (k3 ▸ hk'))
  · rw [k3] at hk'
    exact .inr (Option.some.inj hk').symm
end
section
variable {α : Type} {enc : α → List Value} {w : World}
theorem step_append_ch {P : Program} {o : Oper} {a : Act} {K : Act → World → Prop} {Q : Exit → Act → World → Prop} (s x : Operand) (t tx : TypeId)
    (lo : Nat) (e : TypeId) (i : TypeInfo) (z : Value) (size bytes : Nat) (ht : P.underlying t = some (.slice e)) (hinfo : P.info? e = some i) (hz : i.zero = some z)
    (hsize : i.size = size) (hby : i.bytes = bytes) (hzs : z.cells.size = size) (hbp : 0 < bytes)
    (ad : Option Addr) (n c : Nat) (zs : List α) (hF : FreshIn enc e size lo w.heap.size (.slice ad n c) zs w)
    (xv : Value) (ys : List α) (hsrc : Src P size tx xv ys.length (ys.flatMap enc) w)
    (hbytes : (zs.length + ys.length) * bytes ≤ 140737488355328) (hlo : lo ≤ w.heap.size)
    (ho : o.op = .call { callee := .builtin .append, args := #[s, x], argTypes := #[t, tx] }) (hs : a.eval s = .slice ad n c) (hx : a.eval x = xv)
    (h : ∀ a' c' w' us, Hid (us = zs ++ ys) → FreshIn enc e size lo w'.heap.size (.slice a' us.length c') us w' → Ch (· ∈ blkOf ad) w w' → (∀ k ∈ blkOf a', k ∈ blkOf ad ∨ k = w.heap.size) → K (a.put o.dst (.slice a' us.length c')) w') : Oper.wp P o a w K Q := by
  obtain ⟨b, t1, t2, t3, t4⟩ := hF.tight
  refine step_append_wp s x t tx ho b (b + 1) e i z size bytes ht hinfo hz hsize hby hzs hbp ad n c zs hs t1 xv ys hx hsrc hbytes t2 ?_
  intro a' c' w' us hus hf hm hk
  refine h a' c' w' us hus ?_ (Ch.of_mid hm t3) hk
  rcases Nat.lt_or_ge b w.heap.size with hb | hb
  · exact hf.mono (t4 hb).2 (Nat.le_refl _)
  · exact hf.mono (by omega) (Nat.le_refl _)
end
end
section
open Go.RowKit
def Win {α : Type} (enc : α → List Value) (e : TypeId) (sz lo : Nat) (w : World) (ad : Option Addr) (c : Nat) (xs : List α) : Prop :=
  (ad = none ∧ c = 0 ∧ xs = []) ∨ ∃ g off cur, ad = some ⟨g, off, none⟩ ∧ lo ≤ g ∧ w.heap[g]? = some (.cells cur e (0, 0)) ∧ xs.length ≤ c ∧ off + c * sz ≤ cur.size ∧ c ≤ maxLen ∧ (cur.toList.drop off).take (xs.length * sz) = xs.flatMap enc
section
variable {α : Type} {enc : α → List Value} {e : TypeId} {sz lo : Nat} {w w' : World} {ad : Option Addr} {c : Nat} {xs : List α}
theorem Win.nil : Win enc e sz lo w none 0 [] := .inl ⟨rfl, rfl, rfl⟩
theorem Win.cap (h : Win enc e sz lo w ad c xs) : xs.length ≤ c ∧ c ≤ maxLen := by
  rcases h with ⟨_, rfl, rfl⟩ | ⟨g, off, cur, _, _, _, h1, _, h2, _⟩
  · exact ⟨Nat.le_refl _, Nat.zero_le _⟩
  · exact ⟨h1, h2⟩
theorem Win.blk (h : Win enc e sz lo w ad c xs) : ∀ k ∈ blkOf ad, lo ≤ k ∧ k < w.heap.size := by
  rcases h with ⟨rfl, _⟩ | ⟨g, off, cur, rfl, hlo, hg, _⟩
  · simp [blkOf]
  · intro k hk
    simp only [blkOf, List.mem_singleton] at hk
    subst hk
    exact ⟨hlo, (Array.getElem?_eq_some_iff.1 hg).1⟩
theorem Win.ch {M : Nat → Prop} (h : Win enc e sz lo w ad c xs) (hc : Ch M w w') (hM : ∀ k ∈ blkOf ad, ¬ M k) : Win enc e sz lo w' ad c xs := by
  rcases h with h | ⟨g, off, cur, rfl, hlo, hg, r⟩
  · exact .inl h
  · refine .inr ⟨g, off, cur, rfl, hlo, ?_, r⟩
    rw [hc.block g (Array.getElem?_eq_some_iff.1 hg).1 (hM g (by simp [blkOf]))]
    exact hg
theorem Win.below (h : Win enc e sz lo w ad c xs) (hb : Below w.heap.size w w') : Win enc e sz lo w' ad c xs := h.ch (M := fun _ => False) (Ch.of_below hb) (fun _ _ h => h)
theorem Win.alloc (h : Win enc e sz lo w ad c xs) (o : Obj) : Win enc e sz lo (w.alloc o) ad c xs := h.below ((Below.refl _ _).alloc (Nat.le_refl _) _)
theorem Win.drew (h : Win enc e sz lo w ad c xs) : Win enc e sz lo w.drew ad c xs := h.below ((Below.refl _ _).drew)
theorem Win.low {lo' : Nat} (h : Win enc e sz lo w ad c xs) (hl : lo' ≤ lo) : Win enc e sz lo' w ad c xs := by
  rcases h with h | ⟨g, off, cur, r1, r2, r3⟩
  · exact .inl h
  · exact .inr ⟨g, off, cur, r1, Nat.le_trans hl r2, r3⟩
theorem Win.cells (h : Win enc e sz lo w ad c xs) (h0 : xs ≠ []) : ∃ g off, ad = some ⟨g, off, none⟩ ∧ g < w.heap.size ∧ ∀ j u, (xs.flatMap enc)[j]? = some u → w.cell? ⟨g, off + j, none⟩ = some u := by
  rcases h with ⟨_, _, rfl⟩ | ⟨g, off, cur, rfl, hlo, hg, h1, h2, _, h3⟩
  · exact absurd rfl h0
  · refine ⟨g, off, rfl, (Array.getElem?_eq_some_iff.1 hg).1, fun j u hu => ?_⟩
    rw [← h3, List.getElem?_take] at hu
    split at hu
    · rw [List.getElem?_drop] at hu
      rw [cell_of_row w g _ cur e (0, 0) hg]
      simpa using hu
    · cases hu
theorem Win.sl (hs : ∀ x, (enc x).length = sz) (h : Win enc e sz lo w ad c xs) : Sl enc sz w ad xs := by
  by_cases h0 : xs = []
  · exact .inl h0
  · obtain ⟨g, off, rfl, hlt, hc⟩ := h.cells h0
    refine .inr ⟨g, off, rfl, hlt, fun i hi j hj => ?_⟩
    have h1 := flat_get enc sz hs xs i hi j hj
    have hlt : j < (enc xs[i]).length := by rw [hs]; exact hj
    rw [List.getElem?_eq_getElem hlt] at h1 ⊢
    have := hc _ _ h1
    rwa [← Nat.add_assoc] at this
theorem FreshIn.win {hi n : Nat} (h : FreshIn enc e sz lo hi (.slice ad n c) xs w) : Win enc e sz lo w ad c xs := by
  obtain ⟨⟨a', cap', hv, h1, h2⟩, h3⟩ := h
  cases hv
  rcases h2.2 with ⟨hv, hn⟩ | ⟨g, cap, cur, hv, hbg, hg, hnc, hcm, hcs, htake⟩
  · simp only [Value.slice.injEq] at hv
    obtain ⟨rfl, _, rfl⟩ := hv
    exact .inl ⟨rfl, rfl, List.eq_nil_of_length_eq_zero hn⟩
  · simp only [Value.slice.injEq] at hv
    obtain ⟨rfl, _, rfl⟩ := hv
    exact .inr ⟨g, 0, cur, rfl, hbg, hg, hnc, by omega, hcm, by simpa using htake⟩
theorem Win.tail {x : α} {g off : Nat} (hs : ∀ x, (enc x).length = sz) (h : Win enc e sz lo w (some ⟨g, off, none⟩) c (x :: xs)) : Win enc e sz lo w (some ⟨g, off + sz, none⟩) (c - 1) xs := by
  rcases h with ⟨h, _⟩ | ⟨g', off', cur, he, hlo, hg, h1, h2, h4, h3⟩
  · cases h
  · cases he
    simp only [List.length_cons] at h1 h3
    have e1 : c * sz = (c - 1) * sz + sz := by rw [← Nat.succ_mul]; congr 1; omega
    refine .inr ⟨g, off + sz, cur, rfl, hlo, hg, by omega, by omega, by omega, ?_⟩
    have h5 := congrArg (List.drop sz) h3
    rw [List.drop_take, List.drop_drop, List.flatMap_cons, List.drop_left' (hs x)] at h5
    rw [← h5]
    congr 1
    rw [Nat.succ_mul]
    omega
theorem Win.pre {ys : List α} (hs : ∀ x, (enc x).length = sz) (h : Win enc e sz lo w ad c (xs ++ ys)) : Win enc e sz lo w ad c xs := by
  rcases h with ⟨h1, h2, h3⟩ | ⟨g, off, cur, h1, hlo, hg, h2, h3, h4, h5⟩
  · exact .inl ⟨h1, h2, (List.append_eq_nil_iff.1 h3).1⟩
  · refine .inr ⟨g, off, cur, h1, hlo, hg, by simp at h2; omega, h3, h4, ?_⟩
    have h6 := congrArg (List.take (xs.length * sz)) h5
    rw [List.take_take, List.length_append, Nat.add_mul, Nat.min_eq_left (by omega), List.flatMap_append, ← flat_length enc sz hs xs, List.take_left] at h6
    rwa [flat_length enc sz hs xs] at h6
theorem run_append_win {P : Program} (t tx ty : TypeId) (i : TypeInfo) (z : Value) (bytes : Nat) (ht : P.underlying t = some (.slice e)) (hi : P.info? e = some i) (hz : i.zero = some z)
    (hsize : i.size = sz) (hby : i.bytes = bytes) (hzs : z.cells.size = sz) (hbp : 0 < bytes) (hs : ∀ x, (enc x).length = sz)
    (hw : Win enc e sz lo w ad c xs) (x : Value) (ys : List α) (hsrc : Src P sz tx x ys.length (ys.flatMap enc) w)
    (hbytes : (xs.length + ys.length) * bytes ≤ 140737488355328) (hlo : lo ≤ w.heap.size) :
    ∃ a' c' w', (Builtin.append_ #[t, tx] ty #[.slice ad xs.length c, x]).run P w = .ok (.slice a' (xs ++ ys).length c') w' ∧ Win enc e sz lo w' a' c' (xs ++ ys) ∧ Ch (· ∈ blkOf ad) w w' ∧ (∀ k ∈ blkOf a', k ∈ blkOf ad ∨ k = w.heap.size) ∧ Win enc e sz lo w' ad c xs ∧ ((a' = ad ∧ c' = c) ∨ ∀ k ∈ blkOf a', k = w.heap.size) := by
  subst hsize
  subst hby
  have hnl := hsrc.newsLen
  have h63 : xs.length + ys.length ≤ maxLen := by
    have : xs.length + ys.length ≤ (xs.length + ys.length) * i.bytes := Nat.le_mul_of_pos_right _ hbp
    unfold maxLen; omega
  have hsmall : ((xs.length + ys.length : Nat) : Int) ≤ 9223372036854775807 := by simp only [maxLen] at h63; omega
  have hlen := flat_length enc i.size hs (xs ++ ys)
  have hfl : xs.flatMap enc ++ ys.flatMap enc = (xs ++ ys).flatMap enc := by rw [List.flatMap_append]
  have hll : (xs ++ ys).length = xs.length + ys.length := by simp
  have grown : ∀ (old : Nat) (hr : (Builtin.append_ #[t, tx] ty #[.slice ad xs.length c, x]).run P w = .ok (.slice (some ⟨w.heap.size, 0, none⟩) (xs.length + ys.length) (grownCap w (xs.length + ys.length) old e)) (w.drew.alloc (.cells ((xs.flatMap enc ++ ys.flatMap enc).toArray ++ Builtin.zeroCells z.cells (grownCap w (xs.length + ys.length) old e - (xs.length + ys.length))) e))),
      ∃ a' c' w', (Builtin.append_ #[t, tx] ty #[.slice ad xs.length c, x]).run P w = .ok (.slice a' (xs ++ ys).length c') w' ∧ Win enc e i.size lo w' a' c' (xs ++ ys) ∧ Ch (· ∈ blkOf ad) w w' ∧ (∀ k ∈ blkOf a', k ∈ blkOf ad ∨ k = w.heap.size) ∧ Win enc e i.size lo w' ad c xs ∧ ((a' = ad ∧ c' = c) ∨ ∀ k ∈ blkOf a', k = w.heap.size) := by
    intro old hr
    have hge := grownCap_ge w (xs.length + ys.length) old e
    have hcm : grownCap w (xs.length + ys.length) old e ≤ maxLen := grownCap_le_maxLen w (xs.length + ys.length) old e h63
    refine ⟨_, _, _, by rw [hll]; exact hr, .inr ⟨w.heap.size, 0, _, rfl, hlo, heap_alloc_new w.drew _, by rw [hll]; exact hge, ?_, hcm, ?_⟩, (Ch.refl.drew).alloc _, fun k hk => .inr (by simpa [blkOf] using hk), hw.ch (M := fun _ => False) ((Ch.refl.drew).alloc _) (fun _ _ h => h), .inr (fun k hk => by simpa [blkOf] using hk)⟩
    · simp only [Array.size_append, List.size_toArray, size_zeroCells, hzs]
      rw [hfl, hlen, hll, ← Nat.add_mul, Nat.zero_add]
      exact Nat.mul_le_mul_right _ (by omega)
    · rw [List.drop_zero, ← hlen, ← hfl, Array.toList_append]
      exact List.take_left
  by_cases h0 : xs = [] ∧ ad = none
  · obtain ⟨rfl, rfl⟩ := h0
    obtain rfl : c = 0 := by
      rcases hw with ⟨_, h, _⟩ | ⟨_, _, _, h, _⟩
      · exact h
      · cases h
    by_cases hm : ys.length = 0
    · obtain rfl : ys = [] := List.eq_nil_of_length_eq_zero hm
      exact ⟨none, 0, w, run_append_nothing w t tx ty e i ht hi none 0 0 (Nat.le_refl _) x hsrc, .inl ⟨rfl, rfl, rfl⟩, Ch.refl, fun k hk => .inl hk, .inl ⟨rfl, rfl, rfl⟩, .inl ⟨rfl, rfl⟩⟩
    · have hr := run_append_grow_src (P := P) w t tx ty e i z ht hi hz none 0 0 [] (run_firstCells_none w.drew i.size 0 0 0) x ys.length (ys.flatMap enc) hsrc (by omega) (by simpa using hsmall) (growslice_fits (by omega) (by simpa using hbytes))
      exact grown 0 (by simpa using hr)
  · have hw' := hw
    rcases hw' with ⟨h1, _, h2⟩ | ⟨g, off, cur, rfl, hlo', hg, h1, h2, h4, h3⟩
    · exact absurd ⟨h2, h1⟩ h0
    · by_cases hroom : xs.length + ys.length ≤ c
      · have hk : (xs.length + ys.length) * i.size ≤ c * i.size := Nat.mul_le_mul_right _ hroom
        rw [Nat.add_mul] at hk
        have hcl : ∀ j, j < (ys.flatMap enc).length → (w.cell? ⟨g, off + xs.length * i.size + j, none⟩).isSome = true := by
          intro j hj
          rw [cell_of_row w g _ cur e (0, 0) hg, Array.getElem?_eq_getElem (by omega)]
          rfl
        have hf : ∀ j, j < (ys.flatMap enc).length → w.frozen? ⟨g, off + xs.length * i.size + j, none⟩ = false := fun j hj => frozen_of_row w g _ cur e hg
        have hr := run_append_room_src (P := P) w t tx ty e i ht hi g off xs.length c x ys.length (ys.flatMap enc) hsrc hroom hcl hf
        obtain ⟨cur', k1, k2, k3⟩ := setCells_own g e (ys.flatMap enc) (off + xs.length * i.size) w cur hg (by omega)
        have hgr := setCells_grown g (ys.flatMap enc) (off + xs.length * i.size) w
        refine ⟨_, _, _, by rw [hll]; exact hr, .inr ⟨g, off, cur', rfl, hlo', k1, by rw [hll]; exact hroom, by omega, h4, ?_⟩, ⟨hgr.os, hgr.tape, hgr.output, hgr.size, fun k hk hne => hgr.block k hk (fun e => hne (by cases e; simp [blkOf]))⟩, fun k hk => .inl hk, .inr ⟨g, off, cur', rfl, hlo', k1, h1, by omega, h4, ?_⟩, .inl ⟨rfl, rfl⟩⟩
        rotate_left
        · have hcl0 : cur.toList.length = cur.size := Array.length_toList
          have k5 := congrArg (List.take (off + xs.length * i.size)) k3
          rw [List.take_take, Nat.min_eq_left (by omega), List.take_append_of_le_length (by rw [List.length_take]; omega), List.take_take, Nat.min_self] at k5
          have k6 := congrArg (List.drop off) k5
          rw [List.drop_take, List.drop_take, show off + xs.length * i.size - off = xs.length * i.size by omega, h3] at k6
          exact k6
        have e1 : (xs ++ ys).length * i.size = xs.length * i.size + (ys.flatMap enc).length := by rw [hll, Nat.add_mul, hnl]
        have hcl0 : cur.toList.length = cur.size := Array.length_toList
        have k4 := congrArg (List.drop off) k3
        rw [List.drop_take, show off + xs.length * i.size + (ys.flatMap enc).length - off = xs.length * i.size + (ys.flatMap enc).length by omega, List.drop_append_of_le_length (by rw [List.length_take]; omega), List.drop_take, show off + xs.length * i.size - off = xs.length * i.size by omega, h3] at k4
        rw [e1, k4, hfl]
      · have holds : ∀ j u, (xs.flatMap enc)[j]? = some u → w.drew.cell? ((⟨g, off, none⟩ : Addr).add j) = some u := by
          intro j u hu
          rw [← h3, List.getElem?_take] at hu
          split at hu
          · rw [List.getElem?_drop] at hu
            rw [Addr.add_lit, World.cell?_drew, cell_of_row w g _ cur e (0, 0) hg]
            simpa using hu
          · cases hu
        have hr := run_append_grow_src (P := P) w t tx ty e i z ht hi hz (some ⟨g, off, none⟩) xs.length c (xs.flatMap enc) (run_firstCells_some w.drew i.size xs.length ⟨g, off, none⟩ xs.length c (xs.flatMap enc) (flat_length enc i.size hs xs) holds) x ys.length (ys.flatMap enc) hsrc (by omega) hsmall (growslice_fits (by omega) hbytes)
        exact grown c hr
theorem step_append_win {P : Program} {o : Oper} {a : Act} {K : Act → World → Prop} {Q : Exit → Act → World → Prop} (s x : Operand) (t tx : TypeId)
    (i : TypeInfo) (z : Value) (bytes : Nat) (ht : P.underlying t = some (.slice e)) (hi : P.info? e = some i) (hz : i.zero = some z)
    (hsize : i.size = sz) (hby : i.bytes = bytes) (hzs : z.cells.size = sz) (hbp : 0 < bytes) (hs : ∀ x, (enc x).length = sz)
    (n : Nat) (hn : xs.length = n) (hw : Win enc e sz lo w ad c xs) (xv : Value) (ys : List α) (hsrc : Src P sz tx xv ys.length (ys.flatMap enc) w)
    (hbytes : (xs.length + ys.length) * bytes ≤ 140737488355328) (hlo : lo ≤ w.heap.size)
    (ho : o.op = .call { callee := .builtin .append, args := #[s, x], argTypes := #[t, tx] }) (hv : a.eval s = .slice ad n c) (hx : a.eval x = xv)
    (h : ∀ a' c' w' us, Hid (us = xs ++ ys) → Win enc e sz lo w' a' c' us → Ch (· ∈ blkOf ad) w w' → (∀ k ∈ blkOf a', k ∈ blkOf ad ∨ k = w.heap.size) → Win enc e sz lo w' ad c xs → ((a' = ad ∧ c' = c) ∨ ∀ k ∈ blkOf a', k = w.heap.size) → K (a.put o.dst (.slice a' us.length c')) w') : Oper.wp P o a w K Q := by
  subst hn
  obtain ⟨a', c', w', hr, k1, k2, k3, k4, k5⟩ := run_append_win (P := P) t tx o.type i z bytes ht hi hz hsize hby hzs hbp hs hw xv ys hsrc hbytes hlo
  unfold Oper.wp execOp
  simp only [ho, resolve, invoke, builtin, Sem.run_bind, Sem.run_pure, Result.andThen_ok, List.map_toArray, List.map_cons, List.map_nil, hv, hx, hr]
  exact h a' c' w' _ rfl k1 k2 k3 k4 k5
theorem flat_take (hs : ∀ x, (enc x).length = sz) (k : Nat) : (xs.flatMap enc).take (k * sz) = (xs.take k).flatMap enc := by
  induction xs generalizing k with
  | nil => simp
  | cons x xs ih =>
    cases k with
    | zero => simp
    | succ k =>
      rw [List.take_succ_cons, List.flatMap_cons, List.flatMap_cons, Nat.succ_mul, Nat.add_comm (k * sz) sz, ← hs x, List.take_length_add_append, hs x, ih]
theorem flat_drop (hs : ∀ x, (enc x).length = sz) (k : Nat) : (xs.flatMap enc).drop (k * sz) = (xs.drop k).flatMap enc := by
  induction xs generalizing k with
  | nil => simp
  | cons x xs ih =>
    cases k with
    | zero => simp
    | succ k =>
      rw [List.drop_succ_cons, List.flatMap_cons, Nat.succ_mul, Nat.add_comm (k * sz) sz, ← hs x, List.drop_length_add_append, hs x, ih]
theorem run_copy_fresh {P : Program} {hi n g c dLen dCap sLen sCap off : Nat} {dp sp : Option Addr} (dT sT ty elem : TypeId) (hu : P.underlying dT = some (.slice elem)) (hsz : (P.info? elem).map (·.size) = some sz) (hs : ∀ x, (enc x).length = sz) (h1 : ∀ x, ∀ u ∈ enc x, u.oneCell' = true)
    (hF : FreshIn enc e sz lo hi (.slice (some ⟨g, 0, none⟩) n c) xs w) (ys : List α) (hn : ys.length = Nat.min sLen dLen)
    (hpos : 0 < ys.length → dp = some ⟨g, off * sz, none⟩ ∧ Sl enc sz w sp ys) (hfit : off + ys.length ≤ xs.length) :
    ∃ w', (Builtin.copy_ #[dT, sT] ty #[.slice dp dLen dCap, .slice sp sLen sCap]).run P w = .ok (goInt ys.length) w' ∧ FreshIn enc e sz lo hi (.slice (some ⟨g, 0, none⟩) n c) (splice xs off ys) w' ∧ Ch (· = g) w w' := by
  have hi0 : ∃ i, P.info? elem = some i ∧ i.size = sz := by
    cases hq : P.info? elem with
    | none => rw [hq] at hsz; cases hsz
    | some i => exact ⟨i, rfl, by simpa [hq] using hsz⟩
  obtain ⟨i, hq, his⟩ := hi0
  by_cases h0 : ys.length = 0
  · obtain rfl : ys = [] := List.eq_nil_of_length_eq_zero h0
    refine ⟨w, ?_, ?_, Ch.refl⟩
    · have hm : Nat.min sLen dLen = 0 := by simpa using hn.symm
      have hl0 : ∀ a, (loadCells a 0).run P w = .ok #[] w := fun a => run_loadCells_list (P := P) w a [] (by simp)
      cases dp <;> cases sp <;> simp [Builtin.copy_, run_underlying hu, Builtin.lenOf, Builtin.firstCells, sizeOf, typeInfo, hq, hm, hl0, storeCells]
    · have : splice xs off [] = xs := by simp [splice]
      rw [this]
      exact hF
  obtain ⟨hdp, hsl⟩ := hpos (by omega)
  subst hdp
  have hyn : ys ≠ [] := fun e => h0 (by rw [e]; rfl)
  obtain ⟨b, so, hsp, hblt, hcells⟩ : ∃ b so, sp = some ⟨b, so, none⟩ ∧ b < w.heap.size ∧ ∀ j v, (ys.flatMap enc)[j]? = some v → w.cell? ((⟨b, so, none⟩ : Addr).add j) = some v := by
    rcases hsl with h | ⟨b, so, rfl, hlt, hc⟩
    · exact absurd h hyn
    · refine ⟨b, so, rfl, hlt, fun j v hv => ?_⟩
      have hj : j < ys.length * sz := by rw [← flat_length enc sz hs ys]; exact (List.getElem?_eq_some_iff.1 hv).1
      have hszp : 0 < sz := by
        rcases Nat.eq_zero_or_pos sz with h | h
        · rw [h] at hj; simp at hj
        · exact h
      have hq1 : j / sz < ys.length := Nat.div_lt_of_lt_mul (by rw [Nat.mul_comm]; exact hj)
      have hr1 : j % sz < sz := Nat.mod_lt _ hszp
      have hj' : j = j / sz * sz + j % sz := by rw [Nat.mul_comm]; exact (Nat.div_add_mod j sz).symm
      have k2 := hc (j / sz) hq1 (j % sz) hr1
      have k3 := flat_get enc sz hs ys (j / sz) hq1 (j % sz) hr1
      rw [← hj', hv] at k3
      rw [← k3] at k2
      have hadd : (⟨b, so, none⟩ : Addr).add j = ⟨b, so + j / sz * sz + j % sz, none⟩ := by
        rw [Addr.add_lit, Nat.add_assoc, ← hj']
      rw [hadd, k2]
  subst hsp
  obtain ⟨⟨a', cap', hv, hle, ho⟩, hup⟩ := hF
  cases hv
  obtain ⟨hol, ho2⟩ := ho
  rcases ho2 with ⟨hv, _⟩ | ⟨g', cap, cur, hv, hbg, hg, hnc, hcm, hcs, htake⟩
  · cases hv
  · cases hv
    have hyl := flat_length enc sz hs ys
    have hfl2 : (off + ys.length) * sz ≤ xs.length * sz := Nat.mul_le_mul_right _ hfit
    have hnc2 : xs.length * sz ≤ c * sz := Nat.mul_le_mul_right _ hnc
    rw [Nat.add_mul] at hfl2
    have hl := run_loadCells_list (P := P) w ⟨b, so, none⟩ (ys.flatMap enc) hcells
    have hone : ∀ v ∈ ys.flatMap enc, v.oneCell' = true := fun v hv => by
      obtain ⟨x, _, hx⟩ := List.mem_flatMap.1 hv
      exact h1 x v hx
    have hst := run_storeCells_at P g (off * sz) e (ys.flatMap enc) 0 cur w hg (by omega) hone
    rw [hyl] at hl
    have hrun : (Builtin.copy_ #[dT, sT] ty #[.slice (some ⟨g, off * sz, none⟩) dLen dCap, .slice (some ⟨b, so, none⟩) sLen sCap]).run P w = .ok (goInt ys.length) (w.setRow g (cur.toList.take (off * sz + 0) ++ ys.flatMap enc ++ cur.toList.drop (off * sz + 0 + (ys.flatMap enc).length)).toArray) := by
      simp [Builtin.copy_, run_underlying hu, Builtin.lenOf, Builtin.firstCells, sizeOf, typeInfo, hq, his, ← hn, hl, hst]
    refine ⟨_, hrun, ?_, ⟨rfl, rfl, rfl, by simp [World.setRow], fun k _ hk => setRow_other w g k _ hk⟩⟩
    refine ⟨⟨_, _, by rw [length_splice _ _ _ hfit], by rw [length_splice _ _ _ hfit]; exact hle, ?_, .inr ⟨g, c, _, rfl, hbg, setRow_heap w g cur _ e _ hg, by rw [length_splice _ _ _ hfit]; exact hnc, hcm, ?_, ?_⟩⟩, fun k hk => hup k (by simpa [Value.ownBlock] using hk)⟩
    · rw [flat_length enc sz hs]
    · simp only [List.size_toArray, List.length_append, List.length_take, List.length_drop, Array.length_toList]
      omega
    · have e1 : cur.toList.take (off * sz) = (xs.take off).flatMap enc := by
        rw [← flat_take hs, ← htake, List.take_take, Nat.min_eq_left (by omega)]
      have e2 : (cur.toList.drop (off * sz + (ys.flatMap enc).length)).take (xs.length * sz - (off * sz + (ys.flatMap enc).length)) = (xs.drop (off + ys.length)).flatMap enc := by
        rw [← flat_drop hs, ← htake, List.drop_take, hyl, Nat.add_mul]
      rw [length_splice _ _ _ hfit]
      simp only [Nat.add_zero, List.toList_toArray, splice, List.flatMap_append]
      rw [← e1, ← e2, List.append_assoc, List.take_append, List.take_append]
      have hcl0 : cur.toList.length = cur.size := Array.length_toList
      have hl1 : (cur.toList.take (off * sz)).length = off * sz := by rw [List.length_take]; omega
      rw [List.take_of_length_le (by omega)]
      congr 1
      rw [hl1, List.take_of_length_le (by omega)]
      congr 2
      omega
theorem step_copy_fresh {P : Program} {o : Oper} {a : Act} {K : Act → World → Prop} {Q : Exit → Act → World → Prop} {hi n g c dLen dCap sLen sCap off : Nat} {dp sp : Option Addr} (d s : Operand) (dT sT elem : TypeId) (hu : P.underlying dT = some (.slice elem)) (hsz : (P.info? elem).map (·.size) = some sz) (hs : ∀ x, (enc x).length = sz) (h1 : ∀ x, ∀ u ∈ enc x, u.oneCell' = true)
    (hF : FreshIn enc e sz lo hi (.slice (some ⟨g, 0, none⟩) n c) xs w) (ys : List α) (hn : ys.length = Nat.min sLen dLen)
    (hpos : 0 < ys.length → dp = some ⟨g, off * sz, none⟩ ∧ Sl enc sz w sp ys) (hfit : off + ys.length ≤ xs.length)
    (ho : o.op = .call { callee := .builtin .copy, args := #[d, s], argTypes := #[dT, sT] }) (hd : a.eval d = .slice dp dLen dCap) (hv : a.eval s = .slice sp sLen sCap)
    (h : ∀ w', FreshIn enc e sz lo hi (.slice (some ⟨g, 0, none⟩) n c) (splice xs off ys) w' → Ch (· = g) w w' → K (a.put o.dst (goInt ys.length)) w') : Oper.wp P o a w K Q := by
  obtain ⟨w', hr, k1, k2⟩ := run_copy_fresh (P := P) dT sT o.type elem hu hsz hs h1 hF ys hn hpos hfit
  unfold Oper.wp execOp
  simp only [ho, resolve, invoke, builtin, Sem.run_bind, Sem.run_pure, Result.andThen_ok, List.map_toArray, List.map_cons, List.map_nil, hd, hv]
  rw [hr]
  exact h w' k1 k2
end
end
section
open Go.RowKit
structure PV where
  state : Int
  args : List Int
  priv : Bool
  text : ByteArray
  utf : ByteArray
structure AV where
  kind : Int
  n : Int
  priv : Bool
  args : List Int
  text : ByteArray
abbrev e0 : ByteArray := ⟨#[]⟩
def pz : PV := ⟨0, [], false, e0, e0⟩
def pst (s : Int) : PV := ⟨s, [], false, e0, e0⟩
def ctl (b : Nat) : Bool := (decide (7 ≤ b) && decide (b ≤ 10)) || b == 13
def esc (b : Nat) : Bool := b == 55 || b == 56 || b == 68 || b == 69 || b == 77 || b == 99
def utfLen (b : Nat) : Nat := if b < 194 ∨ 244 < b then 0 else if b < 224 then 2 else if b < 240 then 3 else 4
def lowOf (l : List UInt8) : Nat := match l with
  | [a] => if a.toNat = 224 then 160 else if a.toNat = 240 then 144 else 128
  | _ => 128
def highOf (l : List UInt8) : Nat := match l with
  | [a] => if a.toNat = 237 then 159 else if a.toNat = 244 then 143 else 191
  | _ => 191
def mayF (l : List UInt8) (b : Nat) : Bool := decide (lowOf l ≤ b) && decide (b ≤ highOf l)
def pr (n : Int) : AV := ⟨1, n, false, [], e0⟩
def gstep (b : UInt8) : PV × List AV :=
  if b.toNat = 27 then (pst 1, [])
  else if ctl b.toNat = true then (pz, [⟨2, b.toNat, false, [], e0⟩])
  else if 32 ≤ b.toNat ∧ b.toNat ≤ 126 then (pz, [pr b.toNat])
  else if b.toNat < 128 then (pz, [])
  else if 0 < utfLen b.toNat then (⟨6, [], false, e0, ⟨#[b]⟩⟩, [])
  else (pz, [pr 65533])
def rnV (l : List UInt8) : Int := match l with
  | [a, b] => (a.toNat - 192) * 64 + (b.toNat - 128)
  | [a, b, c] => ((a.toNat - 224) * 64 + (b.toNat - 128)) * 64 + (c.toNat - 128)
  | [a, b, c, d] => (((a.toNat - 240) * 64 + (b.toNat - 128)) * 64 + (c.toNat - 128)) * 64 + (d.toNat - 128)
  | _ => 0
def ustep (p : PV) (b : UInt8) : PV × List AV :=
  if mayF p.utf.data.toList b.toNat = false then ((gstep b).1, pr 65533 :: (gstep b).2)
  else if p.utf.size + 1 < utfLen (p.utf.data.toList.headD 0).toNat then ({ p with utf := p.utf ++ ⟨#[b]⟩ }, [])
  else (pz, [pr (rnV (p.utf.data.toList ++ [b]))])
def estep (b : UInt8) : PV × List AV :=
  if b.toNat = 91 then (⟨2, [-1], false, e0, e0⟩, [])
  else if b.toNat = 93 then (pst 4, [])
  else if b.toNat = 27 then (pst 1, [])
  else if esc b.toNat = true then (pz, [⟨3, b.toNat, false, [], e0⟩])
  else (pz, [])
def lastA (l : List Int) : Int := l.getLastD 0
def cstep (p : PV) (b : UInt8) : PV × List AV :=
  if b.toNat = 27 then (pst 1, [])
  else if ctl b.toNat = true then (p, [⟨2, b.toNat, false, [], e0⟩])
  else if 48 ≤ b.toNat ∧ b.toNat ≤ 57 then ({ p with args := p.args.dropLast ++ [min 9999 (max 0 (lastA p.args) * 10 + ((b.toNat : Int) - 48))] }, [])
  else if b.toNat = 59 ∧ p.args.length < 8 then ({ p with args := p.args ++ [-1] }, [])
  else if b.toNat = 63 ∧ p.args = [-1] ∧ p.priv = false then ({ p with priv := true }, [])
  else if 64 ≤ b.toNat ∧ b.toNat ≤ 126 then (pz, [⟨4, b.toNat, p.priv, p.args, e0⟩])
  else (pst 3, [])
def sstep (p : PV) (b : UInt8) : PV × List AV :=
  if b.toNat = 27 then (pst 1, []) else if 64 ≤ b.toNat ∧ b.toNat ≤ 126 then (pz, []) else (p, [])
def ostep (p : PV) (b : UInt8) : PV × List AV :=
  if b.toNat = 7 then (pz, [⟨5, 0, false, [], p.text⟩])
  else if b.toNat = 27 then ({ p with state := 5 }, [])
  else if (32 ≤ b.toNat ∧ b.toNat ≤ 126) ∧ p.text.size < 40 then ({ p with text := p.text ++ ⟨#[b]⟩ }, [])
  else (p, [])
def qstep (p : PV) (b : UInt8) : PV × List AV :=
  if b.toNat = 92 then (pz, [⟨5, 0, false, [], p.text⟩]) else estep b
def pstep (p : PV) (b : UInt8) : PV × List AV :=
  if p.state = 0 then gstep b
  else if p.state = 1 then estep b
  else if p.state = 2 then cstep p b
  else if p.state = 3 then sstep p b
  else if p.state = 4 then ostep p b
  else if p.state = 5 then qstep p b
  else ustep p b
def prun (p : PV) : List UInt8 → PV × List AV
  | [] => (p, [])
  | b :: l => ((prun (pstep p b).1 l).1, (pstep p b).2 ++ (prun (pstep p b).1 l).2)
theorem prun_append (p : PV) (l m : List UInt8) : prun p (l ++ m) = ((prun (prun p l).1 m).1, (prun p l).2 ++ (prun (prun p l).1 m).2) := by
  induction l generalizing p with
  | nil => simp [prun]
  | cons b l ih => simp [prun, ih]
def titB (t : ByteArray) : Bool := decide (t.size ≤ 40) && t.data.toList.all (fun b => decide (32 ≤ b.toNat) && decide (b.toNat ≤ 126))
def begB (l : List UInt8) : Bool := decide (0 < l.length) && decide (l.length < utfLen (l.headD 0).toNat) && (List.range l.length).all (fun i => i == 0 || mayF (l.take i) (l.getD i 0).toNat)
def argsB (l : List Int) : Bool := decide (1 ≤ l.length) && decide (l.length ≤ 8) && l.all (fun n => decide (-1 ≤ n) && decide (n ≤ 9999))
structure PvOK (p : PV) : Prop where
  st : 0 ≤ p.state ∧ p.state ≤ 6
  csi : p.state = 2 → argsB p.args = true
  nocsi : p.state ≠ 2 → p.args = [] ∧ p.priv = false
  osc : p.state = 4 ∨ p.state = 5 → titB p.text = true
  noosc : p.state ≠ 4 → p.state ≠ 5 → p.text = e0
  ut : p.state = 6 → begB p.utf.data.toList = true
  nout : p.state ≠ 6 → p.utf = e0
theorem titB_e0 : titB e0 = true := by decide
theorem PvOK.z : PvOK pz := by refine ⟨by simp [pz], by simp [pz], by simp [pz], by simp [pz], by simp [pz], by simp [pz], by simp [pz]⟩
theorem PvOK.pst (s : Int) (h : s = 0 ∨ s = 1 ∨ s = 3 ∨ s = 4) : PvOK (pst s) := by
  rcases h with rfl | rfl | rfl | rfl <;> exact ⟨by decide, by simp [Go.Proofs.YtjmpgeffkdjpdaaGreatDoor.pst], by simp [Go.Proofs.YtjmpgeffkdjpdaaGreatDoor.pst], fun _ => titB_e0, fun _ _ => rfl, by simp [Go.Proofs.YtjmpgeffkdjpdaaGreatDoor.pst], fun _ => rfl⟩
theorem utfLen_two {b : Nat} (h : 0 < utfLen b) : 2 ≤ utfLen b := by
  unfold utfLen at *
  split at h
  · omega
  · rename_i h1
    rw [if_neg h1]
    split <;> (try split) <;> omega
theorem gstep_ok (b : UInt8) : PvOK (gstep b).1 := by
  unfold gstep
  repeat' split
  · exact PvOK.pst 1 (by simp)
  · exact PvOK.z
  · exact PvOK.z
  · exact PvOK.z
  · rename_i h
    have h2 := utfLen_two h
    refine ⟨by simp, by simp, by simp, by simp, by simp, fun _ => ?_, by simp⟩
    simp [begB]
    omega
  · exact PvOK.z
theorem estep_ok (b : UInt8) : PvOK (estep b).1 := by
  unfold estep
  repeat' split
  · exact ⟨by decide, fun _ => by decide, by simp, by simp, fun _ _ => rfl, by simp, fun _ => rfl⟩
  · exact PvOK.pst 4 (by simp)
  · exact PvOK.pst 1 (by simp)
  · exact PvOK.z
  · exact PvOK.z
theorem begB_snoc {l : List UInt8} {b : UInt8} (h : begB l = true) (hm : mayF l b.toNat = true) (hl : l.length + 1 < utfLen (l.headD 0).toNat) : begB (l ++ [b]) = true := by
  simp only [begB, Bool.and_eq_true, decide_eq_true_eq, List.all_eq_true, List.mem_range, Bool.or_eq_true, beq_iff_eq] at *
  obtain ⟨⟨h1, h2⟩, h3⟩ := h
  have hh : (l ++ [b]).headD 0 = l.headD 0 := by cases l with
    | nil => simp at h1
    | cons a l => rfl
  refine ⟨⟨by simp, by rw [hh]; simpa using hl⟩, fun i hi => ?_⟩
  have hi' : i < l.length + 1 := by simpa using hi
  by_cases hil : i < l.length
  · rcases h3 i hil with h4 | h4
    · exact .inl h4
    · refine .inr ?_
      rw [List.take_append_of_le_length (Nat.le_of_lt hil)]
      simp only [List.getD_eq_getElem?_getD, List.getElem?_append_left hil] at h4 ⊢
      exact h4
  · have : i = l.length := by omega
    subst this
    refine .inr ?_
    rw [List.take_append_of_le_length (Nat.le_refl _), List.take_length]
    simpa [List.getD_eq_getElem?_getD] using hm
theorem pstep_ok {p : PV} (h : PvOK p) (b : UInt8) : PvOK (pstep p b).1 := by
  obtain ⟨a, hb, c, d, e, f, g⟩ := h
  unfold pstep
  repeat' split
  · exact gstep_ok b
  · exact estep_ok b
  · rename_i h2
    have hA := hb h2
    have hT := e (by omega) (by omega)
    have hU := g (by omega)
    have hA' := hA
    simp only [argsB, Bool.and_eq_true, decide_eq_true_eq, List.all_eq_true] at hA'
    obtain ⟨⟨l1, l8⟩, hall⟩ := hA'
    unfold cstep
    repeat' split
    · exact PvOK.pst 1 (by simp)
    · exact ⟨a, hb, c, d, e, f, g⟩
    · rename_i h48
      refine ⟨a, fun _ => ?_, fun h9 => absurd h2 h9, fun h9 => by simp at h9; omega, fun _ _ => hT, fun h9 => by simp at h9; omega, fun _ => hU⟩
      have hne : p.args ≠ [] := by intro h; rw [h] at l1; simp at l1
      simp only [argsB, Bool.and_eq_true, decide_eq_true_eq, List.all_eq_true]
      refine ⟨⟨by simp, by simp; omega⟩, fun x hx => ?_⟩
      rcases List.mem_append.1 hx with hx | hx
      · exact hall x (List.dropLast_subset _ hx)
      · simp at hx
        subst hx
        omega
    · rename_i h59
      refine ⟨a, fun _ => ?_, fun h9 => absurd h2 h9, fun h9 => by simp at h9; omega, fun _ _ => hT, fun h9 => by simp at h9; omega, fun _ => hU⟩
      simp only [argsB, Bool.and_eq_true, decide_eq_true_eq, List.all_eq_true]
      refine ⟨⟨by simp, by simp; omega⟩, fun x hx => ?_⟩
      rcases List.mem_append.1 hx with hx | hx
      · exact hall x hx
      · simp at hx
        subst hx
        omega
    · exact ⟨a, hb, fun h9 => absurd h2 h9, d, e, f, g⟩
    · exact PvOK.z
    · exact PvOK.pst 3 (by simp)
  · unfold sstep
    repeat' split
    · exact PvOK.pst 1 (by simp)
    · exact PvOK.z
    · exact ⟨a, hb, c, d, e, f, g⟩
  · rename_i h4
    have hT := d (.inl h4)
    unfold ostep
    repeat' split
    · exact PvOK.z
    · exact ⟨by simp, by simp, fun _ => c (by omega), fun _ => hT, by simp, by simp, fun _ => g (by omega)⟩
    · rename_i hb2
      refine ⟨a, hb, c, fun _ => ?_, fun h9 _ => absurd h4 h9, f, g⟩
      simp only [titB, Bool.and_eq_true, decide_eq_true_eq, List.all_eq_true] at *
      refine ⟨by rw [ByteArray.size_append]; show _ + 1 ≤ _; omega, fun x hx => ?_⟩
      simp only [ByteArray.data_append, Array.toList_append, List.mem_append] at hx
      rcases hx with hx | hx
      · exact hT.2 x hx
      · simp at hx
        subst hx
        exact hb2.1
    · exact ⟨a, hb, c, d, e, f, g⟩
  · unfold qstep
    repeat' split
    · exact PvOK.z
    · exact estep_ok b
  · rename_i h0 h1 h2 h3 h4 h5
    have h6 : p.state = 6 := by omega
    unfold ustep
    repeat' split
    · exact gstep_ok b
    · rename_i hm hl
      refine ⟨a, hb, c, d, e, fun _ => ?_, fun h9 => absurd h6 h9⟩
      have hs : p.utf.data.toList.length = p.utf.size := rfl
      have := begB_snoc (f h6) (by simpa using hm) (by rw [hs]; exact hl)
      simpa using this
    · exact PvOK.z
theorem prun_ok (l : List UInt8) {p : PV} (h : PvOK p) : PvOK (prun p l).1 := by
  induction l generalizing p with
  | nil => exact h
  | cons b l ih => exact ih (pstep_ok h b)
end
section
open Go.RowKit
def rnOK (n : Int) : Prop := 32 ≤ n ∧ n ≤ 1114111 ∧ n ≠ 127 ∧ ¬ (55296 ≤ n ∧ n ≤ 57343)
def ctlN (n : Int) : Prop := (7 ≤ n ∧ n ≤ 10) ∨ n = 13
def escN (n : Int) : Prop := n = 55 ∨ n = 56 ∨ n = 68 ∨ n = 69 ∨ n = 77 ∨ n = 99
def AcOK (a : AV) : Prop :=
  (a.kind = 4 ∧ a.text = e0 ∧ argsB a.args = true ∧ 64 ≤ a.n ∧ a.n ≤ 126) ∨
  (a.priv = false ∧ a.args = [] ∧ ((a.kind = 5 ∧ a.n = 0 ∧ titB a.text = true) ∨ (a.text = e0 ∧ ((a.kind = 1 ∧ rnOK a.n) ∨ (a.kind = 2 ∧ ctlN a.n) ∨ (a.kind = 3 ∧ escN a.n)))))
abbrev u8 (n : Nat) : UInt8 := UInt8.ofNat n
theorem u8N {n : Nat} (h : n < 256) : (u8 n).toNat = n := by
  show n % 256 = n
  omega
def utfB (n : Nat) : List UInt8 :=
  if n < 128 then [u8 n] else if n < 2048 then [u8 (192 + n / 64), u8 (128 + n % 64)]
  else if n < 65536 then [u8 (224 + n / 4096), u8 (128 + n / 64 % 64), u8 (128 + n % 64)]
  else [u8 (240 + n / 262144), u8 (128 + n / 4096 % 64), u8 (128 + n / 64 % 64), u8 (128 + n % 64)]
end
section
open Go.RowKit
theorem utfB_len (n : Nat) : (utfB n).length ≤ 4 := by unfold utfB; (repeat' split) <;> simp
theorem gstep_ac (b : UInt8) : ∀ a ∈ (gstep b).2, AcOK a := by
  unfold gstep
  repeat' split
  · simp
  · rename_i h
    intro a ha
    simp only [List.mem_singleton] at ha
    subst ha
    refine .inr ⟨rfl, rfl, .inr ⟨rfl, .inr (.inl ⟨rfl, ?_⟩)⟩⟩
    simp only [ctl, Bool.or_eq_true, Bool.and_eq_true, decide_eq_true_eq, beq_iff_eq] at h
    unfold ctlN
    simp only
    omega
  · rename_i h
    intro a ha
    simp only [List.mem_singleton] at ha
    subst ha
    refine .inr ⟨rfl, rfl, .inr ⟨rfl, .inl ⟨rfl, ?_⟩⟩⟩
    unfold rnOK
    simp only [pr]
    omega
  · simp
  · simp
  · intro a ha
    simp only [List.mem_singleton] at ha
    subst ha
    exact .inr ⟨rfl, rfl, .inr ⟨rfl, .inl ⟨rfl, by unfold rnOK; simp only [pr]; omega⟩⟩⟩
theorem estep_ac (b : UInt8) : ∀ a ∈ (estep b).2, AcOK a := by
  unfold estep
  repeat' split
  · simp
  · simp
  · simp
  · rename_i h
    intro a ha
    simp only [List.mem_singleton] at ha
    subst ha
    refine .inr ⟨rfl, rfl, .inr ⟨rfl, .inr (.inr ⟨rfl, ?_⟩)⟩⟩
    simp only [esc, Bool.or_eq_true, beq_iff_eq] at h
    unfold escN
    simp only
    omega
  · simp
theorem may_one {x : UInt8} {b : Nat} (h : mayF [x] b = true) : (if x.toNat = 224 then 160 else if x.toNat = 240 then 144 else 128) ≤ b ∧ b ≤ (if x.toNat = 237 then 159 else if x.toNat = 244 then 143 else 191) := by
  have h1 : (decide ((if x.toNat = 224 then 160 else if x.toNat = 240 then 144 else 128) ≤ b) && decide (b ≤ (if x.toNat = 237 then 159 else if x.toNat = 244 then 143 else 191))) = true := h
  simpa only [Bool.and_eq_true, decide_eq_true_eq] using h1
theorem ustep_ac {p : PV} (hu : begB p.utf.data.toList = true) (b : UInt8) : ∀ a ∈ (ustep p b).2, AcOK a := by
  unfold ustep
  split
  · intro a ha
    simp only [List.mem_cons] at ha
    rcases ha with rfl | ha
    · exact .inr ⟨rfl, rfl, .inr ⟨rfl, .inl ⟨rfl, by unfold rnOK; simp only [pr]; omega⟩⟩⟩
    · exact gstep_ac b a ha
  · rename_i hm
    split
    · simp
    · rename_i hl
      intro a ha
      simp only [List.mem_singleton] at ha
      subst ha
      refine .inr ⟨rfl, rfl, .inr ⟨rfl, .inl ⟨rfl, ?_⟩⟩⟩
      simp only [pr]
      have hs : p.utf.size = p.utf.data.toList.length := rfl
      rw [hs] at hl
      generalize p.utf.data.toList = l at hu hm hl
      simp only [begB, Bool.and_eq_true, decide_eq_true_eq, List.all_eq_true, List.mem_range, Bool.or_eq_true, beq_iff_eq] at hu
      obtain ⟨⟨u1, u2⟩, u3⟩ := hu
      have hmt : mayF l b.toNat = true := by simpa using hm
      clear hm hs
      have hb := b.toNat_lt
      match l, u1, u2, u3, hl, hmt with
      | [x], _, u2, u3, hl, hmt =>
        have hx := x.toNat_lt
        simp only [List.headD_cons, List.length_cons, List.length_nil] at u2 hl
        obtain ⟨v3, v4⟩ := may_one hmt
        clear hmt u3
        simp only [List.cons_append, List.nil_append, rnV, rnOK]
        unfold utfLen at u2 hl
        (repeat' split at u2) <;> (repeat' split at hl) <;> (repeat' split at v3) <;> (repeat' split at v4) <;> omega
      | [x, y], _, u2, u3, hl, hmt =>
        have hx := x.toNat_lt
        have hy := y.toNat_lt
        have v1 := u3 1 (by simp)
        simp only [List.headD_cons, List.length_cons, List.length_nil] at u2 hl
        have v2 : mayF [x] y.toNat = true := by
          rcases v1 with h | h
          · cases h
          · exact h
        obtain ⟨v3, v4⟩ := may_one v2
        clear v2
        have hmt2 : 128 ≤ b.toNat ∧ b.toNat ≤ 191 := by
          have : (decide (128 ≤ b.toNat) && decide (b.toNat ≤ 191)) = true := hmt
          simpa using this
        simp only [List.cons_append, List.nil_append, rnV, rnOK]
        unfold utfLen at u2 hl
        clear hmt v1 u3
        (repeat' split at u2) <;> (repeat' split at hl) <;> (repeat' split at v3) <;> (repeat' split at v4) <;> omega
      | [x, y, z], _, u2, u3, hl, hmt =>
        have hx := x.toNat_lt
        have hy := y.toNat_lt
        have hz := z.toNat_lt
        have v1 := u3 1 (by simp)
        have w1 := u3 2 (by simp)
        simp only [List.headD_cons, List.length_cons, List.length_nil] at u2 hl
        have v2 : mayF [x] y.toNat = true := by
          rcases v1 with h | h
          · cases h
          · exact h
        have w2 : 128 ≤ z.toNat ∧ z.toNat ≤ 191 := by
          rcases w1 with h | h
          · cases h
          · have : (decide (128 ≤ z.toNat) && decide (z.toNat ≤ 191)) = true := h
            simpa using this
        obtain ⟨v3, v4⟩ := may_one v2
        clear v2
        have hmt2 : 128 ≤ b.toNat ∧ b.toNat ≤ 191 := by
          have : (decide (128 ≤ b.toNat) && decide (b.toNat ≤ 191)) = true := hmt
          simpa using this
        simp only [List.cons_append, List.nil_append, rnV, rnOK]
        unfold utfLen at u2 hl
        clear hmt v1 w1 u3
        (repeat' split at u2) <;> (repeat' split at hl) <;> (repeat' split at v3) <;> (repeat' split at v4) <;> omega
      | x :: y :: z :: q :: l, _, u2, _, _, _ =>
        exfalso
        simp only [List.headD_cons, List.length_cons] at u2
        unfold utfLen at u2
        (repeat' split at u2) <;> omega
theorem pstep_ac {p : PV} (h : PvOK p) (b : UInt8) : ∀ a ∈ (pstep p b).2, AcOK a := by
  unfold pstep
  repeat' split
  · exact gstep_ac b
  · exact estep_ac b
  · rename_i h2
    have hA := h.csi h2
    unfold cstep
    repeat' split
    · simp
    · rename_i hc
      intro a ha
      simp only [List.mem_singleton] at ha
      subst ha
      refine .inr ⟨rfl, rfl, .inr ⟨rfl, .inr (.inl ⟨rfl, ?_⟩)⟩⟩
      simp only [ctl, Bool.or_eq_true, Bool.and_eq_true, decide_eq_true_eq, beq_iff_eq] at hc
      unfold ctlN
      simp only
      omega
    · simp
    · simp
    · simp
    · rename_i h6
      intro a ha
      simp only [List.mem_singleton] at ha
      subst ha
      exact .inl ⟨rfl, rfl, hA, by simp only; omega, by simp only; omega⟩
    · simp
  · unfold sstep
    repeat' split
    · simp
    · simp
    · simp
  · rename_i h4
    unfold ostep
    repeat' split
    · intro a ha
      simp only [List.mem_singleton] at ha
      subst ha
      exact .inr ⟨rfl, rfl, .inl ⟨rfl, rfl, h.osc (.inl h4)⟩⟩
    · simp
    · simp
    · simp
  · rename_i h5
    unfold qstep
    split
    · intro a ha
      simp only [List.mem_singleton] at ha
      subst ha
      exact .inr ⟨rfl, rfl, .inl ⟨rfl, rfl, h.osc (.inr h5)⟩⟩
    · exact estep_ac b
  · exact ustep_ac (h.ut (by have := h.st; omega)) b
theorem prun_ac (l : List UInt8) {p : PV} (h : PvOK p) : ∀ a ∈ (prun p l).2, AcOK a := by
  induction l generalizing p with
  | nil => simp [prun]
  | cons b l ih =>
    intro a ha
    simp only [prun, List.mem_append] at ha
    rcases ha with ha | ha
    · exact pstep_ac h b a ha
    · exact ih (pstep_ok h b) a ha
end
section
open Go.RowKit
abbrev Cl := Int × Int
def celE (c : Cl) : List Value := [.int .i64 c.1, .int .i64 c.2]
structure Scr where
  w : Nat
  h : Nat
  x : Nat
  y : Nat
  look : Nat
  top : Nat
  bot : Nat
  sx : Nat
  sy : Nat
  title : ByteArray
  cells : List Cl
  hist : List ByteArray
def blank : Cl := (32, 0)
def blanksL (n : Nat) : List Cl := List.replicate n blank
def trimC (l : List Cl) : List Cl := (l.reverse.dropWhile (fun c => c.1 == 32)).reverse
def rowL (l : List Cl) : List UInt8 := (trimC l).flatMap fun c => utfB c.1.toNat
def rowC (s : Scr) (y : Nat) : List Cl := (s.cells.drop (y * s.w)).take s.w
def rowT (s : Scr) (y : Nat) : ByteArray := ⟨(rowL (rowC s y)).toArray⟩
def pushH (l : List ByteArray) (r : ByteArray) : List ByteArray := if 6 < (l ++ [r]).length then (l ++ [r]).tail else l ++ [r]
def up1 (w a b : Nat) (l : List Cl) : List Cl := l.take (a * w) ++ ((l.drop ((a + 1) * w)).take ((b - a) * w) ++ (blanksL w ++ l.drop ((b + 1) * w)))
def dn1 (w a b : Nat) (l : List Cl) : List Cl := l.take (a * w) ++ (blanksL w ++ ((l.drop (a * w)).take ((b - a) * w) ++ l.drop ((b + 1) * w)))
def scU1 (keep : Bool) (a b : Nat) (s : Scr) : Scr := { s with cells := up1 s.w a b s.cells, hist := if a = 0 ∧ keep = true then pushH s.hist (rowT s 0) else s.hist }
def scU (keep : Bool) (a b : Nat) : Nat → Scr → Scr
  | 0, s => s
  | n + 1, s => scU1 keep a b (scU keep a b n s)
def scD1 (a b : Nat) (s : Scr) : Scr := { s with cells := dn1 s.w a b s.cells }
def scD (a b : Nat) : Nat → Scr → Scr
  | 0, s => s
  | n + 1, s => scD1 a b (scD a b n s)
def clrL (f t : Nat) (l : List Cl) : List Cl := l.take f ++ (blanksL (t - f) ++ l.drop t)
def clr (f t : Nat) (s : Scr) : Scr := { s with cells := clrL f t s.cells }
def downS (s : Scr) : Scr := if s.y = s.bot then scU true s.top s.bot 1 s else { s with y := min (s.h - 1) (s.y + 1) }
def upS (s : Scr) : Scr := if s.y = s.top then scD s.top s.bot 1 s else { s with y := s.y - 1 }
def wrapS (s : Scr) : Scr := if s.x = s.w then downS { s with x := 0 } else s
def putS (s : Scr) (n : Int) : Scr := { s with cells := s.cells.set (s.y * s.w + s.x) (n, (s.look : Int)), x := s.x + 1 }
def printS (s : Scr) (n : Int) : Scr := putS (wrapS s) n
def ctlS (s : Scr) (n : Int) : Scr :=
  if n = 8 then { s with x := min s.x (s.w - 1) - 1 } else if n = 9 then { s with x := min (s.w - 1) ((s.x / 8 + 1) * 8) }
  else if n = 10 then downS s else if n = 13 then { s with x := 0 } else s
def newS (w h : Nat) : Scr := ⟨w, h, 0, 0, 0, 0, h - 1, 0, 0, e0, blanksL (w * h), []⟩
def escS (s : Scr) (n : Int) : Scr :=
  if n = 55 then { s with sx := s.x, sy := s.y } else if n = 56 then { s with x := s.sx, y := s.sy } else if n = 68 then downS s
  else if n = 69 then downS { s with x := 0 } else if n = 77 then upS s else if n = 99 then { newS s.w s.h with hist := s.hist } else s
def lookN (l : Nat) (n : Int) : Nat :=
  if n ≤ 0 then 0 else if n = 1 then l ||| 64 else if n = 4 then l ||| 32 else if n = 7 then l ||| 16
  else if 30 ≤ n ∧ n ≤ 37 then (l &&& 112) ||| (n - 29).toNat else if n = 39 then l &&& 112 else l
def argA (xs : List Int) (i : Nat) (d : Int) : Int := if h : i < xs.length then (if xs[i] < 0 then d else xs[i]) else d
def arg1 (xs : List Int) (i : Nat) : Nat := max 1 (argA xs i 1).toNat
def curS (s : Scr) : Nat := s.y * s.w + min s.x (s.w - 1)
def eraS (s : Scr) (n : Int) (f t : Nat) : Scr :=
  if n = 0 then clr (curS s) t s else if n = 1 then clr f (curS s + 1) s else if n = 2 then clr f t s else s
def csiS (s : Scr) (c : Int) (xs : List Int) : Scr :=
  if c = 65 then { s with y := s.y - arg1 xs 0 }
  else if c = 66 then { s with y := min (s.h - 1) (s.y + arg1 xs 0) }
  else if c = 67 then { s with x := min (s.w - 1) (s.x + arg1 xs 0) }
  else if c = 68 then { s with x := min s.x (s.w - 1) - arg1 xs 0 }
  else if c = 72 ∨ c = 102 then { s with y := min s.h (arg1 xs 0) - 1, x := min s.w (arg1 xs 1) - 1 }
  else if c = 74 then eraS s (argA xs 0 0) 0 (s.w * s.h)
  else if c = 75 then eraS s (argA xs 0 0) (s.y * s.w) ((s.y + 1) * s.w)
  else if c = 76 then (if s.top ≤ s.y ∧ s.y ≤ s.bot then { scD s.y s.bot (min (arg1 xs 0) (s.bot - s.y + 1)) s with x := 0 } else s)
  else if c = 77 then (if s.top ≤ s.y ∧ s.y ≤ s.bot then { scU false s.y s.bot (min (arg1 xs 0) (s.bot - s.y + 1)) s with x := 0 } else s)
  else if c = 83 then scU true s.top s.bot (min (arg1 xs 0) (s.bot - s.top + 1)) s
  else if c = 84 then scD s.top s.bot (min (arg1 xs 0) (s.bot - s.top + 1)) s
  else if c = 109 then { s with look := xs.foldl lookN s.look }
  else if c = 114 then (if arg1 xs 0 < min s.h (argA xs 1 s.h).toNat then { s with top := arg1 xs 0 - 1, bot := min s.h (argA xs 1 s.h).toNat - 1, x := 0, y := 0 } else s)
  else s
def actS (s : Scr) (a : AV) : Scr :=
  if a.kind = 1 then printS s a.n else if a.kind = 2 then ctlS s a.n else if a.kind = 3 then escS s a.n
  else if a.kind = 4 then (if a.priv = true then s else csiS s a.n a.args) else if a.kind = 5 then { s with title := a.text } else s
def actsS (s : Scr) (l : List AV) : Scr := l.foldl actS s
def celOK (c : Cl) : Prop := rnOK c.1 ∧ 0 ≤ c.2 ∧ c.2 ≤ 127
structure ScrOK (s : Scr) : Prop where
  w1 : 2 ≤ s.w
  w2 : s.w ≤ 24
  h1 : 2 ≤ s.h
  h2 : s.h ≤ 10
  hx : s.x ≤ s.w
  hy : s.y < s.h
  lk : s.look ≤ 127
  tb : s.top < s.bot
  bh : s.bot < s.h
  hsx : s.sx ≤ s.w
  hsy : s.sy < s.h
  ti : titB s.title = true
  cn : s.cells.length = s.w * s.h
  cs : ∀ c ∈ s.cells, celOK c
  hn : s.hist.length ≤ 6
  hs : ∀ t ∈ s.hist, t.size ≤ 96
theorem celOK_blank : celOK blank := ⟨⟨by decide, by decide, by decide, by decide⟩, by decide, by decide⟩
theorem celOK_blanks {n : Nat} : ∀ c ∈ blanksL n, celOK c := fun c h => by rw [(List.mem_replicate.1 h).2]; exact celOK_blank
theorem dropWhile_len {α : Type} (p : α → Bool) : ∀ l : List α, (l.dropWhile p).length ≤ l.length
  | [] => Nat.le_refl _
  | a :: l => by
    rw [List.dropWhile_cons]
    split
    · exact Nat.le_succ_of_le (dropWhile_len p l)
    · exact Nat.le_refl _
theorem trimC_len (l : List Cl) : (trimC l).length ≤ l.length := by
  have := dropWhile_len (fun c : Cl => c.1 == 32) l.reverse
  simpa [trimC] using this
theorem flatU_len : ∀ l : List Cl, (l.flatMap fun c => utfB c.1.toNat).length ≤ 4 * l.length
  | [] => Nat.le_refl _
  | c :: l => by
    rw [List.flatMap_cons, List.length_append, List.length_cons]
    have h1 := utfB_len c.1.toNat
    have h2 := flatU_len l
    omega
theorem rowT_size (s : Scr) (y : Nat) : (rowT s y).size ≤ 4 * s.w := by
  have h1 := flatU_len (trimC (rowC s y))
  have h2 := trimC_len (rowC s y)
  have h3 : (rowC s y).length ≤ s.w := by simp only [rowC, List.length_take]; omega
  show (rowL (rowC s y)).toArray.size ≤ _
  rw [List.size_toArray]
  unfold rowL
  omega
theorem mul_le_of {a b w : Nat} (h : a ≤ b) : a * w ≤ b * w := Nat.mul_le_mul_right w h
theorem up1_len {w a b n : Nat} {l : List Cl} (hl : l.length = w * n) (hab : a ≤ b) (hb : b < n) : (up1 w a b l).length = w * n := by
  have h1 : (b + 1) * w ≤ n * w := mul_le_of (by omega)
  have h2 : a * w ≤ b * w := mul_le_of hab
  have e1 : (a + 1) * w = a * w + w := Nat.succ_mul a w
  have e2 : (b + 1) * w = b * w + w := Nat.succ_mul b w
  have e3 : (b - a) * w = b * w - a * w := Nat.sub_mul b a w
  have e4 : w * n = n * w := Nat.mul_comm w n
  simp only [up1, blanksL, List.length_append, List.length_take, List.length_drop, List.length_replicate, hl]
  omega
theorem dn1_len {w a b n : Nat} {l : List Cl} (hl : l.length = w * n) (hab : a ≤ b) (hb : b < n) : (dn1 w a b l).length = w * n := by
  have h1 : (b + 1) * w ≤ n * w := mul_le_of (by omega)
  have h2 : a * w ≤ b * w := mul_le_of hab
  have e2 : (b + 1) * w = b * w + w := Nat.succ_mul b w
  have e3 : (b - a) * w = b * w - a * w := Nat.sub_mul b a w
  have e4 : w * n = n * w := Nat.mul_comm w n
  simp only [dn1, blanksL, List.length_append, List.length_take, List.length_drop, List.length_replicate, hl]
  omega
theorem clrL_len {f t : Nat} {l : List Cl} (hf : f ≤ t) (ht : t ≤ l.length) : (clrL f t l).length = l.length := by
  simp only [clrL, blanksL, List.length_append, List.length_take, List.length_drop, List.length_replicate]
  omega
theorem up1_ok {w a b : Nat} {l : List Cl} (h : ∀ c ∈ l, celOK c) : ∀ c ∈ up1 w a b l, celOK c := by
  intro c hc
  simp only [up1, List.mem_append] at hc
  rcases hc with hc | hc | hc | hc
  · exact h c (List.mem_of_mem_take hc)
  · exact h c (List.mem_of_mem_drop (List.mem_of_mem_take hc))
  · exact celOK_blanks c hc
  · exact h c (List.mem_of_mem_drop hc)
theorem dn1_ok {w a b : Nat} {l : List Cl} (h : ∀ c ∈ l, celOK c) : ∀ c ∈ dn1 w a b l, celOK c := by
  intro c hc
  simp only [dn1, List.mem_append] at hc
  rcases hc with hc | hc | hc | hc
  · exact h c (List.mem_of_mem_take hc)
  · exact celOK_blanks c hc
  · exact h c (List.mem_of_mem_drop (List.mem_of_mem_take hc))
  · exact h c (List.mem_of_mem_drop hc)
theorem clrL_ok {f t : Nat} {l : List Cl} (h : ∀ c ∈ l, celOK c) : ∀ c ∈ clrL f t l, celOK c := by
  intro c hc
  simp only [clrL, List.mem_append] at hc
  rcases hc with hc | hc | hc
  · exact h c (List.mem_of_mem_take hc)
  · exact celOK_blanks c hc
  · exact h c (List.mem_of_mem_drop hc)
theorem pushH_ok {l : List ByteArray} {r : ByteArray} (h1 : l.length ≤ 6) (h2 : ∀ t ∈ l, t.size ≤ 96) (h3 : r.size ≤ 96) : (pushH l r).length ≤ 6 ∧ ∀ t ∈ pushH l r, t.size ≤ 96 := by
  have hm : ∀ t ∈ l ++ [r], t.size ≤ 96 := fun t ht => by
    rcases List.mem_append.1 ht with ht | ht
    · exact h2 t ht
    · simp at ht; subst ht; exact h3
  unfold pushH
  split
  · refine ⟨by simp; omega, fun t ht => hm t (List.mem_of_mem_tail ht)⟩
  · refine ⟨by simp at *; omega, hm⟩
section
variable {s : Scr}
theorem ScrOK.okRow (h : ScrOK s) (y : Nat) : (rowT s y).size ≤ 96 := by have := rowT_size s y; have := h.w2; omega
theorem ScrOK.okU1 (h : ScrOK s) {k : Bool} {a b : Nat} (hab : a ≤ b) (hb : b < s.h) : ScrOK (scU1 k a b s) := by
  have hp := pushH_ok h.hn h.hs (h.okRow 0)
  have hq : (scU1 k a b s).hist.length ≤ 6 ∧ ∀ t ∈ (scU1 k a b s).hist, t.size ≤ 96 := by
    unfold scU1
    simp only
    split
    · exact hp
    · exact ⟨h.hn, h.hs⟩
  exact ⟨h.w1, h.w2, h.h1, h.h2, h.hx, h.hy, h.lk, h.tb, h.bh, h.hsx, h.hsy, h.ti, up1_len h.cn hab hb, up1_ok h.cs, hq.1, hq.2⟩
theorem scU_same (k : Bool) (a b : Nat) (s : Scr) : ∀ n, (scU k a b n s).w = s.w ∧ (scU k a b n s).h = s.h ∧ (scU k a b n s).x = s.x ∧ (scU k a b n s).y = s.y ∧ (scU k a b n s).look = s.look ∧ (scU k a b n s).top = s.top ∧ (scU k a b n s).bot = s.bot ∧ (scU k a b n s).sx = s.sx ∧ (scU k a b n s).sy = s.sy ∧ (scU k a b n s).title = s.title
  | 0 => ⟨rfl, rfl, rfl, rfl, rfl, rfl, rfl, rfl, rfl, rfl⟩
  | n + 1 => scU_same k a b s n
theorem scD_same (a b : Nat) (s : Scr) : ∀ n, (scD a b n s).w = s.w ∧ (scD a b n s).h = s.h ∧ (scD a b n s).x = s.x ∧ (scD a b n s).y = s.y ∧ (scD a b n s).look = s.look ∧ (scD a b n s).top = s.top ∧ (scD a b n s).bot = s.bot ∧ (scD a b n s).sx = s.sx ∧ (scD a b n s).sy = s.sy ∧ (scD a b n s).title = s.title ∧ (scD a b n s).hist = s.hist
  | 0 => ⟨rfl, rfl, rfl, rfl, rfl, rfl, rfl, rfl, rfl, rfl, rfl⟩
  | n + 1 => scD_same a b s n
theorem ScrOK.okU (h : ScrOK s) {k : Bool} {a b : Nat} (hab : a ≤ b) (hb : b < s.h) : ∀ n, ScrOK (scU k a b n s)
  | 0 => h
  | n + 1 => (h.okU hab hb n).okU1 hab (by rw [(scU_same k a b s n).2.1]; exact hb)
theorem ScrOK.okD1 (h : ScrOK s) {a b : Nat} (hab : a ≤ b) (hb : b < s.h) : ScrOK (scD1 a b s) :=
  ⟨h.w1, h.w2, h.h1, h.h2, h.hx, h.hy, h.lk, h.tb, h.bh, h.hsx, h.hsy, h.ti, dn1_len h.cn hab hb, dn1_ok h.cs, h.hn, h.hs⟩
theorem ScrOK.okD (h : ScrOK s) {a b : Nat} (hab : a ≤ b) (hb : b < s.h) : ∀ n, ScrOK (scD a b n s)
  | 0 => h
  | n + 1 => (h.okD hab hb n).okD1 hab (by rw [(scD_same a b s n).2.1]; exact hb)
theorem ScrOK.xy (h : ScrOK s) {x y : Nat} (hx : x ≤ s.w) (hy : y < s.h) : ScrOK { s with x := x, y := y } :=
  ⟨h.w1, h.w2, h.h1, h.h2, hx, hy, h.lk, h.tb, h.bh, h.hsx, h.hsy, h.ti, h.cn, h.cs, h.hn, h.hs⟩
theorem ScrOK.down (h : ScrOK s) : ScrOK (downS s) := by
  unfold downS
  split
  · exact h.okU (Nat.le_of_lt h.tb) h.bh 1
  · exact h.xy h.hx (by have := h.h1; omega)
theorem ScrOK.up (h : ScrOK s) : ScrOK (upS s) := by
  unfold upS
  split
  · exact h.okD (Nat.le_of_lt h.tb) h.bh 1
  · exact h.xy h.hx (by have := h.hy; omega)
theorem downS_same (s : Scr) : (downS s).w = s.w ∧ (downS s).h = s.h ∧ (downS s).x = s.x ∧ (downS s).look = s.look := by unfold downS; split <;> exact ⟨rfl, rfl, rfl, rfl⟩
theorem ScrOK.wrap (h : ScrOK s) : ScrOK (wrapS s) ∧ (wrapS s).x < (wrapS s).w := by
  unfold wrapS
  split
  · refine ⟨(h.xy (x := 0) (y := s.y) (Nat.zero_le _) h.hy).down, ?_⟩
    have h1 := downS_same { s with x := 0 }
    rw [h1.1, h1.2.2.1]
    show 0 < s.w
    have := h.w1; omega
  · exact ⟨h, by have := h.hx; omega⟩
theorem mem_set_or {α : Type} {l : List α} {i : Nat} {x c : α} (h : c ∈ l.set i x) : c = x ∨ c ∈ l := by
  rcases List.mem_or_eq_of_mem_set h with h | h
  · exact .inr h
  · exact .inl h
theorem ScrOK.put (h : ScrOK s) (hx : s.x < s.w) {n : Int} (hn : rnOK n) : ScrOK (putS s n) :=
  ⟨h.w1, h.w2, h.h1, h.h2, hx, h.hy, h.lk, h.tb, h.bh, h.hsx, h.hsy, h.ti, by simp only [putS, List.length_set]; exact h.cn, fun c hc => by
    rcases mem_set_or hc with rfl | hc
    · exact ⟨hn, by have := h.lk; simp only; omega⟩
    · exact h.cs c hc, h.hn, h.hs⟩
theorem ScrOK.print (h : ScrOK s) {n : Int} (hn : rnOK n) : ScrOK (printS s n) := h.wrap.1.put h.wrap.2 hn
theorem ScrOK.ctl (h : ScrOK s) (n : Int) : ScrOK (ctlS s n) := by
  have := h.hx
  unfold ctlS
  split
  · exact h.xy (x := min s.x (s.w - 1) - 1) (y := s.y) (by omega) h.hy
  split
  · exact h.xy (x := min (s.w - 1) ((s.x / 8 + 1) * 8)) (y := s.y) (by omega) h.hy
  split
  · exact h.down
  split
  · exact h.xy (x := 0) (y := s.y) (by omega) h.hy
  · exact h
theorem ScrOK.new {w h : Nat} (h1 : 2 ≤ w) (h2 : w ≤ 24) (h3 : 2 ≤ h) (h4 : h ≤ 10) : ScrOK (newS w h) :=
  ⟨h1, h2, h3, h4, Nat.zero_le _, by simp only [newS]; omega, by simp only [newS]; omega, by simp only [newS]; omega, by simp only [newS]; omega, Nat.zero_le _, by simp only [newS]; omega, by rfl, by simp [newS, blanksL], celOK_blanks, by simp [newS], by simp [newS]⟩
theorem ScrOK.esc (h : ScrOK s) (n : Int) : ScrOK (escS s n) := by
  unfold escS
  split
  · exact ⟨h.w1, h.w2, h.h1, h.h2, h.hx, h.hy, h.lk, h.tb, h.bh, h.hx, h.hy, h.ti, h.cn, h.cs, h.hn, h.hs⟩
  split
  · exact h.xy h.hsx h.hsy
  split
  · exact h.down
  split
  · exact (h.xy (x := 0) (y := s.y) (Nat.zero_le _) h.hy).down
  split
  · exact h.up
  split
  · have k := ScrOK.new h.w1 h.w2 h.h1 h.h2
    exact ⟨k.w1, k.w2, k.h1, k.h2, k.hx, k.hy, k.lk, k.tb, k.bh, k.hsx, k.hsy, k.ti, k.cn, k.cs, h.hn, h.hs⟩
  · exact h
theorem or_le {a b : Nat} (ha : a ≤ 127) (hb : b ≤ 127) : a ||| b ≤ 127 := by
  have := Nat.or_lt_two_pow (x := a) (y := b) (n := 7) (by omega) (by omega)
  omega
theorem lookN_ok {l : Nat} (h : l ≤ 127) (n : Int) : lookN l n ≤ 127 := by
  unfold lookN
  split
  · omega
  split
  · exact or_le h (by omega)
  split
  · exact or_le h (by omega)
  split
  · exact or_le h (by omega)
  split
  · exact or_le (Nat.le_trans Nat.and_le_left h) (by omega)
  split
  · exact Nat.le_trans Nat.and_le_left h
  · exact h
theorem looks_ok {l : Nat} (h : l ≤ 127) : ∀ xs : List Int, xs.foldl lookN l ≤ 127
  | [] => h
  | x :: xs => by rw [List.foldl_cons]; exact looks_ok (lookN_ok h x) xs
theorem ScrOK.okClr (h : ScrOK s) {f t : Nat} (hf : f ≤ t) (ht : t ≤ s.w * s.h) : ScrOK (clr f t s) :=
  ⟨h.w1, h.w2, h.h1, h.h2, h.hx, h.hy, h.lk, h.tb, h.bh, h.hsx, h.hsy, h.ti, (clrL_len hf (by rw [h.cn]; exact ht)).trans h.cn, clrL_ok h.cs, h.hn, h.hs⟩
theorem ScrOK.cur (h : ScrOK s) : s.y * s.w ≤ curS s ∧ curS s + 1 ≤ (s.y + 1) * s.w ∧ (s.y + 1) * s.w ≤ s.w * s.h := by
  have h1 : (s.y + 1) * s.w ≤ s.h * s.w := mul_le_of h.hy
  have e1 : (s.y + 1) * s.w = s.y * s.w + s.w := Nat.succ_mul _ _
  have e2 : s.w * s.h = s.h * s.w := Nat.mul_comm _ _
  have := h.w1
  unfold curS
  omega
theorem ScrOK.era (h : ScrOK s) (n : Int) {f t : Nat} (hf : f ≤ curS s) (ht : curS s + 1 ≤ t) (ht2 : t ≤ s.w * s.h) : ScrOK (eraS s n f t) := by
  unfold eraS
  split
  · exact h.okClr (by omega) ht2
  split
  · exact h.okClr (by omega) (by omega)
  split
  · exact h.okClr (by omega) ht2
  · exact h
theorem arg1_pos (xs : List Int) (i : Nat) : 1 ≤ arg1 xs i := by unfold arg1; omega
theorem ite_ok {α : Type} {P : α → Prop} {c : Prop} [Decidable c] {a b : α} (h1 : c → P a) (h2 : ¬ c → P b) : P (if c then a else b) := by split <;> first | exact h1 ‹_› | exact h2 ‹_›
theorem ScrOK.csi (h : ScrOK s) (c : Int) (xs : List Int) : ScrOK (csiS s c xs) := by
  have hy := h.hy
  have hx := h.hx
  have hh := h.h1
  have hw := h.w1
  have hc := h.cur
  have p0 := arg1_pos xs 0
  have p1 := arg1_pos xs 1
  unfold csiS
  refine ite_ok (fun hcc => ?_) (fun _ => ?_)
  · exact h.xy (x := s.x) (y := s.y - arg1 xs 0) hx (by omega)
  refine ite_ok (fun hcc => ?_) (fun _ => ?_)
  · exact h.xy (x := s.x) (y := min (s.h - 1) (s.y + arg1 xs 0)) hx (by omega)
  refine ite_ok (fun hcc => ?_) (fun _ => ?_)
  · exact h.xy (x := min (s.w - 1) (s.x + arg1 xs 0)) (y := s.y) (by omega) hy
  refine ite_ok (fun hcc => ?_) (fun _ => ?_)
  · exact h.xy (x := min s.x (s.w - 1) - arg1 xs 0) (y := s.y) (by omega) hy
  refine ite_ok (fun hcc => ?_) (fun _ => ?_)
  · exact h.xy (x := min s.w (arg1 xs 1) - 1) (y := min s.h (arg1 xs 0) - 1) (by omega) (by omega)
  refine ite_ok (fun hcc => ?_) (fun _ => ?_)
  · exact h.era _ (Nat.zero_le _) (by omega) (Nat.le_refl _)
  refine ite_ok (fun hcc => ?_) (fun _ => ?_)
  · exact h.era _ hc.1 hc.2.1 hc.2.2
  refine ite_ok (fun hcc => ?_) (fun _ => ?_)
  · refine ite_ok (fun hin => ?_) (fun _ => h)
    · have k := h.okD (a := s.y) (b := s.bot) hin.2 h.bh (min (arg1 xs 0) (s.bot - s.y + 1))
      exact k.xy (x := 0) (y := (scD s.y s.bot _ s).y) (Nat.zero_le _) k.hy
  refine ite_ok (fun hcc => ?_) (fun _ => ?_)
  · refine ite_ok (fun hin => ?_) (fun _ => h)
    · have k := h.okU (k := false) (a := s.y) (b := s.bot) hin.2 h.bh (min (arg1 xs 0) (s.bot - s.y + 1))
      exact k.xy (x := 0) (y := (scU false s.y s.bot _ s).y) (Nat.zero_le _) k.hy
  refine ite_ok (fun hcc => ?_) (fun _ => ?_)
  · exact h.okU (Nat.le_of_lt h.tb) h.bh _
  refine ite_ok (fun hcc => ?_) (fun _ => ?_)
  · exact h.okD (Nat.le_of_lt h.tb) h.bh _
  refine ite_ok (fun hcc => ?_) (fun _ => ?_)
  · exact ⟨h.w1, h.w2, h.h1, h.h2, h.hx, h.hy, looks_ok h.lk xs, h.tb, h.bh, h.hsx, h.hsy, h.ti, h.cn, h.cs, h.hn, h.hs⟩
  refine ite_ok (fun hcc => ?_) (fun _ => ?_)
  · refine ite_ok (fun hin => ?_) (fun _ => h)
    · exact ⟨h.w1, h.w2, h.h1, h.h2, Nat.zero_le _, by simp only; omega, h.lk, by simp only; omega, by simp only; omega, h.hsx, h.hsy, h.ti, h.cn, h.cs, h.hn, h.hs⟩
  · exact h
theorem ScrOK.act (h : ScrOK s) {a : AV} (ha : AcOK a) : ScrOK (actS s a) := by
  rcases ha with ⟨hk, ht, hA, h1, h2⟩ | ⟨hp, hA, ⟨hk, hn, ht⟩ | ⟨ht, ⟨hk, hn⟩ | ⟨hk, hn⟩ | ⟨hk, hn⟩⟩⟩
  · unfold actS
    rw [hk]
    simp only [show ¬ (4 : Int) = 1 by decide, show ¬ (4 : Int) = 2 by decide, show ¬ (4 : Int) = 3 by decide, if_false, if_true]
    split
    · exact h
    · exact h.csi _ _
  · unfold actS
    rw [hk]
    simp only [show ¬ (5 : Int) = 1 by decide, show ¬ (5 : Int) = 2 by decide, show ¬ (5 : Int) = 3 by decide, show ¬ (5 : Int) = 4 by decide, if_false, if_true]
    exact ⟨h.w1, h.w2, h.h1, h.h2, h.hx, h.hy, h.lk, h.tb, h.bh, h.hsx, h.hsy, ht, h.cn, h.cs, h.hn, h.hs⟩
  · unfold actS
    rw [hk, if_pos rfl]
    exact h.print hn
  · unfold actS
    rw [hk]
    simp only [show ¬ (2 : Int) = 1 by decide, if_false, if_true]
    exact h.ctl _
  · unfold actS
    rw [hk]
    simp only [show ¬ (3 : Int) = 1 by decide, show ¬ (3 : Int) = 2 by decide, if_false, if_true]
    exact h.esc _
theorem ScrOK.acts (h : ScrOK s) : ∀ {l : List AV}, (∀ a ∈ l, AcOK a) → ScrOK (actsS s l) := by
  intro l
  induction l generalizing s with
  | nil => intro _; exact h
  | cons a l ih => intro hl; exact ih (h.act (hl a (by simp))) (fun b hb => hl b (by simp [hb]))
end
end
section
open Go.RowKit
theorem celOne : ∀ x : Cl, ∀ u ∈ celE x, u.oneCell' = true := fun x u hu => by
  simp only [celE, List.mem_cons, List.not_mem_nil, or_false] at hu
  rcases hu with rfl | rfl <;> rfl
structure ScrAt (lo b o : Nat) (s : Scr) (g cc : Nat) (ah : Option Addr) (dh : Nat) (w : World) : Prop where
  c0 : w.cell? ⟨b, o, none⟩ = some (.int .i64 (s.w : Int))
  c1 : w.cell? ⟨b, o + 1, none⟩ = some (.int .i64 (s.h : Int))
  c2 : w.cell? ⟨b, o + 2, none⟩ = some (.int .i64 (s.x : Int))
  c3 : w.cell? ⟨b, o + 3, none⟩ = some (.int .i64 (s.y : Int))
  c4 : w.cell? ⟨b, o + 4, none⟩ = some (.int .i64 (s.look : Int))
  c5 : w.cell? ⟨b, o + 5, none⟩ = some (.int .i64 (s.top : Int))
  c6 : w.cell? ⟨b, o + 6, none⟩ = some (.int .i64 (s.bot : Int))
  c7 : w.cell? ⟨b, o + 7, none⟩ = some (.int .i64 (s.sx : Int))
  c8 : w.cell? ⟨b, o + 8, none⟩ = some (.int .i64 (s.sy : Int))
  c9 : w.cell? ⟨b, o + 9, none⟩ = some (.string s.title)
  c10 : w.cell? ⟨b, o + 10, none⟩ = some (.slice (some ⟨g, 0, none⟩) s.cells.length cc)
  c11 : w.cell? ⟨b, o + 11, none⟩ = some (.slice ah s.hist.length dh)
  fz : ∀ k, w.frozen? ⟨b, k, none⟩ = false
  lt : b < w.heap.size
  row : FreshIn celE 87 2 lo w.heap.size (.slice (some ⟨g, 0, none⟩) s.cells.length cc) s.cells w
  win : Win strE 9 1 lo w ah dh s.hist
  gb : g ≠ b
  hb : ∀ k ∈ blkOf ah, k ≠ b ∧ k ≠ g
theorem Upd.transN {g lo hi : Nat} {S N : Nat → Prop} {a w w' : World} (h : Upd g lo hi S a w) (k : Upd g lo hi N w w') (hN : ∀ i, N i → S i ∨ a.heap.size ≤ i) : Upd g lo hi S a w' :=
  ⟨k.os.trans h.os, k.tape.trans h.tape, k.output.trans h.output, Nat.le_trans h.size k.size, fun i h1 h2 h3 => (k.block i (Nat.lt_of_lt_of_le h1 h.size) h2 (fun t => by
    rcases hN i t with h4 | h4
    · exact h3 h4
    · omega)).trans (h.block i h1 h2 h3), fun o ho => (k.cell o ho).trans (h.cell o ho), fun o => (k.fz o).trans (h.fz o)⟩
theorem Upd.ofCh {g lo hi : Nat} {M S : Nat → Prop} {w w' : World} (h : Ch M w w') (hg : g < w.heap.size) (hn : ¬ M g) (hS : ∀ i, M i → S i ∨ w.heap.size ≤ i) : Upd g lo hi S w w' :=
  ⟨h.os, h.tape, h.output, h.size, fun k h1 _ h3 => h.block k h1 (fun hm => by
    rcases hS k hm with h4 | h4
    · exact h3 h4
    · omega), fun o _ => h.cell (p := ⟨g, o, none⟩) hg hn, fun o => h.frozen (p := ⟨g, o, none⟩) hg hn⟩
theorem Upd.drew {g lo hi : Nat} {S : Nat → Prop} {w w' : World} (h : Upd g lo hi S w w') : Upd g lo hi S w w'.drew := ⟨h.os, h.tape, h.output, h.size, h.block, h.cell, h.fz⟩
theorem Upd.ch {g lo hi : Nat} {S : Nat → Prop} {w w' : World} (h : Upd g lo hi S w w') : Ch (fun k => k = g ∨ S k) w w' := ⟨h.os, h.tape, h.output, h.size, fun k h1 h2 => h.block k h1 (fun e => h2 (.inl e)) (fun e => h2 (.inr e))⟩
theorem Upd.set1 {g lo hi o : Nat} {S : Nat → Prop} {w : World} (h1 : lo ≤ o) (h2 : o < hi) (u : Value) : Upd g lo hi S w (w.setCell ⟨g, o, none⟩ u) := Upd.refl.setCell o h1 h2 u
theorem Ch.set1' (w : World) (b k : Nat) (u : Value) : Ch (· = b) w (w.setCell ⟨b, k, none⟩ u) := (Ch.refl (M := (· = b)) (w := w)).setCell (p := ⟨b, k, none⟩) (.inl rfl) u
def ScrR (lo b o : Nat) (s' : Scr) (g : Nat) (ah : Option Addr) (w w' : World) : Prop :=
  ∃ g' cc' ah' dh', ScrAt lo b o s' g' cc' ah' dh' w' ∧ Upd b o (o + 12) (fun k => k = g ∨ k ∈ blkOf ah) w w' ∧ (g' = g ∨ w.heap.size ≤ g') ∧ ∀ k ∈ blkOf ah', k ∈ blkOf ah ∨ w.heap.size ≤ k
theorem ScrR.mk {lo b o : Nat} {s : Scr} {g cc : Nat} {ah : Option Addr} {dh : Nat} {w w' : World} (h : ScrAt lo b o s g cc ah dh w') (u : Upd b o (o + 12) (fun k => k = g ∨ k ∈ blkOf ah) w w') : ScrR lo b o s g ah w w' :=
  ⟨g, cc, ah, dh, h, u, .inl rfl, fun _ hk => .inl hk⟩
theorem ScrR.trans {lo b o : Nat} {s' s2 : Scr} {g g' cc' : Nat} {ah ah' : Option Addr} {dh' : Nat} {w w' w2 : World} (_ : ScrAt lo b o s' g' cc' ah' dh' w') (u : Upd b o (o + 12) (fun k => k = g ∨ k ∈ blkOf ah) w w') (hg : g' = g ∨ w.heap.size ≤ g') (ha : ∀ k ∈ blkOf ah', k ∈ blkOf ah ∨ w.heap.size ≤ k) (k : ScrR lo b o s2 g' ah' w' w2) : ScrR lo b o s2 g ah w w2 := by
  obtain ⟨g3, c3, a3, d3, h3, u3, hg3, ha3⟩ := k
  have hz := u.size
  refine ⟨g3, c3, a3, d3, h3, u.transN u3 (fun i hi => ?_), ?_, fun i hi => ?_⟩
  · rcases hi with hi | hi
    · subst hi
      rcases hg with hg | hg
      · exact .inl (.inl hg)
      · exact .inr hg
    · rcases ha i hi with h | h
      · exact .inl (.inr h)
      · exact .inr h
  · rcases hg3 with h | h
    · rw [h]; exact hg
    · exact .inr (by omega)
  · rcases ha3 i hi with h | h
    · exact ha i h
    · exact .inr (by omega)
section
variable {lo b o : Nat} {s : Scr} {g cc : Nat} {ah : Option Addr} {dh : Nat} {w w' : World} {M : Nat → Prop}
theorem ScrAt.ch (h : ScrAt lo b o s g cc ah dh w) (hc : Ch M w w') (h1 : ¬ M b) (h2 : ¬ M g) (h3 : ∀ k ∈ blkOf ah, ¬ M k) : ScrAt lo b o s g cc ah dh w' where
  c0 := (hc.cell (p := ⟨b, o, none⟩) h.lt h1).trans h.c0
  c1 := (hc.cell (p := ⟨b, o + 1, none⟩) h.lt h1).trans h.c1
  c2 := (hc.cell (p := ⟨b, o + 2, none⟩) h.lt h1).trans h.c2
  c3 := (hc.cell (p := ⟨b, o + 3, none⟩) h.lt h1).trans h.c3
  c4 := (hc.cell (p := ⟨b, o + 4, none⟩) h.lt h1).trans h.c4
  c5 := (hc.cell (p := ⟨b, o + 5, none⟩) h.lt h1).trans h.c5
  c6 := (hc.cell (p := ⟨b, o + 6, none⟩) h.lt h1).trans h.c6
  c7 := (hc.cell (p := ⟨b, o + 7, none⟩) h.lt h1).trans h.c7
  c8 := (hc.cell (p := ⟨b, o + 8, none⟩) h.lt h1).trans h.c8
  c9 := (hc.cell (p := ⟨b, o + 9, none⟩) h.lt h1).trans h.c9
  c10 := (hc.cell (p := ⟨b, o + 10, none⟩) h.lt h1).trans h.c10
  c11 := (hc.cell (p := ⟨b, o + 11, none⟩) h.lt h1).trans h.c11
  fz := fun k => (hc.frozen (p := ⟨b, k, none⟩) h.lt h1).trans (h.fz k)
  lt := Nat.lt_of_lt_of_le h.lt hc.size
  row := h.row.ch hc (fun k hk => by simp only [blkOf, List.mem_singleton] at hk; subst hk; exact h2)
  win := h.win.ch hc h3
  gb := h.gb
  hb := h.hb
theorem ScrAt.below (h : ScrAt lo b o s g cc ah dh w) (hb : Below w.heap.size w w') : ScrAt lo b o s g cc ah dh w' := h.ch (M := fun _ => False) (Ch.of_below hb) (fun h => h) (fun h => h) (fun _ _ h => h)
theorem ScrAt.alloc (h : ScrAt lo b o s g cc ah dh w) (x : Obj) : ScrAt lo b o s g cc ah dh (w.alloc x) := h.below ((Below.refl _ _).alloc (Nat.le_refl _) _)
theorem ScrAt.drew (h : ScrAt lo b o s g cc ah dh w) : ScrAt lo b o s g cc ah dh w.drew := h.below ((Below.refl _ _).drew)
theorem ScrAt.low {lo' : Nat} (h : ScrAt lo b o s g cc ah dh w) (hl : lo' ≤ lo) : ScrAt lo' b o s g cc ah dh w :=
  ⟨h.c0, h.c1, h.c2, h.c3, h.c4, h.c5, h.c6, h.c7, h.c8, h.c9, h.c10, h.c11, h.fz, h.lt, h.row.mono hl (Nat.le_refl _), h.win.low hl, h.gb, h.hb⟩
theorem ScrAt.glt (h : ScrAt lo b o s g cc ah dh w) : lo ≤ g ∧ g < w.heap.size := FreshIn.blks h.row g (by simp [blkOf])
theorem ScrAt.sl (h : ScrAt lo b o s g cc ah dh w) : Sl celE 2 w (some ⟨g, 0, none⟩) s.cells := h.row.sl (fun _ => rfl)
theorem ScrAt.hsl (h : ScrAt lo b o s g cc ah dh w) : Sl strE 1 w ah s.hist := h.win.sl (fun _ => rfl)
theorem ScrAt.cell (h : ScrAt lo b o s g cc ah dh w) {i : Nat} (hi : i < s.cells.length) : w.cell? ⟨g, i * 2, none⟩ = some (.int .i64 s.cells[i].1) ∧ w.cell? ⟨g, i * 2 + 1, none⟩ = some (.int .i64 s.cells[i].2) := by
  obtain ⟨b', o', he, hlt, hc⟩ := h.sl.at hi
  cases he
  have h0 := hc i hi 0 (by omega)
  have h1 := hc i hi 1 (by omega)
  simp only [celE, Nat.zero_add, Nat.add_zero, List.getElem?_cons_zero, List.getElem?_cons_succ] at h0 h1
  exact ⟨h0, h1⟩
theorem ScrAt.gfz (h : ScrAt lo b o s g cc ah dh w) : ∀ k, w.frozen? ⟨g, k, none⟩ = false := by
  obtain ⟨⟨a', cap', hv, h1, h2⟩, _⟩ := h.row
  cases hv
  exact fun k => h2.frozenAt k
theorem Upd.refl' : Upd b o (o + 12) (fun k => k = g ∨ k ∈ blkOf ah) w w := Upd.refl
theorem ScrAt.set2 (h : ScrAt lo b o s g cc ah dh w) (v : Nat) : ScrAt lo b o { s with x := v } g cc ah dh (w.setCell ⟨b, o + 2, none⟩ (.int .i64 (v : Int))) where
  c0 := sO h.c0
  c1 := sO h.c1
  c2 := World.cell?_setCell_same _ _ _ h.c2
  c3 := sO h.c3
  c4 := sO h.c4
  c5 := sO h.c5
  c6 := sO h.c6
  c7 := sO h.c7
  c8 := sO h.c8
  c9 := sO h.c9
  c10 := sO h.c10
  c11 := sO h.c11
  fz := fun k => (World.frozen?_setCell _ _ _ _).trans (h.fz k)
  lt := by have := h.lt; simpa [World.setCell] using this
  row := h.row.ch (Ch.set1' w b (o + 2) _) (fun k hk e => by simp only [blkOf, List.mem_singleton] at hk; exact h.gb (hk.symm.trans e))
  win := h.win.ch (Ch.set1' w b (o + 2) _) (fun k hk e => (h.hb k hk).1 e)
  gb := h.gb
  hb := h.hb
theorem ScrAt.setv2 (h : ScrAt lo b o s g cc ah dh w) (v : Nat) {z : Int} (hz : z = (v : Int)) : ScrAt lo b o { s with x := v } g cc ah dh (w.setCell ⟨b, o + 2, none⟩ (.int .i64 z)) := by subst hz; exact h.set2 v
theorem Upd.set2 (h : Upd b o (o + 12) (fun k => k = g ∨ k ∈ blkOf ah) w w') (v : Value) : Upd b o (o + 12) (fun k => k = g ∨ k ∈ blkOf ah) w (w'.setCell ⟨b, o + 2, none⟩ v) := h.setCell (o + 2) (by omega) (by omega) v
theorem ScrAt.set3 (h : ScrAt lo b o s g cc ah dh w) (v : Nat) : ScrAt lo b o { s with y := v } g cc ah dh (w.setCell ⟨b, o + 3, none⟩ (.int .i64 (v : Int))) where
  c0 := sO h.c0
  c1 := sO h.c1
  c2 := sO h.c2
  c3 := World.cell?_setCell_same _ _ _ h.c3
  c4 := sO h.c4
  c5 := sO h.c5
  c6 := sO h.c6
  c7 := sO h.c7
  c8 := sO h.c8
  c9 := sO h.c9
  c10 := sO h.c10
  c11 := sO h.c11
  fz := fun k => (World.frozen?_setCell _ _ _ _).trans (h.fz k)
  lt := by have := h.lt; simpa [World.setCell] using this
  row := h.row.ch (Ch.set1' w b (o + 3) _) (fun k hk e => by simp only [blkOf, List.mem_singleton] at hk; exact h.gb (hk.symm.trans e))
  win := h.win.ch (Ch.set1' w b (o + 3) _) (fun k hk e => (h.hb k hk).1 e)
  gb := h.gb
  hb := h.hb
theorem ScrAt.setv3 (h : ScrAt lo b o s g cc ah dh w) (v : Nat) {z : Int} (hz : z = (v : Int)) : ScrAt lo b o { s with y := v } g cc ah dh (w.setCell ⟨b, o + 3, none⟩ (.int .i64 z)) := by subst hz; exact h.set3 v
theorem Upd.set3 (h : Upd b o (o + 12) (fun k => k = g ∨ k ∈ blkOf ah) w w') (v : Value) : Upd b o (o + 12) (fun k => k = g ∨ k ∈ blkOf ah) w (w'.setCell ⟨b, o + 3, none⟩ v) := h.setCell (o + 3) (by omega) (by omega) v
theorem ScrAt.set4 (h : ScrAt lo b o s g cc ah dh w) (v : Nat) : ScrAt lo b o { s with look := v } g cc ah dh (w.setCell ⟨b, o + 4, none⟩ (.int .i64 (v : Int))) where
  c0 := sO h.c0
  c1 := sO h.c1
  c2 := sO h.c2
  c3 := sO h.c3
  c4 := World.cell?_setCell_same _ _ _ h.c4
  c5 := sO h.c5
  c6 := sO h.c6
  c7 := sO h.c7
  c8 := sO h.c8
  c9 := sO h.c9
  c10 := sO h.c10
  c11 := sO h.c11
  fz := fun k => (World.frozen?_setCell _ _ _ _).trans (h.fz k)
  lt := by have := h.lt; simpa [World.setCell] using this
  row := h.row.ch (Ch.set1' w b (o + 4) _) (fun k hk e => by simp only [blkOf, List.mem_singleton] at hk; exact h.gb (hk.symm.trans e))
  win := h.win.ch (Ch.set1' w b (o + 4) _) (fun k hk e => (h.hb k hk).1 e)
  gb := h.gb
  hb := h.hb
theorem ScrAt.setv4 (h : ScrAt lo b o s g cc ah dh w) (v : Nat) {z : Int} (hz : z = (v : Int)) : ScrAt lo b o { s with look := v } g cc ah dh (w.setCell ⟨b, o + 4, none⟩ (.int .i64 z)) := by subst hz; exact h.set4 v
theorem Upd.set4 (h : Upd b o (o + 12) (fun k => k = g ∨ k ∈ blkOf ah) w w') (v : Value) : Upd b o (o + 12) (fun k => k = g ∨ k ∈ blkOf ah) w (w'.setCell ⟨b, o + 4, none⟩ v) := h.setCell (o + 4) (by omega) (by omega) v
theorem ScrAt.set5 (h : ScrAt lo b o s g cc ah dh w) (v : Nat) : ScrAt lo b o { s with top := v } g cc ah dh (w.setCell ⟨b, o + 5, none⟩ (.int .i64 (v : Int))) where
  c0 := sO h.c0
  c1 := sO h.c1
  c2 := sO h.c2
  c3 := sO h.c3
  c4 := sO h.c4
  c5 := World.cell?_setCell_same _ _ _ h.c5
  c6 := sO h.c6
  c7 := sO h.c7
  c8 := sO h.c8
  c9 := sO h.c9
  c10 := sO h.c10
  c11 := sO h.c11
  fz := fun k => (World.frozen?_setCell _ _ _ _).trans (h.fz k)
  lt := by have := h.lt; simpa [World.setCell] using this
  row := h.row.ch (Ch.set1' w b (o + 5) _) (fun k hk e => by simp only [blkOf, List.mem_singleton] at hk; exact h.gb (hk.symm.trans e))
  win := h.win.ch (Ch.set1' w b (o + 5) _) (fun k hk e => (h.hb k hk).1 e)
  gb := h.gb
  hb := h.hb
theorem ScrAt.setv5 (h : ScrAt lo b o s g cc ah dh w) (v : Nat) {z : Int} (hz : z = (v : Int)) : ScrAt lo b o { s with top := v } g cc ah dh (w.setCell ⟨b, o + 5, none⟩ (.int .i64 z)) := by subst hz; exact h.set5 v
theorem Upd.set5 (h : Upd b o (o + 12) (fun k => k = g ∨ k ∈ blkOf ah) w w') (v : Value) : Upd b o (o + 12) (fun k => k = g ∨ k ∈ blkOf ah) w (w'.setCell ⟨b, o + 5, none⟩ v) := h.setCell (o + 5) (by omega) (by omega) v
theorem ScrAt.set6 (h : ScrAt lo b o s g cc ah dh w) (v : Nat) : ScrAt lo b o { s with bot := v } g cc ah dh (w.setCell ⟨b, o + 6, none⟩ (.int .i64 (v : Int))) where
  c0 := sO h.c0
  c1 := sO h.c1
  c2 := sO h.c2
  c3 := sO h.c3
  c4 := sO h.c4
  c5 := sO h.c5
  c6 := World.cell?_setCell_same _ _ _ h.c6
  c7 := sO h.c7
  c8 := sO h.c8
  c9 := sO h.c9
  c10 := sO h.c10
  c11 := sO h.c11
  fz := fun k => (World.frozen?_setCell _ _ _ _).trans (h.fz k)
  lt := by have := h.lt; simpa [World.setCell] using this
  row := h.row.ch (Ch.set1' w b (o + 6) _) (fun k hk e => by simp only [blkOf, List.mem_singleton] at hk; exact h.gb (hk.symm.trans e))
  win := h.win.ch (Ch.set1' w b (o + 6) _) (fun k hk e => (h.hb k hk).1 e)
  gb := h.gb
  hb := h.hb
theorem ScrAt.setv6 (h : ScrAt lo b o s g cc ah dh w) (v : Nat) {z : Int} (hz : z = (v : Int)) : ScrAt lo b o { s with bot := v } g cc ah dh (w.setCell ⟨b, o + 6, none⟩ (.int .i64 z)) := by subst hz; exact h.set6 v
theorem Upd.set6 (h : Upd b o (o + 12) (fun k => k = g ∨ k ∈ blkOf ah) w w') (v : Value) : Upd b o (o + 12) (fun k => k = g ∨ k ∈ blkOf ah) w (w'.setCell ⟨b, o + 6, none⟩ v) := h.setCell (o + 6) (by omega) (by omega) v
theorem ScrAt.set7 (h : ScrAt lo b o s g cc ah dh w) (v : Nat) : ScrAt lo b o { s with sx := v } g cc ah dh (w.setCell ⟨b, o + 7, none⟩ (.int .i64 (v : Int))) where
  c0 := sO h.c0
  c1 := sO h.c1
  c2 := sO h.c2
  c3 := sO h.c3
  c4 := sO h.c4
  c5 := sO h.c5
  c6 := sO h.c6
  c7 := World.cell?_setCell_same _ _ _ h.c7
  c8 := sO h.c8
  c9 := sO h.c9
  c10 := sO h.c10
  c11 := sO h.c11
  fz := fun k => (World.frozen?_setCell _ _ _ _).trans (h.fz k)
  lt := by have := h.lt; simpa [World.setCell] using this
  row := h.row.ch (Ch.set1' w b (o + 7) _) (fun k hk e => by simp only [blkOf, List.mem_singleton] at hk; exact h.gb (hk.symm.trans e))
  win := h.win.ch (Ch.set1' w b (o + 7) _) (fun k hk e => (h.hb k hk).1 e)
  gb := h.gb
  hb := h.hb
theorem ScrAt.setv7 (h : ScrAt lo b o s g cc ah dh w) (v : Nat) {z : Int} (hz : z = (v : Int)) : ScrAt lo b o { s with sx := v } g cc ah dh (w.setCell ⟨b, o + 7, none⟩ (.int .i64 z)) := by subst hz; exact h.set7 v
theorem Upd.set7 (h : Upd b o (o + 12) (fun k => k = g ∨ k ∈ blkOf ah) w w') (v : Value) : Upd b o (o + 12) (fun k => k = g ∨ k ∈ blkOf ah) w (w'.setCell ⟨b, o + 7, none⟩ v) := h.setCell (o + 7) (by omega) (by omega) v
theorem ScrAt.set8 (h : ScrAt lo b o s g cc ah dh w) (v : Nat) : ScrAt lo b o { s with sy := v } g cc ah dh (w.setCell ⟨b, o + 8, none⟩ (.int .i64 (v : Int))) where
  c0 := sO h.c0
  c1 := sO h.c1
  c2 := sO h.c2
  c3 := sO h.c3
  c4 := sO h.c4
  c5 := sO h.c5
  c6 := sO h.c6
  c7 := sO h.c7
  c8 := World.cell?_setCell_same _ _ _ h.c8
  c9 := sO h.c9
  c10 := sO h.c10
  c11 := sO h.c11
  fz := fun k => (World.frozen?_setCell _ _ _ _).trans (h.fz k)
  lt := by have := h.lt; simpa [World.setCell] using this
  row := h.row.ch (Ch.set1' w b (o + 8) _) (fun k hk e => by simp only [blkOf, List.mem_singleton] at hk; exact h.gb (hk.symm.trans e))
  win := h.win.ch (Ch.set1' w b (o + 8) _) (fun k hk e => (h.hb k hk).1 e)
  gb := h.gb
  hb := h.hb
theorem ScrAt.setv8 (h : ScrAt lo b o s g cc ah dh w) (v : Nat) {z : Int} (hz : z = (v : Int)) : ScrAt lo b o { s with sy := v } g cc ah dh (w.setCell ⟨b, o + 8, none⟩ (.int .i64 z)) := by subst hz; exact h.set8 v
theorem Upd.set8 (h : Upd b o (o + 12) (fun k => k = g ∨ k ∈ blkOf ah) w w') (v : Value) : Upd b o (o + 12) (fun k => k = g ∨ k ∈ blkOf ah) w (w'.setCell ⟨b, o + 8, none⟩ v) := h.setCell (o + 8) (by omega) (by omega) v
theorem ScrAt.set9 (h : ScrAt lo b o s g cc ah dh w) (v : ByteArray) : ScrAt lo b o { s with title := v } g cc ah dh (w.setCell ⟨b, o + 9, none⟩ (.string v)) where
  c0 := sO h.c0
  c1 := sO h.c1
  c2 := sO h.c2
  c3 := sO h.c3
  c4 := sO h.c4
  c5 := sO h.c5
  c6 := sO h.c6
  c7 := sO h.c7
  c8 := sO h.c8
  c9 := World.cell?_setCell_same _ _ _ h.c9
  c10 := sO h.c10
  c11 := sO h.c11
  fz := fun k => (World.frozen?_setCell _ _ _ _).trans (h.fz k)
  lt := by have := h.lt; simpa [World.setCell] using this
  row := h.row.ch (Ch.set1' w b (o + 9) _) (fun k hk e => by simp only [blkOf, List.mem_singleton] at hk; exact h.gb (hk.symm.trans e))
  win := h.win.ch (Ch.set1' w b (o + 9) _) (fun k hk e => (h.hb k hk).1 e)
  gb := h.gb
  hb := h.hb
theorem Upd.set9 (h : Upd b o (o + 12) (fun k => k = g ∨ k ∈ blkOf ah) w w') (v : Value) : Upd b o (o + 12) (fun k => k = g ∨ k ∈ blkOf ah) w (w'.setCell ⟨b, o + 9, none⟩ v) := h.setCell (o + 9) (by omega) (by omega) v
theorem ScrAt.hist (h : ScrAt lo b o s g cc ah dh w) {us : List ByteArray} {a' : Option Addr} {c' : Nat} (hw : Win strE 9 1 lo w a' c' us) (hd : ∀ k ∈ blkOf a', k ≠ b ∧ k ≠ g) : ScrAt lo b o { s with hist := us } g cc a' c' (w.setCell ⟨b, o + 11, none⟩ (.slice a' us.length c')) where
  c0 := sO h.c0
  c1 := sO h.c1
  c2 := sO h.c2
  c3 := sO h.c3
  c4 := sO h.c4
  c5 := sO h.c5
  c6 := sO h.c6
  c7 := sO h.c7
  c8 := sO h.c8
  c9 := sO h.c9
  c10 := sO h.c10
  c11 := World.cell?_setCell_same _ _ _ h.c11
  fz := fun k => (World.frozen?_setCell _ _ _ _).trans (h.fz k)
  lt := by have := h.lt; simpa [World.setCell] using this
  row := h.row.ch (Ch.set1' w b (o + 11) _) (fun k hk e => by simp only [blkOf, List.mem_singleton] at hk; exact h.gb (hk.symm.trans e))
  win := hw.ch (Ch.set1' w b (o + 11) _) (fun k hk e => (hd k hk).1 e)
  gb := h.gb
  hb := hd
theorem ScrAt.cells (h : ScrAt lo b o s g cc ah dh w) {l : List Cl} (hf : FreshIn celE 87 2 lo w'.heap.size (.slice (some ⟨g, 0, none⟩) s.cells.length cc) l w') (hl : l.length = s.cells.length) (hc : Ch (· = g) w w') : ScrAt lo b o { s with cells := l } g cc ah dh w' where
  c0 := (hc.cell (p := ⟨b, o, none⟩) h.lt (fun e => h.gb e.symm)).trans h.c0
  c1 := (hc.cell (p := ⟨b, o + 1, none⟩) h.lt (fun e => h.gb e.symm)).trans h.c1
  c2 := (hc.cell (p := ⟨b, o + 2, none⟩) h.lt (fun e => h.gb e.symm)).trans h.c2
  c3 := (hc.cell (p := ⟨b, o + 3, none⟩) h.lt (fun e => h.gb e.symm)).trans h.c3
  c4 := (hc.cell (p := ⟨b, o + 4, none⟩) h.lt (fun e => h.gb e.symm)).trans h.c4
  c5 := (hc.cell (p := ⟨b, o + 5, none⟩) h.lt (fun e => h.gb e.symm)).trans h.c5
  c6 := (hc.cell (p := ⟨b, o + 6, none⟩) h.lt (fun e => h.gb e.symm)).trans h.c6
  c7 := (hc.cell (p := ⟨b, o + 7, none⟩) h.lt (fun e => h.gb e.symm)).trans h.c7
  c8 := (hc.cell (p := ⟨b, o + 8, none⟩) h.lt (fun e => h.gb e.symm)).trans h.c8
  c9 := (hc.cell (p := ⟨b, o + 9, none⟩) h.lt (fun e => h.gb e.symm)).trans h.c9
  c10 := by rw [hl]; exact (hc.cell (p := ⟨b, o + 10, none⟩) h.lt (fun e => h.gb e.symm)).trans h.c10
  c11 := (hc.cell (p := ⟨b, o + 11, none⟩) h.lt (fun e => h.gb e.symm)).trans h.c11
  fz := fun k => (hc.frozen (p := ⟨b, k, none⟩) h.lt (fun e => h.gb e.symm)).trans (h.fz k)
  lt := Nat.lt_of_lt_of_le h.lt hc.size
  row := by rw [hl]; exact hf
  win := h.win.ch hc (fun k hk => (h.hb k hk).2)
  gb := h.gb
  hb := h.hb
theorem flat_set (xs : List Cl) (i : Nat) (hi : i < xs.length) (c : Cl) : ((xs.flatMap celE).set (i * 2) (.int .i64 c.1)).set (i * 2 + 1) (.int .i64 c.2) = (xs.set i c).flatMap celE := flat_set2 celE (fun _ => rfl) xs i hi c _ _ rfl
theorem ScrAt.setC (h : ScrAt lo b o s g cc ah dh w) {i : Nat} (hi : i < s.cells.length) (c : Cl) : ScrAt lo b o { s with cells := s.cells.set i c } g cc ah dh ((w.setCell ⟨g, i * 2, none⟩ (.int .i64 c.1)).setCell ⟨g, i * 2 + 1, none⟩ (.int .i64 c.2)) := by
  have hc : Ch (· = g) w ((w.setCell ⟨g, i * 2, none⟩ (.int .i64 c.1)).setCell ⟨g, i * 2 + 1, none⟩ (.int .i64 c.2)) := (Ch.set1' w g (i * 2) _).trans (Ch.set1' _ g (i * 2 + 1) _) (fun _ h => .inl h)
  refine h.cells ?_ (by simp) hc
  obtain ⟨⟨a', cap', hv, h1, h2⟩, h3⟩ := h.row
  cases hv
  obtain ⟨hol, ho⟩ := h2
  rcases ho with ⟨hv, _⟩ | ⟨g', cap, cur, hv, hbg, hg, hnc, hcm, hcs, htake⟩
  · cases hv
  · cases hv
    have e1 := heap_setCell_same w g (i * 2) cur _ (.int .i64 c.1) hg
    have e2 := heap_setCell_same (w.setCell ⟨g, i * 2, none⟩ (.int .i64 c.1)) g (i * 2 + 1) _ _ (.int .i64 c.2) e1
    have hn : s.cells.length * 2 ≤ cc * 2 := Nat.mul_le_mul_right _ hnc
    refine ⟨⟨_, _, by rw [List.length_set], by rw [List.length_set]; exact h1, by rw [flat_length celE 2 (fun _ => rfl)], .inr ⟨g, cc, _, rfl, hbg, e2, by rw [List.length_set]; exact hnc, hcm, by simpa using hcs, ?_⟩⟩, fun k hk => by have := h3 k (by simpa [Value.ownBlock] using hk); simpa [World.setCell] using this⟩
    rw [List.length_set, Array.toList_setIfInBounds, Array.toList_setIfInBounds, ← flat_set s.cells i hi c, ← htake, List.take_set, List.take_set]
end
end
section
variable {lo b : Nat} {s : Scr} {g cc : Nat} {ah : Option Addr} {dh : Nat} {w : World}
theorem ScrAt.e0 (h : ScrAt lo b 0 s g cc ah dh w) : w.cell? ⟨b, 0, none⟩ = some (.int .i64 (s.w : Int)) := h.c0
theorem ScrAt.e1 (h : ScrAt lo b 0 s g cc ah dh w) : w.cell? ⟨b, 1, none⟩ = some (.int .i64 (s.h : Int)) := h.c1
theorem ScrAt.e2 (h : ScrAt lo b 0 s g cc ah dh w) : w.cell? ⟨b, 2, none⟩ = some (.int .i64 (s.x : Int)) := h.c2
theorem ScrAt.e3 (h : ScrAt lo b 0 s g cc ah dh w) : w.cell? ⟨b, 3, none⟩ = some (.int .i64 (s.y : Int)) := h.c3
theorem ScrAt.e4 (h : ScrAt lo b 0 s g cc ah dh w) : w.cell? ⟨b, 4, none⟩ = some (.int .i64 (s.look : Int)) := h.c4
theorem ScrAt.e5 (h : ScrAt lo b 0 s g cc ah dh w) : w.cell? ⟨b, 5, none⟩ = some (.int .i64 (s.top : Int)) := h.c5
theorem ScrAt.e6 (h : ScrAt lo b 0 s g cc ah dh w) : w.cell? ⟨b, 6, none⟩ = some (.int .i64 (s.bot : Int)) := h.c6
theorem ScrAt.e7 (h : ScrAt lo b 0 s g cc ah dh w) : w.cell? ⟨b, 7, none⟩ = some (.int .i64 (s.sx : Int)) := h.c7
theorem ScrAt.e8 (h : ScrAt lo b 0 s g cc ah dh w) : w.cell? ⟨b, 8, none⟩ = some (.int .i64 (s.sy : Int)) := h.c8
theorem ScrAt.e9 (h : ScrAt lo b 0 s g cc ah dh w) : w.cell? ⟨b, 9, none⟩ = some (.string s.title) := h.c9
theorem ScrAt.e10 (h : ScrAt lo b 0 s g cc ah dh w) : w.cell? ⟨b, 10, none⟩ = some (.slice (some ⟨g, 0, none⟩) s.cells.length cc) := h.c10
theorem ScrAt.e11 (h : ScrAt lo b 0 s g cc ah dh w) : w.cell? ⟨b, 11, none⟩ = some (.slice ah s.hist.length dh) := h.c11
end
section
open Go.RowKit
def inB (n l h : Int) : Bool := decide (l ≤ n) && decide (n ≤ h)
theorem within_c (n l h : Int) (w : World) :
    Calls Tryz.prog 31 #[.int .i64 n, .int .i64 l, .int .i64 h] w fun e w' => e = .returned (.bool (inB n l h)) ∧ w = w' := by
  by_cases h1 : l ≤ n <;> by_cases h2 : n ≤ h
  all_goals
    go_enter Tryz.func31, Tryz.ntmps31
    go_wp2
    go_ret
    exact ⟨by simp [inB, *], rfl⟩
theorem l01In_c (n l h : Int) (w : World) :
    Calls Tryz.prog 60 #[.int .i64 n, .int .i64 l, .int .i64 h] w fun e w' => e = .returned (.bool (inB n l h)) ∧ w = w' := by
  by_cases h1 : l ≤ n <;> by_cases h2 : n ≤ h
  all_goals
    go_enter Tryz.func60, Tryz.ntmps60
    go_wp2
    go_ret
    exact ⟨by simp [inB, *], rfl⟩
end
section
open Go.RowKit
theorem l04Size_c (w h : Int) (W : World) : Calls Tryz.prog 28 #[.int .i64 w, .int .i64 h] W fun e w' => e = .returned (.bool (inB w 2 24 && inB h 2 10)) ∧ W = w' := by
  obtain ⟨u, hu⟩ : ∃ u, inB w 2 24 = u := ⟨_, rfl⟩
  obtain ⟨v, hv⟩ : ∃ v, inB h 2 10 = v := ⟨_, rfl⟩
  have HU := Lib.hid hu
  have HV := Lib.hid hv
  rw [hu, hv]
  clear hu hv
  cases u <;> cases v
  all_goals
    go_enter Tryz.func28, Tryz.ntmps28
    go_wp2_with (go_at_call 60; refine (l01In_c _ _ _ _).mono ?_; (first | rw [HU.out] | rw [HV.out]); rintro e w' ⟨rfl, rfl⟩)
    all_goals
      go_ret
      exact ⟨rfl, rfl⟩
theorem clrL_next {f i : Nat} {l : List Cl} (hf : f ≤ i) (hi : i < l.length) : (clrL f i l).set i blank = clrL f (i + 1) l := by
  unfold clrL blanksL
  have e1 : i + 1 - f = (i - f) + 1 := by omega
  rw [e1, List.replicate_succ', List.set_append, if_neg (by rw [List.length_take]; omega), List.set_append, if_neg (by rw [List.length_replicate, List.length_take]; omega), List.append_assoc]
  congr 2
  have e2 : i - (l.take f).length - (List.replicate (i - f) blank).length = 0 := by rw [List.length_take, List.length_replicate]; omega
  rw [e2, List.drop_eq_getElem_cons hi]
  rfl
theorem clrL_none {f : Nat} {l : List Cl} : clrL f f l = l := by simp [clrL, blanksL]
theorem clrL_length {f i : Nat} {l : List Cl} (hf : f ≤ i) (hi : i ≤ l.length) : (clrL f i l).length = l.length := clrL_len hf hi
theorem clear_c (lo b : Nat) (s : Scr) (g cc : Nat) (ah : Option Addr) (dh : Nat) (w : World) (f t : Nat) (h : ScrAt lo b 0 s g cc ah dh w) (hf : f ≤ t) (ht : t ≤ s.cells.length) (hn : s.cells.length ≤ 240) :
    Calls Tryz.prog 118 #[.pointer (some ⟨b, 0, none⟩), .int .i64 f, .int .i64 t] w fun e w' => e = .returned (.tuple #[]) ∧ ScrAt lo b 0 (clr f t s) g cc ah dh w' ∧ Ch (· = g) w w' := by
  have HS := Lib.hid h
  obtain ⟨n, hcn⟩ : ∃ n, s.cells.length = n := ⟨_, rfl⟩
  have HCN := Lib.hid hcn
  rw [hcn] at hn ht
  clear h hcn
  go_enter Tryz.func118, Tryz.ntmps118
  go_wp2_with fail
  go_loopw [6] (fun iv wr => ∃ i : Nat, f ≤ i ∧ i ≤ t ∧ iv = .int .i64 i ∧ Hid (ScrAt lo b 0 (clr f i s) g cc ah dh wr ∧ Ch (· = g) w wr)) (fun iv _ => t - (intOf iv).toNat)
  case atStart => exact ⟨f, Nat.le_refl _, hf, rfl, Lib.hid ⟨by unfold clr; rw [clrL_none]; exact HS.out, Ch.refl⟩⟩
  case round =>
    obtain ⟨i, hfi, hit, rfl, HR⟩ := hrel
    have hcl : (clr f i s).cells.length = n := (clrL_length hfi (by rw [HCN.out]; omega)).trans HCN.out
    by_cases hlt : i < t
    · have k_10 : wr.cell? ⟨b, 10, none⟩ = some (.slice (some ⟨g, 0, none⟩) n cc) := by rw [← hcl]; exact HR.out.1.c10
      have k_g0 := HR.out.1.gfz
      have k_gl := HR.out.1.glt.2
      have hi2 : i < (clr f i s).cells.length := by omega
      have k_c := (HR.out.1.cell hi2).1
      have k_d := (HR.out.1.cell hi2).2
      have hin : (i : Int) < (n : Int) := by omega
      have hSN := HR.out.1.setC hi2 blank
      have HSN := Lib.hid hSN
      have hCN : Ch (· = g) w ((wr.setCell ⟨g, i * 2, none⟩ (.int .i64 32)).setCell ⟨g, i * 2 + 1, none⟩ (.int .i64 0)) := (HR.out.2.trans (Ch.set1' _ g (i * 2) _) (fun _ h => .inl h)).trans (Ch.set1' _ g (i * 2 + 1) _) (fun _ h => .inl h)
      have HCN' := Lib.hid hCN
      clear hSN hCN hcl
      go_wp2_with fail
      go_roundw
      case rel =>
        refine ⟨i + 1, by omega, by omega, by go_num, Lib.hid ⟨?_, HCN'.out⟩⟩
        have := HSN.out
        unfold clr at this ⊢
        simp only at this
        rwa [clrL_next hfi (by rw [HCN.out]; omega)] at this
      case measure => simp [intOf]; omega
    · obtain rfl : i = t := by omega
      clear hcl
      go_wp2_with fail
      refine bodyPost_end (v := .tuple #[]) (by simp [results, Tryz.results118]) rfl ?_
      exact ⟨rfl, HR.out.1, HR.out.2⟩
theorem Tryz.infoCell : (Tryz.prog.info? 87).map (fun i => (i.zero, i.size, i.bytes)) = some (some (.agg #[.int .i64 0, .int .i64 0]), 2, 16) := by kernel_rfl
theorem FreshIn.emp {α : Type} (enc : α → List Value) (e : TypeId) (sz lo : Nat) (w : World) (h : lo ≤ w.heap.size) : FreshIn enc e sz lo (w.alloc (.cells #[] e)).heap.size (.slice (some ⟨w.heap.size, 0, none⟩) 0 0) [] (w.alloc (.cells #[] e)) := by
  refine ⟨⟨_, 0, rfl, Nat.le_refl _, by simp, .inr ⟨w.heap.size, 0, #[], rfl, h, heap_alloc_new w _, Nat.le_refl _, by unfold maxLen; omega, by simp, by simp⟩⟩, fun k hk => ?_⟩
  cases hk
  simp
def BlankR (n : Nat) (w : World) (e : Ending) (w' : World) : Prop :=
  ∃ a c, e = .returned (.slice a n c) ∧ FreshIn celE 87 2 w.heap.size w'.heap.size (.slice a n c) (blanksL n) w' ∧ Below w.heap.size w w'
theorem l04Blank_c (n : Nat) (w : World) (hn : n ≤ 240) :
    Calls Tryz.prog 91 #[.int .i64 n] w (BlankR n w) := by
  obtain ⟨iA, hA, hA0, hA1, hA2⟩ := info_parts Tryz.infoCell
  have hA := hA
  go_enter Tryz.func91, Tryz.ntmps91
  go_wp2_with fail
  go_loopw [3, 4] (fun lv iv wr => ∃ (i : Nat) (a : Option Addr) (c : Nat) (L : List Cl), i ≤ n ∧ iv = .int .i64 i ∧ lv = .slice a L.length c ∧ Hid (L = blanksL i ∧ FreshIn celE 87 2 w.heap.size wr.heap.size (.slice a L.length c) L wr ∧ Below w.heap.size w wr)) (fun _ iv _ => n - (intOf iv).toNat)
  case atStart =>
    exact ⟨0, some ⟨w.heap.size, 0, none⟩, 0, [], Nat.zero_le _, rfl, rfl, Lib.hid ⟨rfl, FreshIn.emp celE _ 2 w.heap.size w (Nat.le_refl _), (Below.refl _ _).alloc (Nat.le_refl _) _⟩⟩
  case round =>
    obtain ⟨i, a, c, L, hin, rfl, rfl, HR⟩ := hrel
    by_cases hlt : i < n
    · have hlt' : (i : Int) < (n : Int) := by omega
      have HB0 : Hid (Below w.heap.size w (wr.alloc (.cells #[.int .i64 32, .int .i64 0] 87))) := Lib.hid (HR.out.2.2.alloc HR.out.2.2.size _)
      have HF0 : Hid (FreshIn celE 87 2 w.heap.size (wr.alloc (.cells #[.int .i64 32, .int .i64 0] 87)).heap.size (.slice a L.length c) L (wr.alloc (.cells #[.int .i64 32, .int .i64 0] 87))) := Lib.hid (HR.out.2.1.keepB ((Below.refl _ _).alloc (Nat.le_refl _) _))
      have HSRC : Hid (Src Tryz.prog 2 23 (.slice (some ⟨wr.heap.size, 0, none⟩) 1 1) [blank].length ([blank].flatMap celE) (wr.alloc (.cells #[.int .i64 32, .int .i64 0] 87))) := Lib.hid (Src.ofBox (enc := celE) Tryz.underlying23 (fun _ => rfl) celOne blank _ _ (by simp [celE, blank]) _ (by simp))
      have hL : L.length = i := by rw [HR.out.1]; simp [blanksL]
      have HLL := Lib.hid hL
      have hz0 := HR.out.2.2.size
      go_wp2_with (at_builtin; refine wpList_append_ch (.tmp 11) (.tmp 13) 23 23 w.heap.size 87 iA (.agg #[.int .i64 0, .int .i64 0]) 2 16 Tryz.underlying23 hA hA0 hA1 hA2 rfl (by decide) a L.length c L HF0.out (.slice (some ⟨wr.heap.size, 0, none⟩) 1 1) [blank] HSRC.out (by simp; omega) (by simp; omega) rfl rfl rfl rfl ?_)
      intro a8 c8 w8 us hus hf8 hc8 hk8
      have HUS := hus
      have HF8 := Lib.hid hf8
      have HB8 : Hid (Below w.heap.size w w8) := Lib.hid (HB0.out.trans (hc8.below (by simp; omega) (fun k hk => (FreshIn.blks HF0.out k hk).1)))
      clear hus hf8 hc8 hk8 hL
      go_wp2_with fail
      go_roundw
      case rel =>
        refine ⟨i + 1, a8, c8, us, by omega, by go_num, rfl, Lib.hid ⟨?_, HF8.out, HB8.out⟩⟩
        rw [HUS.out, HR.out.1]
        simp [blanksL, List.replicate_succ']
      case measure => simp [intOf]; omega
    · obtain rfl : i = n := by omega
      go_wp2_with fail
      go_ret
      have hL : L.length = i := by rw [HR.out.1]; simp [blanksL]
      have hf := HR.out.2.1
      rw [hL, HR.out.1] at hf
      exact ⟨a, c, by rw [← hL]; rfl, hf, HR.out.2.2⟩
end
section
open Go.RowKit
def beB (n c j : Nat) : UInt8 := UInt8.ofNat (n / 256 ^ (c - 1 - j))
def be (n c : Nat) : List UInt8 := (List.range c).map (beB n c)
theorem be_length (n c : Nat) : (be n c).length = c := by simp [be]
theorem beB_toNat (n c j : Nat) : (beB n c j).toNat = n / 256 ^ (c - 1 - j) % 256 := by
  unfold beB
  rw [UInt8.toNat_ofNat']
theorem be_snoc (n c d : Nat) : (List.range (d + 1)).map (beB n c) = (List.range d).map (beB n c) ++ [beB n c d] := by simp [List.range_succ]
theorem sh8 (n q : Nat) : (n : Int) / 2 ^ (8 * q) % 256 = ((n / 256 ^ q % 256 : Nat) : Int) := by
  rw [show (2 : Int) ^ (8 * q) = ((256 ^ q : Nat) : Int) by rw [Int.natCast_pow, Int.pow_mul]; rfl]
  simp
def strOf (l : List UInt8) : ByteArray := ⟨l.toArray⟩
theorem l02Number_c (n c : Nat) (w : World) (hn : n ≤ 1099511627776) (hc : 1 ≤ c ∧ c ≤ 8) :
    Calls Tryz.prog 128 #[.int .i64 n, .int .i64 c] w (FreshR byteE 5 1 w (be n c)) := by
  obtain ⟨i0, hi, hz0, hz1, hz2⟩ := info_parts Tryz.infoByte
  obtain ⟨hc1, hc2⟩ := hc
  go_enter Tryz.func128, Tryz.ntmps128
  go_wp2_with fail
  go_loopw [5, 6] (fun v i wr => ∃ d : Nat, d ≤ c ∧ i = .int .i64 ((c : Int) - 1 - d) ∧ Fresh byteE 5 1 w.heap.size v ((List.range d).map (beB n c)) wr ∧ Below w.heap.size w wr) (fun _ i _ => (intOf i + 1).toNat)
  case atStart => exact ⟨0, Nat.zero_le _, by go_num, Fresh.of_own (World.ownsRow_made _ #[] 0 (Nat.le_refl _) (by decide) rfl) rfl rfl, (by repeat (first | exact Below.refl _ _ | (refine Below.alloc ?_ (by (try simp) <;> (try omega)) _) | (refine Below.setCell ?_ (by (try simp) <;> (try omega)) _) | (refine Below.drew ?_) | (refine Below.trans ?_ (Below.mono (by assumption) (by (try simp) <;> (try omega))))))⟩
  case round =>
    obtain ⟨d, hd, rfl, ⟨av, cv, rfl, hcv, ho⟩, hbel⟩ := hrel
    have hLl : ((List.range d).map (beB n c)).length ≤ d := by simp
    have hL := Lib.hid (be_snoc n c d)
    generalize hL0 : (List.range d).map (beB n c) = L at *
    have HL0 := Lib.hid hL0
    clear hL0
    by_cases hlt : d < c
    · obtain ⟨q, hq⟩ : ∃ q, d + q + 1 = c := ⟨c - (d + 1), by omega⟩
      have hq8 : q ≤ 7 := by omega
      have e1 : (c : Int) - 1 - (d : Int) = (q : Int) := by omega
      rw [e1]
      have HQ := Lib.hid hq
      clear e1 hq
      have HO := Lib.hid ho
      go_wp2_with (at_builtin; refine wpList_append_own _ rfl _ _ 22 rfl w.heap.size 5 i0 (.int .u8 0) 1 1 Tryz.underlying22 hi hz0 hz1 hz2 rfl (by decide) _ _ _ rfl (ho.alloc _) ⟨wr.heap.size, 0, none⟩ 1 1 [.int .u8 ((n : Int) / 2 ^ (8 * q) % 256)] rfl rfl ?c1 ?c2 ?c3 ?c4 ?c5 ?_)
      case c1 => intro j u hu; match j, hu with | 0, hu => simp at hu; subst hu; simp [Addr.add]
      case c2 => simp [Value.oneCell']
      case c3 => unfold maxLen; omega
      case c4 => omega
      case c5 => have := hbel.size; simp; omega
      intro v' w1 hown1 hgrow _
      have hb1' : Below w.heap.size w w1 := (hbel.alloc hbel.size _).grown hgrow (by have := hbel.size; simp; omega) (fun k hk => (HO.out.lt k hk).1)
      have hf : Fresh byteE 5 1 w.heap.size v' ((List.range (d + 1)).map (beB n c)) w1 := by
        rw [hL.out]
        refine Fresh.of_own hown1 (by simp) ?_
        simp only [List.flatMap_append, List.flatMap_cons, List.flatMap_nil, List.append_nil, byteE, beB_toNat]
        rw [show c - 1 - d = q by have := HQ.out; omega, sh8]
      clear hown1 hgrow ho
      have HF := Lib.hid hf
      clear hf
      go_wp2_with fail
      go_roundw
      case rel => exact ⟨d + 1, by omega, by congr 1; have := HQ.out; omega, HF.out, hb1'⟩
      case measure => simp [intOf]
    · obtain rfl : d = c := by omega
      have HO := Lib.hid ho
      have e1 : (d : Int) - 1 - (d : Int) = -1 := by omega
      rw [e1]
      clear ho e1
      go_wp2_with fail
      go_ret
      exact ⟨_, rfl, Fresh.of_own HO.out (by rw [← HL0.out]; rfl) (by rw [← HL0.out]; rfl), hbel⟩
theorem be_len_le (n c d : Nat) : ((List.range c).map fun j => if c ≤ j + d then beB n c j else (0 : UInt8)).length = c := by simp
theorem be_set (n c d q : Nat) (h : d + q + 1 = c) : ((List.range c).map fun j => if c ≤ j + d then beB n c j else (0 : UInt8)).set q (beB n c q) = (List.range c).map fun j => if c ≤ j + (d + 1) then beB n c j else (0 : UInt8) := by
  apply List.ext_getElem
  · simp
  · intro j h1 h2
    simp only [List.length_set, List.length_map, List.length_range] at h1
    rw [List.getElem_set]
    by_cases e : q = j
    · subst e
      simp
      omega
    · rw [if_neg e]
      simp only [List.getElem_map, List.getElem_range]
      by_cases h3 : c ≤ j + d
      · rw [if_pos h3, if_pos (by omega)]
      · rw [if_neg h3, if_neg (by omega)]
theorem be_done (n c : Nat) : ((List.range c).map fun j => if c ≤ j + c then beB n c j else (0 : UInt8)) = be n c := by
  unfold be
  apply List.map_congr_left
  intro j _
  rw [if_pos (by omega)]
theorem be_zero (n c : Nat) : ((List.range c).map fun j => if c ≤ j + 0 then beB n c j else (0 : UInt8)) = List.replicate c 0 := by
  apply List.ext_getElem
  · simp
  · intro j h1 h2
    simp only [List.length_map, List.length_range] at h1
    simp
    omega
theorem bigBytes_c (n c : Nat) (w : World) (hn : n ≤ 1099511627776) (hc : 1 ≤ c ∧ c ≤ 8) :
    Calls Tryz.prog 67 #[.int .i64 n, .int .i64 c] w fun e w' => e = .returned (.string (strOf (be n c))) ∧ Below w.heap.size w w' := by
  obtain ⟨i0, hi, hz0, hz1, hz2⟩ := info_parts Tryz.infoByte
  obtain ⟨hc1, hc2⟩ := hc
  go_enter Tryz.func67, Tryz.ntmps67
  go_wp2_with (at_make; refine wpList_make_full _ rfl _ _ 22 rfl w.heap.size 5 i0 (.int .u8 0) 1 Tryz.underlying22 hi hz0 hz1 .i64 .i64 _ _ c rfl rfl rfl rfl ?c1 ?c2 ?c3 ?_)
  case c1 => rw [hz2]; omega
  case c2 => unfold maxLen; omega
  case c3 => exact Nat.le_refl _
  intro w1 hown hg
  have hm := madeCells_flat byteE 1 (0 : UInt8) #[.int .u8 0] rfl (fun _ => rfl) c
  have hown2 : w1.ownsRow w.heap.size 5 1 (.slice (some ⟨w.heap.size, 0, none⟩) c c) c ((List.replicate c (0 : UInt8)).flatMap byteE) := by rw [← hm, Nat.mul_one]; exact hown
  have HOW := Lib.hid hown2
  clear hm hown hown2
  go_wp2_with fail
  go_loopw [0, 6] (fun m i wr => ∃ d : Nat, d ≤ c ∧ i = .int .i64 ((c : Int) - 1 - d) ∧ m = .int .i64 ((n / 256 ^ d : Nat)) ∧ wr.ownsRow w.heap.size 5 1 (.slice (some ⟨w.heap.size, 0, none⟩) c c) c (((List.range c).map fun j => if c ≤ j + d then beB n c j else (0 : UInt8)).flatMap byteE) ∧ Below w.heap.size w wr) (fun _ i _ => (intOf i + 1).toNat)
  case atStart => exact ⟨0, Nat.zero_le _, by go_num, by simp, by rw [be_zero]; exact HOW.out, (Below.refl _ _).grown hg (Nat.le_refl _) (by simp)⟩
  case round =>
    obtain ⟨d, hd, rfl, rfl, ho, hbel⟩ := hrel
    have hnd : n / 256 ^ d ≤ n := Nat.div_le_self _ _
    have hst := fun q h => Lib.hid (be_set n c d q h)
    have hne : Hid (n / 256 ^ (d + 1) = n / 256 ^ d / 256) := by rw [Nat.pow_succ, Nat.div_div_eq_div_mul]; rfl
    by_cases hlt : d < c
    · obtain ⟨q, hq⟩ : ∃ q, d + q + 1 = c := ⟨c - (d + 1), by omega⟩
      have HST := hst q hq
      have hbv : Hid (.int .u8 (((n / 256 ^ d : Nat) : Int) % 256) = Value.int .u8 ((beB n c q).toNat : Int)) := by
        show _ = _
        rw [beB_toNat, show c - 1 - q = d by omega]
        simp
      have hq8 : q ≤ 7 := by omega
      have hqc : q < c := by omega
      have e1 : (c : Int) - 1 - (d : Int) = (q : Int) := by omega
      rw [e1]
      have f1 := ho.frozenAt q
      have c2 := ho.cellAt q (by omega)
      have hL : (((List.range c).map fun j => if c ≤ j + d then beB n c j else (0 : UInt8)).flatMap byteE).length = c := by rw [flat_length byteE 1 (fun _ => rfl)]; simp
      have HL := Lib.hid (be_len_le n c d)
      have HO := Lib.hid ho
      have c3 : ∃ v, w = w ∧ wr.cell? ⟨w.heap.size, q, none⟩ = some v := by
        rw [c2]
        exact ⟨_, rfl, List.getElem?_eq_getElem (by rw [hL]; exact hqc)⟩
      obtain ⟨v, _, c3⟩ := c3
      have HQ := Lib.hid hq
      clear hL c2 ho e1 hq hst
      generalize n / 256 ^ d = m at *
      go_wp2_with fail
      go_roundw
      case rel =>
        have hs := HO.out.stored q (.int .u8 ((m : Int) % 256))
        rw [hbv.out, flat_set1 byteE (fun _ => rfl) _ q (by rw [HL.out]; exact hqc) (beB n c q) _ rfl, HST.out] at hs
        exact ⟨d + 1, by omega, by congr 1; have := HQ.out; omega, by rw [hne.out]; go_num, by first | exact hs.1 | (rw [hbv.out]; exact hs.1), hbel.setCell (Nat.le_refl _) _⟩
      case measure => simp [intOf]
    · obtain rfl : d = c := by omega
      have HO := Lib.hid ho
      have e1 : (d : Int) - 1 - (d : Int) = -1 := by omega
      have hsl : Sl byteE 1 wr (some ⟨w.heap.size, 0, none⟩) (be n d) := by
        rw [be_done] at ho
        refine Sl.of_own (n := d) (fun _ => rfl) (e := 5) (base := w.heap.size) (cap := d) ?_
        rw [be_length]
        exact ho
      rw [e1]
      have hconv : (convert 22 9 (.slice (some ⟨w.heap.size, 0, none⟩) d d)).run Tryz.prog wr = .ok (.string (strOf (be n d))) wr := by
        have := run_convert_bytes_back (P := Tryz.prog) wr 22 9 5 ⟨w.heap.size, 0, none⟩ d (be n d) Tryz.underlying22 Tryz.underlying5 Tryz.underlying9 (fun j hj => ?_)
        · rw [be_length] at this
          exact this
        · obtain ⟨b, off, hb, _, h2⟩ := hsl.at hj
          cases hb
          have := h2 j hj 0 (by omega)
          simpa [byteE, Addr.add_lit] using this
      clear ho e1 hst hsl hne
      go_wp2_with fail
      go_ret
      exact ⟨rfl, hbel⟩
def bn (l : List UInt8) : Nat := l.foldl (fun n b => n * 256 + b.toNat) 0
end
section
open Go.RowKit
def hdr (s : ByteArray) : List UInt8 := be s.size 3
theorem strOf_append (a b : List UInt8) : strOf a ++ strOf b = strOf (a ++ b) := by
  unfold strOf
  apply ByteArray.ext
  simp
theorem strOf_size (l : List UInt8) : (strOf l).size = l.length := rfl
theorem byteOne : ∀ (x : UInt8), ∀ u ∈ byteE x, u.oneCell' = true := fun x u hu => by simp [byteE] at hu; subst hu; rfl
theorem sizeData (s : ByteArray) : s.data.toList.length = s.size := rfl
end
section
open Go.RowKit
theorem Tryz.sizeBuilder : (Tryz.prog.info? 95).map (·.size) = some 2 := by kernel_rfl
theorem Tryz.liesBuilder : liesAt Tryz.prog Tryz.prog.depth 95 (2 / Tryz.prog.cellsOf 95) 0 95 1 = true := by kernel_rfl
theorem copyCheck_used (b : Nat) (w : World) (h0 : w.cell? ⟨b, 0, none⟩ = some (.pointer (some ⟨b, 0, none⟩))) :
    Calls Tryz.prog 99 #[.pointer (some ⟨b, 0, none⟩)] w fun e w' => e = .returned (.tuple #[]) ∧ w' = w := by
  obtain ⟨j, hj, _⟩ := Option.map_eq_some_iff.1 Tryz.sizeBuilder
  go_enter Tryz.func99, Tryz.ntmps99
  go_wp2
  rw [Lib.run_neq_ptr_same w _ Tryz.underlying93 hj]
  go_wp2
  go_end0
  exact ⟨rfl, rfl⟩
theorem copyCheck_fresh (b : Nat) (w : World) (h0 : w.cell? ⟨b, 0, none⟩ = some (.pointer none)) (hsh : w.shape? b = some (95, 2)) (hfz : w.frozen? ⟨b, 0, none⟩ = false) :
    Calls Tryz.prog 99 #[.pointer (some ⟨b, 0, none⟩)] w fun e w' => e = .returned (.tuple #[]) ∧ w' = w.setCell ⟨b, 0, none⟩ (.pointer (some ⟨b, 0, none⟩)) := by
  obtain ⟨j, hj, hjs⟩ := Option.map_eq_some_iff.1 Tryz.sizeBuilder
  go_enter Tryz.func99, Tryz.ntmps99
  go_wp2
  rw [Lib.run_to_unsafe w ⟨b, 0, none⟩ Tryz.underlying93 Tryz.underlying144 hj (by rw [hjs]; decide) hsh (Nat.zero_lt_succ 1)]
  simp only [Result.andThen]
  rw [Oper.upon_value]
  go_wp2
  rw [run_callFunc_extern Tryz.func129 (by kernel_rfl) (by kernel_rfl) (by kernel_rfl) (e := Extern.AbiNoEscape.same) (by kernel_rfl)]
  rw [Lib.run_noEscape]
  simp only [Result.andThen]
  rw [Oper.upon_value]
  go_wp2
  rw [Lib.run_from_unsafe w ⟨b, 0, none⟩ Tryz.underlying144 Tryz.underlying93 hj hsh Tryz.liesBuilder]
  simp only [Result.andThen]
  rw [Oper.upon_value]
  go_wp2
  go_end0
  exact ⟨rfl, rfl⟩
theorem copyCheck_c (B b : Nat) (bs : List Value) (w : World) (h : Lib.IsBuilder 95 5 B b bs w) :
    Calls Tryz.prog 99 #[.pointer (some ⟨b, 0, none⟩)] w fun e w' => e = .returned (.tuple #[]) ∧ (Lib.BuilderAt 95 5 B b (.pointer (some ⟨b, 0, none⟩)) bs w' ∧ Below B w w') := by
  rcases h with h | h
  · refine (copyCheck_fresh b w h.cell0 h.shape h.frozen0).mono ?_
    rintro e w' ⟨rfl, rfl⟩
    exact ⟨rfl, h.used _, (Below.refl B w).setCell (p := ⟨b, 0, none⟩) h.1 _⟩
  · refine (copyCheck_used b w h.cell0).mono ?_
    rintro e w' ⟨rfl, rfl⟩
    exact ⟨rfl, h, Below.refl B _⟩
def Bld (B b : Nat) (l : List UInt8) (w : World) : Prop := Lib.IsBuilder 95 5 B b (Lib.byteCells l) w
theorem byteCells_app (l m : List UInt8) : Lib.byteCells (l ++ m) = Lib.byteCells l ++ Lib.byteCells m := by simp [Lib.byteCells]
theorem strCells_eq (s : ByteArray) : Lib.strCells s = Lib.byteCells s.data.toList := by simp [Lib.strCells, Lib.byteCells]
theorem writeString_c (B b : Nat) (l : List UInt8) (s : ByteArray) (w : World) (h : Bld B b l w) (hl : l.length ≤ 1099511627776) (hs : s.size ≤ 1099511627776) (hBw : B ≤ w.heap.size) :
    Calls Tryz.prog 66 #[.pointer (some ⟨b, 0, none⟩), .string s] w fun e w' => e = .returned (.tuple #[.int .i64 s.size, .nilIface]) ∧ Bld B b (l ++ s.data.toList) w' ∧ Below B w w' := by
  obtain ⟨i0, hi, hz0, hz1, hz2⟩ := info_parts Tryz.infoByte
  have hbl := Lib.byteCells_length l
  go_enter Tryz.func66, Tryz.ntmps66
  go_wp2_with (go_at_call 99; refine (copyCheck_c B b _ _ h).mono ?_)
  rintro e w1 ⟨rfl, h1, hb1⟩
  obtain ⟨hB, v, hbk, hown, hne⟩ := h1
  have c0 : w1.cell? ⟨b, 0, none⟩ = some (.pointer (some ⟨b, 0, none⟩)) := by rw [Lib.cell_of_heap hbk]; rfl
  have c1 : w1.cell? ⟨b, 1, none⟩ = some v := by rw [Lib.cell_of_heap hbk]; rfl
  go_wp2_with (at_builtin; refine Lib.wpList_append_own_string _ rfl _ _ 22 9 rfl B 5 i0 Tryz.underlying22 Tryz.underlying9 hi hz0 hz1 hz2 _ _ _ rfl hown s rfl ?c3 ?c4 ?c5 ?_)
  case c3 => unfold maxLen; omega
  case c4 => omega
  case c5 => have := hb1.size; omega
  intro v' w2 hown' hgrow _
  have hlt : b < w1.heap.size := by
    rcases Nat.lt_or_ge b w1.heap.size with h' | h'
    · exact h'
    · simp [Array.getElem?_eq_none h'] at hbk
  have hb2 : w2.heap[b]? = some (.cells #[.pointer (some ⟨b, 0, none⟩), v] 95 (0, 0)) := by
    rw [hgrow.block b hlt (fun e => hne e.symm)]
    exact hbk
  have d0 : w2.cell? ⟨b, 0, none⟩ = some (.pointer (some ⟨b, 0, none⟩)) := by rw [Lib.cell_of_heap hb2]; rfl
  have d1 : w2.cell? ⟨b, 1, none⟩ = some v := by rw [Lib.cell_of_heap hb2]; rfl
  have f1 : w2.frozen? ⟨b, 1, none⟩ = false := Lib.frozen_of_heap hb2 1
  obtain ⟨ao, n', cap, rfl⟩ : ∃ ao n' cap, v' = .slice ao n' cap := by
    rcases hown'.2 with ⟨hv, _⟩ | ⟨g, cap, cur, hv, _⟩
    · exact ⟨_, _, _, hv⟩
    · exact ⟨_, _, _, hv⟩
  have HO := Lib.hid hown'
  have HG := Lib.hid hgrow
  clear hown' hgrow
  go_wp2
  go_ret2
  have hgrow := HG.out
  have hown' := HO.out
  refine ⟨rfl, .inr ?_, ?_⟩
  · rw [byteCells_app, ← strCells_eq]
    exact Lib.BuilderAt.put (T := 95) (e := 5) hB hb2 (bs' := Lib.byteCells l ++ Lib.strCells s) (by rw [List.length_append, Lib.strCells_length, Lib.byteCells_length]; exact hown') (by decide)
  · exact (hb1.grown hgrow (by have := hb1.size; omega) (fun k hk => (hown.lt k hk).1)).setCell (p := ⟨b, 1, none⟩) hB _
end
section
open Go.Shelf Go.RowKit
def Tryz.lays169_ren : Go.Shelf.Ren := ⟨fun | 169 => 65 | n => n, fun | 70 => 93 | 9 => 9 | 0 => 0 | 72 => 95 | 37 => 22 | 127 => 126 | 3 => 3 | 5 => 5 | n => n, fun | n => n⟩
theorem Tryz.lays169 : Go.Proofs.Lays.n169 Tryz.prog Tryz.lays169_ren := {
  mixed := by kernel_rfl
  f169 := Tryz.func65.trans (congrArg some (by kernel_rfl))
  t0 := Tryz.underlying0
  a0 := Tryz.isAgg0
  z0 := Tryz.sizeOf0
  v0 := Tryz.zeroValue0
  t3 := Tryz.underlying3
  a3 := Tryz.isAgg3
  z3 := Tryz.sizeOf3
  v3 := Tryz.zeroValue3
  t9 := Tryz.underlying9
  a9 := Tryz.isAgg9
  z9 := Tryz.sizeOf9
  v9 := Tryz.zeroValue9
  t37 := Tryz.underlying22
  a37 := Tryz.isAgg22
  z37 := Tryz.sizeOf22
  v37 := Tryz.zeroValue22
  t70 := Tryz.underlying93
  a70 := Tryz.isAgg93
  z70 := Tryz.sizeOf93
  v70 := Tryz.zeroValue93
  t72 := Tryz.underlying95
  a72 := Tryz.isAgg95
  z72 := Tryz.sizeOf95
  v72 := Tryz.zeroValue95
  t127 := Tryz.underlying126
  a127 := Tryz.isAgg126
  z127 := Tryz.sizeOf126
  v127 := Tryz.zeroValue126 }
theorem Tryz.Builder_Extra_169 : Builder.Extra Tryz.prog Tryz.lays169_ren := {
  sizeBuilder := by kernel_rfl
  liesBuilder := by kernel_rfl
  t5 := Tryz.underlying5
  a5 := Tryz.isAgg5
  z5 := Tryz.sizeOf5
  v5 := Tryz.zeroValue5
  infoByte := by kernel_rfl
  cellsByte := by kernel_rfl
  sizeByte := by kernel_rfl
  neB5 := by decide }
theorem bldString_c (B b : Nat) (l : List UInt8) (w : World) (h : Bld B b l w) (hBw : B ≤ w.heap.size) :
    Calls Tryz.prog 65 #[.pointer (some ⟨b, 0, none⟩)] w fun e w' => e = .returned (.string (strOf l)) ∧ Below B w w' := Any.Builder_String_any Tryz.lays169 Tryz.Builder_Extra_169 B b l w h hBw
theorem bld_new (w : World) (B : Nat) (hB : B ≤ w.heap.size) : Bld B w.heap.size [] (w.alloc (.cells #[.pointer none, .slice none 0 0] 95)) :=
  .inl ⟨hB, _, heap_alloc_new w _, World.ownsRow_nil _ _ _ _, by simp [Value.ownBlock]⟩
theorem Bld.below {B b : Nat} {l : List UInt8} {w w' : World} (h : Bld B b l w) (hb : Below w.heap.size w w') : Bld B b l w' := by
  have key : ∀ p, Lib.BuilderAt 95 5 B b p (Lib.byteCells l) w → Lib.BuilderAt 95 5 B b p (Lib.byteCells l) w' := by
    rintro p ⟨h1, v, h2, h3, h4⟩
    refine ⟨h1, v, ?_, own_below h3 hb, h4⟩
    rw [hb.block b (Array.getElem?_eq_some_iff.1 h2).1]
    exact h2
  rcases h with h | h
  · exact .inl (key _ h)
  · exact .inr (key _ h)
end
section
open Go.RowKit
theorem take_none {α : Type} {p : α → Bool} {xs : List α} {k : Nat} (h : ∀ j (hj : j < xs.length), j < k → p xs[j] = false) (hk : xs.length ≤ k) : xs.any p = false := by
  rw [List.any_eq_false]
  intro x hx
  obtain ⟨j, hj, rfl⟩ := List.getElem_of_mem hx
  simp [h j hj (by omega)]
theorem any_at {α : Type} {p : α → Bool} {xs : List α} {k : Nat} (hk : k < xs.length) (h : p xs[k] = true) : xs.any p = true := List.any_eq_true.2 ⟨_, List.getElem_mem hk, h⟩
theorem Sl.box {w : World} {b : Nat} {n : Int} (hb : b < w.heap.size) (hc : w.cell? ⟨b, 0, none⟩ = some (.int .i64 n)) : Sl intE 1 w (some ⟨b, 0, none⟩) [n] :=
  .inr ⟨b, 0, rfl, hb, fun i hi j hj => by
    have h1 : i = 0 := by simpa using hi
    have h2 : j = 0 := by omega
    subst h1 h2
    simpa [intE] using hc⟩
end
section
open Go.RowKit
def numL (ns : List Int) : List UInt8 := ns.flatMap fun n => be (n + 1).toNat 3
theorem numL_length (ns : List Int) : (numL ns).length = 3 * ns.length := by
  induction ns with
  | nil => rfl
  | cons n ns ih => simp only [numL, List.flatMap_cons, List.length_append, be_length, List.length_cons] at *; omega
theorem numL_snoc (ns : List Int) (k : Nat) (hk : k < ns.length) : numL (ns.take (k + 1)) = numL (ns.take k) ++ be (ns[k] + 1).toNat 3 := by
  unfold numL
  rw [List.take_succ_eq_append_getElem hk, List.flatMap_append]
  simp only [List.flatMap_cons, List.flatMap_nil, List.append_nil]
def fieldL (s : ByteArray) : List UInt8 := be s.size 2 ++ s.data.toList
def fldB (fs : List ByteArray) : List UInt8 := fs.flatMap fieldL
def fldL (fs : List ByteArray) : List UInt8 := UInt8.ofNat fs.length :: fldB fs
theorem fieldL_length (s : ByteArray) : (fieldL s).length = 2 + s.size := by simp [fieldL, be_length]
theorem fldB_snoc (fs : List ByteArray) (k : Nat) (hk : k < fs.length) : fldB (fs.take (k + 1)) = fldB (fs.take k) ++ fieldL fs[k] := by
  unfold fldB
  rw [List.take_succ_eq_append_getElem hk, List.flatMap_append]
  simp only [List.flatMap_cons, List.flatMap_nil, List.append_nil]
theorem fldB_le (fs : List ByteArray) (M : Nat) (h : ∀ s ∈ fs, s.size ≤ M) : (fldB fs).length ≤ fs.length * (2 + M) := by
  induction fs with
  | nil => simp [fldB]
  | cons s fs ih =>
    have h1 := h s (by simp)
    have h2 := ih (fun x hx => h x (by simp [hx]))
    simp only [fldB, List.flatMap_cons, List.length_append, List.length_cons, fieldL_length] at *
    rw [Nat.add_mul]
    omega
end
section
open Go.RowKit
theorem l02Numbers_c (a : Option Addr) (ca : Nat) (ns : List Int) (w : World) (ha : Sl intE 1 w a ns) (la : ns.length ≤ 1048576) (hn : ∀ n ∈ ns, -1 ≤ n ∧ n ≤ 1099511627775) :
    Calls Tryz.prog 96 #[.slice a ns.length ca] w (FreshR byteE 5 1 w (numL ns)) := by
  obtain ⟨i0, hi, hz0, hz1, hz2⟩ := info_parts Tryz.infoByte
  have HN := Lib.hid hn
  clear hn
  go_enter Tryz.func96, Tryz.ntmps96
  go_wp2_with fail
  go_loopw [3, 4] (fun v i wr => ∃ (k : Nat) (av : Option Addr) (cv : Nat) (L : List UInt8), k ≤ ns.length ∧ i = .int .i64 k ∧ v = .slice av L.length cv ∧ Hid (L = numL (ns.take k)) ∧ L.length ≤ 3145728 ∧ Fresh byteE 5 1 w.heap.size (.slice av L.length cv) L wr ∧ Below w.heap.size w wr) (fun _ i _ => ns.length - (intOf i).toNat)
  case atStart => exact ⟨0, _, _, [], Nat.zero_le _, rfl, rfl, rfl, by simp, Fresh.of_own (World.ownsRow_made _ #[] 0 (Nat.le_refl _) (by decide) rfl) rfl rfl, (by repeat (first | exact Below.refl _ _ | (refine Below.alloc ?_ (by (try simp) <;> (try omega)) _) | (refine Below.setCell ?_ (by (try simp) <;> (try omega)) _) | (refine Below.drew ?_) | (refine Below.trans ?_ (Below.mono (by assumption) (by (try simp) <;> (try omega))))))⟩
  case round =>
    obtain ⟨k, av, cv, L, hk, rfl, rfl, hL, hl, hf, hbel⟩ := hrel
    have hz := hbel.size
    have HF := Lib.hid hf.here
    have HBW := Lib.hid hbel
    clear hf
    by_cases hlt : k < ns.length
    · have HSN := Lib.hid (numL_snoc ns k hlt)
      obtain ⟨b1, o1, rfl, hb1, hc1⟩ := (ha.keep hbel).at hlt
      have c1 := hc1 k hlt 0 (by omega)
      simp only [intE, Nat.mul_one, Nat.add_zero, List.getElem?_cons_zero] at c1
      have hin := HN.out ns[k] (List.getElem_mem _)
      obtain ⟨n, hn⟩ : ∃ n : Nat, ns[k] = (n : Int) - 1 := ⟨(ns[k] + 1).toNat, by omega⟩
      have hn40 : n ≤ 1099511627776 := by omega
      have hnn : (ns[k] + 1).toNat = n := by omega
      rw [hnn] at HSN
      rw [hn] at c1
      have E1 : Hid ((n : Int) - 1 + 1 = (n : Int)) := by show _ = _; omega
      clear hc1 hbel hin hn hnn
      go_wp2_with fail
      try rw [E1.out]
      refine (l02Number_c n 3 _ (by omega) (by omega)).mono ?_
      rintro e w2 ⟨v2, rfl, hf2, hb2⟩
      obtain ⟨a2, c2, rfl, hc2, ho2⟩ := id hf2
      have hs2 : Sl byteE 1 w2 a2 (be n 3) := Sl.of_own (fun _ => rfl) ho2
      have hy2 := hb2.size
      have HB2 := Lib.hid hb2
      have HF2 := Lib.hid (HF.out.below hb2)
      have hlb : (be n 3).length ≤ 3 := by rw [be_length]; omega
      clear hb2 hf2 ho2
      generalize hE : be n 3 = E at *
      have HE := Lib.hid hE
      clear hE
      go_wp2_with (first
        | (skip
           at_builtin
           refine wpList_append_fresh rfl (.tmp 12) (.tmp 18) 22 22 rfl (w.heap.size) (wr.heap.size) 5 i0 (.int .u8 0) 1 1 Tryz.underlying22 hi hz0 hz1 hz2 rfl (by decide) (.slice av L.length cv) (L) rfl (HF2.out) _ (E) rfl (Src.ofSl (enc := byteE) Tryz.underlying22 (fun _ => rfl) byteOne hs2 _) (by (try simp) <;> (try omega)) (by (try simp) <;> (try omega)) ?_
           intro a3 c3 w3 L3 hL3 hf3 hm3
           skip))
      go_roundw
      case rel =>
        have hl3 := numL_length (ns.take (k + 1))
        have e3 : L3 = numL (ns.take (k + 1)) := by rw [hL3.out, hL.out, HSN.out]
        refine ⟨k + 1, a3, c3, L3, by omega, by go_num, rfl, e3, by rw [e3, hl3, List.length_take]; omega, hf3.1, (HBW.out.trans (HB2.out.mono hz)).trans (hm3.below (Nat.le_refl _) (by omega))⟩
      case measure => simp [intOf]; omega
    · obtain rfl : k = ns.length := by omega
      have e1 : L = numL ns := by rw [hL.out, List.take_length]
      have E1 := Lib.hid e1
      clear hbel e1
      go_wp2_with fail
      go_ret
      rw [← E1.out]
      exact ⟨_, rfl, HF.out.1, HBW.out⟩
theorem l02Fields_c (a : Option Addr) (ca : Nat) (fs : List ByteArray) (w : World) (ha : Sl strE 1 w a fs) (la : fs.length ≤ 4096) (hs : ∀ s ∈ fs, s.size ≤ 1048576) :
    Calls Tryz.prog 97 #[.slice a fs.length ca] w (FreshR byteE 5 1 w (fldL fs)) := by
  obtain ⟨i0, hi, hz0, hz1, hz2⟩ := info_parts Tryz.infoByte
  have HS := Lib.hid hs
  clear hs
  go_enter Tryz.func97, Tryz.ntmps97
  go_wp2_with fail
  go_loopw [3, 4] (fun v i wr => ∃ (k : Nat) (av : Option Addr) (cv : Nat) (L : List UInt8), k ≤ fs.length ∧ i = .int .i64 k ∧ v = .slice av L.length cv ∧ Hid (L = UInt8.ofNat fs.length :: fldB (fs.take k)) ∧ L.length ≤ 5000000000 ∧ Fresh byteE 5 1 w.heap.size (.slice av L.length cv) L wr ∧ Below w.heap.size w wr) (fun _ i _ => fs.length - (intOf i).toNat)
  case atStart =>
    refine ⟨0, some ⟨w.heap.size, 0, none⟩, 1, [UInt8.ofNat fs.length], Nat.zero_le _, rfl, rfl, rfl, by simp, ⟨_, _, rfl, by simp, ?_⟩, (by repeat (first | exact Below.refl _ _ | (refine Below.alloc ?_ (by (try simp) <;> (try omega)) _) | (refine Below.setCell ?_ (by (try simp) <;> (try omega)) _) | (refine Below.drew ?_) | (refine Below.trans ?_ (Below.mono (by assumption) (by (try simp) <;> (try omega))))))⟩
    refine ⟨by simp [byteE], .inr ⟨w.heap.size, 1, _, rfl, Nat.le_refl _, heap_alloc_new w _, Nat.le_refl _, by unfold maxLen; omega, rfl, ?_⟩⟩
    have hu8 : (fs.length : Int) % 256 = ((UInt8.ofNat fs.length).toNat : Int) := by rw [UInt8.toNat_ofNat']; omega
    simp [byteE, ← hu8]
  case round =>
    obtain ⟨k, av, cv, L, hk, rfl, rfl, hL, hl, hf, hbel⟩ := hrel
    have hz := hbel.size
    have HF := Lib.hid hf.here
    have HBW := Lib.hid hbel
    clear hf
    by_cases hlt : k < fs.length
    · have HSN := Lib.hid (fldB_snoc fs k hlt)
      obtain ⟨b1, o1, rfl, hb0, _⟩ := ha.at hlt
      obtain ⟨b1', o1', he, hb1, hc1⟩ := (ha.keep hbel).at hlt
      cases he
      have c1 := hc1 k hlt 0 (by omega)
      simp only [strE, Nat.mul_one, Nat.add_zero, List.getElem?_cons_zero] at c1
      have hsz := HS.out fs[k] (List.getElem_mem _)
      have hi0 : (0 : Int) ≤ (k : Int) := by omega
      have hi1 : (k : Int) < (fs.length : Int) := by omega
      generalize fs[k] = G at *
      have hdl := sizeData G
      have HDL := Lib.hid hdl
      have hdl' : G.data.toList.length ≤ 1048576 := by omega
      clear hc1 hbel hdl
      go_wp2_with fail
      go_region_held3 (fun w' => w'.cell? ⟨b1, o1 + k, none⟩ = some (.string G))
        (first | go_keep | assumption)
        (first
          | (go_at_call 128
             refine (l02Number_c G.size 2 _ (by omega) (by omega)).mono ?_
             rintro e w2 ⟨v2, rfl, hf2, hb2⟩
             obtain ⟨a2, c2, rfl, hc2, ho2⟩ := id hf2
             have hs2 : Sl byteE 1 w2 a2 (be G.size 2) := Sl.of_own (fun _ => rfl) ho2
             have hy2 := hb2.size
             simp at hy2
             have HB2 := Lib.hid hb2
             have HF2 := Lib.hid (HF.out.drew.below hb2)
             have hlb : (be G.size 2).length ≤ 2 := by rw [be_length]; omega
             have g2 : w2.cell? ⟨b1, o1 + k, none⟩ = some (.string G) := by
               rw [hb2.cell (p := ⟨b1, o1 + k, none⟩) (by show b1 < _; simp; omega)]
               simpa using c1
             clear hb2 hf2 ho2)
          | (have tok1 := HF2
             clear HF2
             refine step_append_fresh (by rfl) (.tmp 15) (.tmp 21) 22 22 (by rfl) w.heap.size wr.heap.size 5 i0 (.int .u8 0) 1 1 Tryz.underlying22 hi hz0 hz1 hz2 rfl (by decide) (.slice av L.length cv) L (by rfl) tok1.out _ (be G.size 2) (by rfl) (Src.ofSl (enc := byteE) Tryz.underlying22 (fun _ => rfl) byteOne hs2 _) (by omega) (by omega) ?_
             intro a3 c3 w3 L3 hL3 hf3 hm3
             have hy3 := hm3.size
             have hl3 : L3.length ≤ 5000000002 := by rw [hL3.out, List.length_append]; omega
             have g3 : w3.cell? ⟨b1, o1 + k, none⟩ = some (.string G) := by
               rw [hm3.cell (p := ⟨b1, o1 + k, none⟩) (by show b1 < _; omega) (.inl (by show b1 < _; omega))]
               exact g2)
          | (have tok2 := hf3
             refine step_append_fresh (by rfl) (.tmp 22) (.tmp 26) 22 9 (by rfl) w.heap.size w3.heap.size 5 i0 (.int .u8 0) 1 1 Tryz.underlying22 hi hz0 hz1 hz2 rfl (by decide) (.slice a3 L3.length c3) L3 (by rfl) tok2 _ G.data.toList (by rfl) (Src.ofStr Tryz.underlying9 G) (by omega) (by omega) ?_
             intro a4 c4 w4 L4 hL4 hf4 hm4
             have g4 : w4.cell? ⟨b1, o1 + k, none⟩ = some (.string G) := by
               rw [hm4.cell (p := ⟨b1, o1 + k, none⟩) (by show b1 < _; omega) (.inl (by show b1 < _; omega))]
               exact g3))
      go_wp2_with fail
      go_roundw
      case rel =>
        have e4 : L4 = UInt8.ofNat fs.length :: fldB (fs.take (k + 1)) := by
          rw [hL4.out, hL3.out, hL.out, HSN.out]
          simp [fieldL]
        have hle := fldB_le (fs.take (k + 1)) 1048576 (fun s hs => HS.out s (List.mem_of_mem_take hs))
        refine ⟨k + 1, a4, c4, L4, by omega, by go_num, rfl, e4, ?_, hf4.1, ?_⟩
        · rw [e4]
          simp only [List.length_cons, List.length_take] at hle ⊢
          have : min (k + 1) fs.length * (2 + 1048576) ≤ 4096 * (2 + 1048576) := Nat.mul_le_mul_right _ (by omega)
          omega
        · exact (((HBW.out.drew).trans (HB2.out.mono (by simp; omega))).trans (hm3.below (Nat.le_refl _) (by omega))).trans (hm4.below (Nat.le_refl _) (by omega))
      case measure => simp [intOf]; omega
    · obtain rfl : k = fs.length := by omega
      have e1 : L = fldL fs := by rw [hL.out, List.take_length]; rfl
      have E1 := Lib.hid e1
      clear hbel e1
      go_wp2_with fail
      go_ret
      rw [← E1.out]
      exact ⟨_, rfl, HF.out.1, HBW.out⟩
end
section
open Go.RowKit
theorem extract_takeN (l : List UInt8) (n : Nat) : (strOf l).extract 0 n = strOf (l.take n) := by
  apply ByteArray.ext
  apply Array.toList_inj.1
  rw [Lib.extract_data]
  rfl
theorem strOf_toL (l : List UInt8) : (strOf l).toList = l := Lib.toList_data _
def lenOf : Value → Nat
  | .string s => s.size
  | _ => 0
theorem strOneC : ∀ (x : ByteArray), ∀ u ∈ strE x, u.oneCell' = true := fun x u hu => by simp [strE] at hu; subst hu; rfl
end
section
open Go.RowKit
theorem Sl.sub {α : Type} {enc : α → List Value} {sz : Nat} {w : World} {b off : Nat} {xs : List α} (h : Sl enc sz w (some ⟨b, off, none⟩) xs) (k j : Nat) (hk : k < xs.length) : Sl enc sz w (some ⟨b, off + k * sz, none⟩) ((xs.drop k).take j) := by
  obtain ⟨b', off', he, hb, hc⟩ := h.at hk
  cases he
  refine .inr ⟨b, off + k * sz, rfl, hb, fun i hi j' hj => ?_⟩
  have hi' : i < j ∧ i < xs.length - k := by simp at hi; omega
  have := hc (k + i) (by omega) j' hj
  rw [show off + k * sz + i * sz + j' = off + (k + i) * sz + j' by rw [Nat.add_mul]; omega, this]
  simp
end
section
open Go.RowKit
def rdF : Nat → List UInt8 → Option (List ByteArray)
  | 0, l => if l = [] then some [] else none
  | n + 1, l => if l.length < 2 then none else if 20000 < bn (l.take 2) then none else if l.length < 2 + bn (l.take 2) then none
    else (rdF n (l.drop (2 + bn (l.take 2)))).map (strOf ((l.drop 2).take (bn (l.take 2))) :: ·)
def rdAll : List UInt8 → Option (List ByteArray)
  | [] => none
  | c :: r => if 60 < c.toNat then none else rdF c.toNat r
def ReadR (o : Option (List ByteArray)) (w : World) (e : Ending) (w' : World) : Prop :=
  ∃ a c L, e = .returned (.tuple #[.slice a L.length c, .bool o.isSome]) ∧ Fresh strE 9 1 w.heap.size (.slice a L.length c) L w' ∧ (∀ L', o = some L' → L = L') ∧ Below w.heap.size w w'
theorem rdF_succ {n : Nat} {l : List UInt8} (h1 : 2 ≤ l.length) (h2 : bn (l.take 2) ≤ 20000) (h3 : 2 + bn (l.take 2) ≤ l.length) : rdF (n + 1) l = (rdF n (l.drop (2 + bn (l.take 2)))).map (strOf ((l.drop 2).take (bn (l.take 2))) :: ·) := by
  rw [rdF, if_neg (by omega), if_neg (by omega), if_neg (by omega)]
theorem ReadR.none {w w' : World} {o : Option (List ByteArray)} (ho : o = none) (hb : Below w.heap.size w w') : ReadR o w (.returned (.tuple #[.slice none 0 0, .bool false])) w' := by
  subst ho
  exact ⟨Option.none, 0, [], rfl, (FreshIn.nil _ _ _ _ 0 _).1, (fun _ h => by cases h), hb⟩
end
section
open Go.RowKit
def ReadS (o : Option (List ByteArray)) (w : World) (e : Ending) (w' : World) : Prop :=
  ∃ a c L, e = .returned (.tuple #[.slice a L.length c, .bool o.isSome]) ∧ Fresh strE 9 1 w.heap.size (.slice a L.length c) L w' ∧ (∀ L', o = some L' → L = L') ∧ Below w.heap.size w w'
theorem fresh_made (w : World) (B : Nat) (hB : B ≤ w.heap.size) : Fresh strE 9 1 B (.slice (some ⟨w.heap.size, 0, none⟩) 0 0) [] (w.alloc (.cells #[] 9)) :=
  Fresh.of_own (World.ownsRow_made (base := B) w #[] 0 hB (by decide) rfl) rfl rfl
theorem ReadS.none {w w' : World} {o : Option (List ByteArray)} (ho : o = none) (hb : Below w.heap.size w w') : ReadS o w (.returned (.tuple #[.slice (some ⟨w'.heap.size, 0, Option.none⟩) 0 0, .bool false])) (w'.alloc (.cells #[] 9)) := by
  subst ho
  exact ⟨some ⟨w'.heap.size, 0, Option.none⟩, 0, [], rfl, fresh_made w' _ hb.size, (fun _ h => by cases h), hb.alloc hb.size _⟩
end
section
open Go.RowKit
theorem be_two (n : Nat) : be n 2 = [beB n 2 0, beB n 2 1] := rfl
theorem be_three (n : Nat) : be n 3 = [beB n 3 0, beB n 3 1, beB n 3 2] := rfl
theorem bn_be2 (n : Nat) (h : n < 65536) : bn (be n 2) = n := by
  rw [be_two]
  simp only [bn, List.foldl_cons, List.foldl_nil, beB_toNat]
  simp
  omega
theorem bn_be3 (n : Nat) (h : n < 16777216) : bn (be n 3) = n := by
  rw [be_three]
  simp only [bn, List.foldl_cons, List.foldl_nil, beB_toNat]
  simp
  omega
theorem rdF_fields : ∀ (fs : List ByteArray), (∀ s ∈ fs, s.size ≤ 20000) → rdF fs.length (fldB fs) = some fs
  | [], _ => by
    show rdF 0 (fldB []) = _
    rw [rdF]
    rfl
  | f :: fs, h => by
    have h1 : f.size ≤ 20000 := h f (by simp)
    have ih := rdF_fields fs (fun s hs => h s (by simp [hs]))
    have hl : fldB (f :: fs) = be f.size 2 ++ (f.data.toList ++ fldB fs) := by simp [fldB, fieldL]
    have ht : (fldB (f :: fs)).take 2 = be f.size 2 := by rw [hl]; exact List.take_left' (be_length _ _)
    have hd : (fldB (f :: fs)).drop 2 = f.data.toList ++ fldB fs := by rw [hl]; exact List.drop_left' (be_length _ _)
    have hb : bn ((fldB (f :: fs)).take 2) = f.size := by rw [ht]; exact bn_be2 _ (by omega)
    have hs : f.data.toList.length = f.size := rfl
    have hlen : (fldB (f :: fs)).length = 2 + (f.size + (fldB fs).length) := by rw [hl]; simp [be_length]
    show rdF (fs.length + 1) _ = _
    rw [rdF_succ (by omega) (by rw [hb]; omega) (by rw [hb]; omega), hb, ← List.drop_drop, hd, List.drop_left' hs, List.take_left' hs, ih]
    rfl
theorem rdAll_fldL (fs : List ByteArray) (h : ∀ s ∈ fs, s.size ≤ 20000) (hl : fs.length ≤ 60) : rdAll (fldL fs) = some fs := by
  have h1 : (UInt8.ofNat fs.length).toNat = fs.length := by simp; omega
  show rdAll (UInt8.ofNat fs.length :: fldB fs) = _
  rw [rdAll, h1, if_neg (by omega)]
  exact rdF_fields fs h
theorem strOf_data' (l : List UInt8) : (strOf l).data.toList = l := by simp [strOf]
end
section
open Go.RowKit
theorem ret_i {a b : Int} (h : a = b) : Ending.returned (.int .i64 a) = .returned (.int .i64 b) := by rw [h]
theorem ret_b {a b : Bool} (h : a = b) : Ending.returned (.bool a) = .returned (.bool b) := by rw [h]
def ctlI (n : Int) : Bool := inB n 7 10 || (n == 13)
theorem lowOf_one (x : UInt8) : lowOf [x] = if x.toNat = 224 then 160 else if x.toNat = 240 then 144 else 128 := rfl
theorem highOf_one (x : UInt8) : highOf [x] = if x.toNat = 237 then 159 else if x.toNat = 244 then 143 else 191 := rfl
theorem low_not {l : List UInt8} (h : l.length ≠ 1) : lowOf l = 128 ∧ highOf l = 191 := by
  match l, h with
  | [], _ => exact ⟨rfl, rfl⟩
  | [_], h => simp at h
  | _ :: _ :: _, _ => exact ⟨rfl, rfl⟩
end
section
open Go.RowKit
def inT (b : UInt8) : Bool := decide (32 ≤ b.toNat) && decide (b.toNat ≤ 126)
theorem titB_eq (s : ByteArray) : titB s = (decide (s.size ≤ 40) && s.data.toList.all inT) := rfl
theorem getL {s : ByteArray} {k : Nat} (h : k < s.size) : ∃ h2 : k < s.data.toList.length, s.data.toList[k]'h2 = s[k]'h := ⟨h, rfl⟩
theorem isTitle_c (s : ByteArray) (w : World) (hz : s.size ≤ 1099511627776) : Calls Tryz.prog 52 #[.string s] w fun e w' => e = .returned (.bool (titB s)) ∧ w = w' := by
  go_enter Tryz.func52, Tryz.ntmps52
  go_wp2_with fail
  go_loop [6] (fun i => ∃ k : Nat, k ≤ s.size ∧ i = .int .i64 k ∧ Hid (∀ j (hj : j < s.size), j < k → inT s[j] = true)) (fun i => s.size - (intOf i).toNat)
  case atStart => exact ⟨0, Nat.zero_le _, rfl, Lib.hid (fun j _ h => absurd h (Nat.not_lt_zero _))⟩
  case round =>
    obtain ⟨k, hk, rfl, HP⟩ := hrel
    by_cases hlt : k < s.size
    · have HN : Hid (inT s[k] = false → titB s = false) := Lib.hid (fun h => by
        rw [titB_eq]
        have : s.data.toList.all inT = false := by
          rw [List.all_eq_false]
          obtain ⟨h2, h3⟩ := getL hlt
          exact ⟨_, List.getElem_mem h2, by rw [h3, h]; simp⟩
        rw [this, Bool.and_false])
      obtain ⟨x, hx⟩ : ∃ x, s[k] = x := ⟨_, rfl⟩
      have HX := Lib.hid hx
      rw [hx] at HN
      go_wp2_with fail
      all_goals first
        | (go_ret; exact ⟨ret_b (HN.out (by simp [inT]; omega)).symm, rfl⟩)
        | (go_round
           case rel =>
             refine ⟨k + 1, by omega, by go_num, Lib.hid (fun j hj h => ?_)⟩
             rcases Nat.lt_succ_iff_lt_or_eq.1 h with h | rfl
             · exact HP.out j hj h
             · rw [HX.out]; simp [inT]; omega
           case measure => simp [intOf]; omega)
    · have HA : Hid (titB s = decide (s.size ≤ 40)) := Lib.hid (by
        rw [titB_eq]
        have : s.data.toList.all inT = true := by
          rw [List.all_eq_true]
          intro x hx
          obtain ⟨j, hj, rfl⟩ := List.getElem_of_mem hx
          exact HP.out j hj (by have : s.data.toList.length = s.size := rfl; omega)
        rw [this, Bool.and_true])
      go_wp2_with fail
      all_goals
        go_ret
        exact ⟨ret_b (by rw [HA.out, Bool.eq_iff_iff]; simp only [decide_eq_true_eq]; omega), rfl⟩
end
section
open Go.RowKit
def fitK (l : List UInt8) (k : Nat) : Prop := ∀ j, 1 ≤ j → j < k → mayF (l.take j) (l.getD j 0).toNat = true
theorem begB_iff {l : List UInt8} : begB l = true ↔ 0 < l.length ∧ l.length < utfLen (l.headD 0).toNat ∧ fitK l l.length := by
  simp only [begB, Bool.and_eq_true, decide_eq_true_eq, List.all_eq_true, List.mem_range, Bool.or_eq_true, beq_iff_eq, fitK]
  constructor
  · rintro ⟨⟨h1, h2⟩, h3⟩
    exact ⟨h1, h2, fun j hj hk => (h3 j hk).resolve_left (by omega)⟩
  · rintro ⟨h1, h2, h3⟩
    refine ⟨⟨h1, h2⟩, fun j hj => ?_⟩
    rcases Nat.eq_zero_or_pos j with h | h
    · exact .inl h
    · exact .inr (h3 j h hj)
theorem headL {s : ByteArray} (h : 0 < s.size) : s.data.toList.headD 0 = s[0] := by
  cases s with
  | mk d =>
    have hl : d.toList.length = d.size := rfl
    match hd : d.toList, hl with
    | [], hl => have : d.size = 0 := hl.symm; have h' : 0 < d.size := h; omega
    | a :: l, _ =>
      have : d = (a :: l).toArray := by rw [← hd]
      subst this
      rfl
theorem getDL {s : ByteArray} {k : Nat} (h : k < s.size) : s.data.toList.getD k 0 = s[k] := by
  obtain ⟨h2, h3⟩ := getL h
  rw [← h3, List.getD_eq_getElem?_getD, List.getElem?_eq_getElem h2]
  rfl
end
section
open Go.RowKit
theorem notEmpty {s : ByteArray} (h : ¬ s.size = 0) : s.toList.isEmpty = false := by
  rw [Lib.toList_data]
  have hl : s.data.toList.length = s.size := rfl
  cases hd : s.data.toList with
  | nil => rw [hd] at hl; simp at hl; omega
  | cons _ _ => rfl
end
section
open Go.RowKit
structure ActA where
  A : AV
  aa : Option Addr
  ca : Nat
def actE (r : ActA) : List Value := [.int .i64 r.A.kind, .int .i64 r.A.n, .bool r.A.priv, .slice r.aa r.A.args.length r.ca, .string r.A.text]
def actBlk (r : ActA) : List Nat := blkOf r.aa
def actOwn (lo : Nat) (w : World) (r : ActA) : Prop := FreshIn intE 3 1 lo w.heap.size (.slice r.aa r.A.args.length r.ca) r.A.args w
theorem actL : OwnL actOwn actBlk where
  ch := fun h hc hd => FreshIn.ch h hc hd
  low := fun hl h => FreshIn.low h hl
  bd := fun h k hk => FreshIn.blks h k hk
  nd := fun _ => blkOf_nodup _
abbrev ActO (lo : Nat) (L : List ActA) (al : Option Addr) (cl : Nat) (w : World) : Prop := RO actE 38 5 actOwn actBlk lo L al cl w
abbrev acB (al : Option Addr) (L : List ActA) : List Nat := roB actBlk al L
theorem Tryz.infoAction : (Tryz.prog.info? 38).map (fun i => (i.zero, i.size, i.bytes)) = some (some (.agg #[.int .i64 0, .int .i64 0, .bool false, .slice none 0 0, .string ⟨#[]⟩]), 5, 64) := by kernel_rfl
theorem actOne : ∀ (x : ActA), ∀ u ∈ actE x, u.oneCell' = true := by
  intro x u hu
  simp only [actE, List.mem_cons, List.not_mem_nil, or_false] at hu
  rcases hu with rfl | rfl | rfl | rfl | rfl <;> rfl
structure PS (B lo : Nat) (p : PV) (ap : Option Addr) (cp : Nat) (L : List ActA) (al : Option Addr) (cl : Nat) (w : World) : Prop where
  c0 : w.cell? ⟨B, 0, none⟩ = some (.int .i64 p.state)
  c1 : w.cell? ⟨B, 1, none⟩ = some (.slice ap p.args.length cp)
  c2 : w.cell? ⟨B, 2, none⟩ = some (.bool p.priv)
  c3 : w.cell? ⟨B, 3, none⟩ = some (.string p.text)
  c4 : w.cell? ⟨B, 4, none⟩ = some (.string p.utf)
  fz : ∀ o, w.frozen? ⟨B, o, none⟩ = false
  lt : B < w.heap.size
  args : FreshIn intE 3 1 lo w.heap.size (.slice ap p.args.length cp) p.args w
  ro : ActO lo L al cl w
  nB : B ∉ blkOf ap ++ acB al L
  nd : ∀ k ∈ blkOf ap, k ∉ acB al L
section
variable {B lo : Nat} {p p' : PV} {ap ap' al al' : Option Addr} {cp cp' cl cl' : Nat} {L us : List ActA} {w w' w1 : World} {M : Nat → Prop}
theorem PS.ch (h : PS B lo p ap cp L al cl w) (hc : Ch M w w') (hB : ¬ M B) (hd : ∀ k ∈ blkOf ap ++ acB al L, ¬ M k) : PS B lo p ap cp L al cl w' where
  c0 := (hc.cell (p := ⟨B, 0, none⟩) h.lt hB).trans h.c0
  c1 := (hc.cell (p := ⟨B, 1, none⟩) h.lt hB).trans h.c1
  c2 := (hc.cell (p := ⟨B, 2, none⟩) h.lt hB).trans h.c2
  c3 := (hc.cell (p := ⟨B, 3, none⟩) h.lt hB).trans h.c3
  c4 := (hc.cell (p := ⟨B, 4, none⟩) h.lt hB).trans h.c4
  fz := fun o => (hc.frozen (p := ⟨B, o, none⟩) h.lt hB).trans (h.fz o)
  lt := Nat.lt_of_lt_of_le h.lt hc.size
  args := h.args.ch hc (fun k hk => hd k (by simp [hk]))
  ro := h.ro.ch actL hc (fun k hk => hd k (by rw [List.mem_append]; exact .inr hk))
  nB := h.nB
  nd := h.nd
theorem PS.keep (h : PS B lo p ap cp L al cl w) (hb : Below w.heap.size w w') : PS B lo p ap cp L al cl w' := h.ch (M := fun _ => False) (Ch.of_below hb) (fun h => h) (fun _ _ h => h)
theorem PS.cells (h : PS B lo p ap cp L al cl w) (hc : Ch (· = B) w w') (c0 : w'.cell? ⟨B, 0, none⟩ = some (.int .i64 p'.state)) (c1 : w'.cell? ⟨B, 1, none⟩ = some (.slice ap' p'.args.length cp')) (c2 : w'.cell? ⟨B, 2, none⟩ = some (.bool p'.priv))
    (c3 : w'.cell? ⟨B, 3, none⟩ = some (.string p'.text)) (c4 : w'.cell? ⟨B, 4, none⟩ = some (.string p'.utf)) (fz : ∀ o, w'.frozen? ⟨B, o, none⟩ = false) (ha : (ap' = ap ∧ cp' = cp ∧ p'.args = p.args) ∨ (ap' = none ∧ cp' = 0 ∧ p'.args = [])) : PS B lo p' ap' cp' L al cl w' := by
  have hne : ∀ k ∈ blkOf ap ++ acB al L, ¬ k = B := fun k hk e => h.nB (e ▸ hk)
  have hro := h.ro.ch actL hc (fun k hk => hne k (by rw [List.mem_append]; exact .inr hk))
  have hlt := Nat.lt_of_lt_of_le h.lt hc.size
  rcases ha with ⟨rfl, rfl, e⟩ | ⟨rfl, rfl, e⟩
  · exact ⟨c0, c1, c2, c3, c4, fz, hlt, by rw [e]; exact h.args.ch hc (fun k hk => hne k (by simp [hk])), hro, h.nB, h.nd⟩
  · refine ⟨c0, c1, c2, c3, c4, fz, hlt, by rw [e]; exact FreshIn.nil _ _ _ _ _ _, hro, fun hb => h.nB ?_, by simp [blkOf]⟩
    simp only [blkOf, List.nil_append] at hb
    rw [List.mem_append]; exact .inr hb
theorem PS.push (h : PS B lo p ap cp L al cl w) {x : ActA} (hx : x.aa = none ∧ x.ca = 0 ∧ x.A.args = []) (hus : us = L ++ [x]) (hf : FreshIn actE 38 5 lo w'.heap.size (.slice al' us.length cl') us w') (hc : Ch (· ∈ blkOf al) w w')
    (hk : ∀ k ∈ blkOf al', k ∈ blkOf al ∨ k = w.heap.size) : PS B lo p ap cp us al' cl' w' := by
  have hB : B ∉ blkOf al := fun hb => h.nB (by simp [roB, hb])
  have hA : ∀ k ∈ blkOf ap, k ∉ blkOf al := fun k hk1 hk2 => h.nd k hk1 (by simp [roB, hk2])
  have hbx : actBlk x = [] := by unfold actBlk; rw [hx.1]; rfl
  have hro : ActO lo us al' cl' w' := h.ro.push actL (by unfold actOwn; rw [hx.1, hx.2.1, hx.2.2]; exact FreshIn.nil _ _ _ _ _ _) (by rw [hbx]; simp) hus hf hc hk
  have hin : ∀ k ∈ acB al' us, k ∈ acB al L ∨ k = w.heap.size := by
    intro k hk1
    simp only [roB, List.mem_append] at hk1 ⊢
    rcases hk1 with hk1 | hk1
    · rcases hk k hk1 with h2 | h2
      · exact .inl (.inl h2)
      · exact .inr h2
    · rw [hus] at hk1
      simp only [List.flatMap_append, List.flatMap_cons, List.flatMap_nil, List.append_nil, hbx] at hk1
      exact .inl (.inr hk1)
  refine ⟨(hc.cell (p := ⟨B, 0, none⟩) h.lt hB).trans h.c0, (hc.cell (p := ⟨B, 1, none⟩) h.lt hB).trans h.c1, (hc.cell (p := ⟨B, 2, none⟩) h.lt hB).trans h.c2, (hc.cell (p := ⟨B, 3, none⟩) h.lt hB).trans h.c3, (hc.cell (p := ⟨B, 4, none⟩) h.lt hB).trans h.c4, fun o => (hc.frozen (p := ⟨B, o, none⟩) h.lt hB).trans (h.fz o), Nat.lt_of_lt_of_le h.lt hc.size, h.args.ch hc hA, hro, fun hb => ?_, fun k hk1 hk2 => ?_⟩
  · rcases List.mem_append.1 hb with hb | hb
    · exact h.nB (by simp [hb])
    · rcases hin B hb with h2 | h2
      · exact h.nB (List.mem_append.2 (.inr h2))
      · have := h.lt; omega
  · rcases hin k hk2 with h2 | h2
    · exact h.nd k hk1 h2
    · have := (FreshIn.blks h.args k hk1).2; omega
theorem PS.pushIn {x : ActA} (hx : x.aa = none) (hus : us = L ++ [x]) (hk : ∀ k ∈ blkOf al', k ∈ blkOf al ∨ k = w.heap.size) : ∀ k ∈ acB al' us, k ∈ acB al L ∨ w.heap.size ≤ k := by
  intro k hk1
  have hbx : actBlk x = [] := by unfold actBlk; rw [hx]; rfl
  simp only [roB, List.mem_append] at hk1 ⊢
  rcases hk1 with hk1 | hk1
  · rcases hk k hk1 with h2 | h2
    · exact .inl (.inl h2)
    · exact .inr (by omega)
  · rw [hus] at hk1
    simp only [List.flatMap_append, List.flatMap_cons, List.flatMap_nil, List.append_nil, hbx] at hk1
    exact .inl (.inr hk1)
end
def PR (B lo : Nat) (R : PV × List AV) (ap : Option Addr) (L : List ActA) (al : Option Addr) (w : World) (e : Ending) (w' : World) : Prop :=
  ∃ (ap' : Option Addr) (cp' : Nat) (L' : List ActA) (al' : Option Addr) (cl' : Nat), e = .returned (.slice al' L'.length cl') ∧ PS B lo R.1 ap' cp' L' al' cl' w' ∧ L'.map (·.A) = L.map (·.A) ++ R.2 ∧
    Ch (fun k => k = B ∨ k ∈ blkOf ap ∨ k ∈ blkOf al) w w' ∧ (∀ k ∈ blkOf ap' ++ acB al' L', k ∈ blkOf ap ++ acB al L ∨ w.heap.size ≤ k)
section
variable {B lo : Nat} {p p' : PV} {ap ap' al al' : Option Addr} {cp cp' cl cl' : Nat} {L us : List ActA} {w w' w1 w2 : World} {R : PV × List AV} {e : Ending}
theorem PR.cells (h : PS B lo p ap cp L al cl w) (hc : Ch (· = B) w w') (hR1 : R.1 = p') (hR2 : R.2 = []) (h' : PS B lo p' ap' cp' L al cl w') (ha : ap' = ap ∨ ap' = none) : PR B lo R ap L al w (.returned (.slice al L.length cl)) w' := by
  refine ⟨ap', cp', L, al, cl, rfl, by rw [hR1]; exact h', by rw [hR2]; simp, hc.mono (fun i hi => .inl (.inl hi)), fun k hk => .inl ?_⟩
  rcases ha with rfl | rfl
  · exact hk
  · simp only [blkOf, List.nil_append] at hk
    rw [List.mem_append]; exact .inr hk
theorem PR.push (h : PS B lo p ap cp L al cl w) {x : ActA} (hx : x.aa = none) (hus : us = L ++ [x]) (hk : ∀ k ∈ blkOf al', k ∈ blkOf al ∨ k = w1.heap.size) (hz : w.heap.size ≤ w1.heap.size)
    (hc : Ch (fun k => k = B ∨ k ∈ blkOf al) w w') (hR1 : R.1 = p') (hR2 : R.2 = [x.A]) (h' : PS B lo p' ap' cp' us al' cl' w') (ha : ap' = ap ∨ ap' = none) : PR B lo R ap L al w (.returned (.slice al' us.length cl')) w' := by
  refine ⟨ap', cp', us, al', cl', rfl, by rw [hR1]; exact h', by rw [hR2, hus]; simp, hc.mono (fun i hi => .inl (by rcases hi with h | h; exact .inl h; exact .inr (.inr h))), fun k hk1 => ?_⟩
  have hin := PS.pushIn (w := w1) (al := al) (L := L) hx hus hk
  rcases List.mem_append.1 hk1 with hk2 | hk2
  · rcases ha with rfl | rfl
    · exact .inl (List.mem_append.2 (.inl hk2))
    · simp [blkOf] at hk2
  · rcases hin k hk2 with h2 | h2
    · exact .inl (List.mem_append.2 (.inr h2))
    · exact .inr (by omega)
end
end
section
open Go.RowKit
theorem ctl_eq (n : Nat) : ctlI (n : Int) = ctl n := by
  unfold ctlI ctl inB
  rw [Bool.eq_iff_iff]
  simp only [Bool.or_eq_true, Bool.and_eq_true, decide_eq_true_eq, beq_iff_eq]
  omega
theorem Ch.setB {a w : World} {B : Nat} (h : Ch (fun k => k = B) a w) (o : Nat) (u : Value) : Ch (fun k => k = B) a (w.setCell ⟨B, o, none⟩ u) := Ch.setCell (M := fun k => k = B) (p := ⟨B, o, none⟩) h (Or.inl rfl) u
theorem Ch.set1 (w : World) (B o : Nat) (u : Value) : Ch (fun k => k = B) w (w.setCell ⟨B, o, none⟩ u) := Ch.refl.setB o u
theorem conv1 (w : World) (b : UInt8) (n : Nat) (hn : b.toNat = n) : (convert 22 9 (.slice (some ⟨w.heap.size, 0, none⟩) 1 1)).run Tryz.prog (w.alloc (.cells #[.int .u8 n] 5)) = .ok (.string ⟨#[b]⟩) (w.alloc (.cells #[.int .u8 n] 5)) := by
  refine run_convert_bytes_back (w.alloc (.cells #[.int .u8 n] 5)) _ _ 5 ⟨w.heap.size, 0, none⟩ 1 [b] Tryz.underlying22 Tryz.underlying5 Tryz.underlying9 (fun j hj => ?_)
  have h0 : j = 0 := by simpa using hj
  subst h0
  simp [go_sem, hn]
section
variable {b : UInt8}
theorem gs1 (h : b.toNat = 27) : gstep b = (pst 1, []) := by unfold gstep; rw [if_pos h]
theorem gs2 (h : ¬ b.toNat = 27) (h2 : ctl b.toNat = true) : gstep b = (pz, [⟨2, b.toNat, false, [], e0⟩]) := by unfold gstep; rw [if_neg h, if_pos h2]
theorem gs3 (h : ¬ b.toNat = 27) (h2 : ctl b.toNat = false) (h3 : 32 ≤ b.toNat ∧ b.toNat ≤ 126) : gstep b = (pz, [pr b.toNat]) := by unfold gstep; rw [if_neg h, if_neg (by rw [h2]; simp), if_pos h3]
theorem gs4 (h : ¬ b.toNat = 27) (h2 : ctl b.toNat = false) (h3 : ¬ (32 ≤ b.toNat ∧ b.toNat ≤ 126)) (h4 : b.toNat < 128) : gstep b = (pz, []) := by unfold gstep; rw [if_neg h, if_neg (by rw [h2]; simp), if_neg h3, if_pos h4]
theorem gs5 (h : 128 ≤ b.toNat) (h5 : 0 < utfLen b.toNat) : gstep b = (⟨6, [], false, e0, ⟨#[b]⟩⟩, []) := by
  unfold gstep
  rw [if_neg (by omega), if_neg (by simp [ctl]; omega), if_neg (by omega), if_neg (by omega), if_pos h5]
theorem gs6 (h : 128 ≤ b.toNat) (h5 : ¬ 0 < utfLen b.toNat) : gstep b = (pz, [pr 65533]) := by
  unfold gstep
  rw [if_neg (by omega), if_neg (by simp [ctl]; omega), if_neg (by omega), if_neg (by omega), if_neg h5]
end
end
end Go.Proofs.YtjmpgeffkdjpdaaGreatDoor
