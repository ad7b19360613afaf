/- Contracts of the functions that the claim reaches. No conditions but sizes. -/
import Derived.Test.YtjmpgeffkdjpdaaGreatDoorPTz0
import Derived.OrdersHeld
import Derived.RegionTactic
import Derived.Deep.RegionLaw
import Derived.Deep.RegionHeld
import Derived.Below
import Derived.Lib.Hide
import Derived.WalkKit
import Derived.WalkSpells
import Derived.Deep.Quiet
import Derived.Lib.ItoaNum
import Derived.Test.YtjmpgeffkdjpdaaGreatDoorRows
import Derived.WalkLawsBesides
import Derived.BigRegion
import Derived.Lib.Bytealg
import Derived.Deep.DeepCutAuto
import Derived.Deep.AppendSrc
import Derived.Deep.Upon
import Derived.Deep.RegionHeld3
import Derived.Lib.Strings
import Derived.Shelf.Unicode.DecodeAny
import Derived.Lib.LazyBuf
namespace Go.Proofs.YtjmpgeffkdjpdaaGreatDoor
set_option linter.unusedVariables false
set_option linter.unusedSimpArgs false
set_option maxRecDepth 100000
set_option maxHeartbeats 16000000
section
open Go
section
variable {P : Program} {ops : Array Oper} {Q : Exit → Act → World → Prop} {md : Region.Mode} {S : World → Prop} {ex : Nat → Bool}
def wpAnyG (P : Program) (md : Region.Mode) (ops : Array Oper) (Q : Exit → Act → World → Prop) (S : World → Prop) (ex : Nat → Bool) : Nat → Array Bool → Act → World → Prop
  | 0, listed, a, w => Region.ready md ops listed = [] ∧ Q .normal a w
  | fuel + 1, listed, a, w =>
    (Region.ready md ops listed = [] → Q .normal a w) ∧
    ∀ i ∈ Region.ready md ops listed, wpOp P ops Q i (fun a' w' => (ex i = true ∨ (S w → S w')) ∧ wpAnyG P md ops Q S ex fuel (listed.setIfInBounds i true) a' w') a w
theorem wpAny_of_G : ∀ (fuel : Nat) (listed : Array Bool) (a : Act) (w : World), wpAnyG P md ops Q S ex fuel listed a w → wpAny P md ops Q fuel listed a w
  | 0, _, _, _, h => h
  | fuel + 1, _, _, _, h => ⟨h.1, fun i hi => wpOp_mono (fun a' w' h' => wpAny_of_G fuel _ a' w' h'.2) (h.2 i hi)⟩
def waitsB (md : Region.Mode) (ops : Array Oper) (ex : Nat → Bool) (i : Nat) : Bool :=
  (List.range ops.size).all fun j => !ex j || (match ops[j]? with | some o => o.after.any fun e => Region.binds md e && e.on == i | none => true)
theorem wpAnyG_first {i : Nat} {oi : Oper} {v : Value} (hi : ops[i]? = some oi) (hsel : ∀ (j : Nat) (o : Oper) cs b, ops[j]? = some o → o.op ≠ .select cs b)
    (hQ : ∀ c a w, Q (.panic c) (a.put oi.dst v) w → Q (.panic c) a w)
    (hex : ∀ j oj, ops[j]? = some oj → ex j = true → ∃ e ∈ oj.after, Region.binds md e = true ∧ e.on = i) :
    ∀ (fuel : Nat) (listed : Array Bool) (a : Act) (w : World),
      (∀ j oj, ops[j]? = some oj → j ≠ i → listed.getD j true = false → (∀ e ∈ oj.after, Region.binds md e = true → e.on ≠ i) → oi.apart ops oj = true) →
      i ∈ Region.ready md ops listed → YieldsIf P ops S oi v a → S w →
      wpAnyG P md ops Q S ex fuel (listed.setIfInBounds i true) (a.put oi.dst v) w → wpAnyG P md ops Q S ex (fuel + 1) listed a w := by
  intro fuel
  induction fuel with
  | zero =>
    intro listed a w _ hr hy hS H
    refine ⟨fun h => (by rw [h] at hr; cases hr), fun j hj => ?_⟩
    by_cases hji : j = i
    · subst hji; exact hy.wpOp hi hS ⟨.inr id, H⟩
    · have := ready_mono hj hji
      rw [H.1] at this
      cases this
  | succ fuel ih =>
    intro listed a w hfree hr hy hS H
    refine ⟨fun h => (by rw [h] at hr; cases hr), fun j hj => ?_⟩
    by_cases hji : j = i
    · subst hji; exact hy.wpOp hi hS ⟨.inr id, H⟩
    · have h1 := H.2 j (ready_mono hj hji)
      obtain ⟨hjun, oj, hoj, hall⟩ := mem_ready.1 hj
      have hnot : ∀ e ∈ oj.after, Region.binds md e = true → e.on ≠ i := fun e he hb heq => by
        have h1 := hall e he hb
        have h0 := (mem_ready.1 hr).1
        rw [heq] at h1
        rcases Nat.lt_or_ge i listed.size with h' | h'
        · simp [h'] at h0 h1; rw [h0] at h1; cases h1
        · simp [Array.getElem?_eq_none h'] at h1
      have hjex : ex j = true → False := fun he => by
        obtain ⟨e, h2, h3, h4⟩ := hex j oj hoj he
        exact hnot e h2 h3 h4
      have h2 := wpOp_putIf hoj (hfree j oj hoj hji hjun hnot) (fun cs b => hsel i oi cs b hi) (fun cs b => hsel j oj cs b hoj) hQ hy h1
      have hfree' : ∀ k ok, ops[k]? = some ok → k ≠ i → (listed.setIfInBounds j true).getD k true = false →
          (∀ e ∈ ok.after, Region.binds md e = true → e.on ≠ i) → oi.apart ops ok = true := fun k ok hk hki hun hno => by
        refine hfree k ok hk hki ?_ hno
        by_cases hjk : j = k
        · subst hjk; exact hjun
        · rw [getD_set_ne true hjk] at hun; exact hun
      refine wpOp_mono (fun a' w' h3 => ?_) h2
      have hSw : S w' := h3.2.1.resolve_left (fun he => hjex he) hS
      refine ⟨.inr (fun _ => hSw), ih (listed.setIfInBounds j true) a' w' hfree' (ready_mono hr (Ne.symm hji)) h3.1 hSw ?_⟩
      rw [Array.setIfInBounds_comm _ _ hji]
      exact h3.2.2
theorem wpAnyG_firstW {i : Nat} {oi : Oper} {v : Value} (hi : ops[i]? = some oi) (hsel : ∀ (j : Nat) (o : Oper) cs b, ops[j]? = some o → o.op ≠ .select cs b)
    (hQ : ∀ c a w, Q (.panic c) (a.put oi.dst v) w → Q (.panic c) a w) :
    ∀ (fuel : Nat) (listed : Array Bool) (a : Act) (w : World),
      (∀ j oj, ops[j]? = some oj → j ≠ i → listed.getD j true = false → (∀ e ∈ oj.after, Region.binds md e = true → e.on ≠ i) → oi.apart ops oj = true) →
      i ∈ Region.ready md ops listed → YieldsIf P ops (fun _ => True) oi v a →
      wpAnyG P md ops Q S ex fuel (listed.setIfInBounds i true) (a.put oi.dst v) w → wpAnyG P md ops Q S ex (fuel + 1) listed a w := by
  intro fuel
  induction fuel with
  | zero =>
    intro listed a w _ hr hy H
    refine ⟨fun h => (by rw [h] at hr; cases hr), fun j hj => ?_⟩
    by_cases hji : j = i
    · subst hji; exact hy.wpOp hi trivial ⟨.inr id, H⟩
    · have := ready_mono hj hji
      rw [H.1] at this
      cases this
  | succ fuel ih =>
    intro listed a w hfree hr hy H
    refine ⟨fun h => (by rw [h] at hr; cases hr), fun j hj => ?_⟩
    by_cases hji : j = i
    · subst hji; exact hy.wpOp hi trivial ⟨.inr id, H⟩
    · have h1 := H.2 j (ready_mono hj hji)
      obtain ⟨hjun, oj, hoj, hall⟩ := mem_ready.1 hj
      have hnot : ∀ e ∈ oj.after, Region.binds md e = true → e.on ≠ i := fun e he hb heq => by
        have h1 := hall e he hb
        have h0 := (mem_ready.1 hr).1
        rw [heq] at h1
        rcases Nat.lt_or_ge i listed.size with h' | h'
        · simp [h'] at h0 h1; rw [h0] at h1; cases h1
        · simp [Array.getElem?_eq_none h'] at h1
      have h2 := wpOp_putIf hoj (hfree j oj hoj hji hjun hnot) (fun cs b => hsel i oi cs b hi) (fun cs b => hsel j oj cs b hoj) hQ hy h1
      have hfree' : ∀ k ok, ops[k]? = some ok → k ≠ i → (listed.setIfInBounds j true).getD k true = false →
          (∀ e ∈ ok.after, Region.binds md e = true → e.on ≠ i) → oi.apart ops ok = true := fun k ok hk hki hun hno => by
        refine hfree k ok hk hki ?_ hno
        by_cases hjk : j = k
        · subst hjk; exact hjun
        · rw [getD_set_ne true hjk] at hun; exact hun
      refine wpOp_mono (fun a' w' h3 => ?_) h2
      refine ⟨h3.2.1, ih (listed.setIfInBounds j true) a' w' hfree' (ready_mono hr (Ne.symm hji)) h3.1 ?_⟩
      rw [Array.setIfInBounds_comm _ _ hji]
      exact h3.2.2
theorem wpAnyG_takeW {i : Nat} {oi : Oper} {v : Value} {fuel : Nat} {listed : Array Bool} {a : Act} {w : World} (hi : ops[i]? = some oi)
    (hs : Region.noSelect ops = true) (hf : Region.free md ops listed i = true) (hr : (Region.ready md ops listed).contains i = true)
    (hQ : ∀ c a w, Q (.panic c) (a.put oi.dst v) w → Q (.panic c) a w) (hy : YieldsIf P ops (fun _ => True) oi v a)
    (h : wpAnyG P md ops Q S ex fuel (listed.setIfInBounds i true) (a.put oi.dst v) w) : wpAnyG P md ops Q S ex (fuel + 1) listed a w :=
  wpAnyG_firstW hi (Region.noSelect_spec hs) hQ fuel listed a w (Region.free_spec hi hf) (by simpa using hr) hy h
theorem waitsB_spec {i : Nat} (h : waitsB md ops ex i = true) : ∀ j oj, ops[j]? = some oj → ex j = true → ∃ e ∈ oj.after, Region.binds md e = true ∧ e.on = i := by
  intro j oj hj he
  have h1 := (List.all_eq_true.1 h) j (List.mem_range.2 (Array.getElem?_eq_some_iff.1 hj).1)
  rw [hj, he] at h1
  simp only [Bool.not_true, Bool.false_or] at h1
  obtain ⟨k, hk, h2⟩ := Array.any_eq_true.1 h1
  simp only [Bool.and_eq_true, beq_iff_eq] at h2
  exact ⟨oj.after[k], Array.getElem_mem hk, h2.1, h2.2⟩
theorem wpAnyG_take {i : Nat} {oi : Oper} {v : Value} {fuel : Nat} {listed : Array Bool} {a : Act} {w : World} (hi : ops[i]? = some oi)
    (hs : Region.noSelect ops = true) (hf : Region.free md ops listed i = true) (hr : (Region.ready md ops listed).contains i = true) (hw : waitsB md ops ex i = true)
    (hQ : ∀ c a w, Q (.panic c) (a.put oi.dst v) w → Q (.panic c) a w) (hS : S w) (hy : YieldsIf P ops S oi v a)
    (h : wpAnyG P md ops Q S ex fuel (listed.setIfInBounds i true) (a.put oi.dst v) w) : wpAnyG P md ops Q S ex (fuel + 1) listed a w :=
  wpAnyG_first hi (Region.noSelect_spec hs) hQ (waitsB_spec hw) fuel listed a w (Region.free_spec hi hf) (by simpa using hr) hy hS h
theorem wpAnyG_one {i : Nat} {o : Oper} {fuel : Nat} {listed : Array Bool} {a : Act} {w : World} (hr : Region.ready md ops listed = [i]) (ho : ops[i]? = some o)
    (hS : S w) (h : ∀ K' : Act → World → Prop, Shut (∀ a w, (ex i = true ∨ S w) → wpAnyG P md ops Q S ex fuel (listed.setIfInBounds i true) a w → K' a w) → if Region.wanted o (yielded ops a.tmps) = true then Oper.wp P o a w K' Q else K' (a.put o.dst undef) w) : wpAnyG P md ops Q S ex (fuel + 1) listed a w :=
  ⟨fun h0 => (by rw [hr] at h0; cases h0), fun j hj => by
    rw [hr] at hj
    obtain rfl : j = i := by simpa using hj
    exact wpOp_step ho (fun K' hK => h K' (fun a w h1 h2 => hK a w ⟨h1.imp id (fun h3 _ => h3), h2⟩))⟩
theorem wpAnyG_done {listed : Array Bool} {a : Act} {w : World} (hr : Region.ready md ops listed = []) (h : Q .normal a w) : ∀ fuel, wpAnyG P md ops Q S ex fuel listed a w
  | 0 => ⟨hr, h⟩
  | _ + 1 => ⟨fun _ => h, by rw [hr]; simp⟩
theorem wp_region_G {id : Nat} {a : Act} {w : World} (S : World → Prop) (ex : Nat → Bool) (hm : P.follows .mixedOrders = true) (hS : S w.drew)
    (h : wpAnyG P .any ops Q S ex ops.size (Array.replicate ops.size false) a w.drew) : (Code.region id ops true).wp P Q a w :=
  wp_region_any hm (wpAny_of_G _ _ _ _ h)
end
end
section
variable {P : Program} {md : Region.Mode} {ops : Array Oper} {Q : Exit → Act → World → Prop} {S : World → Prop} {ex : Nat → Bool} {oi : Oper} {fuel : Nat} {listed : Array Bool} {a : Act} {w : World}
theorem tW (v : Value) (i : Nat) (hi : ops[i]? = some oi) (h2 : ∀ w, True → (execOp a.eval oi).run P w = .ok (.value v) w) (h : wpAnyG P md ops Q S ex fuel (listed.setIfInBounds i true) (a.put oi.dst v) w)
    (hs : Region.noSelect ops = true := by kernel_rfl) (hf : Region.free md ops listed i = true := by kernel_rfl) (hr : (Region.ready md ops listed).contains i = true := by kernel_rfl)
    (hQ : ∀ c a w, Q (.panic c) (a.put oi.dst v) w → Q (.panic c) a w := by exact fun _ _ _ h => h) (h1 : Region.wanted oi (yielded ops a.tmps) = true := by rfl) : wpAnyG P md ops Q S ex (fuel + 1) listed a w := wpAnyG_takeW hi hs hf hr hQ (.inl ⟨h1, h2⟩) h
theorem tL (v : Value) (i : Nat) (hi : ops[i]? = some oi) (hS : S w) (h2 : ∀ w, S w → (execOp a.eval oi).run P w = .ok (.value v) w) (h : wpAnyG P md ops Q S ex fuel (listed.setIfInBounds i true) (a.put oi.dst v) w)
    (hs : Region.noSelect ops = true := by kernel_rfl) (hf : Region.free md ops listed i = true := by kernel_rfl) (hr : (Region.ready md ops listed).contains i = true := by kernel_rfl) (hw : waitsB md ops ex i = true := by kernel_rfl)
    (hQ : ∀ c a w, Q (.panic c) (a.put oi.dst v) w → Q (.panic c) a w := by exact fun _ _ _ h => h) (h1 : Region.wanted oi (yielded ops a.tmps) = true := by rfl) : wpAnyG P md ops Q S ex (fuel + 1) listed a w := wpAnyG_take hi hs hf hr hw hQ hS (.inl ⟨h1, h2⟩) h
end
section
open Go Go.RowKit
section
variable {P : Program} {ops : Array Oper} {Q : Exit → Act → World → Prop} {md : Region.Mode} {S : World → Prop} {ex : Nat → Bool}
def dcB (md : Region.Mode) (ops : Array Oper) (listed : Array Bool) : Bool :=
  (List.range ops.size).all fun j => !listed.getD j false || (match ops[j]? with | some o => o.after.all fun e => !Region.binds md e || listed.getD e.on false | none => true)
def DC (md : Region.Mode) (ops : Array Oper) (listed : Array Bool) : Prop :=
  ∀ j o, ops[j]? = some o → listed.getD j false = true → ∀ e ∈ o.after, Region.binds md e = true → listed.getD e.on false = true
theorem dcB_spec {listed : Array Bool} (h : dcB md ops listed = true) : DC md ops listed := by
  intro j o hj hl e he hb
  have h1 := (List.all_eq_true.1 h) j (List.mem_range.2 (Array.getElem?_eq_some_iff.1 hj).1)
  rw [hj, hl] at h1
  simp only [Bool.not_true, Bool.false_or, Array.all_eq_true_iff_forall_mem, Bool.or_eq_true, Bool.not_eq_true'] at h1
  rcases h1 e he with h2 | h2
  · rw [hb] at h2; cases h2
  · exact h2
theorem getD_tf {listed : Array Bool} {j : Nat} (h : listed.getD j false = true) : j < listed.size ∧ listed.getD j true = true := by
  rcases Nat.lt_or_ge j listed.size with h1 | h1
  · simp [Array.getD, h1] at h ⊢
    exact h
  · simp [Array.getD, Nat.not_lt.2 h1] at h
theorem DC.set {listed : Array Bool} {i : Nat} (h : DC md ops listed) (hr : i ∈ Region.ready md ops listed) : DC md ops (listed.setIfInBounds i true) := by
  obtain ⟨_, o, ho, hall⟩ := mem_ready.1 hr
  intro j oj hj hl e he hb
  by_cases hji : j = i
  · subst hji
    rw [ho] at hj
    cases hj
    exact getD_set_true (hall e he hb)
  · refine getD_set_true (h j oj hj ?_ e he hb)
    rw [getD_set_ne false (Ne.symm hji)] at hl
    exact hl
def reachL (md : Region.Mode) (ops : Array Oper) (i : Nat) : Nat → List Bool
  | 0 => []
  | j + 1 => (fun r : List Bool => (j == i || (match ops[j]? with | some o => o.after.any fun e => Region.binds md e && (decide (e.on < j) && r.getD (j - 1 - e.on) false) | none => false)) :: r) (reachL md ops i j)
theorem reachL_len (i : Nat) : ∀ n, (reachL md ops i n).length = n
  | 0 => rfl
  | n + 1 => by simp only [reachL, List.length_cons, reachL_len i n]
theorem reachL_listed {listed : Array Bool} {i : Nat} (hdc : DC md ops listed) (n : Nat) : ∀ k, k < n → (reachL md ops i n).getD (n - 1 - k) false = true → listed.getD k false = true → listed.getD i false = true := by
  induction n with
  | zero => intro k hk; omega
  | succ n ih =>
    intro k hk hr hl
    by_cases hkn : k = n
    · subst hkn
      simp only [reachL, Nat.add_sub_cancel, Nat.sub_self, List.getD_cons_zero, Bool.or_eq_true, beq_iff_eq] at hr
      rcases hr with rfl | hr
      · exact hl
      · cases ho : ops[k]? with
        | none => rw [ho] at hr; cases hr
        | some o =>
          rw [ho] at hr
          obtain ⟨e, he, h2⟩ := Array.any_eq_true'.1 hr
          simp only [Bool.and_eq_true, decide_eq_true_eq] at h2
          exact ih e.on h2.2.1 h2.2.2 (hdc k o ho hl e he h2.1)
    · have h1 : n + 1 - 1 - k = (n - 1 - k) + 1 := by omega
      rw [h1] at hr
      simp only [reachL, List.getD_cons_succ] at hr
      exact ih k (by omega) hr hl
def waitsR (md : Region.Mode) (ops : Array Oper) (ex : Nat → Bool) (i : Nat) : Bool :=
  (fun r : List Bool => (List.range ops.size).all fun j => !ex j || (j != i && r.getD (ops.size - 1 - j) false)) (reachL md ops i ops.size)
theorem waitsR_spec {listed : Array Bool} {i : Nat} (h : waitsR md ops ex i = true) (hdc : DC md ops listed) : ∀ j, j ∈ Region.ready md ops listed → ex j = true → listed.getD i false = true := by
  intro j hj he
  obtain ⟨_, o, ho, hall⟩ := mem_ready.1 hj
  have hlt := (Array.getElem?_eq_some_iff.1 ho).1
  have h1 := (List.all_eq_true.1 h) j (List.mem_range.2 hlt)
  simp only [he, Bool.not_true, Bool.false_or, Bool.and_eq_true, bne_iff_ne] at h1
  have hr := h1.2
  have hj2 : ops.size - 1 - j < (reachL md ops i ops.size).length := by rw [reachL_len]; omega
  -- the head case by hand: j is not listed, but what it waits for is
  have key : ∀ n, j < n → n ≤ ops.size → (reachL md ops i n).getD (n - 1 - j) false = true → listed.getD i false = true := by
    intro n
    induction n with
    | zero => intro h0; omega
    | succ n ih =>
      intro hjn hn hr
      by_cases hkn : j = n
      · subst hkn
        simp only [reachL, Nat.add_sub_cancel, Nat.sub_self, List.getD_cons_zero, Bool.or_eq_true, beq_iff_eq] at hr
        rcases hr with h0 | hr
        · exact absurd h0 h1.1
        · rw [ho] at hr
          obtain ⟨e, he2, h2⟩ := Array.any_eq_true'.1 hr
          simp only [Bool.and_eq_true, decide_eq_true_eq] at h2
          exact reachL_listed hdc j e.on h2.2.1 h2.2.2 (hall e he2 h2.1)
      · have h1 : n + 1 - 1 - j = (n - 1 - j) + 1 := by omega
        rw [h1] at hr
        simp only [reachL, List.getD_cons_succ] at hr
        exact ih (by omega) (by omega) hr
  exact key ops.size hlt (Nat.le_refl _) hr
theorem wpAnyG_firstT {i : Nat} {oi : Oper} {v : Value} (hi : ops[i]? = some oi) (hsel : ∀ (j : Nat) (o : Oper) cs b, ops[j]? = some o → o.op ≠ .select cs b)
    (hQ : ∀ c a w, Q (.panic c) (a.put oi.dst v) w → Q (.panic c) a w)
    (hex : ∀ listed, DC md ops listed → ∀ j, j ∈ Region.ready md ops listed → ex j = true → listed.getD i false = true) :
    ∀ (fuel : Nat) (listed : Array Bool) (a : Act) (w : World), DC md ops listed →
      (∀ j oj, ops[j]? = some oj → j ≠ i → listed.getD j true = false → (∀ e ∈ oj.after, Region.binds md e = true → e.on ≠ i) → oi.apart ops oj = true) →
      i ∈ Region.ready md ops listed → YieldsIf P ops S oi v a → S w →
      wpAnyG P md ops Q S ex fuel (listed.setIfInBounds i true) (a.put oi.dst v) w → wpAnyG P md ops Q S ex (fuel + 1) listed a w := by
  intro fuel
  induction fuel with
  | zero =>
    intro listed a w hdc _ hr hy hS H
    refine ⟨fun h => (by rw [h] at hr; cases hr), fun j hj => ?_⟩
    by_cases hji : j = i
    · subst hji; exact hy.wpOp hi hS ⟨.inr id, H⟩
    · have := ready_mono hj hji
      rw [H.1] at this
      cases this
  | succ fuel ih =>
    intro listed a w hdc hfree hr hy hS H
    refine ⟨fun h => (by rw [h] at hr; cases hr), fun j hj => ?_⟩
    by_cases hji : j = i
    · subst hji; exact hy.wpOp hi hS ⟨.inr id, H⟩
    · have h1 := H.2 j (ready_mono hj hji)
      obtain ⟨hjun, oj, hoj, hall⟩ := mem_ready.1 hj
      have hun := (mem_ready.1 hr).1
      have hnl : ¬ listed.getD i false = true := fun h => by
        have := (getD_tf h).2
        rw [hun] at this
        cases this
      have hnot : ∀ e ∈ oj.after, Region.binds md e = true → e.on ≠ i := fun e he hb heq => by
        have h1 := hall e he hb
        rw [heq] at h1
        exact hnl h1
      have h2 := wpOp_putIf hoj (hfree j oj hoj hji hjun hnot) (fun cs b => hsel i oi cs b hi) (fun cs b => hsel j oj cs b hoj) hQ hy h1
      have hfree' : ∀ k ok, ops[k]? = some ok → k ≠ i → (listed.setIfInBounds j true).getD k true = false →
          (∀ e ∈ ok.after, Region.binds md e = true → e.on ≠ i) → oi.apart ops ok = true := fun k ok hk hki hun hno => by
        refine hfree k ok hk hki ?_ hno
        by_cases hjk : j = k
        · subst hjk; exact hjun
        · rw [getD_set_ne true hjk] at hun; exact hun
      refine wpOp_mono (fun a' w' h3 => ?_) h2
      have hSw : S w' := h3.2.1.resolve_left (fun he => hnl (hex listed hdc j hj he)) hS
      refine ⟨.inr (fun _ => hSw), ih (listed.setIfInBounds j true) a' w' (hdc.set hj) hfree' (ready_mono hr (Ne.symm hji)) h3.1 hSw ?_⟩
      rw [Array.setIfInBounds_comm _ _ hji]
      exact h3.2.2
end
def doneA (n : Nat) (rest : List Nat) : Array Bool := ((List.range n).map fun i => !rest.contains i).toArray
def wpO (P : Program) (ops : Array Oper) (Q : Exit → Act → World → Prop) (S : World → Prop) (ex : List Nat) (rest : List Nat) (a : Act) (w : World) : Prop :=
  wpAnyG P .any ops Q S (fun i => ex.contains i) rest.length (doneA ops.size rest) a w
def wless (o : Oper) : Bool :=
  match o.op with
  | .move _ | .assign _ | .pick _ _ _ | .build _ _ | .nilCheck _ | .binOp _ _ _ _ _ | .unOp _ _ _ | .convert _ _ _ | .slice _ _ _ _ _ | .fieldAddr _ _ _ | .field _ _ _ | .indexAddr _ _ _ | .index _ _ _ | .extract _ _ => true
  | .call c => match c.callee with | .builtin .len | .builtin .cap | .builtin .min | .builtin .max => true | _ => false
  | _ => false
def isLoad (o : Oper) : Bool := match o.op with | .load _ _ => true | _ => false
section
variable {P : Program} {ops : Array Oper} {Q : Exit → Act → World → Prop} {S : World → Prop} {w : World} {ex rest : List Nat} {a a' : Act} {i : Nat} {oi : Oper} {v : Value}
theorem drewH (W : World) : W.drew.heap = W.heap := rfl
theorem belowC {W w' : World} (h : Below W.heap.size W w') {b o : Nat} (hb : b < W.heap.size) : w'.cell? ⟨b, o, none⟩ = W.cell? ⟨b, o, none⟩ := h.cell (p := ⟨b, o, none⟩) hb
theorem wp_region_O {id : Nat} (S : World → Prop) (ex rest : List Nat) (h : wpO P ops Q S ex rest a w.drew) (hm : P.follows .mixedOrders = true := by kernel_rfl)
    (hl : rest.length = ops.size := by kernel_rfl) (hr : doneA ops.size rest = Array.replicate ops.size false := by kernel_rfl) : (Code.region id ops true).wp P Q a w := by
  refine wp_region_any hm (wpAny_of_G (S := S) (ex := fun i => ex.contains i) _ _ _ _ ?_)
  unfold wpO at h
  rw [hl, hr] at h
  exact h
theorem wp_region_B {id : Nat} (ex rest : List Nat) (h : wpO P ops Q (Below w.heap.size w) ex rest a w.drew) (hm : P.follows .mixedOrders = true := by kernel_rfl)
    (hl : rest.length = ops.size := by kernel_rfl) (hr : doneA ops.size rest = Array.replicate ops.size false := by kernel_rfl) : (Code.region id ops true).wp P Q a w :=
  wp_region_O (Below w.heap.size w) ex rest h hm hl hr
theorem oW (hi : ops[i]? = some oi := by rfl) (hk : wless oi = true := by rfl) (h1 : Region.wanted oi (yielded ops a.tmps) = true := by rfl)
    (h2 : ∀ w, (execOp a.eval oi).run P w = .ok (.value v) w := by intro w; go_simp; try rfl)
    (ha : a.put oi.dst v = a' := by (try simp only [Act.put,j1,j2,j3,j4,j5,j6]); try rfl)
    (h : wpO P ops Q S ex rest a' w)
    (hs : Region.noSelect ops = true := by kernel_rfl) (hf : Region.free .any ops (doneA ops.size (i :: rest)) i = true := by kernel_rfl) (hr : (Region.ready .any ops (doneA ops.size (i :: rest))).contains i = true := by kernel_rfl)
    (hd : (doneA ops.size (i :: rest)).setIfInBounds i true = doneA ops.size rest := by kernel_rfl)
    (hQ : ∀ c a w, Q (.panic c) (a.put oi.dst v) w → Q (.panic c) a w := by exact fun _ _ _ h => h) : wpO P ops Q S ex (i :: rest) a w := by
  subst ha
  unfold wpO at h ⊢
  rw [← hd] at h
  exact wpAnyG_takeW hi hs hf hr hQ (.inl ⟨h1, fun w _ => h2 w⟩) h
theorem oL (hi : ops[i]? = some oi := by rfl) (hk : isLoad oi = true := by rfl) (h1 : Region.wanted oi (yielded ops a.tmps) = true := by rfl)
    (hS : S w := by first | exact (Below.refl _ _).drew | assumption)
    (h2 : ∀ w', S w' → (execOp a.eval oi).run P w' = .ok (.value v) w' := by intro w' hS; (try have hc := fun b o => belowC hS (b := b) (o := o)); (try simp only [drewH] at hc); (try dsimp only at hS); go_simp; try rfl)
    (ha : a.put oi.dst v = a' := by (try simp only [Act.put,j1,j2,j3,j4,j5,j6]); try rfl)
    (h : wpO P ops Q S ex rest a' w)
    (hw : waitsR .any ops (fun i => ex.contains i) i = true := by kernel_rfl) (hdc : dcB .any ops (doneA ops.size (i :: rest)) = true := by kernel_rfl)
    (hs : Region.noSelect ops = true := by kernel_rfl) (hf : Region.free .any ops (doneA ops.size (i :: rest)) i = true := by kernel_rfl) (hr : (Region.ready .any ops (doneA ops.size (i :: rest))).contains i = true := by kernel_rfl)
    (hd : (doneA ops.size (i :: rest)).setIfInBounds i true = doneA ops.size rest := by kernel_rfl)
    (hQ : ∀ c a w, Q (.panic c) (a.put oi.dst v) w → Q (.panic c) a w := by exact fun _ _ _ h => h) : wpO P ops Q S ex (i :: rest) a w := by
  subst ha
  unfold wpO at h ⊢
  rw [← hd] at h
  exact wpAnyG_firstT hi (Region.noSelect_spec hs) hQ (fun l hl => waitsR_spec hw hl) rest.length _ a w (dcB_spec hdc) (Region.free_spec hi hf) (by simpa using hr) (.inl ⟨h1, h2⟩) hS h
theorem oO (hi : ops[i]? = some oi := by rfl) (hr : Region.ready .any ops (doneA ops.size (i :: rest)) = [i] := by kernel_rfl)
    (hd : (doneA ops.size (i :: rest)).setIfInBounds i true = doneA ops.size rest := by kernel_rfl)
    (hS : ex.contains i = true ∨ S w := by first | exact Or.inl rfl | exact Or.inr (Below.refl _ _).drew | exact Or.inr (by assumption))
    (h : ∀ K' : Act → World → Prop, Shut (∀ a w, (ex.contains i = true ∨ S w) → wpO P ops Q S ex rest a w → K' a w) → if Region.wanted oi (yielded ops a.tmps) = true then Oper.wp P oi a w K' Q else K' (a.put oi.dst undef) w) : wpO P ops Q S ex (i :: rest) a w := by
  unfold wpO at h ⊢
  rw [← hd] at h
  refine ⟨fun h0 => (by rw [hr] at h0; cases h0), fun j hj => ?_⟩
  rw [hr] at hj
  obtain rfl : j = i := by simpa using hj
  refine wpOp_step hi (fun K' hK => h K' (fun a w h1 h2 => hK a w ⟨?_, h2⟩))
  rcases h1 with h1 | h1
  · exact .inl h1
  · exact .inr fun _ => h1
theorem oN {K' : Act → World → Prop} (hK : Shut (∀ a w, (ex.contains i = true ∨ S w) → wpO P ops Q S ex rest a w → K' a w))
    (hS : ex.contains i = true ∨ S w := by first | exact Or.inl rfl | exact Or.inr (Below.refl _ _).drew | exact Or.inr (by assumption))
    (ha : a = a' := by (try simp only [Act.put,j1,j2,j3,j4,j5,j6]); try rfl)
    (h : wpO P ops Q S ex rest a' w) : K' a w := by
  subst ha
  exact hK.out a w hS h
theorem oB {rs : List Nat} (hr : Region.ready .any ops (doneA ops.size rest) = rs) (hne : rs ≠ [])
    (h : ∀ j ∈ rs, ∃ oi rest', ops[j]? = some oi ∧ (doneA ops.size rest).setIfInBounds j true = doneA ops.size rest' ∧ rest.length = rest'.length + 1 ∧ ∀ K' : Act → World → Prop, Shut (∀ a w, (ex.contains j = true ∨ S w) → wpO P ops Q S ex rest' a w → K' a w) → if Region.wanted oi (yielded ops a.tmps) = true then Oper.wp P oi a w K' Q else K' (a.put oi.dst undef) w) (hS : S w := by first | exact (Below.refl _ _).drew | assumption) : wpO P ops Q S ex rest a w := by
  unfold wpO
  obtain ⟨k, hk⟩ : ∃ k, rest.length = k + 1 := by
    obtain ⟨j, hj⟩ := List.exists_mem_of_ne_nil rs hne
    obtain ⟨_, r, _, _, hl, _⟩ := h j hj
    exact ⟨_, hl⟩
  rw [hk]
  refine ⟨fun h0 => absurd (hr.symm.trans h0) hne, fun j hj => ?_⟩
  rw [hr] at hj
  obtain ⟨oi, r, hi, hd, hl, h2⟩ := h j hj
  refine wpOp_step hi (fun K' hK => h2 K' (fun a w h1 h3 => hK a w ⟨?_, ?_⟩))
  · rcases h1 with h1 | h1
    · exact .inl h1
    · exact .inr fun _ => h1
  · unfold wpO at h3
    rw [hd]
    obtain rfl : k = r.length := by omega
    exact h3
theorem oD (h : Q .normal a w) (hr : Region.ready .any ops (doneA ops.size []) = [] := by kernel_rfl) : wpO P ops Q S ex [] a w := ⟨hr, h⟩
end
end
section
open Go.RowKit
def Sl {α : Type} (enc : α → List Value) (sz : Nat) (w : World) (a : Option Addr) (xs : List α) : Prop :=
  xs = [] ∨ ∃ b off, a = some ⟨b, off, none⟩ ∧ b < w.heap.size ∧ ∀ i (h : i < xs.length) j, j < sz → w.cell? ⟨b, off + i * sz + j, none⟩ = (enc xs[i])[j]?
def intE (n : Int) : List Value := [.int .i64 n]
def strE (s : ByteArray) : List Value := [.string s]
def byteE (b : UInt8) : List Value := [.int .u8 b.toNat]
section
variable {α : Type} {enc : α → List Value} {sz : Nat} {w w' : World} {a : Option Addr} {xs : List α}
theorem Sl.nil : Sl enc sz w a [] := .inl rfl
theorem Sl.at (h : Sl enc sz w a xs) {i : Nat} (hi : i < xs.length) : ∃ b off, a = some ⟨b, off, none⟩ ∧ b < w.heap.size ∧ ∀ i (h : i < xs.length) j, j < sz → w.cell? ⟨b, off + i * sz + j, none⟩ = (enc xs[i])[j]? := by
  rcases h with rfl | h
  · simp at hi
  · exact h
theorem Sl.below {B : Nat} (h : Sl enc sz w a xs) (hb : Below B w w') (hB : ∀ b off, a = some ⟨b, off, none⟩ → b < B) : Sl enc sz w' a xs := by
  rcases h with h | ⟨b, off, rfl, hlt, hc⟩
  · exact .inl h
  · exact .inr ⟨b, off, rfl, Nat.lt_of_lt_of_le hlt hb.size, fun i hi j hj => by rw [hb.cell (p := ⟨b, _, none⟩) (hB b off rfl)]; exact hc i hi j hj⟩
theorem Sl.keep (h : Sl enc sz w a xs) (hb : Below w.heap.size w w') : Sl enc sz w' a xs := by
  rcases h with h | ⟨b, off, rfl, hlt, hc⟩
  · exact .inl h
  · exact .inr ⟨b, off, rfl, Nat.lt_of_lt_of_le hlt hb.size, fun i hi j hj => by rw [hb.cell (p := ⟨b, _, none⟩) hlt]; exact hc i hi j hj⟩
theorem Sl.grown {row : Option Nat} (h : Sl enc sz w a xs) (hg : w.grownBy w' row) (hne : ∀ b off, a = some ⟨b, off, none⟩ → some b ≠ row) : Sl enc sz w' a xs := by
  rcases h with h | ⟨b, off, rfl, hlt, hc⟩
  · exact .inl h
  · refine .inr ⟨b, off, rfl, Nat.lt_of_lt_of_le hlt hg.size, fun i hi j hj => ?_⟩
    rw [World.cell?_of_block (a := ⟨b, _, none⟩) (hg.block b hlt (hne b off rfl))]
    exact hc i hi j hj
theorem Sl.alloc (h : Sl enc sz w a xs) (o : Obj) : Sl enc sz (w.alloc o) a xs := h.keep ((Below.refl _ _).alloc (Nat.le_refl _) _)
theorem Sl.drew (h : Sl enc sz w a xs) : Sl enc sz w.drew a xs := h.keep ((Below.refl _ _).drew)
theorem below_drewN (w : World) (n B : Nat) : Below B w (w.drewN n) := ⟨rfl, rfl, rfl, Nat.le_refl _, fun _ _ => rfl⟩
theorem Sl.drewN (h : Sl enc sz w a xs) (n : Nat) : Sl enc sz (w.drewN n) a xs := h.keep (below_drewN w n _)
theorem flat_get (enc : α → List Value) (sz : Nat) (hs : ∀ x, (enc x).length = sz) : ∀ (xs : List α) (i : Nat) (h : i < xs.length) (j : Nat), j < sz → (xs.flatMap enc)[i * sz + j]? = (enc xs[i])[j]?
  | [], i, h, _, _ => by simp at h
  | x :: xs, 0, _, j, hj => by
    simp only [List.flatMap_cons, Nat.zero_mul, Nat.zero_add, List.getElem_cons_zero]
    rw [List.getElem?_append_left (by rw [hs]; exact hj)]
  | x :: xs, i + 1, h, j, hj => by
    simp only [List.flatMap_cons, List.getElem_cons_succ]
    rw [List.getElem?_append_right (by rw [hs, Nat.add_mul]; omega), hs, show (i + 1) * sz + j - sz = i * sz + j by rw [Nat.add_mul]; omega]
    exact flat_get enc sz hs xs i (by simpa using h) j hj
theorem flat_length (enc : α → List Value) (sz : Nat) (hs : ∀ x, (enc x).length = sz) (xs : List α) : (xs.flatMap enc).length = xs.length * sz := by
  induction xs with
  | nil => simp
  | cons x xs ih => simp [List.flatMap_cons, ih, hs, Nat.add_mul, Nat.add_comm]
theorem Sl.of_own {base : Nat} {e : TypeId} {n cap : Nat} (hs : ∀ x, (enc x).length = sz) (h : w.ownsRow base e sz (.slice a n cap) xs.length (xs.flatMap enc)) : Sl enc sz w a xs := by
  by_cases hx : xs = []
  · exact .inl hx
  rcases h.2 with ⟨hv, hn⟩ | ⟨g, cap', cur, hv, hb, hg, hle, hm, hsz, ht⟩
  · exact .inl (List.eq_nil_of_length_eq_zero hn)
  · simp only [Value.slice.injEq] at hv
    obtain ⟨rfl, rfl, rfl⟩ := hv
    refine .inr ⟨g, 0, rfl, (Array.getElem?_eq_some_iff.1 hg).1, fun i hi j hj => ?_⟩
    have hown := World.ownsRow.cells h (g := g) rfl
    have hf := flat_get enc sz hs xs i hi j hj
    have hlt : j < (enc xs[i]).length := by rw [hs]; exact hj
    rw [List.getElem?_eq_getElem hlt] at hf ⊢
    have := hown _ _ hf
    rw [Nat.zero_add]
    have hadd : (⟨g, 0, none⟩ : Addr).add (i * sz + j) = ⟨g, i * sz + j, none⟩ := by unfold Addr.add; split <;> simp_all
    rwa [hadd] at this
theorem madeCells_flat (enc : α → List Value) (sz : Nat) (zero : α) (z : Array Value) (hz : z.toList = enc zero) (hs : ∀ x, (enc x).length = sz) (n : Nat) :
    (madeCells z (n * sz)).toList = (List.replicate n zero).flatMap enc := by
  have hzs : z.size = sz := by rw [← Array.length_toList, hz, hs]
  apply List.ext_getElem?
  intro j
  by_cases hj : j < n * sz
  · have hsz : 0 < sz := by
      rcases Nat.eq_zero_or_pos sz with h | h
      · rw [h] at hj; simp at hj
      · exact h
    have hq : j / sz < n := Nat.div_lt_of_lt_mul (by rw [Nat.mul_comm]; exact hj)
    have hr : j % sz < sz := Nat.mod_lt _ hsz
    have hj' : j = j / sz * sz + j % sz := by rw [Nat.mul_comm]; exact (Nat.div_add_mod j sz).symm
    have h1 := flat_get enc sz hs (List.replicate n zero) (j / sz) (by simpa using hq) (j % sz) hr
    rw [← hj'] at h1
    rw [h1]
    simp only [List.getElem_replicate]
    rw [← hz]
    simp only [madeCells, Array.toList_map, Array.toList_range, List.getElem?_map, List.getElem?_range hj, Option.map_some, hzs]
    have hr' : j % sz < z.size := by omega
    rw [getElem!_pos z (j % sz) hr']
    simp [hr']
  · rw [List.getElem?_eq_none (by simp [size_madeCells]; omega), List.getElem?_eq_none (by rw [flat_length enc sz hs]; simp; omega)]
theorem flat_set1 (enc : α → List Value) (hs : ∀ x, (enc x).length = 1) (ys : List α) (k : Nat) (hk : k < ys.length) (x : α) (u : Value) (hx : enc x = [u]) : (ys.flatMap enc).set k u = (ys.set k x).flatMap enc := by
  induction ys generalizing k with
  | nil => simp at hk
  | cons y ys ih =>
    obtain ⟨v, hv⟩ := List.length_eq_one_iff.1 (hs y)
    cases k with
    | zero => simp [List.flatMap_cons, hv, hx]
    | succ k => simp [List.flatMap_cons, hv, ih k (by simpa using hk)]
theorem flat_set2 (enc : α → List Value) (hs : ∀ x, (enc x).length = 2) (ys : List α) (k : Nat) (hk : k < ys.length) (x : α) (u0 u1 : Value) (hx : enc x = [u0, u1]) : ((ys.flatMap enc).set (k * 2) u0).set (k * 2 + 1) u1 = (ys.set k x).flatMap enc := by
  induction ys generalizing k with
  | nil => simp at hk
  | cons y ys ih =>
    obtain ⟨v0, v1, hv⟩ : ∃ v0 v1, enc y = [v0, v1] := by
      match h : enc y, hs y with
      | [a, b], _ => exact ⟨a, b, rfl⟩
    cases k with
    | zero => simp [List.flatMap_cons, hv, hx]
    | succ k =>
      rw [show (k + 1) * 2 = k * 2 + 1 + 1 by omega]
      simp [List.flatMap_cons, hv]
      exact ih k (by simpa using hk)
def Fresh (enc : α → List Value) (e : TypeId) (sz B : Nat) (v : Value) (xs : List α) (w : World) : Prop :=
  ∃ a cap, v = .slice a xs.length cap ∧ xs.length ≤ cap ∧ w.ownsRow B e sz (.slice a xs.length cap) xs.length (xs.flatMap enc)
theorem own_form {base : Nat} {e : TypeId} {sz : Nat} {v : Value} {n : Nat} {cs : List Value} {w : World} (h : w.ownsRow base e sz v n cs) : ∃ a cap, v = .slice a n cap ∧ n ≤ cap ∧ cap ≤ 9223372036854775807 := by
  rcases h.2 with ⟨rfl, rfl⟩ | ⟨g, cap, cur, rfl, _, _, h1, h2, _⟩
  · exact ⟨none, 0, rfl, Nat.le_refl _, by omega⟩
  · exact ⟨_, cap, rfl, h1, by unfold maxLen at h2; omega⟩
theorem Fresh.of_own {e : TypeId} {B : Nat} {v : Value} {n : Nat} {cs : List Value} {xs : List α} (h : w.ownsRow B e sz v n cs) (hn : n = xs.length) (hc : cs = xs.flatMap enc) : Fresh enc e sz B v xs w := by
  subst hn hc
  obtain ⟨a, cap, rfl, h1, _⟩ := own_form h
  exact ⟨a, cap, rfl, h1, h⟩
theorem Fresh.sl {e : TypeId} {B : Nat} {cap : Nat} (hs : ∀ x, (enc x).length = sz) (h : Fresh enc e sz B (.slice a xs.length cap) xs w) : Sl enc sz w a xs := by
  obtain ⟨a', cap', hv, h1, h2⟩ := h
  cases hv
  exact Sl.of_own (n := xs.length) hs h2
theorem Fresh.kept {e : TypeId} {B : Nat} {v : Value} {row : Option Nat} (h : Fresh enc e sz B v xs w) (hg : w.grownBy w' row) (hne : v.ownBlock = none ∨ v.ownBlock ≠ row) : Fresh enc e sz B v xs w' := by
  obtain ⟨a', cap', rfl, h1, h2⟩ := h
  exact ⟨a', cap', rfl, h1, h2.kept hg hne⟩
theorem grownBy_of_below {w w' : World} (h : Below w.heap.size w w') : w.grownBy w' none := ⟨h.os, h.tape, h.output, h.size, fun k hk _ => h.block k hk⟩
theorem Fresh.below {e : TypeId} {B : Nat} {v : Value} (h : Fresh enc e sz B v xs w) (hb : Below w.heap.size w w') : Fresh enc e sz B v xs w' :=
  h.kept (grownBy_of_below hb) (by cases hv : v.ownBlock <;> simp)
theorem Fresh.mono {e : TypeId} {B B' : Nat} {v : Value} (h : Fresh enc e sz B v xs w) (hB : B' ≤ B) : Fresh enc e sz B' v xs w := by
  obtain ⟨a', cap', rfl, h1, h2, h3⟩ := h
  refine ⟨a', cap', rfl, h1, h2, ?_⟩
  rcases h3 with h3 | ⟨g, cap, cur, hv, hg, r⟩
  · exact .inl h3
  · exact .inr ⟨g, cap, cur, hv, Nat.le_trans hB hg, r⟩
theorem Fresh.setCell {e : TypeId} {B : Nat} {v : Value} (h : Fresh enc e sz B v xs w) {p : Addr} (hp : p.block < B) (u : Value) : Fresh enc e sz B v xs (w.setCell p u) := by
  obtain ⟨a', cap', rfl, h1, h2⟩ := h
  exact ⟨a', cap', rfl, h1, ownsRow_setCell_below h2 hp u⟩
theorem Fresh.alloc {e : TypeId} {B : Nat} {v : Value} (h : Fresh enc e sz B v xs w) (o : Obj) : Fresh enc e sz B v xs (w.alloc o) := h.below ((Below.refl _ _).alloc (Nat.le_refl _) _)
theorem Fresh.lt {e : TypeId} {B : Nat} {v : Value} (h : Fresh enc e sz B v xs w) {k : Nat} (hk : v.ownBlock = some k) : B ≤ k ∧ k < w.heap.size := by
  obtain ⟨a', cap', rfl, h1, h2⟩ := h
  exact h2.lt k hk
theorem Sl.setCell {p : Addr} (h : Sl enc sz w a xs) (hp : ∀ b off, a = some ⟨b, off, none⟩ → b ≠ p.block) (u : Value) : Sl enc sz (w.setCell p u) a xs := by
  rcases h with h | ⟨b, off, rfl, hlt, hc⟩
  · exact .inl h
  · exact .inr ⟨b, off, rfl, by simpa using hlt, fun i hi j hj => by rw [World.cell?_setCell_other _ _ _ _ (fun e => hp b off rfl (by rw [e]))]; exact hc i hi j hj⟩
def FreshIn (enc : α → List Value) (e : TypeId) (sz lo hi : Nat) (v : Value) (xs : List α) (w : World) : Prop := Fresh enc e sz lo v xs w ∧ ∀ k, v.ownBlock = some k → k < hi
theorem Fresh.here {e : TypeId} {B : Nat} {v : Value} (h : Fresh enc e sz B v xs w) : FreshIn enc e sz B w.heap.size v xs w := ⟨h, fun _ hk => (h.lt hk).2⟩
theorem FreshIn.below {e : TypeId} {lo hi : Nat} {v : Value} (h : FreshIn enc e sz lo hi v xs w) (hb : Below w.heap.size w w') : FreshIn enc e sz lo hi v xs w' := ⟨h.1.below hb, h.2⟩
theorem FreshIn.setCell {e : TypeId} {lo hi : Nat} {v : Value} (h : FreshIn enc e sz lo hi v xs w) {p : Addr} (hp : p.block < lo) (u : Value) : FreshIn enc e sz lo hi v xs (w.setCell p u) := ⟨h.1.setCell hp u, h.2⟩
theorem FreshIn.mono {e : TypeId} {lo hi lo' hi' : Nat} {v : Value} (h : FreshIn enc e sz lo hi v xs w) (h1 : lo' ≤ lo) (h2 : hi ≤ hi') : FreshIn enc e sz lo' hi' v xs w := ⟨h.1.mono h1, fun k hk => Nat.lt_of_lt_of_le (h.2 k hk) h2⟩
theorem FreshIn.sl {e : TypeId} {lo hi : Nat} {cap : Nat} (hs : ∀ x, (enc x).length = sz) (h : FreshIn enc e sz lo hi (.slice a xs.length cap) xs w) : Sl enc sz w a xs := h.1.sl hs
theorem FreshIn.grown {e : TypeId} {lo hi : Nat} {v : Value} {row : Option Nat} (h : FreshIn enc e sz lo hi v xs w) (hg : w.grownBy w' row) (hr : ∀ k, row = some k → k < lo ∨ hi ≤ k) : FreshIn enc e sz lo hi v xs w' := by
  refine ⟨h.1.kept hg ?_, h.2⟩
  cases hv : v.ownBlock with
  | none => exact .inl rfl
  | some k =>
    right
    intro he
    have h1 := h.2 k hv
    have h2 := (h.1.lt hv).1
    rcases hr k he.symm with h3 | h3 <;> omega
end
end
section
open Go.RowKit
structure PV where
  state : Int
  args : List Int
  priv : Bool
  text : ByteArray
  utf : ByteArray
structure AV where
  kind : Int
  n : Int
  priv : Bool
  args : List Int
  text : ByteArray
abbrev e0 : ByteArray := ⟨#[]⟩
def pz : PV := ⟨0, [], false, e0, e0⟩
def pst (s : Int) : PV := ⟨s, [], false, e0, e0⟩
def ctl (b : Nat) : Bool := (decide (7 ≤ b) && decide (b ≤ 10)) || b == 13
def esc (b : Nat) : Bool := b == 55 || b == 56 || b == 68 || b == 69 || b == 77 || b == 99
def utfLen (b : Nat) : Nat := if b < 194 ∨ 244 < b then 0 else if b < 224 then 2 else if b < 240 then 3 else 4
def lowOf (l : List UInt8) : Nat := match l with
  | [a] => if a.toNat = 224 then 160 else if a.toNat = 240 then 144 else 128
  | _ => 128
def highOf (l : List UInt8) : Nat := match l with
  | [a] => if a.toNat = 237 then 159 else if a.toNat = 244 then 143 else 191
  | _ => 191
def mayF (l : List UInt8) (b : Nat) : Bool := decide (lowOf l ≤ b) && decide (b ≤ highOf l)
def pr (n : Int) : AV := ⟨1, n, false, [], e0⟩
def gstep (b : UInt8) : PV × List AV :=
  if b.toNat = 27 then (pst 1, [])
  else if ctl b.toNat = true then (pz, [⟨2, b.toNat, false, [], e0⟩])
  else if 32 ≤ b.toNat ∧ b.toNat ≤ 126 then (pz, [pr b.toNat])
  else if b.toNat < 128 then (pz, [])
  else if 0 < utfLen b.toNat then (⟨6, [], false, e0, ⟨#[b]⟩⟩, [])
  else (pz, [pr 65533])
def rnV (l : List UInt8) : Int := match l with
  | [a, b] => (a.toNat - 192) * 64 + (b.toNat - 128)
  | [a, b, c] => ((a.toNat - 224) * 64 + (b.toNat - 128)) * 64 + (c.toNat - 128)
  | [a, b, c, d] => (((a.toNat - 240) * 64 + (b.toNat - 128)) * 64 + (c.toNat - 128)) * 64 + (d.toNat - 128)
  | _ => 0
def ustep (p : PV) (b : UInt8) : PV × List AV :=
  if mayF p.utf.data.toList b.toNat = false then ((gstep b).1, pr 65533 :: (gstep b).2)
  else if p.utf.size + 1 < utfLen (p.utf.data.toList.headD 0).toNat then ({ p with utf := p.utf ++ ⟨#[b]⟩ }, [])
  else (pz, [pr (rnV (p.utf.data.toList ++ [b]))])
def estep (b : UInt8) : PV × List AV :=
  if b.toNat = 91 then (⟨2, [-1], false, e0, e0⟩, [])
  else if b.toNat = 93 then (pst 4, [])
  else if b.toNat = 27 then (pst 1, [])
  else if esc b.toNat = true then (pz, [⟨3, b.toNat, false, [], e0⟩])
  else (pz, [])
def lastA (l : List Int) : Int := l.getLastD 0
def cstep (p : PV) (b : UInt8) : PV × List AV :=
  if b.toNat = 27 then (pst 1, [])
  else if ctl b.toNat = true then (p, [⟨2, b.toNat, false, [], e0⟩])
  else if 48 ≤ b.toNat ∧ b.toNat ≤ 57 then ({ p with args := p.args.dropLast ++ [min 9999 (max 0 (lastA p.args) * 10 + ((b.toNat : Int) - 48))] }, [])
  else if b.toNat = 59 ∧ p.args.length < 8 then ({ p with args := p.args ++ [-1] }, [])
  else if b.toNat = 63 ∧ p.args = [-1] ∧ p.priv = false then ({ p with priv := true }, [])
  else if 64 ≤ b.toNat ∧ b.toNat ≤ 126 then (pz, [⟨4, b.toNat, p.priv, p.args, e0⟩])
  else (pst 3, [])
def sstep (p : PV) (b : UInt8) : PV × List AV :=
  if b.toNat = 27 then (pst 1, []) else if 64 ≤ b.toNat ∧ b.toNat ≤ 126 then (pz, []) else (p, [])
def ostep (p : PV) (b : UInt8) : PV × List AV :=
  if b.toNat = 7 then (pz, [⟨5, 0, false, [], p.text⟩])
  else if b.toNat = 27 then ({ p with state := 5 }, [])
  else if (32 ≤ b.toNat ∧ b.toNat ≤ 126) ∧ p.text.size < 40 then ({ p with text := p.text ++ ⟨#[b]⟩ }, [])
  else (p, [])
def qstep (p : PV) (b : UInt8) : PV × List AV :=
  if b.toNat = 92 then (pz, [⟨5, 0, false, [], p.text⟩]) else estep b
def pstep (p : PV) (b : UInt8) : PV × List AV :=
  if p.state = 0 then gstep b
  else if p.state = 1 then estep b
  else if p.state = 2 then cstep p b
  else if p.state = 3 then sstep p b
  else if p.state = 4 then ostep p b
  else if p.state = 5 then qstep p b
  else ustep p b
def prun (p : PV) : List UInt8 → PV × List AV
  | [] => (p, [])
  | b :: l => ((prun (pstep p b).1 l).1, (pstep p b).2 ++ (prun (pstep p b).1 l).2)
theorem prun_append (p : PV) (l m : List UInt8) : prun p (l ++ m) = ((prun (prun p l).1 m).1, (prun p l).2 ++ (prun (prun p l).1 m).2) := by
  induction l generalizing p with
  | nil => simp [prun]
  | cons b l ih => simp [prun, ih]
def titB (t : ByteArray) : Bool := decide (t.size ≤ 40) && t.data.toList.all (fun b => decide (32 ≤ b.toNat) && decide (b.toNat ≤ 126))
def begB (l : List UInt8) : Bool := decide (0 < l.length) && decide (l.length < utfLen (l.headD 0).toNat) && (List.range l.length).all (fun i => i == 0 || mayF (l.take i) (l.getD i 0).toNat)
def argsB (l : List Int) : Bool := decide (1 ≤ l.length) && decide (l.length ≤ 8) && l.all (fun n => decide (-1 ≤ n) && decide (n ≤ 9999))
structure PvOK (p : PV) : Prop where
  st : 0 ≤ p.state ∧ p.state ≤ 6
  csi : p.state = 2 → argsB p.args = true
  nocsi : p.state ≠ 2 → p.args = [] ∧ p.priv = false
  osc : p.state = 4 ∨ p.state = 5 → titB p.text = true
  noosc : p.state ≠ 4 → p.state ≠ 5 → p.text = e0
  ut : p.state = 6 → begB p.utf.data.toList = true
  nout : p.state ≠ 6 → p.utf = e0
theorem size_e0 {s : ByteArray} : s.size = 0 ↔ s = e0 := by
  constructor
  · intro h
    cases s with
    | mk d =>
      have : d.size = 0 := h
      have : d = #[] := Array.eq_empty_of_size_eq_zero this
      subst this; rfl
  · rintro rfl; rfl
theorem titB_e0 : titB e0 = true := by decide
theorem PvOK.z : PvOK pz := by refine ⟨by simp [pz], by simp [pz], by simp [pz], by simp [pz], by simp [pz], by simp [pz], by simp [pz]⟩
theorem PvOK.pst (s : Int) (h : s = 0 ∨ s = 1 ∨ s = 3 ∨ s = 4) : PvOK (pst s) := by
  rcases h with rfl | rfl | rfl | rfl <;> exact ⟨by decide, by simp [Go.Proofs.YtjmpgeffkdjpdaaGreatDoor.pst], by simp [Go.Proofs.YtjmpgeffkdjpdaaGreatDoor.pst], fun _ => titB_e0, fun _ _ => rfl, by simp [Go.Proofs.YtjmpgeffkdjpdaaGreatDoor.pst], fun _ => rfl⟩
theorem utfLen_two {b : Nat} (h : 0 < utfLen b) : 2 ≤ utfLen b := by
  unfold utfLen at *
  split at h
  · omega
  · rename_i h1
    rw [if_neg h1]
    split <;> (try split) <;> omega
theorem gstep_ok (b : UInt8) : PvOK (gstep b).1 := by
  unfold gstep
  repeat' split
  · exact PvOK.pst 1 (by simp)
  · exact PvOK.z
  · exact PvOK.z
  · exact PvOK.z
  · rename_i h
    have h2 := utfLen_two h
    refine ⟨by simp, by simp, by simp, by simp, by simp, fun _ => ?_, by simp⟩
    simp [begB]
    omega
  · exact PvOK.z
theorem estep_ok (b : UInt8) : PvOK (estep b).1 := by
  unfold estep
  repeat' split
  · exact ⟨by decide, fun _ => by decide, by simp, by simp, fun _ _ => rfl, by simp, fun _ => rfl⟩
  · exact PvOK.pst 4 (by simp)
  · exact PvOK.pst 1 (by simp)
  · exact PvOK.z
  · exact PvOK.z
theorem begB_snoc {l : List UInt8} {b : UInt8} (h : begB l = true) (hm : mayF l b.toNat = true) (hl : l.length + 1 < utfLen (l.headD 0).toNat) : begB (l ++ [b]) = true := by
  simp only [begB, Bool.and_eq_true, decide_eq_true_eq, List.all_eq_true, List.mem_range, Bool.or_eq_true, beq_iff_eq] at *
  obtain ⟨⟨h1, h2⟩, h3⟩ := h
  have hh : (l ++ [b]).headD 0 = l.headD 0 := by cases l with
    | nil => simp at h1
    | cons a l => rfl
  refine ⟨⟨by simp, by rw [hh]; simpa using hl⟩, fun i hi => ?_⟩
  have hi' : i < l.length + 1 := by simpa using hi
  by_cases hil : i < l.length
  · rcases h3 i hil with h4 | h4
    · exact .inl h4
    · refine .inr ?_
      rw [List.take_append_of_le_length (Nat.le_of_lt hil)]
      simp only [List.getD_eq_getElem?_getD, List.getElem?_append_left hil] at h4 ⊢
      exact h4
  · have : i = l.length := by omega
    subst this
    refine .inr ?_
    rw [List.take_append_of_le_length (Nat.le_refl _), List.take_length]
    simpa [List.getD_eq_getElem?_getD] using hm
theorem pstep_ok {p : PV} (h : PvOK p) (b : UInt8) : PvOK (pstep p b).1 := by
  obtain ⟨a, hb, c, d, e, f, g⟩ := h
  unfold pstep
  repeat' split
  · exact gstep_ok b
  · exact estep_ok b
  · rename_i h2
    have hA := hb h2
    have hT := e (by omega) (by omega)
    have hU := g (by omega)
    have hA' := hA
    simp only [argsB, Bool.and_eq_true, decide_eq_true_eq, List.all_eq_true] at hA'
    obtain ⟨⟨l1, l8⟩, hall⟩ := hA'
    unfold cstep
    repeat' split
    · exact PvOK.pst 1 (by simp)
    · exact ⟨a, hb, c, d, e, f, g⟩
    · rename_i h48
      refine ⟨a, fun _ => ?_, fun h9 => absurd h2 h9, fun h9 => by simp at h9; omega, fun _ _ => hT, fun h9 => by simp at h9; omega, fun _ => hU⟩
      have hne : p.args ≠ [] := by intro h; rw [h] at l1; simp at l1
      simp only [argsB, Bool.and_eq_true, decide_eq_true_eq, List.all_eq_true]
      refine ⟨⟨by simp, by simp; omega⟩, fun x hx => ?_⟩
      rcases List.mem_append.1 hx with hx | hx
      · exact hall x (List.dropLast_subset _ hx)
      · simp at hx
        subst hx
        omega
    · rename_i h59
      refine ⟨a, fun _ => ?_, fun h9 => absurd h2 h9, fun h9 => by simp at h9; omega, fun _ _ => hT, fun h9 => by simp at h9; omega, fun _ => hU⟩
      simp only [argsB, Bool.and_eq_true, decide_eq_true_eq, List.all_eq_true]
      refine ⟨⟨by simp, by simp; omega⟩, fun x hx => ?_⟩
      rcases List.mem_append.1 hx with hx | hx
      · exact hall x hx
      · simp at hx
        subst hx
        omega
    · exact ⟨a, hb, fun h9 => absurd h2 h9, d, e, f, g⟩
    · exact PvOK.z
    · exact PvOK.pst 3 (by simp)
  · unfold sstep
    repeat' split
    · exact PvOK.pst 1 (by simp)
    · exact PvOK.z
    · exact ⟨a, hb, c, d, e, f, g⟩
  · rename_i h4
    have hT := d (.inl h4)
    unfold ostep
    repeat' split
    · exact PvOK.z
    · exact ⟨by simp, by simp, fun _ => c (by omega), fun _ => hT, by simp, by simp, fun _ => g (by omega)⟩
    · rename_i hb2
      refine ⟨a, hb, c, fun _ => ?_, fun h9 _ => absurd h4 h9, f, g⟩
      simp only [titB, Bool.and_eq_true, decide_eq_true_eq, List.all_eq_true] at *
      refine ⟨by rw [ByteArray.size_append]; show _ + 1 ≤ _; omega, fun x hx => ?_⟩
      simp only [ByteArray.data_append, Array.toList_append, List.mem_append] at hx
      rcases hx with hx | hx
      · exact hT.2 x hx
      · simp at hx
        subst hx
        exact hb2.1
    · exact ⟨a, hb, c, d, e, f, g⟩
  · unfold qstep
    repeat' split
    · exact PvOK.z
    · exact estep_ok b
  · rename_i h0 h1 h2 h3 h4 h5
    have h6 : p.state = 6 := by omega
    unfold ustep
    repeat' split
    · exact gstep_ok b
    · rename_i hm hl
      refine ⟨a, hb, c, d, e, fun _ => ?_, fun h9 => absurd h6 h9⟩
      have hs : p.utf.data.toList.length = p.utf.size := rfl
      have := begB_snoc (f h6) (by simpa using hm) (by rw [hs]; exact hl)
      simpa using this
    · exact PvOK.z
theorem prun_ok (l : List UInt8) {p : PV} (h : PvOK p) : PvOK (prun p l).1 := by
  induction l generalizing p with
  | nil => exact h
  | cons b l ih => exact ih (pstep_ok h b)
end
section
open Go.RowKit
def rnOK (n : Int) : Prop := 32 ≤ n ∧ n ≤ 1114111 ∧ n ≠ 127 ∧ ¬ (55296 ≤ n ∧ n ≤ 57343)
def ctlN (n : Int) : Prop := (7 ≤ n ∧ n ≤ 10) ∨ n = 13
def escN (n : Int) : Prop := n = 55 ∨ n = 56 ∨ n = 68 ∨ n = 69 ∨ n = 77 ∨ n = 99
def AcOK (a : AV) : Prop :=
  (a.kind = 4 ∧ a.text = e0 ∧ argsB a.args = true ∧ 64 ≤ a.n ∧ a.n ≤ 126) ∨
  (a.priv = false ∧ a.args = [] ∧ ((a.kind = 5 ∧ a.n = 0 ∧ titB a.text = true) ∨ (a.text = e0 ∧ ((a.kind = 1 ∧ rnOK a.n) ∨ (a.kind = 2 ∧ ctlN a.n) ∨ (a.kind = 3 ∧ escN a.n)))))
abbrev u8 (n : Nat) : UInt8 := UInt8.ofNat n
theorem u8N {n : Nat} (h : n < 256) : (u8 n).toNat = n := by
  show n % 256 = n
  omega
def utfB (n : Nat) : List UInt8 :=
  if n < 128 then [u8 n] else if n < 2048 then [u8 (192 + n / 64), u8 (128 + n % 64)]
  else if n < 65536 then [u8 (224 + n / 4096), u8 (128 + n / 64 % 64), u8 (128 + n % 64)]
  else [u8 (240 + n / 262144), u8 (128 + n / 4096 % 64), u8 (128 + n / 64 % 64), u8 (128 + n % 64)]
end
section
open Go.RowKit
theorem utfB_len (n : Nat) : (utfB n).length ≤ 4 := by unfold utfB; (repeat' split) <;> simp
theorem gstep_ac (b : UInt8) : ∀ a ∈ (gstep b).2, AcOK a := by
  unfold gstep
  repeat' split
  · simp
  · rename_i h
    intro a ha
    simp only [List.mem_singleton] at ha
    subst ha
    refine .inr ⟨rfl, rfl, .inr ⟨rfl, .inr (.inl ⟨rfl, ?_⟩)⟩⟩
    simp only [ctl, Bool.or_eq_true, Bool.and_eq_true, decide_eq_true_eq, beq_iff_eq] at h
    unfold ctlN
    simp only
    omega
  · rename_i h
    intro a ha
    simp only [List.mem_singleton] at ha
    subst ha
    refine .inr ⟨rfl, rfl, .inr ⟨rfl, .inl ⟨rfl, ?_⟩⟩⟩
    unfold rnOK
    simp only [pr]
    omega
  · simp
  · simp
  · intro a ha
    simp only [List.mem_singleton] at ha
    subst ha
    exact .inr ⟨rfl, rfl, .inr ⟨rfl, .inl ⟨rfl, by unfold rnOK; simp only [pr]; omega⟩⟩⟩
theorem estep_ac (b : UInt8) : ∀ a ∈ (estep b).2, AcOK a := by
  unfold estep
  repeat' split
  · simp
  · simp
  · simp
  · rename_i h
    intro a ha
    simp only [List.mem_singleton] at ha
    subst ha
    refine .inr ⟨rfl, rfl, .inr ⟨rfl, .inr (.inr ⟨rfl, ?_⟩)⟩⟩
    simp only [esc, Bool.or_eq_true, beq_iff_eq] at h
    unfold escN
    simp only
    omega
  · simp
theorem may_one {x : UInt8} {b : Nat} (h : mayF [x] b = true) : (if x.toNat = 224 then 160 else if x.toNat = 240 then 144 else 128) ≤ b ∧ b ≤ (if x.toNat = 237 then 159 else if x.toNat = 244 then 143 else 191) := by
  have h1 : (decide ((if x.toNat = 224 then 160 else if x.toNat = 240 then 144 else 128) ≤ b) && decide (b ≤ (if x.toNat = 237 then 159 else if x.toNat = 244 then 143 else 191))) = true := h
  simpa only [Bool.and_eq_true, decide_eq_true_eq] using h1
theorem ustep_ac {p : PV} (hu : begB p.utf.data.toList = true) (b : UInt8) : ∀ a ∈ (ustep p b).2, AcOK a := by
  unfold ustep
  split
  · intro a ha
    simp only [List.mem_cons] at ha
    rcases ha with rfl | ha
    · exact .inr ⟨rfl, rfl, .inr ⟨rfl, .inl ⟨rfl, by unfold rnOK; simp only [pr]; omega⟩⟩⟩
    · exact gstep_ac b a ha
  · rename_i hm
    split
    · simp
    · rename_i hl
      intro a ha
      simp only [List.mem_singleton] at ha
      subst ha
      refine .inr ⟨rfl, rfl, .inr ⟨rfl, .inl ⟨rfl, ?_⟩⟩⟩
      simp only [pr]
      have hs : p.utf.size = p.utf.data.toList.length := rfl
      rw [hs] at hl
      generalize p.utf.data.toList = l at hu hm hl
      simp only [begB, Bool.and_eq_true, decide_eq_true_eq, List.all_eq_true, List.mem_range, Bool.or_eq_true, beq_iff_eq] at hu
      obtain ⟨⟨u1, u2⟩, u3⟩ := hu
      have hmt : mayF l b.toNat = true := by simpa using hm
      clear hm hs
      have hb := b.toNat_lt
      match l, u1, u2, u3, hl, hmt with
      | [x], _, u2, u3, hl, hmt =>
        have hx := x.toNat_lt
        simp only [List.headD_cons, List.length_cons, List.length_nil] at u2 hl
        obtain ⟨v3, v4⟩ := may_one hmt
        clear hmt u3
        simp only [List.cons_append, List.nil_append, rnV, rnOK]
        unfold utfLen at u2 hl
        (repeat' split at u2) <;> (repeat' split at hl) <;> (repeat' split at v3) <;> (repeat' split at v4) <;> omega
      | [x, y], _, u2, u3, hl, hmt =>
        have hx := x.toNat_lt
        have hy := y.toNat_lt
        have v1 := u3 1 (by simp)
        simp only [List.headD_cons, List.length_cons, List.length_nil] at u2 hl
        have v2 : mayF [x] y.toNat = true := by
          rcases v1 with h | h
          · cases h
          · exact h
        obtain ⟨v3, v4⟩ := may_one v2
        clear v2
        have hmt2 : 128 ≤ b.toNat ∧ b.toNat ≤ 191 := by
          have : (decide (128 ≤ b.toNat) && decide (b.toNat ≤ 191)) = true := hmt
          simpa using this
        simp only [List.cons_append, List.nil_append, rnV, rnOK]
        unfold utfLen at u2 hl
        clear hmt v1 u3
        (repeat' split at u2) <;> (repeat' split at hl) <;> (repeat' split at v3) <;> (repeat' split at v4) <;> omega
      | [x, y, z], _, u2, u3, hl, hmt =>
        have hx := x.toNat_lt
        have hy := y.toNat_lt
        have hz := z.toNat_lt
        have v1 := u3 1 (by simp)
        have w1 := u3 2 (by simp)
        simp only [List.headD_cons, List.length_cons, List.length_nil] at u2 hl
        have v2 : mayF [x] y.toNat = true := by
          rcases v1 with h | h
          · cases h
          · exact h
        have w2 : 128 ≤ z.toNat ∧ z.toNat ≤ 191 := by
          rcases w1 with h | h
          · cases h
          · have : (decide (128 ≤ z.toNat) && decide (z.toNat ≤ 191)) = true := h
            simpa using this
        obtain ⟨v3, v4⟩ := may_one v2
        clear v2
        have hmt2 : 128 ≤ b.toNat ∧ b.toNat ≤ 191 := by
          have : (decide (128 ≤ b.toNat) && decide (b.toNat ≤ 191)) = true := hmt
          simpa using this
        simp only [List.cons_append, List.nil_append, rnV, rnOK]
        unfold utfLen at u2 hl
        clear hmt v1 w1 u3
        (repeat' split at u2) <;> (repeat' split at hl) <;> (repeat' split at v3) <;> (repeat' split at v4) <;> omega
      | x :: y :: z :: q :: l, _, u2, _, _, _ =>
        exfalso
        simp only [List.headD_cons, List.length_cons] at u2
        unfold utfLen at u2
        (repeat' split at u2) <;> omega
theorem pstep_ac {p : PV} (h : PvOK p) (b : UInt8) : ∀ a ∈ (pstep p b).2, AcOK a := by
  unfold pstep
  repeat' split
  · exact gstep_ac b
  · exact estep_ac b
  · rename_i h2
    have hA := h.csi h2
    unfold cstep
    repeat' split
    · simp
    · rename_i hc
      intro a ha
      simp only [List.mem_singleton] at ha
      subst ha
      refine .inr ⟨rfl, rfl, .inr ⟨rfl, .inr (.inl ⟨rfl, ?_⟩)⟩⟩
      simp only [ctl, Bool.or_eq_true, Bool.and_eq_true, decide_eq_true_eq, beq_iff_eq] at hc
      unfold ctlN
      simp only
      omega
    · simp
    · simp
    · simp
    · rename_i h6
      intro a ha
      simp only [List.mem_singleton] at ha
      subst ha
      exact .inl ⟨rfl, rfl, hA, by simp only; omega, by simp only; omega⟩
    · simp
  · unfold sstep
    repeat' split
    · simp
    · simp
    · simp
  · rename_i h4
    unfold ostep
    repeat' split
    · intro a ha
      simp only [List.mem_singleton] at ha
      subst ha
      exact .inr ⟨rfl, rfl, .inl ⟨rfl, rfl, h.osc (.inl h4)⟩⟩
    · simp
    · simp
    · simp
  · rename_i h5
    unfold qstep
    split
    · intro a ha
      simp only [List.mem_singleton] at ha
      subst ha
      exact .inr ⟨rfl, rfl, .inl ⟨rfl, rfl, h.osc (.inr h5)⟩⟩
    · exact estep_ac b
  · exact ustep_ac (h.ut (by have := h.st; omega)) b
theorem prun_ac (l : List UInt8) {p : PV} (h : PvOK p) : ∀ a ∈ (prun p l).2, AcOK a := by
  induction l generalizing p with
  | nil => simp [prun]
  | cons b l ih =>
    intro a ha
    simp only [prun, List.mem_append] at ha
    rcases ha with ha | ha
    · exact pstep_ac h b a ha
    · exact ih (pstep_ok h b) a ha
end
section
open Go.RowKit
def inB (n l h : Int) : Bool := decide (l ≤ n) && decide (n ≤ h)
theorem within_c (n l h : Int) (w : World) :
    Calls Tryz.prog 31 #[.int .i64 n, .int .i64 l, .int .i64 h] w fun e w' => e = .returned (.bool (inB n l h)) ∧ w = w' := by
  by_cases h1 : l ≤ n <;> by_cases h2 : n ≤ h
  all_goals
    go_enter Tryz.func31, Tryz.ntmps31
    go_wp2
    go_ret
    exact ⟨by simp [inB, *], rfl⟩
theorem l01In_c (n l h : Int) (w : World) :
    Calls Tryz.prog 60 #[.int .i64 n, .int .i64 l, .int .i64 h] w fun e w' => e = .returned (.bool (inB n l h)) ∧ w = w' := by
  by_cases h1 : l ≤ n <;> by_cases h2 : n ≤ h
  all_goals
    go_enter Tryz.func60, Tryz.ntmps60
    go_wp2
    go_ret
    exact ⟨by simp [inB, *], rfl⟩
end
section
open Go.RowKit
theorem take_none {α : Type} {p : α → Bool} {xs : List α} {k : Nat} (h : ∀ j (hj : j < xs.length), j < k → p xs[j] = false) (hk : xs.length ≤ k) : xs.any p = false := by
  rw [List.any_eq_false]
  intro x hx
  obtain ⟨j, hj, rfl⟩ := List.getElem_of_mem hx
  simp [h j hj (by omega)]
theorem any_at {α : Type} {p : α → Bool} {xs : List α} {k : Nat} (hk : k < xs.length) (h : p xs[k] = true) : xs.any p = true := List.any_eq_true.2 ⟨_, List.getElem_mem hk, h⟩
theorem Sl.box {w : World} {b : Nat} {n : Int} (hb : b < w.heap.size) (hc : w.cell? ⟨b, 0, none⟩ = some (.int .i64 n)) : Sl intE 1 w (some ⟨b, 0, none⟩) [n] :=
  .inr ⟨b, 0, rfl, hb, fun i hi j hj => by
    have h1 : i = 0 := by simpa using hi
    have h2 : j = 0 := by omega
    subst h1 h2
    simpa [intE] using hc⟩
end
section
open Go.RowKit
theorem Tryz.infoString : (Tryz.prog.info? 9).map (fun i => (i.zero, i.size, i.bytes)) = some (some (.string ⟨#[]⟩), 1, 16) := by kernel_rfl
def FreshR {α : Type} (enc : α → List Value) (e : TypeId) (sz : Nat) (w : World) (xs : List α) (en : Ending) (w' : World) : Prop :=
  ∃ v, en = .returned v ∧ Fresh enc e sz w.heap.size v xs w' ∧ Below w.heap.size w w'
theorem Tryz.infoInt : (Tryz.prog.info? 3).map (fun i => (i.zero, i.size, i.bytes)) = some (some (.int .i64 0), 1, 8) := by kernel_rfl
theorem Tryz.infoByte : (Tryz.prog.info? 5).map (fun i => (i.zero, i.size, i.bytes)) = some (some (.int .u8 0), 1, 1) := by kernel_rfl
end
section
open Go.RowKit
theorem ret_i {a b : Int} (h : a = b) : Ending.returned (.int .i64 a) = .returned (.int .i64 b) := by rw [h]
theorem ret_b {a b : Bool} (h : a = b) : Ending.returned (.bool a) = .returned (.bool b) := by rw [h]
def ctlI (n : Int) : Bool := inB n 7 10 || (n == 13)
def escI (n : Int) : Bool := n == 55 || n == 56 || n == 68 || n == 69 || n == 77 || n == 99
theorem isControl_c (n : Int) (w : World) : Calls Tryz.prog 70 #[.int .i64 n] w fun e w' => e = .returned (.bool (ctlI n)) ∧ w = w' := by
  obtain ⟨v, h⟩ : ∃ v, inB n 7 10 = v := ⟨_, rfl⟩
  have H := Lib.hid h
  clear h
  cases v
  all_goals
    go_enter Tryz.func70, Tryz.ntmps70
    go_wp2_with (go_at_call 31; refine (within_c _ _ _ _).mono ?_; rw [H.out]; rintro e w' ⟨rfl, rfl⟩)
    all_goals
      go_ret
      exact ⟨by unfold ctlI; rw [H.out]; simp, rfl⟩
theorem lowOf_one (x : UInt8) : lowOf [x] = if x.toNat = 224 then 160 else if x.toNat = 240 then 144 else 128 := rfl
theorem highOf_one (x : UInt8) : highOf [x] = if x.toNat = 237 then 159 else if x.toNat = 244 then 143 else 191 := rfl
theorem low_not {l : List UInt8} (h : l.length ≠ 1) : lowOf l = 128 ∧ highOf l = 191 := by
  match l, h with
  | [], _ => exact ⟨rfl, rfl⟩
  | [_], h => simp at h
  | _ :: _ :: _, _ => exact ⟨rfl, rfl⟩
end
section
open Go.RowKit
theorem idxByte_c (s : ByteArray) (c : Nat) (w : World) : Calls Tryz.prog 141 #[.string s, .int .u8 c] w fun e w' => e = .returned (.int .i64 (Lib.indexByte s.data.toList c.toUInt8)) ∧ w = w' := by
  have e1 : ∀ w, (callFunc 152 #[.string s, .int .u8 c]).run Tryz.prog w = .ok (.value (.int .i64 (Lib.indexByte s.data.toList c.toUInt8))) w := fun w => by
    rw [run_callFunc_extern Tryz.func152 (by kernel_rfl) (by kernel_rfl) (by kernel_rfl) (e := Extern.BytealgIndexByte.indexByte) (by kernel_rfl), Lib.run_indexByteString]
    rfl
  go_enter Tryz.func141, Tryz.ntmps141
  go_wp2_with fail
  go_ret
  exact ⟨rfl, rfl⟩
theorem strIdxByte_c (s : ByteArray) (c : Nat) (w : World) : Calls Tryz.prog 108 #[.string s, .int .u8 c] w fun e w' => e = .returned (.int .i64 (Lib.indexByte s.data.toList c.toUInt8)) ∧ w = w' := by
  go_enter Tryz.func108, Tryz.ntmps108
  go_wp2_with fail
  refine (idxByte_c _ _ _).mono ?_
  rintro e w' ⟨rfl, rfl⟩
  go_wp2_with fail
  go_ret
  exact ⟨rfl, rfl⟩
theorem esc_idx (n : Nat) (h : n < 128) : decide (0 ≤ Lib.indexByte [55, 56, 68, 69, 77, 99] n.toUInt8) = escI n := by
  have : ∀ x : Fin 128, decide (0 ≤ Lib.indexByte [55, 56, 68, 69, 77, 99] x.val.toUInt8) = escI x.val := by decide
  exact this ⟨n, h⟩
theorem isEscape_c (n : Int) (w : World) : Calls Tryz.prog 71 #[.int .i64 n] w fun e w' => e = .returned (.bool (escI n)) ∧ w = w' := by
  obtain ⟨v, h⟩ : ∃ v, inB n 1 127 = v := ⟨_, rfl⟩
  have H := Lib.hid h
  clear h
  cases v
  · go_enter Tryz.func71, Tryz.ntmps71
    go_wp2_with (go_at_call 31; refine (within_c _ _ _ _).mono ?_; rw [H.out]; rintro e w' ⟨rfl, rfl⟩)
    go_ret
    refine ⟨ret_b ?_, rfl⟩
    have h := H.out
    simp only [inB, Bool.and_eq_false_iff, decide_eq_false_iff_not] at h
    have h2 : escI n = false := by
      simp only [escI, Bool.or_eq_false_iff, beq_eq_false_iff_ne]
      omega
    rw [h2]
  · obtain ⟨m, rfl⟩ : ∃ m : Nat, n = m := by
      have h := H.out
      simp only [inB, Bool.and_eq_true, decide_eq_true_eq] at h
      exact ⟨n.toNat, by omega⟩
    have hm : m < 128 := by
      have h := H.out
      simp only [inB, Bool.and_eq_true, decide_eq_true_eq] at h
      omega
    have hw : (m : Int) < 128 := by omega
    obtain ⟨k, hk⟩ : ∃ k, Lib.indexByte [55, 56, 68, 69, 77, 99] m.toUInt8 = k := ⟨_, rfl⟩
    have HK := Lib.hid hk
    have HE : Hid (decide (0 ≤ k) = escI m) := Lib.hid (by rw [← hk]; exact esc_idx m hm)
    clear hk
    go_enter Tryz.func71, Tryz.ntmps71
    go_wp2_with (first
      | (go_at_call 31; refine (within_c _ _ _ _).mono ?_; rw [H.out]; rintro e w' ⟨rfl, rfl⟩)
      | (go_at_call 108; refine (strIdxByte_c _ m _).mono ?_; rw [show Lib.indexByte _ _ = k from HK.out]; rintro e w' ⟨rfl, rfl⟩))
    go_ret
    exact ⟨ret_b HE.out, rfl⟩
end
section
open Go.RowKit
def argP (n : Int) : Bool := !inB n (-1) 9999
def sz_impl_areArgs_1 (_ : Int) : Prop := True
theorem f_impl_areArgs_1 (n : Int) (w : World) (_ : sz_impl_areArgs_1 n) : Calls Tryz.prog 107 #[.int .i64 n] w fun e w' => e = .returned (.bool (argP n)) ∧ w = w' := by
  go_enter Tryz.func107, Tryz.ntmps107
  go_wp2_with (go_at_call 31; refine (within_c _ _ _ _).mono ?_; rintro e w' ⟨rfl, rfl⟩)
  go_ret
  exact ⟨rfl, rfl⟩
theorem index_impl_areArgs_1 (a : Option Addr) (ca : Nat) (xs : List Int) (w : World) (ha : Sl intE 1 w a xs) (la : xs.length ≤ 1099511627776) (hq : ∀ x ∈ xs, sz_impl_areArgs_1 x) :
    Calls Tryz.prog 122 #[.slice a xs.length ca, .func (.func 107) #[] #[]] w fun e w' => (∃ i : Int, e = .returned (.int .i64 i) ∧ Hid (decide (0 ≤ i) = xs.any argP)) ∧ w = w' := by
  have HQ := Lib.hid hq
  clear hq
  go_enter Tryz.func122, Tryz.ntmps122
  go_wp2_with fail
  go_loop [5, 8] (fun _ i => ∃ k : Nat, k ≤ xs.length ∧ i = .int .i64 k ∧ ∀ j (hj : j < xs.length), j < k → argP xs[j] = false) (fun _ i => xs.length - (intOf i).toNat)
  case atStart => exact ⟨0, Nat.zero_le _, rfl, fun j _ h => absurd h (Nat.not_lt_zero _)⟩
  case round =>
    obtain ⟨k, hk, rfl, hp⟩ := hrel
    have HP := Lib.hid hp
    clear hp
    by_cases hlt : k < xs.length
    · obtain ⟨b1, o1, rfl, hb1, hc1⟩ := ha.at hlt
      have c1 := hc1 k hlt 0 (by omega)
      simp only [intE, Nat.mul_one, Nat.add_zero, List.getElem?_cons_zero] at c1
      have hx := HQ.out xs[k] (List.getElem_mem _)
      clear hc1
      cases hpk : argP xs[k]
      · have HPK := Lib.hid hpk
        clear hpk
        go_wp2_with (go_at_call 107; refine (f_impl_areArgs_1 xs[k] _ hx).mono ?_; rw [HPK.out]; rintro e w' ⟨rfl, rfl⟩)
        go_round
        case rel => exact ⟨k + 1, by omega, by go_num, fun j hj h => by
          rcases Nat.lt_succ_iff_lt_or_eq.1 h with h | rfl
          · exact HP.out j hj h
          · exact HPK.out⟩
        case measure => simp [intOf]; omega
      · have HPK := Lib.hid hpk
        clear hpk
        go_wp2_with (go_at_call 107; refine (f_impl_areArgs_1 xs[k] _ hx).mono ?_; rw [HPK.out]; rintro e w' ⟨rfl, rfl⟩)
        go_ret
        exact ⟨⟨_, rfl, by rw [any_at hlt HPK.out]; show decide _ = _; simp⟩, rfl⟩
    · obtain rfl : k = xs.length := by omega
      go_wp2_with fail
      go_ret
      exact ⟨⟨_, rfl, by rw [take_none HP.out (Nat.le_refl _)]; rfl⟩, rfl⟩
theorem contains_impl_areArgs_1 (a : Option Addr) (ca : Nat) (xs : List Int) (w : World) (ha : Sl intE 1 w a xs) (la : xs.length ≤ 1099511627776) (hq : ∀ x ∈ xs, sz_impl_areArgs_1 x) :
    Calls Tryz.prog 84 #[.slice a xs.length ca, .func (.func 107) #[] #[]] w fun e w' => e = .returned (.bool (xs.any argP)) ∧ w = w' := by
  have HQ := Lib.hid hq
  clear hq
  go_enter Tryz.func84, Tryz.ntmps84
  go_wp2_with fail
  refine (index_impl_areArgs_1 a ca xs _ ha la HQ.out).mono ?_
  rintro e w' ⟨⟨i, rfl, hi⟩, rfl⟩
  go_wp2_with fail
  go_ret
  exact ⟨by rw [← hi.out]; rfl, rfl⟩
theorem argsB_eq (xs : List Int) : argsB xs = (inB xs.length 1 8 && !xs.any argP) := by
  unfold argsB inB
  rw [List.not_any_eq_all_not]
  have e1 : (decide (1 ≤ xs.length) && decide (xs.length ≤ 8)) = (decide ((1 : Int) ≤ (xs.length : Int)) && decide ((xs.length : Int) ≤ 8)) := by
    rw [Bool.eq_iff_iff]
    simp only [Bool.and_eq_true, decide_eq_true_eq]
    omega
  have e2 : (fun n : Int => decide (-1 ≤ n) && decide (n ≤ 9999)) = fun n => !argP n := by
    funext n
    simp [argP, inB]
  rw [e1, e2]
theorem areArgs_c (a : Option Addr) (ca : Nat) (xs : List Int) (w : World) (ha : Sl intE 1 w a xs) (la : xs.length ≤ 1099511627776) :
    Calls Tryz.prog 69 #[.slice a xs.length ca] w fun e w' => e = .returned (.bool (argsB xs)) ∧ w = w' := by
  obtain ⟨v, h⟩ : ∃ v, inB xs.length 1 8 = v := ⟨_, rfl⟩
  have H := Lib.hid h
  clear h
  cases v
  · go_enter Tryz.func69, Tryz.ntmps69
    go_wp2_with (go_at_call 31; refine (within_c _ _ _ _).mono ?_; rw [H.out]; rintro e w' ⟨rfl, rfl⟩)
    go_ret
    exact ⟨ret_b (by rw [argsB_eq, H.out]; rfl), rfl⟩
  · obtain ⟨u, hu⟩ : ∃ u, xs.any argP = u := ⟨_, rfl⟩
    have HU := Lib.hid hu
    have HA := Lib.hid ha
    clear hu ha
    go_enter Tryz.func69, Tryz.ntmps69
    go_wp2_with (first
      | (go_at_call 31; refine (within_c _ _ _ _).mono ?_; rw [H.out]; rintro e w' ⟨rfl, rfl⟩)
      | (go_at_call 84; refine (contains_impl_areArgs_1 a ca xs _ HA.out la (fun _ _ => trivial)).mono ?_; rw [HU.out]; rintro e w' ⟨rfl, rfl⟩))
    go_ret
    exact ⟨ret_b (by rw [argsB_eq, H.out, HU.out]; cases u <;> rfl), rfl⟩
def inT (b : UInt8) : Bool := decide (32 ≤ b.toNat) && decide (b.toNat ≤ 126)
theorem titB_eq (s : ByteArray) : titB s = (decide (s.size ≤ 40) && s.data.toList.all inT) := rfl
theorem getL {s : ByteArray} {k : Nat} (h : k < s.size) : ∃ h2 : k < s.data.toList.length, s.data.toList[k]'h2 = s[k]'h := ⟨h, rfl⟩
theorem isTitle_c (s : ByteArray) (w : World) (hz : s.size ≤ 1099511627776) : Calls Tryz.prog 52 #[.string s] w fun e w' => e = .returned (.bool (titB s)) ∧ w = w' := by
  go_enter Tryz.func52, Tryz.ntmps52
  go_wp2_with fail
  go_loop [6] (fun i => ∃ k : Nat, k ≤ s.size ∧ i = .int .i64 k ∧ Hid (∀ j (hj : j < s.size), j < k → inT s[j] = true)) (fun i => s.size - (intOf i).toNat)
  case atStart => exact ⟨0, Nat.zero_le _, rfl, Lib.hid (fun j _ h => absurd h (Nat.not_lt_zero _))⟩
  case round =>
    obtain ⟨k, hk, rfl, HP⟩ := hrel
    by_cases hlt : k < s.size
    · have HN : Hid (inT s[k] = false → titB s = false) := Lib.hid (fun h => by
        rw [titB_eq]
        have : s.data.toList.all inT = false := by
          rw [List.all_eq_false]
          obtain ⟨h2, h3⟩ := getL hlt
          exact ⟨_, List.getElem_mem h2, by rw [h3, h]; simp⟩
        rw [this, Bool.and_false])
      obtain ⟨x, hx⟩ : ∃ x, s[k] = x := ⟨_, rfl⟩
      have HX := Lib.hid hx
      rw [hx] at HN
      go_wp2_with fail
      all_goals first
        | (go_ret; exact ⟨ret_b (HN.out (by simp [inT]; omega)).symm, rfl⟩)
        | (go_round
           case rel =>
             refine ⟨k + 1, by omega, by go_num, Lib.hid (fun j hj h => ?_)⟩
             rcases Nat.lt_succ_iff_lt_or_eq.1 h with h | rfl
             · exact HP.out j hj h
             · rw [HX.out]; simp [inT]; omega
           case measure => simp [intOf]; omega)
    · have HA : Hid (titB s = decide (s.size ≤ 40)) := Lib.hid (by
        rw [titB_eq]
        have : s.data.toList.all inT = true := by
          rw [List.all_eq_true]
          intro x hx
          obtain ⟨j, hj, rfl⟩ := List.getElem_of_mem hx
          exact HP.out j hj (by have : s.data.toList.length = s.size := rfl; omega)
        rw [this, Bool.and_true])
      go_wp2_with fail
      all_goals
        go_ret
        exact ⟨ret_b (by rw [HA.out, Bool.eq_iff_iff]; simp only [decide_eq_true_eq]; omega), rfl⟩
end
section
open Go.RowKit
def fitK (l : List UInt8) (k : Nat) : Prop := ∀ j, 1 ≤ j → j < k → mayF (l.take j) (l.getD j 0).toNat = true
theorem begB_iff {l : List UInt8} : begB l = true ↔ 0 < l.length ∧ l.length < utfLen (l.headD 0).toNat ∧ fitK l l.length := by
  simp only [begB, Bool.and_eq_true, decide_eq_true_eq, List.all_eq_true, List.mem_range, Bool.or_eq_true, beq_iff_eq, fitK]
  constructor
  · rintro ⟨⟨h1, h2⟩, h3⟩
    exact ⟨h1, h2, fun j hj hk => (h3 j hk).resolve_left (by omega)⟩
  · rintro ⟨h1, h2, h3⟩
    refine ⟨⟨h1, h2⟩, fun j hj => ?_⟩
    rcases Nat.eq_zero_or_pos j with h | h
    · exact .inl h
    · exact .inr (h3 j h hj)
theorem headL {s : ByteArray} (h : 0 < s.size) : s.data.toList.headD 0 = s[0] := by
  cases s with
  | mk d =>
    have hl : d.toList.length = d.size := rfl
    match hd : d.toList, hl with
    | [], hl => have : d.size = 0 := hl.symm; have h' : 0 < d.size := h; omega
    | a :: l, _ =>
      have : d = (a :: l).toArray := by rw [← hd]
      subst this
      rfl
theorem getDL {s : ByteArray} {k : Nat} (h : k < s.size) : s.data.toList.getD k 0 = s[k] := by
  obtain ⟨h2, h3⟩ := getL h
  rw [← h3, List.getD_eq_getElem?_getD, List.getElem?_eq_getElem h2]
  rfl
end
section
open Go.RowKit
theorem notEmpty {s : ByteArray} (h : ¬ s.size = 0) : s.toList.isEmpty = false := by
  rw [Lib.toList_data]
  have hl : s.data.toList.length = s.size := rfl
  cases hd : s.data.toList with
  | nil => rw [hd] at hl; simp at hl; omega
  | cons _ _ => rfl
end
section
open Go.RowKit
structure Mid (lo hi : Nat) (w w' : World) : Prop where
  os : w'.os = w.os
  tape : w'.tape = w.tape
  output : w'.output = w.output
  size : w.heap.size ≤ w'.heap.size
  block : ∀ k, k < w.heap.size → (k < lo ∨ hi ≤ k) → w'.heap[k]? = w.heap[k]?
theorem Mid.refl (lo hi : Nat) (w : World) : Mid lo hi w w := ⟨rfl, rfl, rfl, Nat.le_refl _, fun _ _ _ => rfl⟩
theorem Mid.trans {lo hi : Nat} {a b c : World} (h : Mid lo hi a b) (k : Mid lo hi b c) : Mid lo hi a c :=
  ⟨k.os.trans h.os, k.tape.trans h.tape, k.output.trans h.output, Nat.le_trans h.size k.size, fun i hi hd => (k.block i (Nat.lt_of_lt_of_le hi h.size) hd).trans (h.block i hi hd)⟩
theorem Mid.of_below {w w' : World} (lo hi : Nat) (h : Below w.heap.size w w') : Mid lo hi w w' := ⟨h.os, h.tape, h.output, h.size, fun k hk _ => h.block k hk⟩
theorem Mid.mono {lo hi lo' hi' : Nat} {w w' : World} (h : Mid lo hi w w') (h1 : lo' ≤ lo) (h2 : hi ≤ hi') : Mid lo' hi' w w' :=
  ⟨h.os, h.tape, h.output, h.size, fun k hk hd => h.block k hk (by omega)⟩
theorem Mid.below {lo hi B : Nat} {w w' : World} (h : Mid lo hi w w') (h1 : B ≤ lo) (h2 : B ≤ w.heap.size) : Below B w w' :=
  ⟨h.os, h.tape, h.output, h.size, fun k hk => h.block k (by omega) (by omega)⟩
theorem Mid.setCell {lo hi : Nat} {a w : World} (h : Mid lo hi a w) {p : Addr} (h1 : lo ≤ p.block) (h2 : p.block < hi) (u : Value) : Mid lo hi a (w.setCell p u) :=
  h.trans ⟨rfl, rfl, rfl, by simp [World.setCell], fun k _ hd => Below.heap_setCell _ _ _ _ (by omega)⟩
theorem Mid.cell {lo hi : Nat} {w w' : World} (h : Mid lo hi w w') {p : Addr} (hp : p.block < w.heap.size) (hd : p.block < lo ∨ hi ≤ p.block) : w'.cell? p = w.cell? p :=
  World.cell?_of_block (w := w) (h.block p.block hp hd)
theorem Mid.frozen {lo hi : Nat} {w w' : World} (h : Mid lo hi w w') {p : Addr} (hp : p.block < w.heap.size) (hd : p.block < lo ∨ hi ≤ p.block) : w'.frozen? p = w.frozen? p :=
  World.frozen?_of_block (w := w) (h.block p.block hp hd)
section
variable {α : Type} {enc : α → List Value} {sz : Nat} {w w' : World} {a : Option Addr} {xs : List α}
theorem FreshIn.alloc {e : TypeId} {lo hi : Nat} {v : Value} (h : FreshIn enc e sz lo hi v xs w) (o : Obj) : FreshIn enc e sz lo hi v xs (w.alloc o) := h.below ((Below.refl _ _).alloc (Nat.le_refl _) _)
theorem FreshIn.drew {e : TypeId} {lo hi : Nat} {v : Value} (h : FreshIn enc e sz lo hi v xs w) : FreshIn enc e sz lo hi v xs w.drew := h.below ((Below.refl _ _).drew)
theorem SlIn.alloc {lo hi : Nat} (h : Sl enc sz w a xs ∧ ∀ b off, a = some ⟨b, off, none⟩ → lo ≤ b ∧ b < hi) (o : Obj) : Sl enc sz (w.alloc o) a xs ∧ ∀ b off, a = some ⟨b, off, none⟩ → lo ≤ b ∧ b < hi := ⟨h.1.alloc o, h.2⟩
def SlIn (enc : α → List Value) (sz lo hi : Nat) (w : World) (a : Option Addr) (xs : List α) : Prop := Sl enc sz w a xs ∧ ∀ b off, a = some ⟨b, off, none⟩ → lo ≤ b ∧ b < hi
theorem SlIn.below {lo hi : Nat} (h : SlIn enc sz lo hi w a xs) (hb : Below w.heap.size w w') : SlIn enc sz lo hi w' a xs := ⟨h.1.keep hb, h.2⟩
theorem SlIn.mono {lo hi lo' hi' : Nat} (h : SlIn enc sz lo hi w a xs) (h1 : lo' ≤ lo) (h2 : hi ≤ hi') : SlIn enc sz lo' hi' w a xs := ⟨h.1, fun b off e => by have := h.2 b off e; omega⟩
end
end
section
open Go.RowKit
theorem setCells_own (g : Nat) (e : TypeId) : ∀ (news : List Value) (o : Nat) (w : World) (cur : Array Value), w.heap[g]? = some (.cells cur e (0, 0)) → o + news.length ≤ cur.size →
    ∃ cur', (w.setCells g o news).heap[g]? = some (.cells cur' e (0, 0)) ∧ cur'.size = cur.size ∧ cur'.toList.take (o + news.length) = cur.toList.take o ++ news
  | [], o, w, cur, hg, _ => ⟨cur, hg, rfl, by simp⟩
  | v :: r, o, w, cur, hg, hl => by
    simp only [List.length_cons] at hl
    obtain ⟨cur', h1, h2, h3⟩ := setCells_own g e r (o + 1) (w.setCell ⟨g, o, none⟩ v) (cur.setIfInBounds o v) (heap_setCell_same w g o cur e v hg) (by simp; omega)
    refine ⟨cur', h1, by simpa using h2, ?_⟩
    rw [show o + (v :: r).length = o + 1 + r.length by simp; omega, h3]
    have hlt : o < cur.toList.length := by rw [Array.length_toList]; omega
    have hlt' : o < cur.size := by omega
    rw [Array.toList_setIfInBounds, List.take_succ_eq_append_getElem (by simpa using hlt'), List.getElem_set_self, List.take_set_of_le (Nat.le_refl _), List.append_assoc]
    rfl
theorem setCells_grown (g : Nat) : ∀ (news : List Value) (o : Nat) (w : World), w.grownBy (w.setCells g o news) (some g)
  | [], _, w => World.grownBy.refl _ _
  | v :: r, o, w => by
    have h1 := setCells_grown g r (o + 1) (w.setCell ⟨g, o, none⟩ v)
    refine ⟨h1.os, h1.tape, h1.output, by rw [World.setCells]; have := h1.size; simpa using this, fun k hk hne => ?_⟩
    have := h1.block k (by simpa using hk) hne
    rw [World.setCells, this]
    exact Below.heap_setCell _ _ _ _ (fun e => hne (by rw [e]))
theorem run_append_own_src {P : Program} (w : World) (base : Nat) (t tx ty e : TypeId) (i : TypeInfo) (z : Value) (size bytes : Nat) (ht : P.underlying t = some (.slice e)) (hi : P.info? e = some i) (hz : i.zero = some z)
    (hsize : i.size = size) (hby : i.bytes = bytes) (hzs : z.cells.size = size)
    (v : Value) (n : Nat) (xs : List Value) (hown : w.ownsRow base e size v n xs) (x : Value) (m : Nat) (news : List Value) (hs : Src P size tx x m news w)
    (h63 : n + m ≤ maxLen) (hbytes : (n + m) * bytes ≤ 140737488355328) (hbase : base ≤ w.heap.size) :
    ∃ v' w', (Builtin.append_ #[t, tx] ty #[v, x]).run P w = .ok v' w' ∧ w'.ownsRow base e size v' (n + m) (xs ++ news) ∧ w.grownBy w' v.ownBlock ∧ (v'.ownBlock = v.ownBlock ∨ v'.ownBlock = some w.heap.size) := by
  subst hsize
  subst hby
  have hsmall : ((n + m : Nat) : Int) ≤ 9223372036854775807 := by simp only [maxLen] at h63; omega
  have hnl := hs.newsLen
  have hlen : (xs ++ news).length = (n + m) * i.size := by rw [List.length_append, hown.1, hnl, Nat.add_mul]
  have grown : ∀ (old : Nat) (row : Option Nat),
      (w.drew.alloc (.cells ((xs ++ news).toArray ++ Builtin.zeroCells z.cells (grownCap w (n + m) old e - (n + m))) e)).ownsRow base e i.size
        (.slice (some ⟨w.heap.size, 0, none⟩) (n + m) (grownCap w (n + m) old e)) (n + m) (xs ++ news) ∧
      w.grownBy (w.drew.alloc (.cells ((xs ++ news).toArray ++ Builtin.zeroCells z.cells (grownCap w (n + m) old e - (n + m))) e)) row := by
    intro old row
    have hge := grownCap_ge w (n + m) old e
    have hcm : grownCap w (n + m) old e ≤ maxLen := grownCap_le_maxLen w (n + m) old e h63
    refine ⟨⟨hlen, .inr ⟨w.heap.size, _, _, rfl, hbase, heap_alloc_new w.drew _, hge, hcm, ?_, ?_⟩⟩, ⟨rfl, rfl, rfl, by simp, fun k hk _ => Below.heap_alloc w.drew _ k hk⟩⟩
    · simp only [Array.size_append, List.size_toArray, size_zeroCells, hzs]
      rw [hlen, ← Nat.add_mul]
      congr 1
      omega
    · rw [← hlen, Array.toList_append]
      exact List.take_left
  rcases hown.2 with ⟨rfl, rfl⟩ | ⟨g, cap, cur, rfl, hbg, hg, hnc, hcm, hcs, htake⟩
  · have hx : xs = [] := List.eq_nil_of_length_eq_zero (by simpa using hown.1)
    subst hx
    by_cases hm : m = 0
    · subst hm
      have hn : news = [] := List.eq_nil_of_length_eq_zero (by simpa using hnl)
      subst hn
      exact ⟨.slice none 0 0, w, run_append_nothing w t tx ty e i ht hi none 0 0 (Nat.le_refl _) x hs, World.ownsRow_nil w base e i.size, ⟨rfl, rfl, rfl, Nat.le_refl _, fun _ _ _ => rfl⟩, .inl rfl⟩
    · have hr := run_append_grow_src (P := P) w t tx ty e i z ht hi hz none 0 0 [] (run_firstCells_none w.drew i.size 0 0 0) x m news hs (by omega) (by simpa using hsmall) (growslice_fits (by omega) hbytes)
      have hgr := grown 0 (Value.ownBlock (.slice none 0 0))
      simp only [List.nil_append] at hgr hr ⊢
      exact ⟨_, _, hr, hgr.1, hgr.2, .inr rfl⟩
  · by_cases hroom : n + m ≤ cap
    · have hfit : n * i.size + news.length ≤ cur.size := by rw [hnl, hcs, ← Nat.add_mul]; exact Nat.mul_le_mul_right _ hroom
      have hc : ∀ j, j < news.length → (w.cell? ⟨g, 0 + n * i.size + j, none⟩).isSome = true := by
        intro j hj
        rw [cell_of_row w g _ cur e (0, 0) hg]
        rw [Array.getElem?_eq_getElem (by omega)]
        rfl
      have hf : ∀ j, j < news.length → w.frozen? ⟨g, 0 + n * i.size + j, none⟩ = false := fun j hj => frozen_of_row w g _ cur e hg
      have hr := run_append_room_src (P := P) w t tx ty e i ht hi g 0 n cap x m news hs hroom hc hf
      obtain ⟨cur', h1, h2, h3⟩ := setCells_own g e news (0 + n * i.size) w cur hg (by omega)
      refine ⟨_, _, hr, ⟨hlen, .inr ⟨g, cap, cur', rfl, hbg, h1, hroom, hcm, by omega, ?_⟩⟩, setCells_grown g news _ w, .inl rfl⟩
      rw [Nat.add_mul, ← hnl]
      have h4 : 0 + n * i.size = n * i.size := Nat.zero_add _
      rw [h4] at h3
      rw [h3, htake]
    · have holds : ∀ j u, xs[j]? = some u → w.drew.cell? ((⟨g, 0, none⟩ : Addr).add j) = some u := by
        have := hown.cells (g := g) rfl
        intro j u hu
        simpa using this j u hu
      have hr := run_append_grow_src (P := P) w t tx ty e i z ht hi hz (some ⟨g, 0, none⟩) n cap xs (run_firstCells_some w.drew i.size n ⟨g, 0, none⟩ n cap xs hown.1 holds) x m news hs (by omega) hsmall (growslice_fits (by omega) hbytes)
      have hgr := grown cap (Value.ownBlock (.slice (some ⟨g, 0, none⟩) n cap))
      exact ⟨_, _, hr, hgr.1, hgr.2, .inr rfl⟩
theorem wpList_append_src {P : Program} (w : World) {ops : Array Oper} {rest : List Oper} {o : Oper} {a : Act} {Q : Exit → Act → World → Prop} (hgd : o.guard = none) (s x : Operand) (t tx : TypeId)
    (ho : o.op = .call { callee := .builtin .append, args := #[s, x], argTypes := #[t, tx] })
    (base : Nat) (e : TypeId) (i : TypeInfo) (z : Value) (size bytes : Nat) (ht : P.underlying t = some (.slice e)) (hi : P.info? e = some i) (hz : i.zero = some z)
    (hsize : i.size = size) (hby : i.bytes = bytes) (hzs : z.cells.size = size)
    (v : Value) (n : Nat) (xs : List Value) (hs : a.eval s = v) (hown : w.ownsRow base e size v n xs)
    (xv : Value) (m : Nat) (news : List Value) (hx : a.eval x = xv) (hsrc : Src P size tx xv m news w)
    (h63 : n + m ≤ maxLen) (hbytes : (n + m) * bytes ≤ 140737488355328) (hbase : base ≤ w.heap.size)
    (h : ∀ v' w', w'.ownsRow base e size v' (n + m) (xs ++ news) → w.grownBy w' v.ownBlock → (v'.ownBlock = v.ownBlock ∨ v'.ownBlock = some w.heap.size) → wpList P ops Q rest (a.put o.dst v') w') : wpList P ops Q (o :: rest) a w := by
  refine wpList_plain hgd fun K hK => ?_
  obtain ⟨v', w', hr, h2, h3, h4⟩ := run_append_own_src (P := P) w base t tx o.type e i z size bytes ht hi hz hsize hby hzs v n xs hown xv m news hsrc h63 hbytes hbase
  unfold Oper.wp execOp
  simp only [ho, resolve, invoke, builtin, Sem.run_bind, Sem.run_pure, Result.andThen_ok, List.map_toArray, List.map_cons, List.map_nil, hs, hx, hr]
  exact hK _ _ (h v' w' h2 h3 h4)
section
variable {α : Type} {enc : α → List Value} {sz : Nat} {w w' : World} {a : Option Addr} {xs : List α}
theorem Src.ofSl {P : Program} {tx e' : TypeId} (hk : P.underlying tx = some (.slice e')) (hs : ∀ x, (enc x).length = sz) (h1 : ∀ x, ∀ u ∈ enc x, u.oneCell' = true) (h : Sl enc sz w a xs) (c : Nat) : Src P sz tx (.slice a xs.length c) xs.length (xs.flatMap enc) w := by
  have hone : ∀ u ∈ xs.flatMap enc, u.oneCell' = true := fun u hu => by
    obtain ⟨x, _, hx⟩ := List.mem_flatMap.1 hu
    exact h1 x u hx
  rcases h with rfl | ⟨b, off, rfl, hlt, hc⟩
  · cases a with
    | none => exact Src.ofNil w hk c
    | some a => exact Src.ofSlice w hk a 0 c [] (by simp) (by simp) (by simp)
  · refine Src.ofSlice w hk ⟨b, off, none⟩ _ c _ (flat_length enc sz hs xs) (fun j u hu => ?_) hone
    have hj : j < xs.length * sz := by rw [← flat_length enc sz hs xs]; exact (List.getElem?_eq_some_iff.1 hu).1
    have hsz : 0 < sz := by
      rcases Nat.eq_zero_or_pos sz with h | h
      · rw [h] at hj; simp at hj
      · exact h
    have hq : j / sz < xs.length := Nat.div_lt_of_lt_mul (by rw [Nat.mul_comm]; exact hj)
    have hr : j % sz < sz := Nat.mod_lt _ hsz
    have hj' : j = j / sz * sz + j % sz := by rw [Nat.mul_comm]; exact (Nat.div_add_mod j sz).symm
    have h2 := hc (j / sz) hq (j % sz) hr
    have h3 := flat_get enc sz hs xs (j / sz) hq (j % sz) hr
    rw [← hj', hu] at h3
    rw [← h3] at h2
    have hadd : (⟨b, off, none⟩ : Addr).add j = ⟨b, off + j / sz * sz + j % sz, none⟩ := by
      rw [Addr.add_lit, Nat.add_assoc, ← hj']
    rw [hadd, h2]
theorem byteCells_flat (s : ByteArray) : byteCells s = s.data.toList.flatMap byteE := by
  unfold byteCells
  induction s.data.toList with
  | nil => rfl
  | cons b l ih => simp [List.flatMap_cons, ih, byteE]
theorem FreshIn.nil (enc : α → List Value) (e : TypeId) (sz lo hi : Nat) (w : World) : FreshIn enc e sz lo hi (.slice none 0 0) [] w :=
  ⟨⟨none, 0, rfl, Nat.le_refl _, World.ownsRow_nil _ _ _ _⟩, fun _ hk => by simp [Value.ownBlock] at hk⟩
theorem FreshIn.block {e : TypeId} {lo hi n cap : Nat} (h : FreshIn enc e sz lo hi (.slice a n cap) xs w) (h0 : 0 < xs.length) : ∃ g, a = some ⟨g, 0, none⟩ ∧ lo ≤ g ∧ g < hi ∧ g < w.heap.size ∧ w.ownsRow lo e sz (.slice (some ⟨g, 0, none⟩) xs.length cap) xs.length (xs.flatMap enc) := by
  obtain ⟨⟨a', cap', hv, h1, h2⟩, h3⟩ := h
  cases hv
  rcases h2.2 with ⟨_, hn⟩ | ⟨g, cap', cur, hv, hg, hb, _⟩
  · omega
  · cases hv
    exact ⟨g, rfl, hg, h3 g rfl, (Array.getElem?_eq_some_iff.1 hb).1, h2⟩
theorem FreshIn.len {e : TypeId} {lo hi n cap : Nat} (h : FreshIn enc e sz lo hi (.slice a n cap) xs w) : n = xs.length := by
  obtain ⟨⟨a', cap', hv, h1, h2⟩, h3⟩ := h
  cases hv
  rfl
theorem FreshIn.of_owns {e : TypeId} {lo hi g n cap : Nat} {cs : List Value} (h : w.ownsRow lo e sz (.slice (some ⟨g, 0, none⟩) n cap) n cs) (hn : n = xs.length) (hc : cs = xs.flatMap enc) (hg : g < hi) : FreshIn enc e sz lo hi (.slice (some ⟨g, 0, none⟩) n cap) xs w :=
  ⟨Fresh.of_own h hn hc, fun k hk => by cases hk; exact hg⟩
theorem own_below {base : Nat} {e : TypeId} {size : Nat} {v : Value} {n : Nat} {cs : List Value} (h : w.ownsRow base e size v n cs) (hb : Below w.heap.size w w') : w'.ownsRow base e size v n cs :=
  h.kept (grownBy_of_below hb) (by cases hv : v.ownBlock <;> simp)
theorem Mid.of_grown {lo hi : Nat} {row : Option Nat} (h : w.grownBy w' row) (hr : ∀ k, row = some k → lo ≤ k ∧ k < hi) : Mid lo hi w w' :=
  ⟨h.os, h.tape, h.output, h.size, fun k hk hd => h.block k hk (fun e => by have := hr k e.symm; omega)⟩
theorem FreshIn.row {e : TypeId} {lo hi : Nat} {v : Value} (h : FreshIn enc e sz lo hi v xs w) : ∀ k, v.ownBlock = some k → lo ≤ k ∧ k < hi := fun k hk => ⟨(h.1.lt hk).1, h.2 k hk⟩
theorem wpList_append_fresh {P : Program} {ops : Array Oper} {rest : List Oper} {o : Oper} {a : Act} {Q : Exit → Act → World → Prop} (hgd : o.guard = none) (s x : Operand) (t tx : TypeId)
    (ho : o.op = .call { callee := .builtin .append, args := #[s, x], argTypes := #[t, tx] })
    (lo hi : Nat) (e : TypeId) (i : TypeInfo) (z : Value) (size bytes : Nat) (ht : P.underlying t = some (.slice e)) (hinfo : P.info? e = some i) (hz : i.zero = some z)
    (hsize : i.size = size) (hby : i.bytes = bytes) (hzs : z.cells.size = size) (hbp : 0 < bytes)
    (v : Value) (zs : List α) (hs : a.eval s = v) (hF : FreshIn enc e size lo hi v zs w)
    (xv : Value) (ys : List α) (hx : a.eval x = xv) (hsrc : Src P size tx xv ys.length (ys.flatMap enc) w)
    (hbytes : (zs.length + ys.length) * bytes ≤ 140737488355328) (hlo : lo ≤ w.heap.size)
    (h : ∀ a' c' w' us, Hid (us = zs ++ ys) → FreshIn enc e size lo w'.heap.size (.slice a' us.length c') us w' → Mid lo hi w w' → wpList P ops Q rest (a.put o.dst (.slice a' us.length c')) w') : wpList P ops Q (o :: rest) a w := by
  have hrow := hF.row
  obtain ⟨⟨a', cap', rfl, h1, h2⟩, h3⟩ := hF
  refine wpList_append_src w hgd s x t tx ho lo e i z size bytes ht hinfo hz hsize hby hzs _ zs.length (zs.flatMap enc) hs h2 xv ys.length (ys.flatMap enc) hx hsrc ?_ hbytes hlo ?_
  · have : zs.length + ys.length ≤ (zs.length + ys.length) * bytes := Nat.le_mul_of_pos_right _ hbp
    unfold maxLen; omega
  · intro v' w' k1 k2 k3
    have hf : Fresh enc e size lo v' (zs ++ ys) w' := Fresh.of_own k1 (by simp) (by simp)
    obtain ⟨a1, c1, rfl, _⟩ := id hf
    exact h a1 c1 w' _ rfl hf.here (Mid.of_grown k2 hrow)
theorem Src.ofBox {P : Program} {tx e' : TypeId} (hk : P.underlying tx = some (.slice e')) (hs : ∀ x, (enc x).length = sz) (h1 : ∀ x, ∀ u ∈ enc x, u.oneCell' = true) (x : α) (cs : Array Value) (T : TypeId) (hc : cs.toList = enc x) (b : Nat) (hb : b = w.heap.size) :
    Src P sz tx (.slice (some ⟨b, 0, none⟩) 1 1) [x].length ([x].flatMap enc) (w.alloc (.cells cs T)) := by
  subst hb
  refine Src.ofSlice _ hk ⟨w.heap.size, 0, none⟩ 1 1 _ (by simp [hs]) (fun j u hu => ?_) (fun u hu => h1 x u (by simpa using hu))
  have hj : cs[j]? = some u := by
    rw [← Array.getElem?_toList, hc]; simpa using hu
  rw [Addr.add_lit, Nat.zero_add, World.cell?_alloc_new]
  exact hj
theorem Src.ofStr {P : Program} {tx : TypeId} {w : World} (hk : P.underlying tx = some .string) (s : ByteArray) : Src P 1 tx (.string s) s.data.toList.length (s.data.toList.flatMap byteE) w := by
  rw [← byteCells_flat]
  exact Src.ofString w hk s
end
end
section
open Go.RowKit
structure Upd (g lo hi : Nat) (S : Nat → Prop) (w w' : World) : Prop where
  os : w'.os = w.os
  tape : w'.tape = w.tape
  output : w'.output = w.output
  size : w.heap.size ≤ w'.heap.size
  block : ∀ k, k < w.heap.size → k ≠ g → ¬ S k → w'.heap[k]? = w.heap[k]?
  cell : ∀ o, (o < lo ∨ hi ≤ o) → w'.cell? ⟨g, o, none⟩ = w.cell? ⟨g, o, none⟩
  fz : ∀ o, w'.frozen? ⟨g, o, none⟩ = w.frozen? ⟨g, o, none⟩
section
variable {g lo hi : Nat} {S : Nat → Prop} {a w w' : World}
theorem Upd.refl : Upd g lo hi S w w := ⟨rfl, rfl, rfl, Nat.le_refl _, fun _ _ _ _ => rfl, fun _ _ => rfl, fun _ => rfl⟩
theorem Upd.trans (h : Upd g lo hi S a w) (k : Upd g lo hi S w w') : Upd g lo hi S a w' :=
  ⟨k.os.trans h.os, k.tape.trans h.tape, k.output.trans h.output, Nat.le_trans h.size k.size, fun i h1 h2 h3 => (k.block i (Nat.lt_of_lt_of_le h1 h.size) h2 h3).trans (h.block i h1 h2 h3), fun o ho => (k.cell o ho).trans (h.cell o ho), fun o => (k.fz o).trans (h.fz o)⟩
theorem Upd.setCell (h : Upd g lo hi S a w) (o : Nat) (h1 : lo ≤ o) (h2 : o < hi) (u : Value) : Upd g lo hi S a (w.setCell ⟨g, o, none⟩ u) :=
  h.trans ⟨rfl, rfl, rfl, by simp [World.setCell], fun k _ hk _ => Below.heap_setCell _ _ _ _ hk, fun o' ho => World.cell?_setCell_other _ _ _ _ (fun e => by cases e; omega), fun o' => World.frozen?_setCell _ _ _ _⟩
theorem Upd.below (h : Upd g lo hi S a w) (hb : Below w.heap.size w w') (hg : g < w.heap.size) : Upd g lo hi S a w' :=
  h.trans ⟨hb.os, hb.tape, hb.output, hb.size, fun k h1 _ _ => hb.block k h1, fun o _ => hb.cell (p := ⟨g, o, none⟩) hg, fun o => hb.frozen (p := ⟨g, o, none⟩) hg⟩
theorem Upd.mono {lo' hi' : Nat} {T : Nat → Prop} (h : Upd g lo hi S w w') (h1 : lo' ≤ lo) (h2 : hi ≤ hi') (hS : ∀ k, S k → T k) : Upd g lo' hi' T w w' :=
  ⟨h.os, h.tape, h.output, h.size, fun k a b c => h.block k a b (fun hs => c (hS k hs)), fun o ho => h.cell o (by omega), h.fz⟩
theorem Upd.toBelow {B : Nat} (h : Upd g lo hi S w w') (hB : B ≤ w.heap.size) (h1 : B ≤ g) (hS : ∀ k, S k → B ≤ k) : Below B w w' :=
  ⟨h.os, h.tape, h.output, h.size, fun k hk => h.block k (by omega) (by omega) (fun hs => by have := hS k hs; omega)⟩
variable {α : Type} {enc : α → List Value} {sz : Nat} {ad : Option Addr} {xs : List α}
theorem Sl.row (h : Sl enc sz w (some ⟨g, 0, none⟩) xs) (hg : g < w.heap.size) {q : Nat} (hq : q < xs.length) (hu : Upd g (q * sz) (q * sz + sz) S w w') (x : α) (hx : ∀ j, j < sz → w'.cell? ⟨g, q * sz + j, none⟩ = (enc x)[j]?) : Sl enc sz w' (some ⟨g, 0, none⟩) (xs.set q x) := by
  obtain ⟨b, off, he, hlt, hc⟩ := h.at hq
  simp only [Option.some.injEq, Addr.mk.injEq] at he
  obtain ⟨rfl, rfl, _⟩ := he
  refine .inr ⟨g, 0, rfl, Nat.lt_of_lt_of_le hg hu.size, fun i hi j hj => ?_⟩
  have hi' : i < xs.length := by simpa using hi
  rw [Nat.zero_add]
  by_cases hiq : i = q
  · subst hiq
    rw [hx j hj]
    simp
  · have h1 := hc i hi' j hj
    rw [Nat.zero_add] at h1
    rw [hu.cell _ (by
      rcases Nat.lt_or_gt_of_ne hiq with h | h
      · left
        have : (i + 1) * sz ≤ q * sz := Nat.mul_le_mul_right _ h
        rw [Nat.add_mul] at this
        omega
      · right
        have : (q + 1) * sz ≤ i * sz := Nat.mul_le_mul_right _ h
        rw [Nat.add_mul] at this
        omega), h1]
    rw [List.getElem_set_ne (fun e => hiq e.symm)]
def blkOf : Option Addr → List Nat
  | some p => [p.block]
  | none => []
theorem FreshIn.tight {e : TypeId} {B n c : Nat} (h : FreshIn enc e sz B w.heap.size (.slice ad n c) xs w) : ∃ b, FreshIn enc e sz b (b + 1) (.slice ad n c) xs w ∧ b ≤ w.heap.size ∧ (∀ k, b ≤ k → k < b + 1 → k < w.heap.size → k ∈ blkOf ad) ∧ (b < w.heap.size → b ∈ blkOf ad ∧ B ≤ b) := by
  obtain ⟨⟨a', cap', hv, h1, h2, h3⟩, h4⟩ := h
  cases hv
  rcases h3 with ⟨h3, hn⟩ | ⟨b, cap, cur, hv, hg, hb, r'⟩
  · refine ⟨w.heap.size, ⟨⟨ad, c, rfl, h1, h2, .inl ⟨h3, hn⟩⟩, fun k hk => ?_⟩, Nat.le_refl _, fun k h5 _ h6 => by omega, fun h5 => by omega⟩
    rw [h3] at hk
    simp [Value.ownBlock] at hk
  · cases hv
    have hlt := (Array.getElem?_eq_some_iff.1 hb).1
    refine ⟨b, ⟨⟨_, _, rfl, h1, h2, .inr ⟨b, _, cur, rfl, Nat.le_refl _, hb, r'⟩⟩, fun k hk => ?_⟩, Nat.le_of_lt hlt, fun k h5 h6 _ => ?_, fun _ => ⟨by simp [blkOf], hg⟩⟩
    · simp [Value.ownBlock] at hk
      omega
    · have : k = b := by omega
      subst this
      simp [blkOf]
end
end
section
open Go.RowKit
def over {α : Type} (f : Nat → α) (xs : List α) (k : Nat) : List α := (List.range k).map f ++ xs.drop k
end
section
open Go.RowKit
def Sep (g : Nat) (bs : List (List Nat)) : Prop :=
  (∀ i (h : i < bs.length), g ∉ bs[i] ∧ bs[i].Nodup) ∧ ∀ i j (hi : i < bs.length) (hj : j < bs.length), i ≠ j → ∀ b ∈ bs[i], b ∉ bs[j]
structure RowsR {R : Type} (enc : R → List Value) (sz : Nat) (ok : Nat → World → R → Prop) (blk : R → List Nat) (B : Nat) (w : World) (g : Nat) (rs : List R) : Prop where
  low : B ≤ g
  lt : g < w.heap.size
  sl : Sl enc sz w (some ⟨g, 0, none⟩) rs
  fz : ∀ o, w.frozen? ⟨g, o, none⟩ = false
  ok : ∀ i (h : i < rs.length), ok B w rs[i]
  sep : Sep g (rs.map blk)
section
variable {R : Type} {enc : R → List Value} {sz : Nat} {ok : Nat → World → R → Prop} {blk : R → List Nat} {B : Nat} {w w' : World} {g : Nat} {rs : List R}
theorem RowsR.step (h : RowsR enc sz ok blk B w g rs) {q : Nat} (hq : q < rs.length) {x : R} (hb : blk x = blk rs[q])
    (hu : Upd g (q * sz) (q * sz + sz) (· ∈ blk rs[q]) w w') (hx : ∀ j, j < sz → w'.cell? ⟨g, q * sz + j, none⟩ = (enc x)[j]?) (ho : ok B w' x)
    (hk : ∀ r, ok B w r → (∀ k ∈ blk r, k ≠ g ∧ k ∉ blk rs[q]) → ok B w' r) : RowsR enc sz ok blk B w' g (rs.set q x) where
  low := h.low
  lt := Nat.lt_of_lt_of_le h.lt hu.size
  sl := Sl.row h.sl h.lt hq hu x hx
  fz := fun o => (hu.fz o).trans (h.fz o)
  ok := fun i hi => by
    have hi' : i < rs.length := by simpa using hi
    by_cases hiq : i = q
    · subst hiq
      simpa using ho
    · rw [List.getElem_set_ne (fun e => hiq e.symm)]
      refine hk _ (h.ok i hi') (fun k hk' => ⟨fun e => ?_, ?_⟩)
      · subst e
        have := (h.sep.1 i (by simpa using hi')).1
        simp at this
        exact this hk'
      · have := h.sep.2 i q (by simpa using hi') (by simpa using hq) hiq k (by simpa using hk')
        simpa using this
  sep := by
    have : (rs.set q x).map blk = rs.map blk := by
      rw [List.map_set, hb]
      exact List.ext_getElem (by simp) (fun i h1 h2 => by
        by_cases hiq : q = i
        · subst hiq; simp
        · rw [List.getElem_set_ne hiq])
    rw [this]
    exact h.sep
theorem RowsR.in (h : RowsR enc sz ok blk B w g rs) {q : Nat} (hq : q < rs.length) : g ∉ blk rs[q] ∧ (blk rs[q]).Nodup := by
  have := h.sep.1 q (by simpa using hq)
  simpa using this
theorem RowsR.below (h : RowsR enc sz ok blk B w g rs) (hb : Below w.heap.size w w') (hk : ∀ r, ok B w r → ok B w' r) : RowsR enc sz ok blk B w' g rs where
  low := h.low
  lt := Nat.lt_of_lt_of_le h.lt hb.size
  sl := h.sl.keep hb
  fz := fun o => (hb.frozen (p := ⟨g, o, none⟩) h.lt).trans (h.fz o)
  ok := fun i hi => hk _ (h.ok i hi)
  sep := h.sep
end
end
section
open Go.RowKit
structure RowsG {R : Type} (own : Nat → World → R → Prop) (blk : R → List Nat) (st : R → Prop) (B : Nat) (w : World) (L : List R) : Prop where
  ow : ∀ r ∈ L, own B w r
  nd : ∀ r ∈ L, (blk r).Nodup
  bd : ∀ r ∈ L, ∀ b ∈ blk r, B ≤ b ∧ b < w.heap.size
  sta : ∀ r ∈ L, st r
  ap : L.Pairwise (fun r s => ∀ b ∈ blk r, b ∉ blk s)
structure RowNew {R : Type} (own : Nat → World → R → Prop) (blk : R → List Nat) (st : R → Prop) (lo : Nat) (w : World) (t : R) : Prop where
  ow : own lo w t
  nd : (blk t).Nodup
  bd : ∀ b ∈ blk t, lo ≤ b ∧ b < w.heap.size
  sta : st t
section
variable {R : Type} {own : Nat → World → R → Prop} {blk : R → List Nat} {st : R → Prop} {B lo : Nat} {w w' : World} {L : List R} {t : R}
theorem RowsG.nil : RowsG own blk st B w [] := ⟨by simp, by simp, by simp, by simp, .nil⟩
theorem RowsG.to (h : RowsG own blk st B w L) (hz : w.heap.size ≤ w'.heap.size) (hk : ∀ r, own B w r → own B w' r) : RowsG own blk st B w' L :=
  ⟨fun r hr => hk r (h.ow r hr), h.nd, fun r hr b hb => ⟨(h.bd r hr b hb).1, Nat.lt_of_lt_of_le (h.bd r hr b hb).2 hz⟩, h.sta, h.ap⟩
theorem RowsG.snoc (h : RowsG own blk st B w L) (hz : w.heap.size ≤ w'.heap.size) (hk : ∀ r, own B w r → own B w' r) (hB : B ≤ w.heap.size) (ht : RowNew own blk st w.heap.size w' t) (hm : own w.heap.size w' t → own B w' t) : RowsG own blk st B w' (L ++ [t]) := by
  have h' := h.to hz hk
  refine ⟨?_, ?_, ?_, ?_, ?_⟩
  · intro r hr
    rcases List.mem_append.1 hr with hr | hr
    · exact h'.ow r hr
    · simp at hr; subst hr; exact hm ht.ow
  · intro r hr
    rcases List.mem_append.1 hr with hr | hr
    · exact h'.nd r hr
    · simp at hr; subst hr; exact ht.nd
  · intro r hr b hb
    rcases List.mem_append.1 hr with hr | hr
    · exact h'.bd r hr b hb
    · simp at hr; subst hr
      have := ht.bd b hb
      exact ⟨by omega, this.2⟩
  · intro r hr
    rcases List.mem_append.1 hr with hr | hr
    · exact h'.sta r hr
    · simp at hr; subst hr; exact ht.sta
  · rw [List.pairwise_append]
    refine ⟨h.ap, List.pairwise_singleton _ _, fun r hr s hs b hb hbs => ?_⟩
    simp at hs
    subst hs
    have h1 := (h.bd r hr b hb).2
    have h2 := (ht.bd b hbs).1
    omega
theorem RowsG.rows {enc : R → List Value} {sz B' g : Nat} (h : RowsG own blk st B w L) (hs : Sl enc sz w (some ⟨g, 0, none⟩) L) (hB : B' ≤ g) (hg : g < B) (hgw : g < w.heap.size) (hf : ∀ o, w.frozen? ⟨g, o, none⟩ = false) (hm : ∀ r, own B w r → own B' w r) : RowsR enc sz own blk B' w g L where
  low := hB
  lt := hgw
  sl := hs
  fz := hf
  ok := fun i hi => hm _ (h.ow _ (List.getElem_mem hi))
  sep := by
    refine ⟨fun i hi => ?_, fun i j hi hj hij b hb => ?_⟩
    · have hi' : i < L.length := by simpa using hi
      rw [List.getElem_map]
      refine ⟨fun hb => ?_, h.nd _ (List.getElem_mem hi')⟩
      have := h.bd _ (List.getElem_mem hi') g hb
      omega
    · have hi' : i < L.length := by simpa using hi
      have hj' : j < L.length := by simpa using hj
      rw [List.getElem_map] at hb ⊢
      have hp := List.pairwise_iff_getElem.1 h.ap
      rcases Nat.lt_or_gt_of_ne hij with hlt | hlt
      · exact hp i j hi' hj' hlt b hb
      · exact fun hbj => hp j i hj' hi' hlt b hbj hb
theorem blkOf_nodup (a : Option Addr) : (blkOf a).Nodup := by cases a <;> simp [blkOf]
theorem FreshIn.blks {α : Type} {enc : α → List Value} {sz : Nat} {e : TypeId} {hi n c : Nat} {ad : Option Addr} {xs : List α} (h : FreshIn enc e sz lo hi (.slice ad n c) xs w) : ∀ k ∈ blkOf ad, lo ≤ k ∧ k < hi := by
  intro k hk
  cases ad with
  | none => simp [blkOf] at hk
  | some p =>
    simp only [blkOf, List.mem_singleton] at hk
    subst hk
    exact (FreshIn.row h) p.block (by simp [Value.ownBlock])
theorem FreshIn.low {α : Type} {enc : α → List Value} {sz : Nat} {e : TypeId} {hi n c : Nat} {ad : Option Addr} {xs : List α} {B' : Nat} (h : FreshIn enc e sz lo hi (.slice ad n c) xs w) (h1 : B' ≤ lo) : FreshIn enc e sz B' hi (.slice ad n c) xs w := h.mono h1 (Nat.le_refl _)
theorem FreshIn.keepB {α : Type} {enc : α → List Value} {sz : Nat} {e : TypeId} {n c : Nat} {ad : Option Addr} {xs : List α} (h : FreshIn enc e sz B w.heap.size (.slice ad n c) xs w) (hb : Below w.heap.size w w') : FreshIn enc e sz B w'.heap.size (.slice ad n c) xs w' := (h.below hb).mono (Nat.le_refl _) hb.size
theorem FreshIn.setB {α : Type} {enc : α → List Value} {sz : Nat} {e : TypeId} {n c : Nat} {ad : Option Addr} {xs : List α} (h : FreshIn enc e sz B w.heap.size (.slice ad n c) xs w) {p : Addr} (hp : p.block < B) (u : Value) : FreshIn enc e sz B (w.setCell p u).heap.size (.slice ad n c) xs (w.setCell p u) := by
  have := h.setCell hp u
  simpa [World.setCell] using this
end
end
section
open Go.RowKit
section
variable {α : Type} {enc : α → List Value} {w : World}
theorem wp_append_fresh {P : Program} {o : Oper} {a : Act} {K : Act → World → Prop} {Q : Exit → Act → World → Prop} (s x : Operand) (t tx : TypeId)
    (ho : o.op = .call { callee := .builtin .append, args := #[s, x], argTypes := #[t, tx] })
    (lo hi : Nat) (e : TypeId) (i : TypeInfo) (z : Value) (size bytes : Nat) (ht : P.underlying t = some (.slice e)) (hinfo : P.info? e = some i) (hz : i.zero = some z)
    (hsize : i.size = size) (hby : i.bytes = bytes) (hzs : z.cells.size = size) (hbp : 0 < bytes)
    (v : Value) (zs : List α) (hs : a.eval s = v) (hF : FreshIn enc e size lo hi v zs w)
    (xv : Value) (ys : List α) (hx : a.eval x = xv) (hsrc : Src P size tx xv ys.length (ys.flatMap enc) w)
    (hbytes : (zs.length + ys.length) * bytes ≤ 140737488355328) (hlo : lo ≤ w.heap.size)
    (h : ∀ a' c' w' us, Hid (us = zs ++ ys) → FreshIn enc e size lo w'.heap.size (.slice a' us.length c') us w' → Mid lo hi w w' → K (a.put o.dst (.slice a' us.length c')) w') : o.wp P a w K Q := by
  have hrow := hF.row
  obtain ⟨⟨a', cap', rfl, h1, h2⟩, h3⟩ := hF
  have h63 : zs.length + ys.length ≤ maxLen := by
    have : zs.length + ys.length ≤ (zs.length + ys.length) * bytes := Nat.le_mul_of_pos_right _ hbp
    unfold maxLen; omega
  obtain ⟨v', w', hr, k1, k2, k3⟩ := run_append_own_src (P := P) w lo t tx o.type e i z size bytes ht hinfo hz hsize hby hzs _ zs.length (zs.flatMap enc) h2 xv ys.length (ys.flatMap enc) hsrc h63 hbytes hlo
  have hf : Fresh enc e size lo v' (zs ++ ys) w' := Fresh.of_own k1 (by simp) (by simp)
  obtain ⟨a1, c1, rfl, _⟩ := id hf
  unfold Oper.wp execOp
  simp only [ho, resolve, invoke, builtin, Sem.run_bind, Sem.run_pure, Result.andThen_ok, List.map_toArray, List.map_cons, List.map_nil, hs, hx, hr]
  exact h a1 c1 w' _ rfl hf.here (Mid.of_grown k2 hrow)
theorem step_append_fresh {P : Program} {ops : Array Oper} {o : Oper} {a : Act} {K : Act → World → Prop} {Q : Exit → Act → World → Prop} {E : Prop} (hgd : o.guard = none) (s x : Operand) (t tx : TypeId)
    (ho : o.op = .call { callee := .builtin .append, args := #[s, x], argTypes := #[t, tx] })
    (lo hi : Nat) (e : TypeId) (i : TypeInfo) (z : Value) (size bytes : Nat) (ht : P.underlying t = some (.slice e)) (hinfo : P.info? e = some i) (hz : i.zero = some z)
    (hsize : i.size = size) (hby : i.bytes = bytes) (hzs : z.cells.size = size) (hbp : 0 < bytes)
    (v : Value) (zs : List α) (hs : a.eval s = v) (hF : FreshIn enc e size lo hi v zs w)
    (xv : Value) (ys : List α) (hx : a.eval x = xv) (hsrc : Src P size tx xv ys.length (ys.flatMap enc) w)
    (hbytes : (zs.length + ys.length) * bytes ≤ 140737488355328) (hlo : lo ≤ w.heap.size)
    (h : ∀ a' c' w' us, Hid (us = zs ++ ys) → FreshIn enc e size lo w'.heap.size (.slice a' us.length c') us w' → Mid lo hi w w' → K (a.put o.dst (.slice a' us.length c')) w') :
    if Region.wanted o (yielded ops a.tmps) = true then Oper.wp P o a w K Q else E := by
  have hw : Region.wanted o (yielded ops a.tmps) = true := by simp [Region.wanted, hgd]
  rw [if_pos hw]
  exact wp_append_fresh s x t tx ho lo hi e i z size bytes ht hinfo hz hsize hby hzs hbp v zs hs hF xv ys hx hsrc hbytes hlo h
end
end
section
open Go.RowKit
structure Ch (M : Nat → Prop) (w w' : World) : Prop where
  os : w'.os = w.os
  tape : w'.tape = w.tape
  output : w'.output = w.output
  size : w.heap.size ≤ w'.heap.size
  block : ∀ k, k < w.heap.size → ¬ M k → w'.heap[k]? = w.heap[k]?
section
variable {M N : Nat → Prop} {a w w' : World}
theorem Ch.refl : Ch M w w := ⟨rfl, rfl, rfl, Nat.le_refl _, fun _ _ _ => rfl⟩
theorem Ch.trans (h : Ch M a w) (k : Ch N w w') (hN : ∀ i, N i → M i ∨ a.heap.size ≤ i) : Ch M a w' :=
  ⟨k.os.trans h.os, k.tape.trans h.tape, k.output.trans h.output, Nat.le_trans h.size k.size, fun i h1 h2 => (k.block i (Nat.lt_of_lt_of_le h1 h.size) (fun t => by
    rcases hN i t with h4 | h4
    · exact h2 h4
    · omega)).trans (h.block i h1 h2)⟩
theorem Ch.mono (h : Ch N w w') (hN : ∀ i, N i → M i ∨ w.heap.size ≤ i) : Ch M w w' := Ch.trans Ch.refl h hN
theorem Ch.of_below (h : Below w.heap.size w w') : Ch M w w' := ⟨h.os, h.tape, h.output, h.size, fun k hk _ => h.block k hk⟩
theorem Ch.of_mid {l r : Nat} (h : Mid l r w w') (hM : ∀ k, l ≤ k → k < r → k < w.heap.size → M k) : Ch M w w' :=
  ⟨h.os, h.tape, h.output, h.size, fun k hk hn => h.block k hk (by
    rcases Nat.lt_or_ge k l with h1 | h1
    · exact .inl h1
    · rcases Nat.lt_or_ge k r with h2 | h2
      · exact absurd (hM k h1 h2 hk) hn
      · exact .inr h2)⟩
theorem Ch.setCell (h : Ch M a w) {p : Addr} (hp : M p.block ∨ a.heap.size ≤ p.block) (u : Value) : Ch M a (w.setCell p u) :=
  h.trans (N := fun k => k = p.block) ⟨rfl, rfl, rfl, by simp [World.setCell], fun k _ hk => Below.heap_setCell _ _ _ _ hk⟩ (fun i hi => by subst hi; exact hp)
theorem Ch.alloc (h : Ch M a w) (o : Obj) : Ch M a (w.alloc o) := h.trans (N := fun _ => False) (Ch.of_below ((Below.refl _ _).alloc (Nat.le_refl _) _)) (fun _ h => h.elim)
theorem Ch.drew (h : Ch M a w) : Ch M a w.drew := h.trans (N := fun _ => False) (Ch.of_below ((Below.refl _ _).drew)) (fun _ h => h.elim)
theorem Ch.below1 (h : Ch M a w) (k : Below w.heap.size w w') : Ch M a w' := h.trans (N := fun _ => False) (Ch.of_below k) (fun _ h => h.elim)
theorem Ch.cell (h : Ch M w w') {p : Addr} (hp : p.block < w.heap.size) (hd : ¬ M p.block) : w'.cell? p = w.cell? p := World.cell?_of_block (w := w) (h.block p.block hp hd)
theorem Ch.frozen (h : Ch M w w') {p : Addr} (hp : p.block < w.heap.size) (hd : ¬ M p.block) : w'.frozen? p = w.frozen? p := World.frozen?_of_block (w := w) (h.block p.block hp hd)
theorem Ch.below {B : Nat} (h : Ch M w w') (hB : B ≤ w.heap.size) (hM : ∀ k, M k → B ≤ k) : Below B w w' :=
  ⟨h.os, h.tape, h.output, h.size, fun k hk => h.block k (by omega) (fun hm => by have := hM k hm; omega)⟩
variable {α : Type} {enc : α → List Value} {sz : Nat} {ad : Option Addr} {xs : List α}
theorem Sl.ch (h : Sl enc sz w ad xs) (hc : Ch M w w') (hd : ∀ k ∈ blkOf ad, ¬ M k) : Sl enc sz w' ad xs := by
  rcases h with h1 | ⟨b, off, rfl, hlt, hq⟩
  · exact .inl h1
  · exact .inr ⟨b, off, rfl, Nat.lt_of_lt_of_le hlt hc.size, fun i hi j hj => by
      rw [hc.cell (p := ⟨b, _, none⟩) hlt (hd b (by simp [blkOf]))]; exact hq i hi j hj⟩
theorem FreshIn.ch {e : TypeId} {B n c : Nat} (h : FreshIn enc e sz B w.heap.size (.slice ad n c) xs w) (hu : Ch M w w') (hd : ∀ k ∈ blkOf ad, ¬ M k) : FreshIn enc e sz B w'.heap.size (.slice ad n c) xs w' := by
  obtain ⟨⟨a', cap', hv, h1, h2, h3⟩, h4⟩ := h
  refine ⟨⟨a', cap', hv, h1, h2, ?_⟩, fun k hk => Nat.lt_of_lt_of_le (h4 k hk) hu.size⟩
  cases hv
  rcases h3 with h3 | ⟨b, cap, cur, hv, hg, hb, r'⟩
  · exact .inl h3
  · refine .inr ⟨b, cap, cur, hv, hg, ?_, r'⟩
    cases hv
    rw [hu.block b (Array.getElem?_eq_some_iff.1 hb).1 (hd b (by simp [blkOf]))]
    exact hb
end
structure OwnL {R : Type} (own : Nat → World → R → Prop) (blk : R → List Nat) : Prop where
  ch : ∀ {lo w w' r} {M : Nat → Prop}, own lo w r → Ch M w w' → (∀ k ∈ blk r, ¬ M k) → own lo w' r
  low : ∀ {lo lo' w r}, lo' ≤ lo → own lo w r → own lo' w r
  bd : ∀ {lo w r}, own lo w r → ∀ k ∈ blk r, lo ≤ k ∧ k < w.heap.size
  nd : ∀ {lo w r}, own lo w r → (blk r).Nodup
def roB {R : Type} (blk : R → List Nat) (am : Option Addr) (L : List R) : List Nat := blkOf am ++ L.flatMap blk
structure RO {R : Type} (enc : R → List Value) (T : TypeId) (sz : Nat) (own : Nat → World → R → Prop) (blk : R → List Nat) (lo : Nat) (L : List R) (am : Option Addr) (cm : Nat) (w : World) : Prop where
  row : FreshIn enc T sz lo w.heap.size (.slice am L.length cm) L w
  ow : ∀ r ∈ L, own lo w r
  nd : (roB blk am L).Nodup
section
variable {R : Type} {enc : R → List Value} {T : TypeId} {sz : Nat} {own : Nat → World → R → Prop} {blk : R → List Nat} {lo : Nat} {L : List R} {am : Option Addr} {cm : Nat} {w w' : World} {M : Nat → Prop}
theorem RO.nil : RO enc T sz own blk lo [] none 0 w := ⟨FreshIn.nil _ _ _ _ _ _, by simp, by simp [roB, blkOf]⟩
theorem RO.ch (hO : OwnL own blk) (h : RO enc T sz own blk lo L am cm w) (hc : Ch M w w') (hd : ∀ k ∈ roB blk am L, ¬ M k) : RO enc T sz own blk lo L am cm w' :=
  ⟨h.row.ch hc (fun k hk => hd k (by simp [roB, hk])), fun r hr => hO.ch (h.ow r hr) hc (fun k hk => hd k (by simp only [roB, List.mem_append, List.mem_flatMap]; exact .inr ⟨r, hr, hk⟩)), h.nd⟩
theorem RO.keep (hO : OwnL own blk) (h : RO enc T sz own blk lo L am cm w) (hb : Below w.heap.size w w') : RO enc T sz own blk lo L am cm w' := h.ch hO (M := fun _ => False) (Ch.of_below hb) (fun _ _ h => h)
theorem RO.bd (hO : OwnL own blk) (h : RO enc T sz own blk lo L am cm w) : ∀ k ∈ roB blk am L, lo ≤ k ∧ k < w.heap.size := by
  intro k hk
  simp only [roB, List.mem_append, List.mem_flatMap] at hk
  rcases hk with hk | ⟨r, hr, hk⟩
  · exact FreshIn.blks h.row k hk
  · exact hO.bd (h.ow r hr) k hk
theorem RO.low (hO : OwnL own blk) {lo' : Nat} (h : RO enc T sz own blk lo L am cm w) (hl : lo' ≤ lo) : RO enc T sz own blk lo' L am cm w := ⟨h.row.mono hl (Nat.le_refl _), fun r hr => hO.low hl (h.ow r hr), h.nd⟩
theorem RO.push (hO : OwnL own blk) {x : R} {us : List R} {am' : Option Addr} {cm' : Nat} (h : RO enc T sz own blk lo L am cm w) (hx : own lo w x) (hd : ∀ k ∈ blk x, k ∉ roB blk am L)
    (hus : us = L ++ [x]) (hf : FreshIn enc T sz lo w'.heap.size (.slice am' us.length cm') us w') (hc : Ch (· ∈ blkOf am) w w') (hk : ∀ k ∈ blkOf am', k ∈ blkOf am ∨ k = w.heap.size) : RO enc T sz own blk lo us am' cm' w' := by
  have hnd := h.nd
  simp only [roB, List.nodup_append] at hnd
  obtain ⟨n1, n2, n3⟩ := hnd
  subst hus
  refine ⟨hf, fun r hr => ?_, ?_⟩
  · rcases List.mem_append.1 hr with hr | hr
    · exact hO.ch (h.ow r hr) hc (fun k hk1 hk2 => n3 k hk2 k (List.mem_flatMap.2 ⟨r, hr, hk1⟩) rfl)
    · simp at hr; subst hr
      exact hO.ch hx hc (fun k hk1 hk2 => hd k hk1 (by simp [roB, hk2]))
  · simp only [roB, List.flatMap_append, List.flatMap_cons, List.flatMap_nil, List.append_nil, List.nodup_append]
    refine ⟨blkOf_nodup _, ⟨n2, hO.nd hx, fun k hk1 j hj e => ?_⟩, fun k hk1 j hj e => ?_⟩
    · subst e
      exact hd k hj (by simp only [roB, List.mem_append]; exact .inr hk1)
    · subst e
      have hb : k ∈ L.flatMap blk ++ blk x → k < w.heap.size := fun hk2 => by
        rcases List.mem_append.1 hk2 with hk2 | hk2
        · obtain ⟨r, hr, hk3⟩ := List.mem_flatMap.1 hk2
          exact (hO.bd (h.ow r hr) k hk3).2
        · exact (hO.bd hx k hk2).2
      have hlt := hb (by simpa using hj)
      rcases hk k hk1 with h1 | h1
      · rcases List.mem_append.1 (by simpa using hj : k ∈ L.flatMap blk ++ blk x) with h2 | h2
        · exact n3 k h1 k h2 rfl
        · exact hd k h2 (by simp [roB, h1])
      · omega
end
section
variable {α : Type} {enc : α → List Value} {w : World}
theorem blkOf_own' {a : Option Addr} {n c : Nat} {k : Nat} : k ∈ blkOf a ↔ (Value.slice a n c).ownBlock = some k := by
  cases a with
  | none => simp [blkOf, Value.ownBlock]
  | some p => simp [blkOf, Value.ownBlock, eq_comm]
theorem wpList_append_ch {P : Program} {ops : Array Oper} {rest : List Oper} {o : Oper} {a : Act} {Q : Exit → Act → World → Prop} (s x : Operand) (t tx : TypeId)
    (lo : Nat) (e : TypeId) (i : TypeInfo) (z : Value) (size bytes : Nat) (ht : P.underlying t = some (.slice e)) (hinfo : P.info? e = some i) (hz : i.zero = some z)
    (hsize : i.size = size) (hby : i.bytes = bytes) (hzs : z.cells.size = size) (hbp : 0 < bytes)
    (ad : Option Addr) (n c : Nat) (zs : List α) (hF : FreshIn enc e size lo w.heap.size (.slice ad n c) zs w)
    (xv : Value) (ys : List α) (hsrc : Src P size tx xv ys.length (ys.flatMap enc) w)
    (hbytes : (zs.length + ys.length) * bytes ≤ 140737488355328) (hlo : lo ≤ w.heap.size)
    (hgd : o.guard = none) (ho : o.op = .call { callee := .builtin .append, args := #[s, x], argTypes := #[t, tx] }) (hs : a.eval s = .slice ad n c) (hx : a.eval x = xv)
    (h : ∀ a' c' w' us, Hid (us = zs ++ ys) → FreshIn enc e size lo w'.heap.size (.slice a' us.length c') us w' → Ch (· ∈ blkOf ad) w w' → (∀ k ∈ blkOf a', k ∈ blkOf ad ∨ k = w.heap.size) → wpList P ops Q rest (a.put o.dst (.slice a' us.length c')) w') : wpList P ops Q (o :: rest) a w := by
  obtain ⟨b, t1, t2, t3, t4⟩ := hF.tight
  have hblk := FreshIn.blks hF
  have hrow := t1.row
  obtain ⟨⟨a', cap', hv, h1, h2⟩, h3⟩ := t1
  cases hv
  refine wpList_append_src w hgd s x t tx ho b e i z size bytes ht hinfo hz hsize hby hzs _ zs.length (zs.flatMap enc) hs h2 xv ys.length (ys.flatMap enc) hx hsrc ?_ hbytes t2 ?_
  · have : zs.length + ys.length ≤ (zs.length + ys.length) * bytes := Nat.le_mul_of_pos_right _ hbp
    unfold maxLen; omega
  · intro v' w' k1 k2 k3
    have hf : Fresh enc e size b v' (zs ++ ys) w' := Fresh.of_own k1 (by simp) (by simp)
    obtain ⟨a1, c1, rfl, _⟩ := id hf
    have hm : Mid b (b + 1) w w' := Mid.of_grown k2 hrow
    have hk : ∀ k ∈ blkOf a1, k ∈ blkOf ad ∨ k = w.heap.size := fun k hk => by
      have hk' := (blkOf_own' (n := (zs ++ ys).length) (c := c1)).1 hk
      rcases k3 with k3 | k3
      · exact .inl ((blkOf_own' (n := zs.length) (c := c)).2 (k3 ▸ hk'))
      · rw [k3] at hk'
        exact .inr (Option.some.inj hk').symm
    refine h a1 c1 w' _ rfl ?_ (Ch.of_mid hm t3) hk
    rcases Nat.lt_or_ge b w.heap.size with hb | hb
    · exact hf.here.mono (t4 hb).2 (Nat.le_refl _)
    · exact hf.here.mono (by omega) (Nat.le_refl _)
end
end
section
open Go.RowKit
structure ActA where
  A : AV
  aa : Option Addr
  ca : Nat
def actE (r : ActA) : List Value := [.int .i64 r.A.kind, .int .i64 r.A.n, .bool r.A.priv, .slice r.aa r.A.args.length r.ca, .string r.A.text]
def actBlk (r : ActA) : List Nat := blkOf r.aa
def actOwn (lo : Nat) (w : World) (r : ActA) : Prop := FreshIn intE 3 1 lo w.heap.size (.slice r.aa r.A.args.length r.ca) r.A.args w
theorem actL : OwnL actOwn actBlk where
  ch := fun h hc hd => FreshIn.ch h hc hd
  low := fun hl h => FreshIn.low h hl
  bd := fun h k hk => FreshIn.blks h k hk
  nd := fun _ => blkOf_nodup _
abbrev ActO (lo : Nat) (L : List ActA) (al : Option Addr) (cl : Nat) (w : World) : Prop := RO actE 38 5 actOwn actBlk lo L al cl w
abbrev acB (al : Option Addr) (L : List ActA) : List Nat := roB actBlk al L
theorem Tryz.infoAction : (Tryz.prog.info? 38).map (fun i => (i.zero, i.size, i.bytes)) = some (some (.agg #[.int .i64 0, .int .i64 0, .bool false, .slice none 0 0, .string ⟨#[]⟩]), 5, 64) := by kernel_rfl
theorem actOne : ∀ (x : ActA), ∀ u ∈ actE x, u.oneCell' = true := by
  intro x u hu
  simp only [actE, List.mem_cons, List.not_mem_nil, or_false] at hu
  rcases hu with rfl | rfl | rfl | rfl | rfl <;> rfl
structure PS (B lo : Nat) (p : PV) (ap : Option Addr) (cp : Nat) (L : List ActA) (al : Option Addr) (cl : Nat) (w : World) : Prop where
  c0 : w.cell? ⟨B, 0, none⟩ = some (.int .i64 p.state)
  c1 : w.cell? ⟨B, 1, none⟩ = some (.slice ap p.args.length cp)
  c2 : w.cell? ⟨B, 2, none⟩ = some (.bool p.priv)
  c3 : w.cell? ⟨B, 3, none⟩ = some (.string p.text)
  c4 : w.cell? ⟨B, 4, none⟩ = some (.string p.utf)
  fz : ∀ o, w.frozen? ⟨B, o, none⟩ = false
  lt : B < w.heap.size
  args : FreshIn intE 3 1 lo w.heap.size (.slice ap p.args.length cp) p.args w
  ro : ActO lo L al cl w
  nB : B ∉ blkOf ap ++ acB al L
  nd : ∀ k ∈ blkOf ap, k ∉ acB al L
section
variable {B lo : Nat} {p p' : PV} {ap ap' al al' : Option Addr} {cp cp' cl cl' : Nat} {L us : List ActA} {w w' w1 : World} {M : Nat → Prop}
theorem PS.ch (h : PS B lo p ap cp L al cl w) (hc : Ch M w w') (hB : ¬ M B) (hd : ∀ k ∈ blkOf ap ++ acB al L, ¬ M k) : PS B lo p ap cp L al cl w' where
  c0 := (hc.cell (p := ⟨B, 0, none⟩) h.lt hB).trans h.c0
  c1 := (hc.cell (p := ⟨B, 1, none⟩) h.lt hB).trans h.c1
  c2 := (hc.cell (p := ⟨B, 2, none⟩) h.lt hB).trans h.c2
  c3 := (hc.cell (p := ⟨B, 3, none⟩) h.lt hB).trans h.c3
  c4 := (hc.cell (p := ⟨B, 4, none⟩) h.lt hB).trans h.c4
  fz := fun o => (hc.frozen (p := ⟨B, o, none⟩) h.lt hB).trans (h.fz o)
  lt := Nat.lt_of_lt_of_le h.lt hc.size
  args := h.args.ch hc (fun k hk => hd k (by simp [hk]))
  ro := h.ro.ch actL hc (fun k hk => hd k (by rw [List.mem_append]; exact .inr hk))
  nB := h.nB
  nd := h.nd
theorem PS.keep (h : PS B lo p ap cp L al cl w) (hb : Below w.heap.size w w') : PS B lo p ap cp L al cl w' := h.ch (M := fun _ => False) (Ch.of_below hb) (fun h => h) (fun _ _ h => h)
theorem PS.cells (h : PS B lo p ap cp L al cl w) (hc : Ch (· = B) w w') (c0 : w'.cell? ⟨B, 0, none⟩ = some (.int .i64 p'.state)) (c1 : w'.cell? ⟨B, 1, none⟩ = some (.slice ap' p'.args.length cp')) (c2 : w'.cell? ⟨B, 2, none⟩ = some (.bool p'.priv))
    (c3 : w'.cell? ⟨B, 3, none⟩ = some (.string p'.text)) (c4 : w'.cell? ⟨B, 4, none⟩ = some (.string p'.utf)) (fz : ∀ o, w'.frozen? ⟨B, o, none⟩ = false) (ha : (ap' = ap ∧ cp' = cp ∧ p'.args = p.args) ∨ (ap' = none ∧ cp' = 0 ∧ p'.args = [])) : PS B lo p' ap' cp' L al cl w' := by
  have hne : ∀ k ∈ blkOf ap ++ acB al L, ¬ k = B := fun k hk e => h.nB (e ▸ hk)
  have hro := h.ro.ch actL hc (fun k hk => hne k (by rw [List.mem_append]; exact .inr hk))
  have hlt := Nat.lt_of_lt_of_le h.lt hc.size
  rcases ha with ⟨rfl, rfl, e⟩ | ⟨rfl, rfl, e⟩
  · exact ⟨c0, c1, c2, c3, c4, fz, hlt, by rw [e]; exact h.args.ch hc (fun k hk => hne k (by simp [hk])), hro, h.nB, h.nd⟩
  · refine ⟨c0, c1, c2, c3, c4, fz, hlt, by rw [e]; exact FreshIn.nil _ _ _ _ _ _, hro, fun hb => h.nB ?_, by simp [blkOf]⟩
    simp only [blkOf, List.nil_append] at hb
    rw [List.mem_append]; exact .inr hb
theorem PS.push (h : PS B lo p ap cp L al cl w) {x : ActA} (hx : x.aa = none ∧ x.ca = 0 ∧ x.A.args = []) (hus : us = L ++ [x]) (hf : FreshIn actE 38 5 lo w'.heap.size (.slice al' us.length cl') us w') (hc : Ch (· ∈ blkOf al) w w')
    (hk : ∀ k ∈ blkOf al', k ∈ blkOf al ∨ k = w.heap.size) : PS B lo p ap cp us al' cl' w' := by
  have hB : B ∉ blkOf al := fun hb => h.nB (by simp [roB, hb])
  have hA : ∀ k ∈ blkOf ap, k ∉ blkOf al := fun k hk1 hk2 => h.nd k hk1 (by simp [roB, hk2])
  have hbx : actBlk x = [] := by unfold actBlk; rw [hx.1]; rfl
  have hro : ActO lo us al' cl' w' := h.ro.push actL (by unfold actOwn; rw [hx.1, hx.2.1, hx.2.2]; exact FreshIn.nil _ _ _ _ _ _) (by rw [hbx]; simp) hus hf hc hk
  have hin : ∀ k ∈ acB al' us, k ∈ acB al L ∨ k = w.heap.size := by
    intro k hk1
    simp only [roB, List.mem_append] at hk1 ⊢
    rcases hk1 with hk1 | hk1
    · rcases hk k hk1 with h2 | h2
      · exact .inl (.inl h2)
      · exact .inr h2
    · rw [hus] at hk1
      simp only [List.flatMap_append, List.flatMap_cons, List.flatMap_nil, List.append_nil, hbx] at hk1
      exact .inl (.inr hk1)
  refine ⟨(hc.cell (p := ⟨B, 0, none⟩) h.lt hB).trans h.c0, (hc.cell (p := ⟨B, 1, none⟩) h.lt hB).trans h.c1, (hc.cell (p := ⟨B, 2, none⟩) h.lt hB).trans h.c2, (hc.cell (p := ⟨B, 3, none⟩) h.lt hB).trans h.c3, (hc.cell (p := ⟨B, 4, none⟩) h.lt hB).trans h.c4, fun o => (hc.frozen (p := ⟨B, o, none⟩) h.lt hB).trans (h.fz o), Nat.lt_of_lt_of_le h.lt hc.size, h.args.ch hc hA, hro, fun hb => ?_, fun k hk1 hk2 => ?_⟩
  · rcases List.mem_append.1 hb with hb | hb
    · exact h.nB (by simp [hb])
    · rcases hin B hb with h2 | h2
      · exact h.nB (List.mem_append.2 (.inr h2))
      · have := h.lt; omega
  · rcases hin k hk2 with h2 | h2
    · exact h.nd k hk1 h2
    · have := (FreshIn.blks h.args k hk1).2; omega
theorem PS.pushIn {x : ActA} (hx : x.aa = none) (hus : us = L ++ [x]) (hk : ∀ k ∈ blkOf al', k ∈ blkOf al ∨ k = w.heap.size) : ∀ k ∈ acB al' us, k ∈ acB al L ∨ w.heap.size ≤ k := by
  intro k hk1
  have hbx : actBlk x = [] := by unfold actBlk; rw [hx]; rfl
  simp only [roB, List.mem_append] at hk1 ⊢
  rcases hk1 with hk1 | hk1
  · rcases hk k hk1 with h2 | h2
    · exact .inl (.inl h2)
    · exact .inr (by omega)
  · rw [hus] at hk1
    simp only [List.flatMap_append, List.flatMap_cons, List.flatMap_nil, List.append_nil, hbx] at hk1
    exact .inl (.inr hk1)
end
def PR (B lo : Nat) (R : PV × List AV) (ap : Option Addr) (L : List ActA) (al : Option Addr) (w : World) (e : Ending) (w' : World) : Prop :=
  ∃ (ap' : Option Addr) (cp' : Nat) (L' : List ActA) (al' : Option Addr) (cl' : Nat), e = .returned (.slice al' L'.length cl') ∧ PS B lo R.1 ap' cp' L' al' cl' w' ∧ L'.map (·.A) = L.map (·.A) ++ R.2 ∧
    Ch (fun k => k = B ∨ k ∈ blkOf ap ∨ k ∈ blkOf al) w w' ∧ (∀ k ∈ blkOf ap' ++ acB al' L', k ∈ blkOf ap ++ acB al L ∨ w.heap.size ≤ k)
section
variable {B lo : Nat} {p p' : PV} {ap ap' al al' : Option Addr} {cp cp' cl cl' : Nat} {L us : List ActA} {w w' w1 w2 : World} {R : PV × List AV} {e : Ending}
theorem PR.cells (h : PS B lo p ap cp L al cl w) (hc : Ch (· = B) w w') (hR1 : R.1 = p') (hR2 : R.2 = []) (h' : PS B lo p' ap' cp' L al cl w') (ha : ap' = ap ∨ ap' = none) : PR B lo R ap L al w (.returned (.slice al L.length cl)) w' := by
  refine ⟨ap', cp', L, al, cl, rfl, by rw [hR1]; exact h', by rw [hR2]; simp, hc.mono (fun i hi => .inl (.inl hi)), fun k hk => .inl ?_⟩
  rcases ha with rfl | rfl
  · exact hk
  · simp only [blkOf, List.nil_append] at hk
    rw [List.mem_append]; exact .inr hk
theorem PR.push (h : PS B lo p ap cp L al cl w) {x : ActA} (hx : x.aa = none) (hus : us = L ++ [x]) (hk : ∀ k ∈ blkOf al', k ∈ blkOf al ∨ k = w1.heap.size) (hz : w.heap.size ≤ w1.heap.size)
    (hc : Ch (fun k => k = B ∨ k ∈ blkOf al) w w') (hR1 : R.1 = p') (hR2 : R.2 = [x.A]) (h' : PS B lo p' ap' cp' us al' cl' w') (ha : ap' = ap ∨ ap' = none) : PR B lo R ap L al w (.returned (.slice al' us.length cl')) w' := by
  refine ⟨ap', cp', us, al', cl', rfl, by rw [hR1]; exact h', by rw [hR2, hus]; simp, hc.mono (fun i hi => .inl (by rcases hi with h | h; exact .inl h; exact .inr (.inr h))), fun k hk1 => ?_⟩
  have hin := PS.pushIn (w := w1) (al := al) (L := L) hx hus hk
  rcases List.mem_append.1 hk1 with hk2 | hk2
  · rcases ha with rfl | rfl
    · exact .inl (List.mem_append.2 (.inl hk2))
    · simp [blkOf] at hk2
  · rcases hin k hk2 with h2 | h2
    · exact .inl (List.mem_append.2 (.inr h2))
    · exact .inr (by omega)
end
end
section
open Go.RowKit
theorem ctl_eq (n : Nat) : ctlI (n : Int) = ctl n := by
  unfold ctlI ctl inB
  rw [Bool.eq_iff_iff]
  simp only [Bool.or_eq_true, Bool.and_eq_true, decide_eq_true_eq, beq_iff_eq]
  omega
theorem Ch.setB {a w : World} {B : Nat} (h : Ch (fun k => k = B) a w) (o : Nat) (u : Value) : Ch (fun k => k = B) a (w.setCell ⟨B, o, none⟩ u) := Ch.setCell (M := fun k => k = B) (p := ⟨B, o, none⟩) h (Or.inl rfl) u
theorem Ch.set1 (w : World) (B o : Nat) (u : Value) : Ch (fun k => k = B) w (w.setCell ⟨B, o, none⟩ u) := Ch.refl.setB o u
theorem conv1 (w : World) (b : UInt8) (n : Nat) (hn : b.toNat = n) : (convert 22 9 (.slice (some ⟨w.heap.size, 0, none⟩) 1 1)).run Tryz.prog (w.alloc (.cells #[.int .u8 n] 5)) = .ok (.string ⟨#[b]⟩) (w.alloc (.cells #[.int .u8 n] 5)) := by
  refine run_convert_bytes_back (w.alloc (.cells #[.int .u8 n] 5)) _ _ 5 ⟨w.heap.size, 0, none⟩ 1 [b] Tryz.underlying22 Tryz.underlying5 Tryz.underlying9 (fun j hj => ?_)
  have h0 : j = 0 := by simpa using hj
  subst h0
  simp [go_sem, hn]
section
variable {b : UInt8}
theorem gs1 (h : b.toNat = 27) : gstep b = (pst 1, []) := by unfold gstep; rw [if_pos h]
theorem gs2 (h : ¬ b.toNat = 27) (h2 : ctl b.toNat = true) : gstep b = (pz, [⟨2, b.toNat, false, [], e0⟩]) := by unfold gstep; rw [if_neg h, if_pos h2]
theorem gs3 (h : ¬ b.toNat = 27) (h2 : ctl b.toNat = false) (h3 : 32 ≤ b.toNat ∧ b.toNat ≤ 126) : gstep b = (pz, [pr b.toNat]) := by unfold gstep; rw [if_neg h, if_neg (by rw [h2]; simp), if_pos h3]
theorem gs4 (h : ¬ b.toNat = 27) (h2 : ctl b.toNat = false) (h3 : ¬ (32 ≤ b.toNat ∧ b.toNat ≤ 126)) (h4 : b.toNat < 128) : gstep b = (pz, []) := by unfold gstep; rw [if_neg h, if_neg (by rw [h2]; simp), if_neg h3, if_pos h4]
theorem gs5 (h : 128 ≤ b.toNat) (h5 : 0 < utfLen b.toNat) : gstep b = (⟨6, [], false, e0, ⟨#[b]⟩⟩, []) := by
  unfold gstep
  rw [if_neg (by omega), if_neg (by simp [ctl]; omega), if_neg (by omega), if_neg (by omega), if_pos h5]
theorem gs6 (h : 128 ≤ b.toNat) (h5 : ¬ 0 < utfLen b.toNat) : gstep b = (pz, [pr 65533]) := by
  unfold gstep
  rw [if_neg (by omega), if_neg (by simp [ctl]; omega), if_neg (by omega), if_neg (by omega), if_neg h5]
end
end
section
open Go.RowKit
section
variable {B lo g : Nat} {p p' : PV} {ap ap' al al' : Option Addr} {cp cp' cl cl' : Nat} {L us : List ActA} {w w' w1 w2 : World} {R : PV × List AV} {e : Ending} {xs ys : List Int}
theorem FreshIn.setI {c k : Nat} (h : FreshIn intE 3 1 lo w.heap.size (.slice (some ⟨g, 0, none⟩) xs.length c) xs w) (hk : k < xs.length) (v : Int) : FreshIn intE 3 1 lo (w.setCell ⟨g, k, none⟩ (.int .i64 v)).heap.size (.slice (some ⟨g, 0, none⟩) (xs.set k v).length c) (xs.set k v) (w.setCell ⟨g, k, none⟩ (.int .i64 v)) := by
  obtain ⟨g', he, h1, h2, h3, ho⟩ := h.block (by omega)
  cases he
  have hs := (ho.stored k (.int .i64 v)).1
  rw [flat_set1 intE (fun _ => rfl) _ k hk v _ rfl] at hs
  have hl : (xs.set k v).length = xs.length := by simp
  refine ⟨?_, fun j hj => by simp [Value.ownBlock] at hj; subst hj; simpa [World.setCell] using h3⟩
  rw [hl]
  exact Fresh.of_own hs hl.symm rfl
theorem PS.arg2 (h : PS B lo p ap cp L al cl w) (hc : Ch (· ∈ blkOf ap) w w1) (ha : FreshIn intE 3 1 lo w1.heap.size (.slice ap' xs.length cp') xs w1) (hk : ∀ k ∈ blkOf ap', k ∈ blkOf ap ∨ w.heap.size ≤ k) : PS B lo { p with args := xs } ap' cp' L al cl (w1.setCell ⟨B, 1, none⟩ (.slice ap' xs.length cp')) := by
  have hB : ¬ B ∈ blkOf ap := fun hb => h.nB (by simp [hb])
  have hlt := Nat.lt_of_lt_of_le h.lt hc.size
  have hB' : B ∉ blkOf ap' := fun hb => by
    rcases hk B hb with h1 | h1
    · exact hB h1
    · have := h.lt; omega
  have hcs : Ch (fun k => k = B) w1 (w1.setCell ⟨B, 1, none⟩ (.slice ap' xs.length cp')) := Ch.set1 _ _ _ _
  have k1 : w1.cell? ⟨B, 1, none⟩ = some (.slice ap p.args.length cp) := (hc.cell (p := ⟨B, 1, none⟩) h.lt hB).trans h.c1
  have ot : ∀ o, o ≠ 1 → (w1.setCell ⟨B, 1, none⟩ (.slice ap' xs.length cp')).cell? ⟨B, o, none⟩ = w.cell? ⟨B, o, none⟩ := fun o ho => (World.cell?_setCell_other _ _ _ _ (fun e => by cases e; exact ho rfl)).trans (hc.cell (p := ⟨B, o, none⟩) h.lt hB)
  refine ⟨(ot 0 (by decide)).trans h.c0, by simp [go_sem, k1], (ot 2 (by decide)).trans h.c2, (ot 3 (by decide)).trans h.c3, (ot 4 (by decide)).trans h.c4, fun o => (World.frozen?_setCell _ _ _ _).trans ((hc.frozen (p := ⟨B, o, none⟩) h.lt hB).trans (h.fz o)), by simpa [World.setCell] using hlt, ha.ch hcs (fun k hk1 e => hB' (e ▸ hk1)), (h.ro.ch actL hc (fun k hk hk2 => h.nd k hk2 hk)).ch actL hcs (fun k hk1 e => h.nB (by rw [List.mem_append]; exact .inr (e ▸ hk1))), fun hb => ?_, fun k hk1 hk2 => ?_⟩
  · rcases List.mem_append.1 hb with hb | hb
    · exact hB' hb
    · exact h.nB (List.mem_append.2 (.inr hb))
  · rcases hk k hk1 with h1 | h1
    · exact h.nd k h1 hk2
    · have := (h.ro.bd actL k hk2).2; omega
end
end
section
open Go.Shelf Go.RowKit
structure UT (w : World) : Prop where
  tabs : Lib.Utf8Tabs 0 1 w
  l1 : 0 < w.heap.size
  l2 : 1 < w.heap.size
theorem UT.ch {M : Nat → Prop} {w w' : World} (h : UT w) (hc : Ch M w w') (h1 : ¬ M 0) (h2 : ¬ M 1) : UT w' := by
  obtain ⟨⟨a, b⟩, l1, l2⟩ := h
  refine ⟨⟨fun c hcc => (hc.cell (p := ⟨_, c, none⟩) l1 h1).trans (a c hcc), fun i hi => ⟨(hc.cell (p := ⟨_, 2 * i, none⟩) l2 h2).trans (b i hi).1, (hc.cell (p := ⟨_, 2 * i + 1, none⟩) l2 h2).trans (b i hi).2⟩⟩, Nat.lt_of_lt_of_le l1 hc.size, Nat.lt_of_lt_of_le l2 hc.size⟩
theorem UT.keep {w w' : World} (h : UT w) (hb : Below w.heap.size w w') : UT w' := h.ch (M := fun _ => False) (Ch.of_below hb) (fun h => h) (fun h => h)
end
section
open Go.RowKit
section
variable {α : Type} {enc : α → List Value} {w : World}
theorem step_append_wp {P : Program} {o : Oper} {a : Act} {K : Act → World → Prop} {Q : Exit → Act → World → Prop} (s x : Operand) (t tx : TypeId)
    (ho : o.op = .call { callee := .builtin .append, args := #[s, x], argTypes := #[t, tx] })
    (lo hi : Nat) (e : TypeId) (i : TypeInfo) (z : Value) (size bytes : Nat) (ht : P.underlying t = some (.slice e)) (hinfo : P.info? e = some i) (hz : i.zero = some z)
    (hsize : i.size = size) (hby : i.bytes = bytes) (hzs : z.cells.size = size) (hbp : 0 < bytes)
    (ad : Option Addr) (n c : Nat) (zs : List α) (hs : a.eval s = .slice ad n c) (hF : FreshIn enc e size lo hi (.slice ad n c) zs w)
    (xv : Value) (ys : List α) (hx : a.eval x = xv) (hsrc : Src P size tx xv ys.length (ys.flatMap enc) w)
    (hbytes : (zs.length + ys.length) * bytes ≤ 140737488355328) (hlo : lo ≤ w.heap.size)
    (h : ∀ a' c' w' us, Hid (us = zs ++ ys) → FreshIn enc e size lo w'.heap.size (.slice a' us.length c') us w' → Mid lo hi w w' → (∀ k ∈ blkOf a', k ∈ blkOf ad ∨ k = w.heap.size) → K (a.put o.dst (.slice a' us.length c')) w') :
    Oper.wp P o a w K Q := by
  have hrow := hF.row
  obtain ⟨⟨a', cap', hv, h1, h2⟩, h3⟩ := hF
  cases hv
  have h63 : zs.length + ys.length ≤ maxLen := by
    have : zs.length + ys.length ≤ (zs.length + ys.length) * bytes := Nat.le_mul_of_pos_right _ hbp
    unfold maxLen; omega
  obtain ⟨v', w', hr, k1, k2, k3⟩ := run_append_own_src (P := P) w lo t tx o.type e i z size bytes ht hinfo hz hsize hby hzs _ zs.length (zs.flatMap enc) h2 xv ys.length (ys.flatMap enc) hsrc h63 hbytes hlo
  have hf : Fresh enc e size lo v' (zs ++ ys) w' := Fresh.of_own k1 (by simp) (by simp)
  obtain ⟨a1, c1, rfl, _⟩ := id hf
  unfold Oper.wp execOp
  simp only [ho, resolve, invoke, builtin, Sem.run_bind, Sem.run_pure, Result.andThen_ok, List.map_toArray, List.map_cons, List.map_nil, hs, hx, hr]
  refine h a1 c1 w' _ rfl hf.here (Mid.of_grown k2 hrow) (fun k hk => ?_)
  have hk' := (blkOf_own' (n := (zs ++ ys).length) (c := c1)).1 hk
  rcases k3 with k3 | k3
  · exact .inl ((blkOf_own' (n := zs.length) (c := c)).2 (k3 ▸ hk'))
  · rw [k3] at hk'
    exact .inr (Option.some.inj hk').symm
end
section
variable {α : Type} {enc : α → List Value} {w : World}
theorem step_append_ch {P : Program} {o : Oper} {a : Act} {K : Act → World → Prop} {Q : Exit → Act → World → Prop} (s x : Operand) (t tx : TypeId)
    (lo : Nat) (e : TypeId) (i : TypeInfo) (z : Value) (size bytes : Nat) (ht : P.underlying t = some (.slice e)) (hinfo : P.info? e = some i) (hz : i.zero = some z)
    (hsize : i.size = size) (hby : i.bytes = bytes) (hzs : z.cells.size = size) (hbp : 0 < bytes)
    (ad : Option Addr) (n c : Nat) (zs : List α) (hF : FreshIn enc e size lo w.heap.size (.slice ad n c) zs w)
    (xv : Value) (ys : List α) (hsrc : Src P size tx xv ys.length (ys.flatMap enc) w)
    (hbytes : (zs.length + ys.length) * bytes ≤ 140737488355328) (hlo : lo ≤ w.heap.size)
    (ho : o.op = .call { callee := .builtin .append, args := #[s, x], argTypes := #[t, tx] }) (hs : a.eval s = .slice ad n c) (hx : a.eval x = xv)
    (h : ∀ a' c' w' us, Hid (us = zs ++ ys) → FreshIn enc e size lo w'.heap.size (.slice a' us.length c') us w' → Ch (· ∈ blkOf ad) w w' → (∀ k ∈ blkOf a', k ∈ blkOf ad ∨ k = w.heap.size) → K (a.put o.dst (.slice a' us.length c')) w') : Oper.wp P o a w K Q := by
  obtain ⟨b, t1, t2, t3, t4⟩ := hF.tight
  refine step_append_wp s x t tx ho b (b + 1) e i z size bytes ht hinfo hz hsize hby hzs hbp ad n c zs hs t1 xv ys hx hsrc hbytes t2 ?_
  intro a' c' w' us hus hf hm hk
  refine h a' c' w' us hus ?_ (Ch.of_mid hm t3) hk
  rcases Nat.lt_or_ge b w.heap.size with hb | hb
  · exact hf.mono (t4 hb).2 (Nat.le_refl _)
  · exact hf.mono (by omega) (Nat.le_refl _)
end
end
section
open Go.RowKit
section
variable {p : PV} {b : UInt8} {n : Nat}
theorem cs1 (hn : b.toNat = n) (h : n = 27) : cstep p b = (pst 1, []) := by subst hn; unfold cstep; rw [if_pos h]
theorem cs2 (hn : b.toNat = n) (h : ¬ n = 27) (h2 : ctl n = true) : cstep p b = (p, [⟨2, n, false, [], e0⟩]) := by subst hn; unfold cstep; rw [if_neg h, if_pos h2]
theorem cs3 (hn : b.toNat = n) (h2 : ctl n = false) (h3 : 48 ≤ n ∧ n ≤ 57) : cstep p b = ({ p with args := p.args.dropLast ++ [min 9999 (max 0 (lastA p.args) * 10 + ((n : Int) - 48))] }, []) := by subst hn; unfold cstep; rw [if_neg (by omega), if_neg (by rw [h2]; simp), if_pos h3]
theorem cs4 (hn : b.toNat = n) (h2 : ctl n = false) (h3 : n = 59 ∧ p.args.length < 8) : cstep p b = ({ p with args := p.args ++ [-1] }, []) := by subst hn; unfold cstep; rw [if_neg (by omega), if_neg (by rw [h2]; simp), if_neg (by omega), if_pos h3]
theorem cs5 (hn : b.toNat = n) (h2 : ctl n = false) (h3 : n = 63 ∧ p.args = [-1] ∧ p.priv = false) : cstep p b = ({ p with priv := true }, []) := by subst hn; unfold cstep; rw [if_neg (by omega), if_neg (by rw [h2]; simp), if_neg (by omega), if_neg (by omega), if_pos h3]
theorem cs6 (hn : b.toNat = n) (h2 : ctl n = false) (h3 : 64 ≤ n ∧ n ≤ 126) : cstep p b = (pz, [⟨4, n, p.priv, p.args, e0⟩]) := by subst hn; unfold cstep; rw [if_neg (by omega), if_neg (by rw [h2]; simp), if_neg (by omega), if_neg (by omega), if_neg (by omega), if_pos h3]
theorem cs7 (hn : b.toNat = n) (h : ¬ n = 27) (h2 : ctl n = false) (h3 : ¬ (48 ≤ n ∧ n ≤ 57)) (h4 : ¬ (n = 59 ∧ p.args.length < 8)) (h5 : ¬ (n = 63 ∧ p.args = [-1] ∧ p.priv = false)) (h6 : ¬ (64 ≤ n ∧ n ≤ 126)) : cstep p b = (pst 3, []) := by
  subst hn; unfold cstep; rw [if_neg h, if_neg (by rw [h2]; simp), if_neg h3, if_neg h4, if_neg h5, if_neg h6]
end
theorem set_last {xs : List Int} {m : Nat} (hm : xs.length = m + 1) (v : Int) : xs.set m v = xs.dropLast ++ [v] := by
  have h1 : xs ≠ [] := by intro h; rw [h] at hm; simp at hm
  obtain ⟨ys, y, rfl⟩ : ∃ ys y, xs = ys ++ [y] := ⟨xs.dropLast, xs.getLast h1, (List.dropLast_concat_getLast h1).symm⟩
  have : ys.length = m := by simpa using hm
  subst this
  simp
theorem last_at {xs : List Int} {m : Nat} (hm : xs.length = m + 1) : lastA xs = xs[m]'(by omega) := by
  have h1 : xs ≠ [] := by intro h; rw [h] at hm; simp at hm
  unfold lastA
  rw [List.getLastD_eq_getLast?, List.getLast?_eq_some_getLast h1, Option.getD_some, List.getLast_eq_getElem]
  congr 1
  omega
theorem one_at {xs : List Int} (h1 : xs.length = 1) (h2 : xs[0]'(by omega) = -1) : xs = [-1] := by
  match xs, h1, h2 with
  | [x], _, h2 => simpa using h2
theorem u8_in {n : Int} (h1 : 0 ≤ n) (h2 : n < 256) : IntKind.u8.wrap n = n := by
  unfold IntKind.wrap
  simp [IntKind.bits, IntKind.signed]
  omega
theorem PR.base {B lo : Nat} {R : PV × List AV} {ap al : Option Addr} {L : List ActA} {w w1 w' : World} {e : Ending} (h : PR B lo R ap L al w1 e w') (hb : Below w.heap.size w w1) : PR B lo R ap L al w e w' := by
  obtain ⟨ap', cp', L', al', cl', h1, h2, h3, h4, h5⟩ := h
  refine ⟨ap', cp', L', al', cl', h1, h2, h3, (Ch.of_below hb).trans h4 (fun i hi => .inl hi), fun k hk => ?_⟩
  rcases h5 k hk with h6 | h6
  · exact .inl h6
  · have := hb.size
    exact .inr (by omega)
end
section
open Go.RowKit
section
variable {p : PV} {b : UInt8}
theorem us1 (h : mayF p.utf.data.toList b.toNat = false) : ustep p b = ((gstep b).1, pr 65533 :: (gstep b).2) := by unfold ustep; rw [if_pos h]
theorem us2 (h : mayF p.utf.data.toList b.toNat = true) (h2 : p.utf.size + 1 < utfLen (p.utf.data.toList.headD 0).toNat) : ustep p b = ({ p with utf := p.utf ++ ⟨#[b]⟩ }, []) := by unfold ustep; rw [if_neg (by rw [h]; simp), if_pos h2]
theorem us3 (h : mayF p.utf.data.toList b.toNat = true) (h2 : ¬ p.utf.size + 1 < utfLen (p.utf.data.toList.headD 0).toNat) : ustep p b = (pz, [pr (rnV (p.utf.data.toList ++ [b]))]) := by unfold ustep; rw [if_neg (by rw [h]; simp), if_neg h2]
end
theorem PR.after {B lo : Nat} {R : PV × List AV} {ap al a1 : Option Addr} {L us : List ActA} {x : ActA} {w w2 w' : World} {e : Ending} (h : PR B lo R none us a1 w2 e w') (hx : x.aa = none) (hus : us = L ++ [x]) (hc : Ch (fun k => k = B ∨ k ∈ blkOf al) w w2) (hka : ∀ k ∈ blkOf a1, k ∈ blkOf al ∨ w.heap.size ≤ k) :
    PR B lo (R.1, x.A :: R.2) ap L al w e w' := by
  obtain ⟨ap', cp', L', al', cl', h1, h2, h3, h4, h5⟩ := h
  have hbx : actBlk x = [] := by unfold actBlk; rw [hx]; rfl
  refine ⟨ap', cp', L', al', cl', h1, h2, by rw [h3, hus]; simp, ?_, fun k hk1 => ?_⟩
  · refine (hc.mono (M := fun k => k = B ∨ k ∈ blkOf ap ∨ k ∈ blkOf al) (fun i hi => .inl (by rcases hi with h | h; exact .inl h; exact .inr (.inr h)))).trans h4 (fun i hi => ?_)
    rcases hi with h6 | h6 | h6
    · exact .inl (.inl h6)
    · simp [blkOf] at h6
    · rcases hka i h6 with h7 | h7
      · exact .inl (.inr (.inr h7))
      · exact .inr h7
  · rcases h5 k hk1 with h6 | h6
    · simp only [blkOf, List.nil_append, roB, List.mem_append, hus, List.flatMap_append, List.flatMap_cons, List.flatMap_nil, List.append_nil, hbx] at h6
      rcases h6 with h6 | h6
      · rcases hka k h6 with h7 | h7
        · exact .inl (by simp only [List.mem_append, roB]; exact .inr (.inl h7))
        · exact .inr h7
      · exact .inl (by simp only [List.mem_append, roB]; exact .inr (.inr h6))
    · have := hc.size
      exact .inr (by omega)
theorem convAt (g : Nat) (w : World) (b : UInt8) (n : Nat) (hc : w.cell? ⟨g, 0, none⟩ = some (.int .u8 n)) (hn : b.toNat = n) : (convert 22 9 (.slice (some ⟨g, 0, none⟩) 1 1)).run Tryz.prog w = .ok (.string ⟨#[b]⟩) w := by
  refine run_convert_bytes_back w _ _ 5 ⟨g, 0, none⟩ 1 [b] Tryz.underlying22 Tryz.underlying5 Tryz.underlying9 (fun j hj => ?_)
  have h0 : j = 0 := by simpa using hj
  subst h0
  simp [Addr.add, hc, hn]
end
section
open Go.RowKit
theorem esc_eq (n : Nat) : escI (n : Int) = esc n := by
  unfold escI esc
  rw [Bool.eq_iff_iff]
  simp only [Bool.or_eq_true, beq_iff_eq]
  omega
section
variable {b : UInt8} {n : Nat}
theorem es1 (hn : b.toNat = n) (h : n = 91) : estep b = (⟨2, [-1], false, e0, e0⟩, []) := by subst hn; unfold estep; rw [if_pos h]
theorem es2 (hn : b.toNat = n) (h : n = 93) : estep b = (pst 4, []) := by subst hn; unfold estep; rw [if_neg (by omega), if_pos h]
theorem es3 (hn : b.toNat = n) (h : n = 27) : estep b = (pst 1, []) := by subst hn; unfold estep; rw [if_neg (by omega), if_neg (by omega), if_pos h]
theorem es4 (hn : b.toNat = n) (h1 : ¬ n = 91) (h2 : ¬ n = 93) (h3 : ¬ n = 27) (h4 : esc n = true) : estep b = (pz, [⟨3, n, false, [], e0⟩]) := by subst hn; unfold estep; rw [if_neg h1, if_neg h2, if_neg h3, if_pos h4]
theorem es5 (hn : b.toNat = n) (h1 : ¬ n = 91) (h2 : ¬ n = 93) (h3 : ¬ n = 27) (h4 : esc n = false) : estep b = (pz, []) := by subst hn; unfold estep; rw [if_neg h1, if_neg h2, if_neg h3, if_neg (by rw [h4]; simp)]
end
theorem fresh_one (lo : Nat) (w : World) (g : Nat) (v : Int) (hg : g = w.heap.size) (h : lo ≤ w.heap.size) : FreshIn intE 3 1 lo (w.alloc (.cells #[.int .i64 v] 3)).heap.size (.slice (some ⟨g, 0, none⟩) 1 1) [v] (w.alloc (.cells #[.int .i64 v] 3)) := by
  subst hg
  exact (Fresh.of_own (World.ownsRow_lit (base := lo) w #[.int .i64 v] 1 h (by decide) rfl) rfl rfl).here
theorem PS.cellsNew {B lo g : Nat} {p p' : PV} {ap al : Option Addr} {cp cp' cl : Nat} {L : List ActA} {w w' : World} (h : PS B lo p ap cp L al cl w) (hc : Ch (fun k => k = B) w w') (hg : w.heap.size ≤ g) (ha : FreshIn intE 3 1 lo w'.heap.size (.slice (some ⟨g, 0, none⟩) p'.args.length cp') p'.args w')
    (c0 : w'.cell? ⟨B, 0, none⟩ = some (.int .i64 p'.state)) (c1 : w'.cell? ⟨B, 1, none⟩ = some (.slice (some ⟨g, 0, none⟩) p'.args.length cp')) (c2 : w'.cell? ⟨B, 2, none⟩ = some (.bool p'.priv))
    (c3 : w'.cell? ⟨B, 3, none⟩ = some (.string p'.text)) (c4 : w'.cell? ⟨B, 4, none⟩ = some (.string p'.utf)) (fz : ∀ o, w'.frozen? ⟨B, o, none⟩ = false) : PS B lo p' (some ⟨g, 0, none⟩) cp' L al cl w' := by
  have hne : ∀ k ∈ acB al L, ¬ k = B := fun k hk e => h.nB (by rw [List.mem_append]; exact .inr (e ▸ hk))
  have hlt := h.lt
  refine ⟨c0, c1, c2, c3, c4, fz, Nat.lt_of_lt_of_le hlt hc.size, ha, h.ro.ch actL hc hne, fun hB => ?_, fun k hk1 hk2 => ?_⟩
  · rcases List.mem_append.1 hB with h1 | h1
    · simp [blkOf] at h1; omega
    · exact hne B h1 rfl
  · simp [blkOf] at hk1
    have := (h.ro.bd actL k hk2).2
    omega
end
section
open Go.RowKit
section
variable {p : PV} {b : UInt8} {n : Nat}
theorem ss1 (hn : b.toNat = n) (h : n = 27) : sstep p b = (pst 1, []) := by subst hn; unfold sstep; rw [if_pos h]
theorem ss2 (hn : b.toNat = n) (h : 64 ≤ n ∧ n ≤ 126) : sstep p b = (pz, []) := by subst hn; unfold sstep; rw [if_neg (by omega), if_pos h]
theorem ss3 (hn : b.toNat = n) (h1 : ¬ n = 27) (h : ¬ (64 ≤ n ∧ n ≤ 126)) : sstep p b = (p, []) := by subst hn; unfold sstep; rw [if_neg h1, if_neg h]
theorem os1 (hn : b.toNat = n) (h : n = 7) : ostep p b = (pz, [⟨5, 0, false, [], p.text⟩]) := by subst hn; unfold ostep; rw [if_pos h]
theorem os2 (hn : b.toNat = n) (h : n = 27) : ostep p b = ({ p with state := 5 }, []) := by subst hn; unfold ostep; rw [if_neg (by omega), if_pos h]
theorem os3 (hn : b.toNat = n) (h : (32 ≤ n ∧ n ≤ 126) ∧ p.text.size < 40) : ostep p b = ({ p with text := p.text ++ ⟨#[b]⟩ }, []) := by subst hn; unfold ostep; rw [if_neg (by omega), if_neg (by omega), if_pos h]
theorem os4 (hn : b.toNat = n) (h1 : ¬ n = 7) (h2 : ¬ n = 27) (h : ¬ ((32 ≤ n ∧ n ≤ 126) ∧ p.text.size < 40)) : ostep p b = (p, []) := by subst hn; unfold ostep; rw [if_neg h1, if_neg h2, if_neg h]
theorem qs1 (hn : b.toNat = n) (h : n = 92) : qstep p b = (pz, [⟨5, 0, false, [], p.text⟩]) := by subst hn; unfold qstep; rw [if_pos h]
theorem qs2 (hn : b.toNat = n) (h : ¬ n = 92) : qstep p b = estep b := by subst hn; unfold qstep; rw [if_neg h]
end
end
section
open Go.RowKit
theorem titB_sz {s : ByteArray} (h : titB s = true) : s.size ≤ 40 := by
  rw [titB_eq, Bool.and_eq_true, decide_eq_true_eq] at h
  exact h.1
end
section
open Go.RowKit
theorem intOne : ∀ (x : Int), ∀ u ∈ intE x, u.oneCell' = true := fun x u hu => by simp [intE] at hu; subst hu; rfl
theorem fresh_mdI (w : World) (B : Nat) (hB : B ≤ w.heap.size) : Fresh intE 3 1 B (.slice (some ⟨w.heap.size, 0, none⟩) 0 0) [] (w.alloc (.cells #[] 3)) :=
  Fresh.of_own (World.ownsRow_made (base := B) w #[] 0 hB (by decide) rfl) rfl rfl
def ParR (p : PV) (w : World) (e : Ending) (w' : World) : Prop :=
  ∃ a c, e = .returned (.agg #[.int .i64 p.state, .slice a p.args.length c, .bool p.priv, .string p.text, .string p.utf]) ∧ FreshIn intE 3 1 w.heap.size w'.heap.size (.slice a p.args.length c) p.args w' ∧ Below w.heap.size w w'
end
section
open Go.RowKit
def OutR (G : (PV × List AV) × Int) (w : World) (e : Ending) (w' : World) : Prop :=
  ∃ (ap : Option Addr) (cp : Nat) (al : Option Addr) (cl : Nat) (L : List ActA), e = .returned (.tuple #[.agg #[.int .i64 G.1.1.state, .slice ap G.1.1.args.length cp, .bool G.1.1.priv, .string G.1.1.text, .string G.1.1.utf], .slice al L.length cl, .int .i64 G.2]) ∧ FreshIn intE 3 1 w.heap.size w'.heap.size (.slice ap G.1.1.args.length cp) G.1.1.args w' ∧ ActO w.heap.size L al cl w' ∧ (∀ k ∈ blkOf ap, k ∉ acB al L) ∧ L.map (·.A) = G.1.2 ∧ Below w.heap.size w w'
theorem OutR.zero {G : (PV × List AV) × Int} {c : Int} {w w' : World} (hG : G = ((pz, []), c)) (hb : Below w.heap.size w w') : OutR G w (.returned (.tuple #[.agg #[.int .i64 0, .slice none 0 0, .bool false, .string ⟨#[]⟩, .string ⟨#[]⟩], .slice none 0 0, .int .i64 c])) w' := by
  subst hG
  exact ⟨none, 0, none, 0, [], rfl, FreshIn.nil _ _ _ _ _ _, RO.nil, by simp [blkOf], rfl, hb⟩
theorem PS.box {B lo : Nat} {p : PV} {ap : Option Addr} {cp : Nat} {w : World} (hlt : B < w.heap.size) (ha : FreshIn intE 3 1 lo w.heap.size (.slice ap p.args.length cp) p.args w)
    (c0 : w.cell? ⟨B, 0, none⟩ = some (.int .i64 p.state)) (c1 : w.cell? ⟨B, 1, none⟩ = some (.slice ap p.args.length cp)) (c2 : w.cell? ⟨B, 2, none⟩ = some (.bool p.priv))
    (c3 : w.cell? ⟨B, 3, none⟩ = some (.string p.text)) (c4 : w.cell? ⟨B, 4, none⟩ = some (.string p.utf)) (fz : ∀ o, w.frozen? ⟨B, o, none⟩ = false) (hn : ∀ k ∈ blkOf ap, k ≠ B) : PS B lo p ap cp [] none 0 w :=
  ⟨c0, c1, c2, c3, c4, fz, hlt, ha, RO.nil, fun h => by
    rcases List.mem_append.1 h with h | h
    · exact hn _ h rfl
    · simp [acB, blkOf, roB] at h, fun k _ h => by simp [acB, blkOf, roB] at h⟩
theorem prun_snoc (p : PV) (l : List UInt8) (b : UInt8) : prun p (l ++ [b]) = ((pstep (prun p l).1 b).1, (prun p l).2 ++ (pstep (prun p l).1 b).2) := by
  rw [prun_append]
  simp [prun]
theorem step_len (p : PV) (b : UInt8) : (pstep p b).2.length ≤ 2 := by
  have hg : (gstep b).2.length ≤ 1 := by unfold gstep; (repeat' split) <;> simp
  have he : (estep b).2.length ≤ 1 := by unfold estep; (repeat' split) <;> simp
  have hc : (cstep p b).2.length ≤ 1 := by unfold cstep; (repeat' split) <;> simp
  have hs : (sstep p b).2.length ≤ 1 := by unfold sstep; (repeat' split) <;> simp
  have ho : (ostep p b).2.length ≤ 1 := by unfold ostep; (repeat' split) <;> simp
  have hq : (qstep p b).2.length ≤ 1 := by unfold qstep; (repeat' split) <;> first | exact he | simp
  have hu : (ustep p b).2.length ≤ 2 := by unfold ustep; (repeat' split) <;> simp <;> omega
  unfold pstep
  (repeat' split) <;> omega
theorem run_len (l : List UInt8) (p : PV) : (prun p l).2.length ≤ 2 * l.length := by
  induction l generalizing p with
  | nil => simp [prun]
  | cons b l ih =>
    have h1 := step_len p b
    have h2 := ih (pstep p b).1
    simp only [prun, List.length_append, List.length_cons]
    omega
end
section
open Go.RowKit
structure QS (X lo : Nat) (p : PV) (ap : Option Addr) (cp : Nat) (L : List ActA) (al : Option Addr) (cl : Nat) (w : World) : Prop where
  ps : PS X lo p ap cp L al cl w
  c5 : w.cell? ⟨X, 5, none⟩ = some (.slice al L.length cl)
  lo : lo ≤ X
section
variable {X lo : Nat} {p p' : PV} {ap ap' al al' : Option Addr} {cp cp' cl cl' : Nat} {L us : List ActA} {w w' w1 : World}
theorem QS.keep (h : QS X lo p ap cp L al cl w) (hb : Below w.heap.size w w') : QS X lo p ap cp L al cl w' := ⟨h.ps.keep hb, (hb.cell (p := ⟨X, 5, none⟩) h.ps.lt).trans h.c5, h.lo⟩
theorem PS.pushX (h : PS X lo p ap cp L al cl w) {x : ActA} (hx : actOwn lo w x) (hd : ∀ k ∈ blkOf x.aa, k ≠ X ∧ k ∉ blkOf ap ∧ k ∉ acB al L) (hus : us = L ++ [x]) (hf : FreshIn actE 38 5 lo w'.heap.size (.slice al' us.length cl') us w') (hc : Ch (· ∈ blkOf al) w w')
    (hk : ∀ k ∈ blkOf al', k ∈ blkOf al ∨ k = w.heap.size) : PS X lo p ap cp us al' cl' w' := by
  have hB : X ∉ blkOf al := fun hb => h.nB (by simp [roB, hb])
  have hA : ∀ k ∈ blkOf ap, k ∉ blkOf al := fun k hk1 hk2 => h.nd k hk1 (by simp [roB, hk2])
  have hro : ActO lo us al' cl' w' := h.ro.push actL hx (fun k hk1 => (hd k hk1).2.2) hus hf hc hk
  have hin : ∀ k ∈ acB al' us, k ∈ acB al L ∨ k ∈ blkOf x.aa ∨ k = w.heap.size := by
    intro k hk1
    simp only [roB, List.mem_append] at hk1 ⊢
    rcases hk1 with hk1 | hk1
    · rcases hk k hk1 with h2 | h2
      · exact .inl (.inl h2)
      · exact .inr (.inr h2)
    · rw [hus] at hk1
      simp only [List.flatMap_append, List.flatMap_cons, List.flatMap_nil, List.append_nil, List.mem_append] at hk1
      rcases hk1 with hk1 | hk1
      · exact .inl (.inr hk1)
      · exact .inr (.inl hk1)
  refine ⟨(hc.cell (p := ⟨X, 0, none⟩) h.lt hB).trans h.c0, (hc.cell (p := ⟨X, 1, none⟩) h.lt hB).trans h.c1, (hc.cell (p := ⟨X, 2, none⟩) h.lt hB).trans h.c2, (hc.cell (p := ⟨X, 3, none⟩) h.lt hB).trans h.c3, (hc.cell (p := ⟨X, 4, none⟩) h.lt hB).trans h.c4, fun o => (hc.frozen (p := ⟨X, o, none⟩) h.lt hB).trans (h.fz o), Nat.lt_of_lt_of_le h.lt hc.size, h.args.ch hc hA, hro, fun hb => ?_, fun k hk1 hk2 => ?_⟩
  · rcases List.mem_append.1 hb with hb | hb
    · exact h.nB (by simp [hb])
    · rcases hin X hb with h2 | h2 | h2
      · exact h.nB (List.mem_append.2 (.inr h2))
      · exact (hd X h2).1 rfl
      · have := h.lt; omega
  · rcases hin k hk2 with h2 | h2 | h2
    · exact h.nd k hk1 h2
    · exact (hd k h2).2.1 hk1
    · have := (FreshIn.blks h.args k hk1).2; omega
theorem QS.list {v : Value} (h : PS X lo p ap cp us al' cl' w) {u : Value} (hl : lo ≤ X) (hv : v = .slice al' us.length cl') (h5 : w.cell? ⟨X, 5, none⟩ = some u) : QS X lo p ap cp us al' cl' (w.setCell ⟨X, 5, none⟩ v) := by
  subst hv
  have hc : Ch (fun k => k = X) w (w.setCell ⟨X, 5, none⟩ (.slice al' us.length cl')) := Ch.set1 _ _ _ _
  have k0 := h.c0
  have k1 := h.c1
  have k2 := h.c2
  have k3 := h.c3
  have k4 := h.c4
  have kf := h.fz
  refine ⟨h.cells hc ?_ ?_ ?_ ?_ ?_ ?_ (.inl ⟨rfl, rfl, rfl⟩), ?_, hl⟩
  all_goals first | (intro o; simp [go_sem, kf]; done) | (simp [go_sem, k0, k1, k2, k3, k4, h5]; done)
end
theorem fresh_zero (lo : Nat) (w : World) (g : Nat) (hg : g = w.heap.size) (h : lo ≤ w.heap.size) : FreshIn intE 3 1 lo (w.alloc (.cells #[] 3)).heap.size (.slice (some ⟨g, 0, none⟩) 0 0) [] (w.alloc (.cells #[] 3)) := by
  subst hg
  exact (fresh_mdI w lo h).here
theorem ground_r (X lo : Nat) (p : PV) (ap al : Option Addr) (cp cl : Nat) (L : List ActA) (w : World) (h : QS X lo p ap cp L al cl w) :
    Calls Tryz.prog 147 #[.pointer (some ⟨X, 0, none⟩)] w fun e w' => e = .returned (.tuple #[]) ∧ ∃ g, w.heap.size ≤ g ∧ QS X lo pz (some ⟨g, 0, none⟩) 0 L al cl w' ∧ Ch (fun k => k = X) w w' := by
  have HP := Lib.hid h
  have k_0 := h.ps.c0
  have k_1 := h.ps.c1
  have k_2 := h.ps.c2
  have k_3 := h.ps.c3
  have k_4 := h.ps.c4
  have k_5 := h.c5
  have kf := h.ps.fz
  have klt := h.ps.lt
  clear h
  go_enter Tryz.func147, Tryz.ntmps147
  go_wp2_with fail
  refine bodyPost_end (v := .tuple #[]) (by simp [results, Tryz.results147]) rfl ?_
  have hlo : lo ≤ w.heap.size := by have := HP.out.lo; omega
  refine ⟨rfl, w.heap.size, Nat.le_refl _, ⟨HP.out.ps.cellsNew ?hc (Nat.le_refl _) ?ha ?_ ?_ ?_ ?_ ?_ ?_, ?_, HP.out.lo⟩, ?hc⟩
  case hc => repeat (first | (with_reducible exact Ch.refl) | (with_reducible refine Ch.alloc ?_ _) | (with_reducible refine Ch.drew ?_) | (with_reducible refine Ch.setB ?_ _ _))
  case ha => exact fresh_zero lo _ _ (by simp [World.setCell]) (by simp [World.setCell]; omega)
  all_goals first | (intro o; simp [go_sem, kf, klt]; done) | (simp [go_sem, k_0, k_1, k_2, k_3, k_4, k_5, klt, pz]; done)
end
section
open Go.RowKit
def QR (X lo : Nat) (R : PV × List AV) (L : List ActA) (e : Ending) (w w' : World) : Prop :=
  e = .returned (.tuple #[]) ∧ ∃ (ap' : Option Addr) (cp' : Nat) (L' : List ActA) (al' : Option Addr) (cl' : Nat), QS X lo R.1 ap' cp' L' al' cl' w' ∧ L'.map (·.A) = L.map (·.A) ++ R.2 ∧ Below lo w w'
theorem QS.below {X lo : Nat} {p : PV} {ap al : Option Addr} {cp cl : Nat} {L : List ActA} {w w' : World} (h : QS X lo p ap cp L al cl w) (hc : Ch (fun k => k = X ∨ k ∈ blkOf al) w w') : Below lo w w' := by
  have hl := h.lo
  have ht := h.ps.lt
  refine hc.below (by omega) (fun k hk => ?_)
  rcases hk with hk | hk
  · omega
  · exact (h.ps.ro.bd actL k (by simp [roB, hk])).1
theorem tell_r (X lo : Nat) (p : PV) (ap al aa : Option Addr) (cp cl ca : Nat) (L : List ActA) (A : AV) (w : World) (h : QS X lo p ap cp L al cl w)
    (hA : FreshIn intE 3 1 lo w.heap.size (.slice aa A.args.length ca) A.args w) (hd : ∀ k ∈ blkOf aa, k ≠ X ∧ k ∉ blkOf ap ∧ k ∉ acB al L) (hL : L.length ≤ 1048576) (hl : A.args.length ≤ 1048576) :
    Calls Tryz.prog 148 #[.pointer (some ⟨X, 0, none⟩), .agg #[.int .i64 A.kind, .int .i64 A.n, .bool A.priv, .slice aa A.args.length ca, .string A.text]] w (fun e w' => QR X lo (p, [A]) L e w w') := by
  obtain ⟨iA, hA', hA0, hA1, hA2⟩ := info_parts Tryz.infoAction
  have HP := Lib.hid h
  have HA := Lib.hid hA
  have HD := Lib.hid hd
  have k_5 := h.c5
  have kf := h.ps.fz
  have klt := h.ps.lt
  have hXn : ¬ w.heap.size = X := by omega
  have hXm : ¬ X = w.heap.size := by omega
  have hlo : lo ≤ w.heap.size := by have := h.lo; omega
  clear h hA hd
  have hA := hA'
  clear hA'
  go_enter Tryz.func148, Tryz.ntmps148
  by_cases hz : A.args.length = 0
  case pos =>
    have HE : Hid (A.args = []) := Lib.hid (List.length_eq_zero_iff.1 hz)
    have g0 : ((A.args.length : Int) == 0) = true := by rw [hz]; rfl
    clear hz
    go_upto_region 3 with fail
    have HB1 : Hid (Below w.heap.size w ((w.alloc (.cells #[.int .i64 A.kind, .int .i64 A.n, .bool A.priv, .slice (some ⟨w.heap.size + 1, 0, none⟩) 0 0, .string A.text] 38)).alloc (.cells #[] 3))) := Lib.hid (by repeat (first | (with_reducible exact Below.refl _ _) | (with_reducible refine Below.alloc ?_ ?_ _; rotate_left; ((try simp) <;> (try omega)))))
    have HOW : Hid (actOwn lo ((w.alloc (.cells #[.int .i64 A.kind, .int .i64 A.n, .bool A.priv, .slice (some ⟨w.heap.size + 1, 0, none⟩) 0 0, .string A.text] 38)).alloc (.cells #[] 3)) ⟨A, (some ⟨w.heap.size + 1, 0, none⟩), 0⟩ ∧ ∀ k ∈ blkOf (some ⟨w.heap.size + 1, 0, none⟩), k ≠ X ∧ k ∉ blkOf ap ∧ k ∉ acB al L) := Lib.hid (by
      refine ⟨?_, fun k hk => ?_⟩
      · unfold actOwn
        show FreshIn intE 3 1 lo _ (.slice _ A.args.length 0) A.args _
        rw [HE.out]
        exact fresh_zero lo _ _ (by simp) (by simp; omega)
      · simp [blkOf] at hk
        subst hk
        refine ⟨by omega, fun h => ?_, fun h => ?_⟩
        · have := (FreshIn.blks HP.out.ps.args _ h).2; omega
        · have := (HP.out.ps.ro.bd actL _ h).2; omega)
    have z_0 : ((w.alloc (.cells #[.int .i64 A.kind, .int .i64 A.n, .bool A.priv, .slice (some ⟨w.heap.size + 1, 0, none⟩) 0 0, .string A.text] 38)).alloc (.cells #[] 3)).cell? ⟨w.heap.size, 0, none⟩ = some (.int .i64 A.kind) := by simp [go_sem]
    have z_1 : ((w.alloc (.cells #[.int .i64 A.kind, .int .i64 A.n, .bool A.priv, .slice (some ⟨w.heap.size + 1, 0, none⟩) 0 0, .string A.text] 38)).alloc (.cells #[] 3)).cell? ⟨w.heap.size, 1, none⟩ = some (.int .i64 A.n) := by simp [go_sem]
    have z_2 : ((w.alloc (.cells #[.int .i64 A.kind, .int .i64 A.n, .bool A.priv, .slice (some ⟨w.heap.size + 1, 0, none⟩) 0 0, .string A.text] 38)).alloc (.cells #[] 3)).cell? ⟨w.heap.size, 2, none⟩ = some (.bool A.priv) := by simp [go_sem]
    have z_3 : ((w.alloc (.cells #[.int .i64 A.kind, .int .i64 A.n, .bool A.priv, .slice (some ⟨w.heap.size + 1, 0, none⟩) 0 0, .string A.text] 38)).alloc (.cells #[] 3)).cell? ⟨w.heap.size, 3, none⟩ = some (.slice (some ⟨w.heap.size + 1, 0, none⟩) 0 0) := by simp [go_sem]
    have z_4 : ((w.alloc (.cells #[.int .i64 A.kind, .int .i64 A.n, .bool A.priv, .slice (some ⟨w.heap.size + 1, 0, none⟩) 0 0, .string A.text] 38)).alloc (.cells #[] 3)).cell? ⟨w.heap.size, 4, none⟩ = some (.string A.text) := by simp [go_sem]
    obtain ⟨x1, hx1⟩ : ∃ x, ((w.alloc (.cells #[.int .i64 A.kind, .int .i64 A.n, .bool A.priv, .slice (some ⟨w.heap.size + 1, 0, none⟩) 0 0, .string A.text] 38)).alloc (.cells #[] 3)) = x := ⟨_, rfl⟩
    rw [hx1] at HB1 HOW z_0 z_1 z_2 z_3 z_4 ⊢
    clear hx1
    have hz1 := HB1.out.size
    have hzH : w.heap.size < x1.heap.size := by
      rcases Nat.lt_or_ge w.heap.size x1.heap.size with h | h
      · exact h
      · have : x1.cell? ⟨w.heap.size, 0, none⟩ = none := by simp [World.cell?, Array.getElem?_eq_none h]
        rw [this] at z_0; cases z_0
    have HP1 := Lib.hid (HP.out.keep HB1.out)
    have y_5 := HP1.out.c5
    have yf := HP1.out.ps.fz
    have ylt := HP1.out.ps.lt
    have hS0 : x1.cell? ⟨X, 5, none⟩ = some (.slice al L.length cl) ∧ x1.cell? ⟨w.heap.size, 0, none⟩ = some (.int .i64 A.kind) ∧ x1.cell? ⟨w.heap.size, 1, none⟩ = some (.int .i64 A.n) ∧ x1.cell? ⟨w.heap.size, 2, none⟩ = some (.bool A.priv) ∧ x1.cell? ⟨w.heap.size, 3, none⟩ = some (.slice (some ⟨w.heap.size + 1, 0, none⟩) 0 0) ∧ x1.cell? ⟨w.heap.size, 4, none⟩ = some (.string A.text) := ⟨y_5, z_0, z_1, z_2, z_3, z_4⟩
    refine wp_region_G (fun w' => w'.cell? ⟨X, 5, none⟩ = some (.slice al L.length cl) ∧ w'.cell? ⟨w.heap.size, 0, none⟩ = some (.int .i64 A.kind) ∧ w'.cell? ⟨w.heap.size, 1, none⟩ = some (.int .i64 A.n) ∧ w'.cell? ⟨w.heap.size, 2, none⟩ = some (.bool A.priv) ∧ w'.cell? ⟨w.heap.size, 3, none⟩ = some (.slice (some ⟨w.heap.size + 1, 0, none⟩) 0 0) ∧ w'.cell? ⟨w.heap.size, 4, none⟩ = some (.string A.text)) (fun i => i == 10) (by kernel_rfl) hS0 ?_
    refine tW ?_ 0 rfl ?_ ?_; rotate_left
    · intro w' hSw; go_simp; try rfl
    try simp only [Act.put,j1,j2,j3,j4,j5,j6]
    refine tW ?_ 1 rfl ?_ ?_; rotate_left
    · intro w' hSw; go_simp; try rfl
    try simp only [Act.put,j1,j2,j3,j4,j5,j6]
    refine tW ?_ 2 rfl ?_ ?_; rotate_left
    · intro w' hSw; go_simp; try rfl
    try simp only [Act.put,j1,j2,j3,j4,j5,j6]
    refine tW ?_ 3 rfl ?_ ?_; rotate_left
    · intro w' hSw; go_simp; try rfl
    try simp only [Act.put,j1,j2,j3,j4,j5,j6]
    refine tL ?_ 4 rfl hS0 ?_ ?_; rotate_left
    · intro w' hSw; obtain ⟨s0, s1, s2, s3, s4, s5⟩ := hSw; go_simp; try rfl
    try simp only [Act.put,j1,j2,j3,j4,j5,j6]
    refine tL ?_ 5 rfl hS0 ?_ ?_; rotate_left
    · intro w' hSw; obtain ⟨s0, s1, s2, s3, s4, s5⟩ := hSw; go_simp; try rfl
    try simp only [Act.put,j1,j2,j3,j4,j5,j6]
    refine wpAnyG_one (i := 6) (by kernel_rfl) rfl hS0 (fun K' hK => ?_)
    simp only [j1,j2,j3]
    go_simp
    obtain ⟨x2, hx2⟩ : ∃ x, (x1.alloc (.cells #[.int .i64 A.kind, .int .i64 A.n, .bool A.priv, .slice (some ⟨w.heap.size + 1, 0, none⟩) 0 0, .string A.text] 38)).drew = x := ⟨_, rfl⟩
    have hx2' : x1.drew.alloc (.cells #[.int .i64 A.kind, .int .i64 A.n, .bool A.priv, .slice (some ⟨w.heap.size + 1, 0, none⟩) 0 0, .string A.text] 38) = x2 := by rw [← hx2]; rfl
    have HB2 : Hid (Below x1.heap.size x1 x2) := Lib.hid (by rw [← hx2]; exact ((Below.refl _ _).alloc (Nat.le_refl _) _).drew)
    have hsrc : Src Tryz.prog 5 48 (.slice (some ⟨x1.heap.size, 0, none⟩) 1 1) [(⟨A, (some ⟨w.heap.size + 1, 0, none⟩), 0⟩ : ActA)].length ([(⟨A, (some ⟨w.heap.size + 1, 0, none⟩), 0⟩ : ActA)].flatMap actE) x2 := by
      rw [← hx2']
      exact Src.ofBox (enc := actE) Tryz.underlying48 (fun _ => rfl) actOne (⟨A, (some ⟨w.heap.size + 1, 0, none⟩), 0⟩ : ActA) _ _ (by simp [actE, HE.out]) _ (by simp)
    have HSRC := Lib.hid hsrc
    have HP2 := Lib.hid (HP1.out.keep HB2.out)
    have HOW2 : Hid (actOwn lo x2 ⟨A, (some ⟨w.heap.size + 1, 0, none⟩), 0⟩) := Lib.hid (actL.ch (M := fun _ => False) HOW.out.1 (Ch.of_below HB2.out) (fun _ _ h => h))
    have hz2 := HB2.out.size
    have hS1 := fun (p : Addr) (hp : p.block < x1.heap.size) => HB2.out.cell (p := p) hp
    have hS2 : x2.cell? ⟨X, 5, none⟩ = some (.slice al L.length cl) ∧ x2.cell? ⟨w.heap.size, 0, none⟩ = some (.int .i64 A.kind) ∧ x2.cell? ⟨w.heap.size, 1, none⟩ = some (.int .i64 A.n) ∧ x2.cell? ⟨w.heap.size, 2, none⟩ = some (.bool A.priv) ∧ x2.cell? ⟨w.heap.size, 3, none⟩ = some (.slice (some ⟨w.heap.size + 1, 0, none⟩) 0 0) ∧ x2.cell? ⟨w.heap.size, 4, none⟩ = some (.string A.text) := ⟨(hS1 ⟨X, 5, none⟩ ylt).trans y_5, (hS1 ⟨w.heap.size, 0, none⟩ hzH).trans z_0, (hS1 ⟨w.heap.size, 1, none⟩ hzH).trans z_1, (hS1 ⟨w.heap.size, 2, none⟩ hzH).trans z_2, (hS1 ⟨w.heap.size, 3, none⟩ hzH).trans z_3, (hS1 ⟨w.heap.size, 4, none⟩ hzH).trans z_4⟩
    clear hsrc hx2' hS1
    rw [hx2]
    clear hx2
    refine hK.out _ _ (Or.inr hS2) ?_
    clear hK K'
    try simp only [Act.put,j1,j2,j3,j4,j5,j6]
    refine wpAnyG_one (i := 7) (by kernel_rfl) rfl hS2 (fun K' hK => ?_)
    simp only [j1,j2,j3]
    rw [if_pos (by rfl)]
    refine step_append_ch (.tmp 14) (.tmp 16) 48 48 lo 38 iA (.agg #[.int .i64 0, .int .i64 0, .bool false, .slice none 0 0, .string ⟨#[]⟩]) 5 64 Tryz.underlying48 hA hA0 hA1 hA2 rfl (by decide) al L.length cl L HP2.out.ps.ro.row (.slice (some ⟨x1.heap.size, 0, none⟩) 1 1) [(⟨A, (some ⟨w.heap.size + 1, 0, none⟩), 0⟩ : ActA)] HSRC.out (by simp; omega) (by omega) ?_ ?_ ?_ ?_
    · rfl
    · rfl
    · rfl
    intro a4 c4 w4 us hus hf hc hk
    have HUS := hus
    have HF := Lib.hid hf
    have HC4 := Lib.hid hc
    have HK := Lib.hid hk
    have hHal : ¬ w.heap.size ∈ blkOf al := fun hb => by
      have := (HP.out.ps.ro.bd actL w.heap.size (by simp [roB, hb])).2
      omega
    have hXal : ¬ X ∈ blkOf al := fun hb => HP.out.ps.nB (by rw [List.mem_append]; right; simp [roB, hb])
    have hS3 := fun (p : Addr) (hp : p.block < x2.heap.size) (hd : ¬ p.block ∈ blkOf al) => HC4.out.cell (p := p) hp hd
    have hS4 : w4.cell? ⟨X, 5, none⟩ = some (.slice al L.length cl) ∧ w4.cell? ⟨w.heap.size, 0, none⟩ = some (.int .i64 A.kind) ∧ w4.cell? ⟨w.heap.size, 1, none⟩ = some (.int .i64 A.n) ∧ w4.cell? ⟨w.heap.size, 2, none⟩ = some (.bool A.priv) ∧ w4.cell? ⟨w.heap.size, 3, none⟩ = some (.slice (some ⟨w.heap.size + 1, 0, none⟩) 0 0) ∧ w4.cell? ⟨w.heap.size, 4, none⟩ = some (.string A.text) := ⟨(hS3 ⟨X, 5, none⟩ (by show X < _; omega) hXal).trans hS2.1, (hS3 ⟨w.heap.size, 0, none⟩ (by show w.heap.size < _; omega) hHal).trans hS2.2.1, (hS3 ⟨w.heap.size, 1, none⟩ (by show w.heap.size < _; omega) hHal).trans hS2.2.2.1, (hS3 ⟨w.heap.size, 2, none⟩ (by show w.heap.size < _; omega) hHal).trans hS2.2.2.2.1, (hS3 ⟨w.heap.size, 3, none⟩ (by show w.heap.size < _; omega) hHal).trans hS2.2.2.2.2.1, (hS3 ⟨w.heap.size, 4, none⟩ (by show w.heap.size < _; omega) hHal).trans hS2.2.2.2.2.2⟩
    have HPS4 : Hid (PS X lo p ap cp us a4 c4 w4) := Lib.hid (HP2.out.ps.pushX (x := ⟨A, (some ⟨w.heap.size + 1, 0, none⟩), 0⟩) HOW2.out HOW.out.2 HUS.out HF.out HC4.out HK.out)
    have v_5 := hS4.1
    have vf := HPS4.out.fz
    have vlt := HPS4.out.lt
    clear hus hf hc hk hS3
    refine hK.out _ _ (Or.inr hS4) ?_
    clear hK K'
    try simp only [Act.put,j1,j2,j3,j4,j5,j6]
    refine tW ?_ 8 rfl ?_ ?_; rotate_left
    · intro w' hSw; go_simp; try rfl
    try simp only [Act.put,j1,j2,j3,j4,j5,j6]
    refine tW ?_ 9 rfl ?_ ?_; rotate_left
    · intro w' hSw; go_simp; try rfl
    try simp only [Act.put,j1,j2,j3,j4,j5,j6]
    refine wpAnyG_one (i := 10) (by kernel_rfl) rfl hS4 (fun K' hK => ?_)
    simp only [j1,j2,j3]
    go_simp
    refine hK.out _ _ (Or.inl rfl) ?_
    clear hK K'
    try simp only [Act.put,j1,j2,j3,j4,j5,j6]
    refine wpAnyG_done (by kernel_rfl) ?_ _
    go_wp2_with fail
    refine bodyPost_end (v := .tuple #[]) (by simp [results, Tryz.results148]) rfl ?_
    have hq : QS X lo p ap cp us a4 c4 (w4.setCell ⟨X, 5, none⟩ (.slice a4 us.length c4)) := QS.list HPS4.out HP.out.lo rfl v_5
    refine ⟨rfl, ap, cp, us, a4, c4, hq, by rw [HUS.out]; simp, ?_⟩
    have hc : Ch (fun k => k = X ∨ k ∈ blkOf al) w w4 := (Ch.of_below HB1.out).trans ((Ch.of_below (M := fun k => k = X ∨ k ∈ blkOf al) HB2.out).trans HC4.out (fun i hi => .inl (.inr hi))) (fun i hi => .inl hi)
    exact HP.out.below (hc.setCell (p := ⟨X, 5, none⟩) (.inl (.inl rfl)) _)
  have g0 : ((A.args.length : Int) == 0) = false := beq_eq_false_iff_ne.2 (by omega)
  go_upto_region 3 with fail
  have HB1 : Hid (Below w.heap.size w (w.alloc (.cells #[.int .i64 A.kind, .int .i64 A.n, .bool A.priv, .slice aa A.args.length ca, .string A.text] 38))) := Lib.hid (by repeat (first | (with_reducible exact Below.refl _ _) | (with_reducible refine Below.alloc ?_ ?_ _; rotate_left; ((try simp) <;> (try omega)))))
  have HOW : Hid (actOwn lo (w.alloc (.cells #[.int .i64 A.kind, .int .i64 A.n, .bool A.priv, .slice aa A.args.length ca, .string A.text] 38)) ⟨A, aa, ca⟩ ∧ ∀ k ∈ blkOf aa, k ≠ X ∧ k ∉ blkOf ap ∧ k ∉ acB al L) := Lib.hid (by
    refine ⟨?_, HD.out⟩
    exact actL.ch (M := fun _ => False) (r := ⟨A, aa, ca⟩) HA.out (Ch.refl.alloc _) (fun _ _ h => h))
  have z_0 : (w.alloc (.cells #[.int .i64 A.kind, .int .i64 A.n, .bool A.priv, .slice aa A.args.length ca, .string A.text] 38)).cell? ⟨w.heap.size, 0, none⟩ = some (.int .i64 A.kind) := by simp [go_sem]
  have z_1 : (w.alloc (.cells #[.int .i64 A.kind, .int .i64 A.n, .bool A.priv, .slice aa A.args.length ca, .string A.text] 38)).cell? ⟨w.heap.size, 1, none⟩ = some (.int .i64 A.n) := by simp [go_sem]
  have z_2 : (w.alloc (.cells #[.int .i64 A.kind, .int .i64 A.n, .bool A.priv, .slice aa A.args.length ca, .string A.text] 38)).cell? ⟨w.heap.size, 2, none⟩ = some (.bool A.priv) := by simp [go_sem]
  have z_3 : (w.alloc (.cells #[.int .i64 A.kind, .int .i64 A.n, .bool A.priv, .slice aa A.args.length ca, .string A.text] 38)).cell? ⟨w.heap.size, 3, none⟩ = some (.slice aa A.args.length ca) := by simp [go_sem]
  have z_4 : (w.alloc (.cells #[.int .i64 A.kind, .int .i64 A.n, .bool A.priv, .slice aa A.args.length ca, .string A.text] 38)).cell? ⟨w.heap.size, 4, none⟩ = some (.string A.text) := by simp [go_sem]
  obtain ⟨x1, hx1⟩ : ∃ x, (w.alloc (.cells #[.int .i64 A.kind, .int .i64 A.n, .bool A.priv, .slice aa A.args.length ca, .string A.text] 38)) = x := ⟨_, rfl⟩
  rw [hx1] at HB1 HOW z_0 z_1 z_2 z_3 z_4 ⊢
  clear hx1
  have hz1 := HB1.out.size
  have hzH : w.heap.size < x1.heap.size := by
    rcases Nat.lt_or_ge w.heap.size x1.heap.size with h | h
    · exact h
    · have : x1.cell? ⟨w.heap.size, 0, none⟩ = none := by simp [World.cell?, Array.getElem?_eq_none h]
      rw [this] at z_0; cases z_0
  have HP1 := Lib.hid (HP.out.keep HB1.out)
  have y_5 := HP1.out.c5
  have yf := HP1.out.ps.fz
  have ylt := HP1.out.ps.lt
  have hS0 : x1.cell? ⟨X, 5, none⟩ = some (.slice al L.length cl) ∧ x1.cell? ⟨w.heap.size, 0, none⟩ = some (.int .i64 A.kind) ∧ x1.cell? ⟨w.heap.size, 1, none⟩ = some (.int .i64 A.n) ∧ x1.cell? ⟨w.heap.size, 2, none⟩ = some (.bool A.priv) ∧ x1.cell? ⟨w.heap.size, 3, none⟩ = some (.slice aa A.args.length ca) ∧ x1.cell? ⟨w.heap.size, 4, none⟩ = some (.string A.text) := ⟨y_5, z_0, z_1, z_2, z_3, z_4⟩
  refine wp_region_G (fun w' => w'.cell? ⟨X, 5, none⟩ = some (.slice al L.length cl) ∧ w'.cell? ⟨w.heap.size, 0, none⟩ = some (.int .i64 A.kind) ∧ w'.cell? ⟨w.heap.size, 1, none⟩ = some (.int .i64 A.n) ∧ w'.cell? ⟨w.heap.size, 2, none⟩ = some (.bool A.priv) ∧ w'.cell? ⟨w.heap.size, 3, none⟩ = some (.slice aa A.args.length ca) ∧ w'.cell? ⟨w.heap.size, 4, none⟩ = some (.string A.text)) (fun i => i == 10) (by kernel_rfl) hS0 ?_
  refine tW ?_ 0 rfl ?_ ?_; rotate_left
  · intro w' hSw; go_simp; try rfl
  try simp only [Act.put,j1,j2,j3,j4,j5,j6]
  refine tW ?_ 1 rfl ?_ ?_; rotate_left
  · intro w' hSw; go_simp; try rfl
  try simp only [Act.put,j1,j2,j3,j4,j5,j6]
  refine tW ?_ 2 rfl ?_ ?_; rotate_left
  · intro w' hSw; go_simp; try rfl
  try simp only [Act.put,j1,j2,j3,j4,j5,j6]
  refine tW ?_ 3 rfl ?_ ?_; rotate_left
  · intro w' hSw; go_simp; try rfl
  try simp only [Act.put,j1,j2,j3,j4,j5,j6]
  refine tL ?_ 4 rfl hS0 ?_ ?_; rotate_left
  · intro w' hSw; obtain ⟨s0, s1, s2, s3, s4, s5⟩ := hSw; go_simp; try rfl
  try simp only [Act.put,j1,j2,j3,j4,j5,j6]
  refine tL ?_ 5 rfl hS0 ?_ ?_; rotate_left
  · intro w' hSw; obtain ⟨s0, s1, s2, s3, s4, s5⟩ := hSw; go_simp; try rfl
  try simp only [Act.put,j1,j2,j3,j4,j5,j6]
  refine wpAnyG_one (i := 6) (by kernel_rfl) rfl hS0 (fun K' hK => ?_)
  simp only [j1,j2,j3]
  go_simp
  obtain ⟨x2, hx2⟩ : ∃ x, (x1.alloc (.cells #[.int .i64 A.kind, .int .i64 A.n, .bool A.priv, .slice aa A.args.length ca, .string A.text] 38)).drew = x := ⟨_, rfl⟩
  have hx2' : x1.drew.alloc (.cells #[.int .i64 A.kind, .int .i64 A.n, .bool A.priv, .slice aa A.args.length ca, .string A.text] 38) = x2 := by rw [← hx2]; rfl
  have HB2 : Hid (Below x1.heap.size x1 x2) := Lib.hid (by rw [← hx2]; exact ((Below.refl _ _).alloc (Nat.le_refl _) _).drew)
  have hsrc : Src Tryz.prog 5 48 (.slice (some ⟨x1.heap.size, 0, none⟩) 1 1) [(⟨A, aa, ca⟩ : ActA)].length ([(⟨A, aa, ca⟩ : ActA)].flatMap actE) x2 := by
    rw [← hx2']
    exact Src.ofBox (enc := actE) Tryz.underlying48 (fun _ => rfl) actOne (⟨A, aa, ca⟩ : ActA) _ _ (by simp [actE]) _ (by simp)
  have HSRC := Lib.hid hsrc
  have HP2 := Lib.hid (HP1.out.keep HB2.out)
  have HOW2 : Hid (actOwn lo x2 ⟨A, aa, ca⟩) := Lib.hid (actL.ch (M := fun _ => False) HOW.out.1 (Ch.of_below HB2.out) (fun _ _ h => h))
  have hz2 := HB2.out.size
  have hS1 := fun (p : Addr) (hp : p.block < x1.heap.size) => HB2.out.cell (p := p) hp
  have hS2 : x2.cell? ⟨X, 5, none⟩ = some (.slice al L.length cl) ∧ x2.cell? ⟨w.heap.size, 0, none⟩ = some (.int .i64 A.kind) ∧ x2.cell? ⟨w.heap.size, 1, none⟩ = some (.int .i64 A.n) ∧ x2.cell? ⟨w.heap.size, 2, none⟩ = some (.bool A.priv) ∧ x2.cell? ⟨w.heap.size, 3, none⟩ = some (.slice aa A.args.length ca) ∧ x2.cell? ⟨w.heap.size, 4, none⟩ = some (.string A.text) := ⟨(hS1 ⟨X, 5, none⟩ ylt).trans y_5, (hS1 ⟨w.heap.size, 0, none⟩ hzH).trans z_0, (hS1 ⟨w.heap.size, 1, none⟩ hzH).trans z_1, (hS1 ⟨w.heap.size, 2, none⟩ hzH).trans z_2, (hS1 ⟨w.heap.size, 3, none⟩ hzH).trans z_3, (hS1 ⟨w.heap.size, 4, none⟩ hzH).trans z_4⟩
  clear hsrc hx2' hS1
  rw [hx2]
  clear hx2
  refine hK.out _ _ (Or.inr hS2) ?_
  clear hK K'
  try simp only [Act.put,j1,j2,j3,j4,j5,j6]
  refine wpAnyG_one (i := 7) (by kernel_rfl) rfl hS2 (fun K' hK => ?_)
  simp only [j1,j2,j3]
  rw [if_pos (by rfl)]
  refine step_append_ch (.tmp 14) (.tmp 16) 48 48 lo 38 iA (.agg #[.int .i64 0, .int .i64 0, .bool false, .slice none 0 0, .string ⟨#[]⟩]) 5 64 Tryz.underlying48 hA hA0 hA1 hA2 rfl (by decide) al L.length cl L HP2.out.ps.ro.row (.slice (some ⟨x1.heap.size, 0, none⟩) 1 1) [(⟨A, aa, ca⟩ : ActA)] HSRC.out (by simp; omega) (by omega) ?_ ?_ ?_ ?_
  · rfl
  · rfl
  · rfl
  intro a4 c4 w4 us hus hf hc hk
  have HUS := hus
  have HF := Lib.hid hf
  have HC4 := Lib.hid hc
  have HK := Lib.hid hk
  have hHal : ¬ w.heap.size ∈ blkOf al := fun hb => by
    have := (HP.out.ps.ro.bd actL w.heap.size (by simp [roB, hb])).2
    omega
  have hXal : ¬ X ∈ blkOf al := fun hb => HP.out.ps.nB (by rw [List.mem_append]; right; simp [roB, hb])
  have hS3 := fun (p : Addr) (hp : p.block < x2.heap.size) (hd : ¬ p.block ∈ blkOf al) => HC4.out.cell (p := p) hp hd
  have hS4 : w4.cell? ⟨X, 5, none⟩ = some (.slice al L.length cl) ∧ w4.cell? ⟨w.heap.size, 0, none⟩ = some (.int .i64 A.kind) ∧ w4.cell? ⟨w.heap.size, 1, none⟩ = some (.int .i64 A.n) ∧ w4.cell? ⟨w.heap.size, 2, none⟩ = some (.bool A.priv) ∧ w4.cell? ⟨w.heap.size, 3, none⟩ = some (.slice aa A.args.length ca) ∧ w4.cell? ⟨w.heap.size, 4, none⟩ = some (.string A.text) := ⟨(hS3 ⟨X, 5, none⟩ (by show X < _; omega) hXal).trans hS2.1, (hS3 ⟨w.heap.size, 0, none⟩ (by show w.heap.size < _; omega) hHal).trans hS2.2.1, (hS3 ⟨w.heap.size, 1, none⟩ (by show w.heap.size < _; omega) hHal).trans hS2.2.2.1, (hS3 ⟨w.heap.size, 2, none⟩ (by show w.heap.size < _; omega) hHal).trans hS2.2.2.2.1, (hS3 ⟨w.heap.size, 3, none⟩ (by show w.heap.size < _; omega) hHal).trans hS2.2.2.2.2.1, (hS3 ⟨w.heap.size, 4, none⟩ (by show w.heap.size < _; omega) hHal).trans hS2.2.2.2.2.2⟩
  have HPS4 : Hid (PS X lo p ap cp us a4 c4 w4) := Lib.hid (HP2.out.ps.pushX (x := ⟨A, aa, ca⟩) HOW2.out HOW.out.2 HUS.out HF.out HC4.out HK.out)
  have v_5 := hS4.1
  have vf := HPS4.out.fz
  have vlt := HPS4.out.lt
  clear hus hf hc hk hS3
  refine hK.out _ _ (Or.inr hS4) ?_
  clear hK K'
  try simp only [Act.put,j1,j2,j3,j4,j5,j6]
  refine tW ?_ 8 rfl ?_ ?_; rotate_left
  · intro w' hSw; go_simp; try rfl
  try simp only [Act.put,j1,j2,j3,j4,j5,j6]
  refine tW ?_ 9 rfl ?_ ?_; rotate_left
  · intro w' hSw; go_simp; try rfl
  try simp only [Act.put,j1,j2,j3,j4,j5,j6]
  refine wpAnyG_one (i := 10) (by kernel_rfl) rfl hS4 (fun K' hK => ?_)
  simp only [j1,j2,j3]
  go_simp
  refine hK.out _ _ (Or.inl rfl) ?_
  clear hK K'
  try simp only [Act.put,j1,j2,j3,j4,j5,j6]
  refine wpAnyG_done (by kernel_rfl) ?_ _
  go_wp2_with fail
  refine bodyPost_end (v := .tuple #[]) (by simp [results, Tryz.results148]) rfl ?_
  have hq : QS X lo p ap cp us a4 c4 (w4.setCell ⟨X, 5, none⟩ (.slice a4 us.length c4)) := QS.list HPS4.out HP.out.lo rfl v_5
  refine ⟨rfl, ap, cp, us, a4, c4, hq, by rw [HUS.out]; simp, ?_⟩
  have hc : Ch (fun k => k = X ∨ k ∈ blkOf al) w w4 := (Ch.of_below HB1.out).trans ((Ch.of_below (M := fun k => k = X ∨ k ∈ blkOf al) HB2.out).trans HC4.out (fun i hi => .inl (.inr hi))) (fun i hi => .inl hi)
  exact HP.out.below (hc.setCell (p := ⟨X, 5, none⟩) (.inl (.inl rfl)) _)
end
section
open Go.RowKit
theorem control_r (n : Int) (w : World) : Calls Tryz.prog 78 #[.int .i64 n] w fun e w' => e = .returned (.bool (ctlI n)) ∧ w = w' := by
  have hc : ctlI n = (n == 7 || n == 8 || n == 9 || n == 10 || n == 13) := by
    unfold ctlI inB
    rw [Bool.eq_iff_iff]
    simp only [Bool.or_eq_true, Bool.and_eq_true, decide_eq_true_eq, beq_iff_eq]
    omega
  have HC := Lib.hid hc
  clear hc
  cases q1 : (n == 7) <;> cases q2 : (n == 8) <;> cases q3 : (n == 9) <;> cases q4 : (n == 10) <;> cases q5 : (n == 13)
  all_goals
    have HC2 := HC.out
    rw [q1, q2, q3, q4, q5] at HC2
    have HC3 := Lib.hid HC2
    clear HC2 HC
    go_enter Tryz.func78, Tryz.ntmps78
    go_wp2_with fail
    go_ret
    exact ⟨ret_b (by rw [HC3.out]; rfl), rfl⟩
end
section
open Go.RowKit
def szR (b : Nat) : Nat := if b < 128 then 1 else utfLen b
theorem size_r (s : ByteArray) (w : World) (h : 0 < s.size) : Calls Tryz.prog 150 #[.string s] w fun e w' => e = .returned (.int .i64 (szR (s[0]'h).toNat : Nat)) ∧ w = w' := by
  have hne : s.toList.isEmpty = false := notEmpty (by omega)
  obtain ⟨x, hx⟩ : ∃ x, s[0]'h = x := ⟨_, rfl⟩
  have h256 : x.toNat < 256 := x.toNat_lt
  rw [hx]
  by_cases c0 : x.toNat < 128
  · have HR : Hid (szR x.toNat = 1) := Lib.hid (by unfold szR; rw [if_pos c0])
    go_enter Tryz.func150, Tryz.ntmps150
    go_wp2_with fail
    go_ret
    exact ⟨ret_i (by rw [HR.out]; rfl), rfl⟩
  obtain ⟨v1, h1⟩ : ∃ v, inB (x.toNat : Int) 194 223 = v := ⟨_, rfl⟩
  obtain ⟨v2, h2⟩ : ∃ v, inB (x.toNat : Int) 224 239 = v := ⟨_, rfl⟩
  obtain ⟨v3, h3⟩ : ∃ v, inB (x.toNat : Int) 240 244 = v := ⟨_, rfl⟩
  have H1 := Lib.hid h1
  have H2 := Lib.hid h2
  have H3 := Lib.hid h3
  have HR : Hid ((szR x.toNat : Int) = if v1 then 2 else if v2 then 3 else if v3 then 4 else 0) := Lib.hid (by
    subst h1 h2 h3
    unfold szR utfLen inB
    rw [if_neg c0]
    simp only [Bool.and_eq_true, decide_eq_true_eq]
    (repeat' split) <;> omega)
  clear h1 h2 h3
  cases v1
  all_goals cases v2
  all_goals cases v3
  all_goals
    go_enter Tryz.func150, Tryz.ntmps150
    go_wp2_with (go_at_call 60; refine (l01In_c _ _ _ _).mono ?_; (first | rw [H1.out] | rw [H2.out] | rw [H3.out]); rintro e w' ⟨rfl, rfl⟩)
    go_ret
    exact ⟨ret_i (by rw [HR.out]; rfl), rfl⟩
end
section
open Go.RowKit
section
variable {X lo : Nat} {p p' : PV} {ap ap' al : Option Addr} {cp cp' cl : Nat} {L us : List ActA} {w w' w1 : World} {R : PV × List AV} {e : Ending}
theorem QR.stay (h : QS X lo p' ap' cp' L al cl w') (h0 : QS X lo p ap cp L al cl w) (hc : Ch (fun k => k = X ∨ k ∈ blkOf al) w w') (hR : R = (p', [])) : QR X lo R L (.returned (.tuple #[])) w w' := by
  subst hR
  exact ⟨rfl, ap', cp', L, al, cl, h, by simp, h0.below hc⟩
theorem QR.only (h : QS X lo p' ap' cp' L al cl w') (h0 : QS X lo p ap cp L al cl w) (hc : Ch (fun k => k = X) w w') (hR : R = (p', [])) : QR X lo R L (.returned (.tuple #[])) w w' :=
  QR.stay h h0 (hc.mono (fun i hi => .inl (.inl hi))) hR
theorem QR.base (h : QR X lo R L e w1 w') (hb : Below lo w w1) : QR X lo R L e w w' := by
  obtain ⟨h1, ap', cp', L', al', cl', h2, h3, h4⟩ := h
  exact ⟨h1, ap', cp', L', al', cl', h2, h3, hb.trans h4⟩
theorem QR.after {acts : List AV} (h : QR X lo R us e w1 w') (hb : Below lo w w1) (hu : us.map (·.A) = L.map (·.A) ++ acts) : QR X lo (R.1, acts ++ R.2) L e w w' := by
  obtain ⟨h1, ap', cp', L', al', cl', h2, h3, h4⟩ := h
  exact ⟨h1, ap', cp', L', al', cl', h2, by rw [h3, hu]; simp, hb.trans h4⟩
theorem QS.below1 (h : QS X lo p ap cp L al cl w) (hc : Ch (fun k => k = X) w w') : Below lo w w' := h.below (hc.mono (fun i hi => .inl (.inl hi)))
theorem QS.cells (h : QS X lo p ap cp L al cl w) (hc : Ch (fun k => k = X) w w') (c0 : w'.cell? ⟨X, 0, none⟩ = some (.int .i64 p'.state)) (c1 : w'.cell? ⟨X, 1, none⟩ = some (.slice ap' p'.args.length cp')) (c2 : w'.cell? ⟨X, 2, none⟩ = some (.bool p'.priv))
    (c3 : w'.cell? ⟨X, 3, none⟩ = some (.string p'.text)) (c4 : w'.cell? ⟨X, 4, none⟩ = some (.string p'.utf)) (c5 : w'.cell? ⟨X, 5, none⟩ = some (.slice al L.length cl)) (fz : ∀ o, w'.frozen? ⟨X, o, none⟩ = false) (ha : (ap' = ap ∧ cp' = cp ∧ p'.args = p.args) ∨ (ap' = none ∧ cp' = 0 ∧ p'.args = [])) : QS X lo p' ap' cp' L al cl w' :=
  ⟨h.ps.cells hc c0 c1 c2 c3 c4 fz ha, c5, h.lo⟩
end
theorem size1_r (b : UInt8) (u : Nat) (w : World) (h : szR b.toNat = u) : Calls Tryz.prog 150 #[.string ⟨#[b]⟩] w fun e w' => e = .returned (.int .i64 u) ∧ w = w' := by
  subst h
  exact size_r ⟨#[b]⟩ w (by show 0 < 1; omega)
theorem skip_r (X lo : Nat) (ap al : Option Addr) (cp cl : Nat) (L : List ActA) (b : UInt8) (w : World) (h : QS X lo (pst 3) ap cp L al cl w) (hL : L.length ≤ 1048576) :
    Calls Tryz.prog 136 #[.pointer (some ⟨X, 0, none⟩), .int .i64 b.toNat] w (fun e w' => QR X lo (sstep (pst 3) b) L e w w') := by
  have HP := Lib.hid h
  have k_0 := h.ps.c0
  have k_1 := h.ps.c1
  have k_2 := h.ps.c2
  have k_3 := h.ps.c3
  have k_4 := h.ps.c4
  have k_5 := h.c5
  have kf := h.ps.fz
  have klt := h.ps.lt
  have hlo : lo ≤ w.heap.size := by have := h.lo; omega
  have h256 : b.toNat < 256 := b.toNat_lt
  clear h
  obtain ⟨Gr, hG⟩ : ∃ G, sstep (pst 3) b = G := ⟨_, rfl⟩
  have HGG := Lib.hid hG
  rw [hG]
  clear hG
  obtain ⟨n, hn⟩ : ∃ n, b.toNat = n := ⟨_, rfl⟩
  rw [hn] at h256 ⊢
  have HN := Lib.hid hn
  clear hn
  by_cases h27 : n = 27
  case pos =>
    have HR : Hid (Gr = (pst 1, [])) := Lib.hid (by rw [← HGG.out]; exact ss1 HN.out h27)
    have g27 : ((n : Int) == 27) = true := by subst h27; rfl
    clear h27
    go_enter Tryz.func136, Tryz.ntmps136
    go_wp2_with fail
    refine bodyPost_end (v := .tuple #[]) (by simp [results, Tryz.results136]) rfl ?_
    refine QR.only (p' := pst 1) (HP.out.cells ?hc ?_ ?_ ?_ ?_ ?_ ?_ ?_ (.inl ⟨rfl, rfl, rfl⟩)) HP.out ?hc HR.out
    case hc => repeat (first | (with_reducible exact Ch.refl) | (with_reducible refine Ch.alloc ?_ _) | (with_reducible refine Ch.drew ?_) | (with_reducible refine Ch.setB ?_ _ _))
    all_goals first | (intro o; simp [go_sem, kf, klt]; done) | (simp [go_sem, k_0, k_1, k_2, k_3, k_4, k_5, klt, pst, pz]; done)
  have g27 : ((n : Int) == 27) = false := beq_eq_false_iff_ne.2 (by omega)
  obtain ⟨v, hv⟩ : ∃ v, inB (n : Int) 64 126 = v := ⟨_, rfl⟩
  have HV := Lib.hid hv
  clear hv
  cases v
  case false =>
    have HR : Hid (Gr = (pst 3, [])) := Lib.hid (by rw [← HGG.out]; exact ss3 HN.out h27 (by have := HV.out; simp [inB] at this; omega))
    go_enter Tryz.func136, Tryz.ntmps136
    go_wp2_with (go_at_call 60; refine (l01In_c _ _ _ _).mono ?_; rw [HV.out]; rintro e w' ⟨rfl, rfl⟩)
    refine bodyPost_end (v := .tuple #[]) (by simp [results, Tryz.results136]) rfl ?_
    exact QR.only HP.out HP.out Ch.refl HR.out
  have HR : Hid (Gr = (pz, [])) := Lib.hid (by rw [← HGG.out]; exact ss2 HN.out (by have := HV.out; simp [inB] at this; omega))
  go_enter Tryz.func136, Tryz.ntmps136
  go_wp2_with (go_at_call 60; refine (l01In_c _ _ _ _).mono ?_; rw [HV.out]; rintro e w' ⟨rfl, rfl⟩)
  refine (ground_r X lo _ ap al cp cl L _ HP.out).mono ?_
  rintro e w1 ⟨rfl, g, hg, hq, hc⟩
  have HQ := Lib.hid hq
  have HC := Lib.hid hc
  clear hq hc
  go_wp2_with fail
  refine bodyPost_end (v := .tuple #[]) (by simp [results, Tryz.results136]) rfl ?_
  exact QR.only HQ.out HP.out HC.out HR.out
theorem plain_r (X lo : Nat) (ap al : Option Addr) (cp cl : Nat) (L : List ActA) (b : UInt8) (w : World) (h : QS X lo pz ap cp L al cl w) (hL : L.length ≤ 1048576) :
    Calls Tryz.prog 140 #[.pointer (some ⟨X, 0, none⟩), .int .i64 b.toNat] w (fun e w' => QR X lo (gstep b) L e w w') := by
  have HP := Lib.hid h
  have k_0 := h.ps.c0
  have k_1 := h.ps.c1
  have k_2 := h.ps.c2
  have k_3 := h.ps.c3
  have k_4 := h.ps.c4
  have k_5 := h.c5
  have kf := h.ps.fz
  have klt := h.ps.lt
  have hlo : lo ≤ w.heap.size := by have := h.lo; omega
  have h256 : b.toNat < 256 := b.toNat_lt
  clear h
  obtain ⟨Gr, hG⟩ : ∃ G, gstep b = G := ⟨_, rfl⟩
  have HGG := Lib.hid hG
  rw [hG]
  clear hG
  obtain ⟨n, hn⟩ : ∃ n, b.toNat = n := ⟨_, rfl⟩
  rw [hn] at h256 ⊢
  have HN := Lib.hid hn
  clear hn
  by_cases h27 : n = 27
  case pos =>
    have HR : Hid (Gr = (pst 1, [])) := Lib.hid (by rw [← HGG.out]; exact gs1 (HN.out.trans h27))
    have g27 : ((n : Int) == 27) = true := by subst h27; rfl
    clear h27
    go_enter Tryz.func140, Tryz.ntmps140
    go_wp2_with fail
    refine bodyPost_end (v := .tuple #[]) (by simp [results, Tryz.results140]) rfl ?_
    refine QR.only (p' := pst 1) (HP.out.cells ?hc ?_ ?_ ?_ ?_ ?_ ?_ ?_ (.inl ⟨rfl, rfl, rfl⟩)) HP.out ?hc HR.out
    case hc => repeat (first | (with_reducible exact Ch.refl) | (with_reducible refine Ch.alloc ?_ _) | (with_reducible refine Ch.drew ?_) | (with_reducible refine Ch.setB ?_ _ _))
    all_goals first | (intro o; simp [go_sem, kf, klt]; done) | (simp [go_sem, k_0, k_1, k_2, k_3, k_4, k_5, klt, pst, pz]; done)
  have g27 : ((n : Int) == 27) = false := beq_eq_false_iff_ne.2 (by omega)
  obtain ⟨c, hc⟩ : ∃ c, ctl n = c := ⟨_, rfl⟩
  have HCC := Lib.hid hc
  have HCT : Hid (ctlI (n : Int) = c) := Lib.hid (by rw [ctl_eq]; exact hc)
  clear hc
  have hne : ¬ b.toNat = 27 := by rw [HN.out]; exact h27
  have HNE := Lib.hid hne
  clear hne
  cases c
  case true =>
    have HR : Hid (Gr = (pz, [⟨2, n, false, [], e0⟩])) := Lib.hid (by rw [← HGG.out, ← HN.out]; exact gs2 HNE.out (by rw [HN.out]; exact HCC.out))
    go_enter Tryz.func140, Tryz.ntmps140
    go_wp2_with (go_at_call 78; refine (control_r _ _).mono ?_; rw [HCT.out]; rintro e w' ⟨rfl, rfl⟩)
    refine (tell_r X lo pz ap al none cp cl 0 L ⟨2, n, false, [], e0⟩ _ HP.out (FreshIn.nil _ _ _ _ _ _) (by simp [blkOf]) hL (by simp)).mono ?_
    rintro e w1 hq
    have HQ := Lib.hid hq
    obtain ⟨rfl, _⟩ := hq
    go_wp2_with fail
    refine bodyPost_end (v := .tuple #[]) (by simp [results, Tryz.results140]) rfl ?_
    rw [HR.out]
    exact HQ.out
  obtain ⟨v, hv⟩ : ∃ v, inB (n : Int) 32 126 = v := ⟨_, rfl⟩
  have HV := Lib.hid hv
  clear hv
  cases v
  case true =>
    have HR : Hid (Gr = (pz, [pr n])) := Lib.hid (by rw [← HGG.out, ← HN.out]; exact gs3 HNE.out (by rw [HN.out]; exact HCC.out) (by rw [HN.out]; have := HV.out; simp [inB] at this; omega))
    go_enter Tryz.func140, Tryz.ntmps140
    go_wp2_with (first | (go_at_call 78; refine (control_r _ _).mono ?_; rw [HCT.out]; rintro e w' ⟨rfl, rfl⟩) | (go_at_call 60; refine (l01In_c _ _ _ _).mono ?_; rw [HV.out]; rintro e w' ⟨rfl, rfl⟩))
    refine (tell_r X lo pz ap al none cp cl 0 L ⟨1, n, false, [], e0⟩ _ HP.out (FreshIn.nil _ _ _ _ _ _) (by simp [blkOf]) hL (by simp)).mono ?_
    rintro e w1 hq
    have HQ := Lib.hid hq
    obtain ⟨rfl, _⟩ := hq
    go_wp2_with fail
    refine bodyPost_end (v := .tuple #[]) (by simp [results, Tryz.results140]) rfl ?_
    rw [HR.out]
    exact HQ.out
  have hnv : ¬ (32 ≤ n ∧ n ≤ 126) := by have := HV.out; simp [inB] at this; omega
  by_cases h128 : n < 128
  case pos =>
    have HR : Hid (Gr = (pz, [])) := Lib.hid (by rw [← HGG.out]; exact gs4 HNE.out (by rw [HN.out]; exact HCC.out) (by rw [HN.out]; exact hnv) (by rw [HN.out]; exact h128))
    have g128 : decide ((n : Int) < 128) = true := decide_eq_true (by omega)
    have g128' : (n : Int) < 128 := by omega
    go_enter Tryz.func140, Tryz.ntmps140
    go_wp2_with (first | (go_at_call 78; refine (control_r _ _).mono ?_; rw [HCT.out]; rintro e w' ⟨rfl, rfl⟩) | (go_at_call 60; refine (l01In_c _ _ _ _).mono ?_; rw [HV.out]; rintro e w' ⟨rfl, rfl⟩))
    refine bodyPost_end (v := .tuple #[]) (by simp [results, Tryz.results140]) rfl ?_
    exact QR.only HP.out HP.out Ch.refl HR.out
  have g128 : ¬ (n : Int) < 128 := by omega
  have hw8 : IntKind.u8.wrap (n : Int) = n := u8_in (by omega) (by omega)
  have hcv := conv1 w b n HN.out
  by_cases hu : 0 < utfLen n
  case pos =>
    have HR : Hid (Gr = (⟨6, [], false, e0, ⟨#[b]⟩⟩, [])) := Lib.hid (by rw [← HGG.out]; exact gs5 (by rw [HN.out]; omega) (by rw [HN.out]; exact hu))
    obtain ⟨u, hu2⟩ : ∃ u, utfLen n = u := ⟨_, rfl⟩
    have HSZ : Hid (szR b.toNat = u) := Lib.hid (by rw [HN.out]; unfold szR; rw [if_neg h128]; exact hu2)
    have hu1 : (1 : Int) < (u : Int) := by have := utfLen_two hu; omega
    clear hu hu2
    go_enter Tryz.func140, Tryz.ntmps140
    go_upto_region 10 with (first | (go_at_call 78; refine (control_r _ _).mono ?_; rw [HCT.out]; rintro e w' ⟨rfl, rfl⟩) | (go_at_call 60; refine (l01In_c _ _ _ _).mono ?_; rw [HV.out]; rintro e w' ⟨rfl, rfl⟩) | (go_at_call 150; refine (size1_r b _ _ HSZ.out).mono ?_; rintro e w' ⟨rfl, rfl⟩))
    clear hcv
    obtain ⟨x, hx⟩ : ∃ x, (w.setCell ⟨X, 0, none⟩ (.int .i64 6)).alloc (.cells #[.int .u8 n] 5) = x := ⟨_, rfl⟩
    have HCX : Hid (Ch (fun k => k = X) w x) := Lib.hid (by rw [← hx]; exact (Ch.set1 _ _ _ _).alloc _)
    have x_0 : x.cell? ⟨X, 0, none⟩ = some (.int .i64 6) := by rw [← hx]; simp [go_sem, k_0, klt]
    have x_1 : x.cell? ⟨X, 1, none⟩ = some (.slice ap 0 cp) := by rw [← hx]; simp [go_sem, k_1, klt, pz]
    have x_2 : x.cell? ⟨X, 2, none⟩ = some (.bool false) := by rw [← hx]; simp [go_sem, k_2, klt, pz]
    have x_3 : x.cell? ⟨X, 3, none⟩ = some (.string e0) := by rw [← hx]; simp [go_sem, k_3, klt, pz]
    have x_4 : x.cell? ⟨X, 4, none⟩ = some (.string e0) := by rw [← hx]; simp [go_sem, k_4, klt, pz]
    have x_5 : x.cell? ⟨X, 5, none⟩ = some (.slice al L.length cl) := by rw [← hx]; simp [go_sem, k_5, klt]
    have xf : ∀ o, x.frozen? ⟨X, o, none⟩ = false := by intro o; rw [← hx]; simp [go_sem, kf, klt]
    have xlt := Nat.lt_of_lt_of_le klt HCX.out.size
    rw [hx]
    clear hx
    have hcx := conv1 x b n HN.out
    go_wp2_with fail
    clear hcx
    refine bodyPost_end (v := .tuple #[]) (by simp [results, Tryz.results140]) rfl ?_
    refine QR.only (p' := ⟨6, [], false, e0, ⟨#[b]⟩⟩) (HP.out.cells (HCX.out.trans ?hc (fun i hi => .inl hi)) ?_ ?_ ?_ ?_ ?_ ?_ ?_ (.inl ⟨rfl, rfl, rfl⟩)) HP.out (HCX.out.trans ?hc (fun i hi => .inl hi)) HR.out
    case hc => repeat (first | (with_reducible exact Ch.refl) | (with_reducible refine Ch.alloc ?_ _) | (with_reducible refine Ch.drew ?_) | (with_reducible refine Ch.setB ?_ _ _))
    all_goals first | (intro o; simp [go_sem, xf, xlt]; done) | (simp [go_sem, x_0, x_1, x_2, x_3, x_4, x_5, xlt]; done)
  have HR : Hid (Gr = (pz, [pr 65533])) := Lib.hid (by rw [← HGG.out]; exact gs6 (by rw [HN.out]; omega) (by rw [HN.out]; exact hu))
  have HSZ : Hid (szR b.toNat = 0) := Lib.hid (by rw [HN.out]; unfold szR; rw [if_neg h128]; omega)
  clear hu
  go_enter Tryz.func140, Tryz.ntmps140
  go_wp2_with (first | (go_at_call 78; refine (control_r _ _).mono ?_; rw [HCT.out]; rintro e w' ⟨rfl, rfl⟩) | (go_at_call 60; refine (l01In_c _ _ _ _).mono ?_; rw [HV.out]; rintro e w' ⟨rfl, rfl⟩) | (go_at_call 150; refine (size1_r b _ _ HSZ.out).mono ?_; rintro e w' ⟨rfl, rfl⟩))
  clear hcv
  refine (tell_r X lo pz ap al none cp cl 0 L ⟨1, 65533, false, [], e0⟩ _ (HP.out.keep ((Below.refl _ _).alloc (Nat.le_refl _) _)) (FreshIn.nil _ _ _ _ _ _) (by simp [blkOf]) hL (by simp)).mono ?_
  rintro e w1 hq
  have HQ := Lib.hid (hq.base ((Below.refl lo w).alloc hlo _))
  obtain ⟨rfl, _⟩ := hq
  go_wp2_with fail
  refine bodyPost_end (v := .tuple #[]) (by simp [results, Tryz.results140]) rfl ?_
  rw [HR.out]
  exact HQ.out
end
section
open Go.RowKit
theorem escape_r (X lo : Nat) (ap al : Option Addr) (cp cl : Nat) (L : List ActA) (b : UInt8) (w : World) (h : QS X lo (pst 1) ap cp L al cl w) (hL : L.length ≤ 1048576) :
    Calls Tryz.prog 134 #[.pointer (some ⟨X, 0, none⟩), .int .i64 b.toNat] w (fun e w' => QR X lo (estep b) L e w w') := by
  have HP := Lib.hid h
  have k_0 := h.ps.c0
  have k_1 := h.ps.c1
  have k_2 := h.ps.c2
  have k_3 := h.ps.c3
  have k_4 := h.ps.c4
  have k_5 := h.c5
  have kf := h.ps.fz
  have klt := h.ps.lt
  have hlo : lo ≤ w.heap.size := by have := h.lo; omega
  have h256 : b.toNat < 256 := b.toNat_lt
  clear h
  obtain ⟨Gr, hG⟩ : ∃ G, estep b = G := ⟨_, rfl⟩
  have HGG := Lib.hid hG
  rw [hG]
  clear hG
  obtain ⟨n, hn⟩ : ∃ n, b.toNat = n := ⟨_, rfl⟩
  rw [hn] at h256 ⊢
  have HN := Lib.hid hn
  clear hn
  by_cases h91 : n = 91
  case pos =>
    have HR : Hid (Gr = (⟨2, [-1], false, e0, e0⟩, [])) := Lib.hid (by rw [← HGG.out]; exact es1 HN.out h91)
    have g91 : ((n : Int) == 91) = true := by subst h91; rfl
    clear h91
    go_enter Tryz.func134, Tryz.ntmps134
    go_wp2_with fail
    refine bodyPost_end (v := .tuple #[]) (by simp [results, Tryz.results134]) rfl ?_
    refine QR.only (p' := ⟨2, [-1], false, e0, e0⟩) (ap' := some ⟨w.heap.size, 0, none⟩) (cp' := 1) ⟨HP.out.ps.cellsNew ?hc (Nat.le_refl _) (fresh_one _ _ _ _ (by simp [World.setCell]) (by simp [World.setCell]; omega)) ?_ ?_ ?_ ?_ ?_ ?_, ?_, HP.out.lo⟩ HP.out ?hc HR.out
    case hc => repeat (first | (with_reducible exact Ch.refl) | (with_reducible refine Ch.alloc ?_ _) | (with_reducible refine Ch.drew ?_) | (with_reducible refine Ch.setB ?_ _ _))
    all_goals first | (intro o; simp [go_sem, kf, klt]; done) | (simp [go_sem, k_0, k_1, k_2, k_3, k_4, k_5, klt, pst, pz]; done)
  have g91 : ((n : Int) == 91) = false := beq_eq_false_iff_ne.2 (by omega)
  by_cases h93 : n = 93
  case pos =>
    have HR : Hid (Gr = (pst 4, [])) := Lib.hid (by rw [← HGG.out]; exact es2 HN.out h93)
    have g93 : ((n : Int) == 93) = true := by subst h93; rfl
    clear h93
    go_enter Tryz.func134, Tryz.ntmps134
    go_wp2_with fail
    refine bodyPost_end (v := .tuple #[]) (by simp [results, Tryz.results134]) rfl ?_
    refine QR.only (p' := pst 4) (HP.out.cells ?hc ?_ ?_ ?_ ?_ ?_ ?_ ?_ (.inl ⟨rfl, rfl, rfl⟩)) HP.out ?hc HR.out
    case hc => repeat (first | (with_reducible exact Ch.refl) | (with_reducible refine Ch.alloc ?_ _) | (with_reducible refine Ch.drew ?_) | (with_reducible refine Ch.setB ?_ _ _))
    all_goals first | (intro o; simp [go_sem, kf, klt]; done) | (simp [go_sem, k_0, k_1, k_2, k_3, k_4, k_5, klt, pst, pz]; done)
  have g93 : ((n : Int) == 93) = false := beq_eq_false_iff_ne.2 (by omega)
  by_cases h27 : n = 27
  case pos =>
    have HR : Hid (Gr = (pst 1, [])) := Lib.hid (by rw [← HGG.out]; exact es3 HN.out h27)
    have g27 : ((n : Int) == 27) = true := by subst h27; rfl
    clear h27
    go_enter Tryz.func134, Tryz.ntmps134
    go_wp2_with fail
    refine bodyPost_end (v := .tuple #[]) (by simp [results, Tryz.results134]) rfl ?_
    exact QR.only HP.out HP.out Ch.refl HR.out
  have g27 : ((n : Int) == 27) = false := beq_eq_false_iff_ne.2 (by omega)
  obtain ⟨c, hc⟩ : ∃ c, esc n = c := ⟨_, rfl⟩
  have HCC := Lib.hid hc
  cases c
  case false =>
    have HR : Hid (Gr = (pz, [])) := Lib.hid (by rw [← HGG.out]; exact es5 HN.out h91 h93 h27 HCC.out)
    simp only [esc, Bool.or_eq_false_iff, beq_eq_false_iff_ne] at hc
    have q55 : ((n : Int) == 55) = false := beq_eq_false_iff_ne.2 (by omega)
    have q56 : ((n : Int) == 56) = false := beq_eq_false_iff_ne.2 (by omega)
    have q68 : ((n : Int) == 68) = false := beq_eq_false_iff_ne.2 (by omega)
    have q69 : ((n : Int) == 69) = false := beq_eq_false_iff_ne.2 (by omega)
    have q77 : ((n : Int) == 77) = false := beq_eq_false_iff_ne.2 (by omega)
    have q99 : ((n : Int) == 99) = false := beq_eq_false_iff_ne.2 (by omega)
    clear hc
    go_enter Tryz.func134, Tryz.ntmps134
    go_wp2_with fail
    refine (ground_r X lo _ ap al cp cl L _ HP.out).mono ?_
    rintro e w1 ⟨rfl, g, hg, hq, hc⟩
    have HQ := Lib.hid hq
    have HC := Lib.hid hc
    clear hq hc
    go_wp2_with fail
    refine bodyPost_end (v := .tuple #[]) (by simp [results, Tryz.results134]) rfl ?_
    exact QR.only HQ.out HP.out HC.out HR.out
  have HR : Hid (Gr = (pz, [⟨3, n, false, [], e0⟩])) := Lib.hid (by rw [← HGG.out]; exact es4 HN.out h91 h93 h27 HCC.out)
  simp only [esc, Bool.or_eq_true, beq_iff_eq] at hc
  have hcs : n = 55 ∨ n = 56 ∨ n = 68 ∨ n = 69 ∨ n = 77 ∨ n = 99 := by omega
  clear hc
  rcases hcs with hc | hc | hc | hc | hc | hc
  · have q55 : ((n : Int) == 55) = true := by rw [hc]; rfl
    have q56 : ((n : Int) == 56) = false := beq_eq_false_iff_ne.2 (by omega)
    have q68 : ((n : Int) == 68) = false := beq_eq_false_iff_ne.2 (by omega)
    have q69 : ((n : Int) == 69) = false := beq_eq_false_iff_ne.2 (by omega)
    have q77 : ((n : Int) == 77) = false := beq_eq_false_iff_ne.2 (by omega)
    have q99 : ((n : Int) == 99) = false := beq_eq_false_iff_ne.2 (by omega)
    clear hc
    go_enter Tryz.func134, Tryz.ntmps134
    go_wp2_with fail
    refine (ground_r X lo _ ap al cp cl L _ HP.out).mono ?_
    rintro e w1 ⟨rfl, g, hg, hq, hc⟩
    have HQ := Lib.hid hq
    have HC := Lib.hid hc
    clear hq hc
    go_wp2_with fail
    refine (tell_r X lo pz (some ⟨g, 0, none⟩) al none 0 cl 0 L ⟨3, n, false, [], e0⟩ _ HQ.out (FreshIn.nil _ _ _ _ _ _) (by simp [blkOf]) hL (by simp)).mono ?_
    rintro e w2 hq
    have HQ2 := Lib.hid (hq.base (HP.out.below1 HC.out))
    obtain ⟨rfl, _⟩ := hq
    go_wp2_with fail
    refine bodyPost_end (v := .tuple #[]) (by simp [results, Tryz.results134]) rfl ?_
    rw [HR.out]
    exact HQ2.out
  · have q55 : ((n : Int) == 55) = false := beq_eq_false_iff_ne.2 (by omega)
    have q56 : ((n : Int) == 56) = true := by rw [hc]; rfl
    have q68 : ((n : Int) == 68) = false := beq_eq_false_iff_ne.2 (by omega)
    have q69 : ((n : Int) == 69) = false := beq_eq_false_iff_ne.2 (by omega)
    have q77 : ((n : Int) == 77) = false := beq_eq_false_iff_ne.2 (by omega)
    have q99 : ((n : Int) == 99) = false := beq_eq_false_iff_ne.2 (by omega)
    clear hc
    go_enter Tryz.func134, Tryz.ntmps134
    go_wp2_with fail
    refine (ground_r X lo _ ap al cp cl L _ HP.out).mono ?_
    rintro e w1 ⟨rfl, g, hg, hq, hc⟩
    have HQ := Lib.hid hq
    have HC := Lib.hid hc
    clear hq hc
    go_wp2_with fail
    refine (tell_r X lo pz (some ⟨g, 0, none⟩) al none 0 cl 0 L ⟨3, n, false, [], e0⟩ _ HQ.out (FreshIn.nil _ _ _ _ _ _) (by simp [blkOf]) hL (by simp)).mono ?_
    rintro e w2 hq
    have HQ2 := Lib.hid (hq.base (HP.out.below1 HC.out))
    obtain ⟨rfl, _⟩ := hq
    go_wp2_with fail
    refine bodyPost_end (v := .tuple #[]) (by simp [results, Tryz.results134]) rfl ?_
    rw [HR.out]
    exact HQ2.out
  · have q55 : ((n : Int) == 55) = false := beq_eq_false_iff_ne.2 (by omega)
    have q56 : ((n : Int) == 56) = false := beq_eq_false_iff_ne.2 (by omega)
    have q68 : ((n : Int) == 68) = true := by rw [hc]; rfl
    have q69 : ((n : Int) == 69) = false := beq_eq_false_iff_ne.2 (by omega)
    have q77 : ((n : Int) == 77) = false := beq_eq_false_iff_ne.2 (by omega)
    have q99 : ((n : Int) == 99) = false := beq_eq_false_iff_ne.2 (by omega)
    clear hc
    go_enter Tryz.func134, Tryz.ntmps134
    go_wp2_with fail
    refine (ground_r X lo _ ap al cp cl L _ HP.out).mono ?_
    rintro e w1 ⟨rfl, g, hg, hq, hc⟩
    have HQ := Lib.hid hq
    have HC := Lib.hid hc
    clear hq hc
    go_wp2_with fail
    refine (tell_r X lo pz (some ⟨g, 0, none⟩) al none 0 cl 0 L ⟨3, n, false, [], e0⟩ _ HQ.out (FreshIn.nil _ _ _ _ _ _) (by simp [blkOf]) hL (by simp)).mono ?_
    rintro e w2 hq
    have HQ2 := Lib.hid (hq.base (HP.out.below1 HC.out))
    obtain ⟨rfl, _⟩ := hq
    go_wp2_with fail
    refine bodyPost_end (v := .tuple #[]) (by simp [results, Tryz.results134]) rfl ?_
    rw [HR.out]
    exact HQ2.out
  · have q55 : ((n : Int) == 55) = false := beq_eq_false_iff_ne.2 (by omega)
    have q56 : ((n : Int) == 56) = false := beq_eq_false_iff_ne.2 (by omega)
    have q68 : ((n : Int) == 68) = false := beq_eq_false_iff_ne.2 (by omega)
    have q69 : ((n : Int) == 69) = true := by rw [hc]; rfl
    have q77 : ((n : Int) == 77) = false := beq_eq_false_iff_ne.2 (by omega)
    have q99 : ((n : Int) == 99) = false := beq_eq_false_iff_ne.2 (by omega)
    clear hc
    go_enter Tryz.func134, Tryz.ntmps134
    go_wp2_with fail
    refine (ground_r X lo _ ap al cp cl L _ HP.out).mono ?_
    rintro e w1 ⟨rfl, g, hg, hq, hc⟩
    have HQ := Lib.hid hq
    have HC := Lib.hid hc
    clear hq hc
    go_wp2_with fail
    refine (tell_r X lo pz (some ⟨g, 0, none⟩) al none 0 cl 0 L ⟨3, n, false, [], e0⟩ _ HQ.out (FreshIn.nil _ _ _ _ _ _) (by simp [blkOf]) hL (by simp)).mono ?_
    rintro e w2 hq
    have HQ2 := Lib.hid (hq.base (HP.out.below1 HC.out))
    obtain ⟨rfl, _⟩ := hq
    go_wp2_with fail
    refine bodyPost_end (v := .tuple #[]) (by simp [results, Tryz.results134]) rfl ?_
    rw [HR.out]
    exact HQ2.out
  · have q55 : ((n : Int) == 55) = false := beq_eq_false_iff_ne.2 (by omega)
    have q56 : ((n : Int) == 56) = false := beq_eq_false_iff_ne.2 (by omega)
    have q68 : ((n : Int) == 68) = false := beq_eq_false_iff_ne.2 (by omega)
    have q69 : ((n : Int) == 69) = false := beq_eq_false_iff_ne.2 (by omega)
    have q77 : ((n : Int) == 77) = true := by rw [hc]; rfl
    have q99 : ((n : Int) == 99) = false := beq_eq_false_iff_ne.2 (by omega)
    clear hc
    go_enter Tryz.func134, Tryz.ntmps134
    go_wp2_with fail
    refine (ground_r X lo _ ap al cp cl L _ HP.out).mono ?_
    rintro e w1 ⟨rfl, g, hg, hq, hc⟩
    have HQ := Lib.hid hq
    have HC := Lib.hid hc
    clear hq hc
    go_wp2_with fail
    refine (tell_r X lo pz (some ⟨g, 0, none⟩) al none 0 cl 0 L ⟨3, n, false, [], e0⟩ _ HQ.out (FreshIn.nil _ _ _ _ _ _) (by simp [blkOf]) hL (by simp)).mono ?_
    rintro e w2 hq
    have HQ2 := Lib.hid (hq.base (HP.out.below1 HC.out))
    obtain ⟨rfl, _⟩ := hq
    go_wp2_with fail
    refine bodyPost_end (v := .tuple #[]) (by simp [results, Tryz.results134]) rfl ?_
    rw [HR.out]
    exact HQ2.out
  · have q55 : ((n : Int) == 55) = false := beq_eq_false_iff_ne.2 (by omega)
    have q56 : ((n : Int) == 56) = false := beq_eq_false_iff_ne.2 (by omega)
    have q68 : ((n : Int) == 68) = false := beq_eq_false_iff_ne.2 (by omega)
    have q69 : ((n : Int) == 69) = false := beq_eq_false_iff_ne.2 (by omega)
    have q77 : ((n : Int) == 77) = false := beq_eq_false_iff_ne.2 (by omega)
    have q99 : ((n : Int) == 99) = true := by rw [hc]; rfl
    clear hc
    go_enter Tryz.func134, Tryz.ntmps134
    go_wp2_with fail
    refine (ground_r X lo _ ap al cp cl L _ HP.out).mono ?_
    rintro e w1 ⟨rfl, g, hg, hq, hc⟩
    have HQ := Lib.hid hq
    have HC := Lib.hid hc
    clear hq hc
    go_wp2_with fail
    refine (tell_r X lo pz (some ⟨g, 0, none⟩) al none 0 cl 0 L ⟨3, n, false, [], e0⟩ _ HQ.out (FreshIn.nil _ _ _ _ _ _) (by simp [blkOf]) hL (by simp)).mono ?_
    rintro e w2 hq
    have HQ2 := Lib.hid (hq.base (HP.out.below1 HC.out))
    obtain ⟨rfl, _⟩ := hq
    go_wp2_with fail
    refine bodyPost_end (v := .tuple #[]) (by simp [results, Tryz.results134]) rfl ?_
    rw [HR.out]
    exact HQ2.out
end
section
open Go.RowKit
theorem takeG_r (X lo : Nat) (ap al : Option Addr) (cp cl : Nat) (L : List ActA) (b : UInt8) (w : World) (h : QS X lo pz ap cp L al cl w) (hL : L.length ≤ 1048576) :
    Calls Tryz.prog 106 #[.pointer (some ⟨X, 0, none⟩), .int .i64 b.toNat] w (fun e w' => QR X lo (gstep b) L e w w') := by
  have HCA := Lib.hid (plain_r X lo ap al cp cl L b w h hL)
  have k_0 : w.cell? ⟨X, 0, none⟩ = some (.int .i64 0) := h.ps.c0
  have kf := h.ps.fz
  have klt := h.ps.lt
  clear h
  go_enter Tryz.func106, Tryz.ntmps106
  go_wp2_with fail
  refine HCA.out.mono ?_
  rintro e w1 hq
  have HQ := Lib.hid hq
  obtain ⟨rfl, _⟩ := hq
  go_wp2_with fail
  refine bodyPost_end (v := .tuple #[]) (by simp [results, Tryz.results106]) rfl ?_
  exact HQ.out
theorem takeE_r (X lo : Nat) (ap al : Option Addr) (cp cl : Nat) (L : List ActA) (b : UInt8) (w : World) (h : QS X lo (pst 1) ap cp L al cl w) (hL : L.length ≤ 1048576) :
    Calls Tryz.prog 106 #[.pointer (some ⟨X, 0, none⟩), .int .i64 b.toNat] w (fun e w' => QR X lo (estep b) L e w w') := by
  have HCA := Lib.hid (escape_r X lo ap al cp cl L b w h hL)
  have k_0 : w.cell? ⟨X, 0, none⟩ = some (.int .i64 1) := h.ps.c0
  have kf := h.ps.fz
  have klt := h.ps.lt
  clear h
  go_enter Tryz.func106, Tryz.ntmps106
  go_wp2_with fail
  refine HCA.out.mono ?_
  rintro e w1 hq
  have HQ := Lib.hid hq
  obtain ⟨rfl, _⟩ := hq
  go_wp2_with fail
  refine bodyPost_end (v := .tuple #[]) (by simp [results, Tryz.results106]) rfl ?_
  exact HQ.out
theorem takeS_r (X lo : Nat) (ap al : Option Addr) (cp cl : Nat) (L : List ActA) (b : UInt8) (w : World) (h : QS X lo (pst 3) ap cp L al cl w) (hL : L.length ≤ 1048576) :
    Calls Tryz.prog 106 #[.pointer (some ⟨X, 0, none⟩), .int .i64 b.toNat] w (fun e w' => QR X lo (sstep (pst 3) b) L e w w') := by
  have HCA := Lib.hid (skip_r X lo ap al cp cl L b w h hL)
  have k_0 : w.cell? ⟨X, 0, none⟩ = some (.int .i64 3) := h.ps.c0
  have kf := h.ps.fz
  have klt := h.ps.lt
  clear h
  go_enter Tryz.func106, Tryz.ntmps106
  go_wp2_with fail
  refine HCA.out.mono ?_
  rintro e w1 hq
  have HQ := Lib.hid hq
  obtain ⟨rfl, _⟩ := hq
  go_wp2_with fail
  refine bodyPost_end (v := .tuple #[]) (by simp [results, Tryz.results106]) rfl ?_
  exact HQ.out
theorem oscEnd_r (t : ByteArray) (X lo : Nat) (ap al : Option Addr) (cp cl : Nat) (L : List ActA) (b : UInt8) (w : World) (h : QS X lo ⟨5, [], false, t, e0⟩ ap cp L al cl w) (hL : L.length ≤ 1048576) :
    Calls Tryz.prog 138 #[.pointer (some ⟨X, 0, none⟩), .int .i64 b.toNat] w (fun e w' => QR X lo (qstep ⟨5, [], false, t, e0⟩ b) L e w w') := by
  have HP := Lib.hid h
  have k_0 := h.ps.c0
  have k_1 := h.ps.c1
  have k_2 := h.ps.c2
  have k_3 := h.ps.c3
  have k_4 := h.ps.c4
  have k_5 := h.c5
  have kf := h.ps.fz
  have klt := h.ps.lt
  have hlo : lo ≤ w.heap.size := by have := h.lo; omega
  have h256 : b.toNat < 256 := b.toNat_lt
  clear h
  obtain ⟨Gr, hG⟩ : ∃ G, qstep ⟨5, [], false, t, e0⟩ b = G := ⟨_, rfl⟩
  have HGG := Lib.hid hG
  rw [hG]
  clear hG
  obtain ⟨n, hn⟩ : ∃ n, b.toNat = n := ⟨_, rfl⟩
  rw [hn] at h256 ⊢
  have HN := Lib.hid hn
  clear hn
  by_cases h92 : n = 92
  case pos =>
    have HR : Hid (Gr = (pz, [⟨5, 0, false, [], t⟩])) := Lib.hid (by rw [← HGG.out]; exact qs1 HN.out h92)
    have g92 : ((n : Int) == 92) = true := by subst h92; rfl
    clear h92
    go_enter Tryz.func138, Tryz.ntmps138
    go_wp2_with fail
    refine (ground_r X lo _ ap al cp cl L _ HP.out).mono ?_
    rintro e w1 ⟨rfl, g, hg, hq, hc⟩
    have HQ := Lib.hid hq
    have HC := Lib.hid hc
    have y_0 := hq.ps.c0
    have y_1 := hq.ps.c1
    have y_2 := hq.ps.c2
    have y_3 := hq.ps.c3
    have y_4 := hq.ps.c4
    have y_5 := hq.c5
    have yf := hq.ps.fz
    have ylt := hq.ps.lt
    clear hq hc
    go_wp2_with fail
    refine (tell_r X lo pz (some ⟨g, 0, none⟩) al none 0 cl 0 L ⟨5, 0, false, [], t⟩ _ HQ.out (FreshIn.nil _ _ _ _ _ _) (by simp [blkOf]) hL (by simp)).mono ?_
    rintro e w2 hq
    have HQ2 := Lib.hid (hq.base (HP.out.below1 HC.out))
    obtain ⟨rfl, _⟩ := hq
    go_wp2_with fail
    refine bodyPost_ret (v := .tuple #[]) (by simp [results, Tryz.results138]) rfl ?_
    rw [HR.out]
    exact HQ2.out
  have g92 : ((n : Int) == 92) = false := beq_eq_false_iff_ne.2 (by omega)
  have HR : Hid (Gr = estep b) := Lib.hid (by rw [← HGG.out]; exact qs2 HN.out h92)
  go_enter Tryz.func138, Tryz.ntmps138
  go_wp2_with fail
  refine (ground_r X lo _ ap al cp cl L _ HP.out).mono ?_
  rintro e w1 ⟨rfl, g, hg, hq, hc⟩
  have HQ := Lib.hid hq
  have HC := Lib.hid hc
  have y_0 := hq.ps.c0
  have y_1 := hq.ps.c1
  have y_2 := hq.ps.c2
  have y_3 := hq.ps.c3
  have y_4 := hq.ps.c4
  have y_5 := hq.c5
  have yf := hq.ps.fz
  have ylt := hq.ps.lt
  clear hq hc
  have HQ3 : Hid (QS X lo (pst 1) (some ⟨g, 0, none⟩) 0 L al cl (w1.setCell ⟨X, 0, none⟩ (.int .i64 1))) := Lib.hid (by
    refine HQ.out.cells (Ch.set1 _ _ _ _) ?_ ?_ ?_ ?_ ?_ ?_ ?_ (.inl ⟨rfl, rfl, rfl⟩)
    all_goals first | (intro o; simp [go_sem, yf, ylt]; done) | (simp [go_sem, y_0, y_1, y_2, y_3, y_4, y_5, ylt, pst, pz]; done))
  have HCA : Hid (Calls Tryz.prog 106 #[.pointer (some ⟨X, 0, none⟩), .int .i64 n] (w1.setCell ⟨X, 0, none⟩ (.int .i64 1)) (fun e w' => QR X lo Gr L e w w')) := Lib.hid (by
    have h1 := (takeE_r X lo (some ⟨g, 0, none⟩) al 0 cl L b _ HQ3.out hL).mono (R' := fun e w' => QR X lo (estep b) L e w w') (fun e w' h => h.base ((HP.out.below1 HC.out).trans (HQ.out.below1 (Ch.set1 _ _ _ _))))
    rw [HN.out] at h1
    rw [HR.out]
    exact h1)
  go_wp2_with fail
  refine HCA.out.mono ?_
  rintro e w2 hq
  have HQ4 := Lib.hid hq
  obtain ⟨rfl, _⟩ := hq
  go_wp2_with fail
  refine bodyPost_end (v := .tuple #[]) (by simp [results, Tryz.results138]) rfl ?_
  exact HQ4.out
end
section
open Go.RowKit
theorem osc_r (t : ByteArray) (X lo : Nat) (ap al : Option Addr) (cp cl : Nat) (L : List ActA) (b : UInt8) (w : World) (h : QS X lo ⟨4, [], false, t, e0⟩ ap cp L al cl w) (hL : L.length ≤ 1048576) (hT : t.size ≤ 40) :
    Calls Tryz.prog 137 #[.pointer (some ⟨X, 0, none⟩), .int .i64 b.toNat] w (fun e w' => QR X lo (ostep ⟨4, [], false, t, e0⟩ b) L e w w') := by
  have HP := Lib.hid h
  have k_0 := h.ps.c0
  have k_1 := h.ps.c1
  have k_2 := h.ps.c2
  have k_3 := h.ps.c3
  have k_4 := h.ps.c4
  have k_5 := h.c5
  have kf := h.ps.fz
  have klt := h.ps.lt
  have hlo : lo ≤ w.heap.size := by have := h.lo; omega
  have h256 : b.toNat < 256 := b.toNat_lt
  clear h
  obtain ⟨Gr, hG⟩ : ∃ G, ostep ⟨4, [], false, t, e0⟩ b = G := ⟨_, rfl⟩
  have HGG := Lib.hid hG
  rw [hG]
  clear hG
  obtain ⟨n, hn⟩ : ∃ n, b.toNat = n := ⟨_, rfl⟩
  rw [hn] at h256 ⊢
  have HN := Lib.hid hn
  clear hn
  by_cases h7 : n = 7
  case pos =>
    have HR : Hid (Gr = (pz, [⟨5, 0, false, [], t⟩])) := Lib.hid (by rw [← HGG.out]; exact os1 HN.out h7)
    have g7 : ((n : Int) == 7) = true := by subst h7; rfl
    clear h7
    have hb0 : Below w.heap.size w (w.alloc (.cells #[.int .i64 5, .int .i64 0, .bool false, .slice none 0 0, .string t] 38)) := (Below.refl _ _).alloc (Nat.le_refl _) _
    have HP0 := Lib.hid (HP.out.keep hb0)
    have HB0 : Hid (Below lo w (w.alloc (.cells #[.int .i64 5, .int .i64 0, .bool false, .slice none 0 0, .string t] 38))) := Lib.hid ((Below.refl _ _).alloc hlo _)
    clear hb0
    go_enter Tryz.func137, Tryz.ntmps137
    go_wp2_with fail
    refine (ground_r X lo _ ap al cp cl L _ HP0.out).mono ?_
    rintro e w1 ⟨rfl, g, hg, hq, hc⟩
    have HQ := Lib.hid hq
    have HC := Lib.hid hc
    have hz1 : w.heap.size < w1.heap.size := by have := hc.size; simp at this; omega
    have hXH : ¬ w.heap.size = X := by omega
    have b_0 : w1.cell? ⟨w.heap.size, 0, none⟩ = some (.int .i64 5) := (hc.cell (p := ⟨w.heap.size, 0, none⟩) (by simp) hXH).trans (by simp [go_sem])
    have b_1 : w1.cell? ⟨w.heap.size, 1, none⟩ = some (.int .i64 0) := (hc.cell (p := ⟨w.heap.size, 1, none⟩) (by simp) hXH).trans (by simp [go_sem])
    have b_2 : w1.cell? ⟨w.heap.size, 2, none⟩ = some (.bool false) := (hc.cell (p := ⟨w.heap.size, 2, none⟩) (by simp) hXH).trans (by simp [go_sem])
    have b_3 : w1.cell? ⟨w.heap.size, 3, none⟩ = some (.slice none 0 0) := (hc.cell (p := ⟨w.heap.size, 3, none⟩) (by simp) hXH).trans (by simp [go_sem])
    have b_4 : w1.cell? ⟨w.heap.size, 4, none⟩ = some (.string t) := (hc.cell (p := ⟨w.heap.size, 4, none⟩) (by simp) hXH).trans (by simp [go_sem])
    clear hq hc
    go_wp2_with fail
    refine (tell_r X lo pz (some ⟨g, 0, none⟩) al none 0 cl 0 L ⟨5, 0, false, [], t⟩ _ HQ.out (FreshIn.nil _ _ _ _ _ _) (by simp [blkOf]) hL (by simp)).mono ?_
    rintro e w2 hq
    have HQ2 := Lib.hid (hq.base (HB0.out.trans (HP0.out.below1 HC.out)))
    obtain ⟨rfl, _⟩ := hq
    go_wp2_with fail
    refine bodyPost_end (v := .tuple #[]) (by simp [results, Tryz.results137]) rfl ?_
    rw [HR.out]
    exact HQ2.out
  have g7 : ((n : Int) == 7) = false := beq_eq_false_iff_ne.2 (by omega)
  by_cases h27 : n = 27
  case pos =>
    have HR : Hid (Gr = (⟨5, [], false, t, e0⟩, [])) := Lib.hid (by rw [← HGG.out]; exact os2 HN.out h27)
    have g27 : ((n : Int) == 27) = true := by subst h27; rfl
    clear h27
    go_enter Tryz.func137, Tryz.ntmps137
    go_wp2_with fail
    refine bodyPost_end (v := .tuple #[]) (by simp [results, Tryz.results137]) rfl ?_
    refine QR.only (p' := ⟨5, [], false, t, e0⟩) (HP.out.cells ?hc ?_ ?_ ?_ ?_ ?_ ?_ ?_ (.inl ⟨rfl, rfl, rfl⟩)) HP.out ?hc HR.out
    case hc => repeat (first | (with_reducible exact Ch.refl) | (with_reducible refine Ch.alloc ?_ _) | (with_reducible refine Ch.drew ?_) | (with_reducible refine Ch.setB ?_ _ _))
    all_goals first | (intro o; simp [go_sem, kf, klt]; done) | (simp [go_sem, k_0, k_1, k_2, k_3, k_4, k_5, klt, pst, pz]; done)
  have g27 : ((n : Int) == 27) = false := beq_eq_false_iff_ne.2 (by omega)
  obtain ⟨v, hv⟩ : ∃ v, inB (n : Int) 32 126 = v := ⟨_, rfl⟩
  have HV := Lib.hid hv
  clear hv
  cases v
  case false =>
    have HR : Hid (Gr = (⟨4, [], false, t, e0⟩, [])) := Lib.hid (by rw [← HGG.out]; exact os4 HN.out h7 h27 (fun h => by have := HV.out; simp [inB] at this; omega))
    go_enter Tryz.func137, Tryz.ntmps137
    go_wp2_with (go_at_call 60; refine (l01In_c _ _ _ _).mono ?_; rw [HV.out]; rintro e w' ⟨rfl, rfl⟩)
    refine bodyPost_end (v := .tuple #[]) (by simp [results, Tryz.results137]) rfl ?_
    exact QR.only HP.out HP.out Ch.refl HR.out
  by_cases h40 : t.size < 40
  case neg =>
    have HR : Hid (Gr = (⟨4, [], false, t, e0⟩, [])) := Lib.hid (by rw [← HGG.out]; exact os4 HN.out h7 h27 (fun h => h40 h.2))
    have g40 : decide ((t.size : Int) < 40) = false := decide_eq_false (by omega)
    go_enter Tryz.func137, Tryz.ntmps137
    go_wp2_with (go_at_call 60; refine (l01In_c _ _ _ _).mono ?_; rw [HV.out]; rintro e w' ⟨rfl, rfl⟩)
    all_goals first
      | (exfalso; omega)
      | (refine bodyPost_end (v := .tuple #[]) (by simp [results, Tryz.results137]) rfl ?_
         exact QR.only HP.out HP.out Ch.refl HR.out)
  have HR : Hid (Gr = (⟨4, [], false, t ++ ⟨#[b]⟩, e0⟩, [])) := Lib.hid (by rw [← HGG.out]; exact os3 HN.out ⟨by have := HV.out; simp [inB] at this; omega, h40⟩)
  have g40 : (t.size : Int) < 40 := by omega
  have hbig : ¬ 9223372036854775807 < t.size + 1 := by omega
  have hw8 : IntKind.u8.wrap (n : Int) = n := u8_in (by omega) (by omega)
  have hcv := convAt w.heap.size (w.alloc (.cells #[.int .u8 n] 5)).drew b n (by simp [go_sem]) HN.out
  go_enter Tryz.func137, Tryz.ntmps137
  go_upto_region 7 with (go_at_call 60; refine (l01In_c _ _ _ _).mono ?_; rw [HV.out]; rintro e w' ⟨rfl, rfl⟩)
  refine wp_region_G (fun w' => w'.cell? ⟨X, 3, none⟩ = some (.string t)) (fun i => i == 13) (by kernel_rfl) k_3 ?_
  refine tW ?_ 0 rfl ?_ ?_; rotate_left
  · intro w' hSw; go_simp; try rfl
  try simp only [Act.put,j1,j2,j3,j4,j5,j6]
  refine tW ?_ 1 rfl ?_ ?_; rotate_left
  · intro w' hSw; go_simp; try rfl
  try simp only [Act.put,j1,j2,j3,j4,j5,j6]
  refine tW ?_ 2 rfl ?_ ?_; rotate_left
  · intro w' hSw; go_simp; try rfl
  try simp only [Act.put,j1,j2,j3,j4,j5,j6]
  refine tW ?_ 3 rfl ?_ ?_; rotate_left
  · intro w' hSw; go_simp; try rfl
  try simp only [Act.put,j1,j2,j3,j4,j5,j6]
  refine tL ?_ 4 rfl k_3 ?_ ?_; rotate_left
  · intro w' hSw; go_simp; try rfl
  try simp only [Act.put,j1,j2,j3,j4,j5,j6]
  refine tW ?_ 5 rfl ?_ ?_; rotate_left
  · intro w' hSw; go_simp; try rfl
  try simp only [Act.put,j1,j2,j3,j4,j5,j6]
  refine tW ?_ 6 rfl ?_ ?_; rotate_left
  · intro w' hSw; go_simp; try rfl
  try simp only [Act.put,j1,j2,j3,j4,j5,j6]
  refine wpAnyG_one (i := 7) (by kernel_rfl) rfl k_3 (fun K' hK => ?_)
  simp only [j1,j2,j3]
  go_simp
  have hS1 : (w.alloc (.cells #[.int .u8 n] 5)).cell? ⟨X, 3, none⟩ = some (.string t) := (World.cell?_alloc_lt _ _ _ klt).trans k_3
  refine hK.out _ _ (Or.inr hS1) ?_
  clear hK K'
  try simp only [Act.put,j1,j2,j3,j4,j5,j6]
  refine wpAnyG_one (i := 8) (by kernel_rfl) rfl hS1 (fun K' hK => ?_)
  simp only [j1,j2,j3]
  go_simp
  refine hK.out _ _ (Or.inr hS1) ?_
  clear hK K'
  try simp only [Act.put,j1,j2,j3,j4,j5,j6]
  refine tW ?_ 9 rfl ?_ ?_; rotate_left
  · intro w' hSw; go_simp; try rfl
  try simp only [Act.put,j1,j2,j3,j4,j5,j6]
  refine tW ?_ 10 rfl ?_ ?_; rotate_left
  · intro w' hSw; go_simp; try rfl
  try simp only [Act.put,j1,j2,j3,j4,j5,j6]
  refine tW ?_ 11 rfl ?_ ?_; rotate_left
  · intro w' hSw; go_simp; try rfl
  try simp only [Act.put,j1,j2,j3,j4,j5,j6]
  refine tW ?_ 12 rfl ?_ ?_; rotate_left
  · intro w' hSw; go_simp; try rfl
  try simp only [Act.put,j1,j2,j3,j4,j5,j6]
  clear hcv hbig hw8
  have hb1 : Below w.heap.size w (w.alloc (.cells #[.int .u8 n] 5)).drew := ((Below.refl _ _).alloc (Nat.le_refl _) _).drew
  obtain ⟨x, hx⟩ : ∃ x, (w.alloc (.cells #[.int .u8 n] 5)).drew = x := ⟨_, rfl⟩
  have hS2 : x.cell? ⟨X, 3, none⟩ = some (.string t) := by rw [← hx]; exact hS1
  rw [hx] at hb1 ⊢
  clear hx
  have HBX : Hid (Below w.heap.size w x) := Lib.hid hb1
  have x_0 := (hb1.cell (p := ⟨X, 0, none⟩) klt).trans k_0
  have x_1 := (hb1.cell (p := ⟨X, 1, none⟩) klt).trans k_1
  have x_2 := (hb1.cell (p := ⟨X, 2, none⟩) klt).trans k_2
  have x_3 := (hb1.cell (p := ⟨X, 3, none⟩) klt).trans k_3
  have x_4 := (hb1.cell (p := ⟨X, 4, none⟩) klt).trans k_4
  have x_5 := (hb1.cell (p := ⟨X, 5, none⟩) klt).trans k_5
  have xf := fun o => kF hb1 klt (kf o)
  have xlt := Nat.lt_of_lt_of_le klt hb1.size
  clear hb1
  refine wpAnyG_one (i := 13) (by kernel_rfl) rfl hS2 (fun K' hK => ?_)
  simp only [j1,j2,j3]
  go_simp
  refine hK.out _ _ (Or.inl rfl) ?_
  clear hK K'
  try simp only [Act.put,j1,j2,j3,j4,j5,j6]
  refine wpAnyG_done (by kernel_rfl) ?_ _
  go_wp2_with fail
  refine bodyPost_end (v := .tuple #[]) (by simp [results, Tryz.results137]) rfl ?_
  have HCX : Ch (fun k => k = X) w x := Ch.of_below HBX.out
  refine QR.only (p' := ⟨4, [], false, t ++ ⟨#[b]⟩, e0⟩) (HP.out.cells (HCX.trans ?hc (fun i hi => .inl hi)) ?_ ?_ ?_ ?_ ?_ ?_ ?_ (.inl ⟨rfl, rfl, rfl⟩)) HP.out (HCX.trans ?hc (fun i hi => .inl hi)) HR.out
  case hc => repeat (first | (with_reducible exact Ch.refl) | (with_reducible refine Ch.alloc ?_ _) | (with_reducible refine Ch.drew ?_) | (with_reducible refine Ch.setB ?_ _ _))
  all_goals first | (intro o; simp [go_sem, xf, xlt]; done) | (simp [go_sem, x_0, x_1, x_2, x_3, x_4, x_5, xlt]; done)
end
section
open Go.RowKit
theorem fit_step {l : List UInt8} {k : Nat} (h : fitK l k) (hm : mayF (l.take k) (l.getD k 0).toNat = true) : fitK l (k + 1) := by
  intro j h1 h2
  rcases Nat.lt_succ_iff_lt_or_eq.1 h2 with h3 | rfl
  · exact h j h1 h3
  · exact hm
def FitR (s : ByteArray) (w : World) (e : Ending) (w' : World) : Prop := ∃ v : Bool, e = .returned (.bool v) ∧ (v = true ↔ fitK s.data.toList s.size) ∧ w = w'
theorem inB_nat (b : Nat) (l h : Nat) : inB (b : Int) l h = (decide (l ≤ b) && decide (b ≤ h)) := by
  unfold inB
  rw [Bool.eq_iff_iff]
  simp only [Bool.and_eq_true, decide_eq_true_eq]
  omega
theorem fits_r (s : ByteArray) (w : World) (hz : s.size ≤ 1048576) : Calls Tryz.prog 149 #[.string s] w (FitR s w) := by
  go_enter Tryz.func149, Tryz.ntmps149
  go_wp2_with fail
  go_loop [3] (fun i => ∃ k : Nat, (1 ≤ k ∧ (k ≤ s.size ∨ k = 1)) ∧ i = .int .i64 k ∧ Hid (fitK s.data.toList k)) (fun i => s.size - (intOf i).toNat)
  case atStart => exact ⟨1, ⟨by omega, .inr rfl⟩, rfl, Lib.hid (fun j h1 h2 => absurd h1 (by omega))⟩
  case round =>
    obtain ⟨k, ⟨hk1, hk⟩, rfl, HP⟩ := hrel
    by_cases hlt : k < s.size
    · obtain ⟨v, hv⟩ : ∃ v, mayF (s.data.toList.take k) (s.data.toList.getD k 0).toNat = v := ⟨_, rfl⟩
      have HST : Hid (v = true → fitK s.data.toList (k + 1)) := Lib.hid (fun h => fit_step HP.out (hv.trans h))
      have HNO : Hid (v = false → ¬ fitK s.data.toList s.size) := Lib.hid (fun h hf => by
        have := hf k hk1 hlt
        rw [hv, h] at this
        cases this)
      have h0 : 0 < s.size := by omega
      obtain ⟨y, hy⟩ : ∃ y, s[0]'h0 = y := ⟨_, rfl⟩
      obtain ⟨x, hx⟩ : ∃ x, s[k] = x := ⟨_, rfl⟩
      have h256 : x.toNat < 256 := x.toNat_lt
      rw [getDL hlt, hx] at hv
      by_cases h1 : k = 1
      · have hl : s.data.toList.take k = [y] := by
          have h2 := headL h0
          rw [hy] at h2
          rw [h1]
          cases hc : s.data.toList with
          | nil => have : s.data.toList.length = s.size := rfl; rw [hc] at this; simp at this; omega
          | cons a l => rw [hc] at h2; simp at h2; subst h2; rfl
        rw [hl] at hv
        unfold mayF at hv
        rw [lowOf_one, highOf_one] at hv
        have HV := Lib.hid hv
        have gk : ((k : Int) == 1) = true := by rw [h1]; rfl
        clear hv hl h1
        by_cases c224 : y.toNat = 224
        · have q224 : ((y.toNat : Int) == 224) = true := by rw [c224]; rfl
          have d237 : ¬ y.toNat = 237 := by omega
          have q237 : ((y.toNat : Int) == 237) = false := beq_eq_false_iff_ne.2 (by omega)
          have d240 : ¬ y.toNat = 240 := by omega
          have q240 : ((y.toNat : Int) == 240) = false := beq_eq_false_iff_ne.2 (by omega)
          have d244 : ¬ y.toNat = 244 := by omega
          have q244 : ((y.toNat : Int) == 244) = false := beq_eq_false_iff_ne.2 (by omega)
          have HI : Hid (inB (x.toNat : Int) 160 191 = v) := Lib.hid (by
            refine (inB_nat x.toNat 160 191).trans ?_
            rw [← HV.out]
            try simp [*])
          have HNX : Hid (v = true ∨ ¬ fitK s.data.toList s.size) := Lib.hid (by
            cases hb : v with
            | true => exact .inl rfl
            | false => exact .inr (HNO.out hb))
          cases v
          case false =>
            go_wp2_with (go_at_call 60; refine (l01In_c _ _ _ _).mono ?_; rw [HI.out]; rintro e w' ⟨rfl, rfl⟩)
            go_ret
            exact ⟨false, rfl, ⟨fun h => (by cases h), fun h => absurd h (HNX.out.resolve_left (by simp))⟩, rfl⟩
          case true =>
            go_wp2_with (go_at_call 60; refine (l01In_c _ _ _ _).mono ?_; rw [HI.out]; rintro e w' ⟨rfl, rfl⟩)
            go_round
            case rel => exact ⟨k + 1, ⟨by omega, by omega⟩, by go_num, Lib.hid (HST.out (by simp))⟩
            case measure => simp [intOf]; omega
        have q224 : ((y.toNat : Int) == 224) = false := beq_eq_false_iff_ne.2 (by omega)
        by_cases c237 : y.toNat = 237
        · have q237 : ((y.toNat : Int) == 237) = true := by rw [c237]; rfl
          have d240 : ¬ y.toNat = 240 := by omega
          have q240 : ((y.toNat : Int) == 240) = false := beq_eq_false_iff_ne.2 (by omega)
          have d244 : ¬ y.toNat = 244 := by omega
          have q244 : ((y.toNat : Int) == 244) = false := beq_eq_false_iff_ne.2 (by omega)
          have HI : Hid (inB (x.toNat : Int) 128 159 = v) := Lib.hid (by
            refine (inB_nat x.toNat 128 159).trans ?_
            rw [← HV.out]
            try simp [*])
          have HNX : Hid (v = true ∨ ¬ fitK s.data.toList s.size) := Lib.hid (by
            cases hb : v with
            | true => exact .inl rfl
            | false => exact .inr (HNO.out hb))
          cases v
          case false =>
            go_wp2_with (go_at_call 60; refine (l01In_c _ _ _ _).mono ?_; rw [HI.out]; rintro e w' ⟨rfl, rfl⟩)
            go_ret
            exact ⟨false, rfl, ⟨fun h => (by cases h), fun h => absurd h (HNX.out.resolve_left (by simp))⟩, rfl⟩
          case true =>
            go_wp2_with (go_at_call 60; refine (l01In_c _ _ _ _).mono ?_; rw [HI.out]; rintro e w' ⟨rfl, rfl⟩)
            go_round
            case rel => exact ⟨k + 1, ⟨by omega, by omega⟩, by go_num, Lib.hid (HST.out (by simp))⟩
            case measure => simp [intOf]; omega
        have q237 : ((y.toNat : Int) == 237) = false := beq_eq_false_iff_ne.2 (by omega)
        by_cases c240 : y.toNat = 240
        · have q240 : ((y.toNat : Int) == 240) = true := by rw [c240]; rfl
          have d244 : ¬ y.toNat = 244 := by omega
          have q244 : ((y.toNat : Int) == 244) = false := beq_eq_false_iff_ne.2 (by omega)
          have HI : Hid (inB (x.toNat : Int) 144 191 = v) := Lib.hid (by
            refine (inB_nat x.toNat 144 191).trans ?_
            rw [← HV.out]
            try simp [*])
          have HNX : Hid (v = true ∨ ¬ fitK s.data.toList s.size) := Lib.hid (by
            cases hb : v with
            | true => exact .inl rfl
            | false => exact .inr (HNO.out hb))
          cases v
          case false =>
            go_wp2_with (go_at_call 60; refine (l01In_c _ _ _ _).mono ?_; rw [HI.out]; rintro e w' ⟨rfl, rfl⟩)
            go_ret
            exact ⟨false, rfl, ⟨fun h => (by cases h), fun h => absurd h (HNX.out.resolve_left (by simp))⟩, rfl⟩
          case true =>
            go_wp2_with (go_at_call 60; refine (l01In_c _ _ _ _).mono ?_; rw [HI.out]; rintro e w' ⟨rfl, rfl⟩)
            go_round
            case rel => exact ⟨k + 1, ⟨by omega, by omega⟩, by go_num, Lib.hid (HST.out (by simp))⟩
            case measure => simp [intOf]; omega
        have q240 : ((y.toNat : Int) == 240) = false := beq_eq_false_iff_ne.2 (by omega)
        by_cases c244 : y.toNat = 244
        · have q244 : ((y.toNat : Int) == 244) = true := by rw [c244]; rfl
          have HI : Hid (inB (x.toNat : Int) 128 143 = v) := Lib.hid (by
            refine (inB_nat x.toNat 128 143).trans ?_
            rw [← HV.out]
            try simp [*])
          have HNX : Hid (v = true ∨ ¬ fitK s.data.toList s.size) := Lib.hid (by
            cases hb : v with
            | true => exact .inl rfl
            | false => exact .inr (HNO.out hb))
          cases v
          case false =>
            go_wp2_with (go_at_call 60; refine (l01In_c _ _ _ _).mono ?_; rw [HI.out]; rintro e w' ⟨rfl, rfl⟩)
            go_ret
            exact ⟨false, rfl, ⟨fun h => (by cases h), fun h => absurd h (HNX.out.resolve_left (by simp))⟩, rfl⟩
          case true =>
            go_wp2_with (go_at_call 60; refine (l01In_c _ _ _ _).mono ?_; rw [HI.out]; rintro e w' ⟨rfl, rfl⟩)
            go_round
            case rel => exact ⟨k + 1, ⟨by omega, by omega⟩, by go_num, Lib.hid (HST.out (by simp))⟩
            case measure => simp [intOf]; omega
        have q244 : ((y.toNat : Int) == 244) = false := beq_eq_false_iff_ne.2 (by omega)
        have HI : Hid (inB (x.toNat : Int) 128 191 = v) := Lib.hid (by
          refine (inB_nat x.toNat 128 191).trans ?_
          rw [← HV.out]
          try simp [*])
        have HNX : Hid (v = true ∨ ¬ fitK s.data.toList s.size) := Lib.hid (by
          cases hb : v with
          | true => exact .inl rfl
          | false => exact .inr (HNO.out hb))
        cases v
        case false =>
          go_wp2_with (go_at_call 60; refine (l01In_c _ _ _ _).mono ?_; rw [HI.out]; rintro e w' ⟨rfl, rfl⟩)
          go_ret
          exact ⟨false, rfl, ⟨fun h => (by cases h), fun h => absurd h (HNX.out.resolve_left (by simp))⟩, rfl⟩
        case true =>
          go_wp2_with (go_at_call 60; refine (l01In_c _ _ _ _).mono ?_; rw [HI.out]; rintro e w' ⟨rfl, rfl⟩)
          go_round
          case rel => exact ⟨k + 1, ⟨by omega, by omega⟩, by go_num, Lib.hid (HST.out (by simp))⟩
          case measure => simp [intOf]; omega
      · have hll : (s.data.toList.take k).length ≠ 1 := by
          have : s.data.toList.length = s.size := rfl
          rw [List.length_take]; omega
        unfold mayF at hv
        rw [(low_not hll).1, (low_not hll).2] at hv
        have HV := Lib.hid hv
        have gk : ((k : Int) == 1) = false := beq_eq_false_iff_ne.2 (by omega)
        clear hv
        have HI : Hid (inB (x.toNat : Int) 128 191 = v) := Lib.hid (by
          refine (inB_nat x.toNat 128 191).trans ?_
          rw [← HV.out]
          try simp [*])
        have HNX : Hid (v = true ∨ ¬ fitK s.data.toList s.size) := Lib.hid (by
          cases hb : v with
          | true => exact .inl rfl
          | false => exact .inr (HNO.out hb))
        cases v
        case false =>
          go_wp2_with (go_at_call 60; refine (l01In_c _ _ _ _).mono ?_; rw [HI.out]; rintro e w' ⟨rfl, rfl⟩)
          go_ret
          exact ⟨false, rfl, ⟨fun h => (by cases h), fun h => absurd h (HNX.out.resolve_left (by simp))⟩, rfl⟩
        case true =>
          go_wp2_with (go_at_call 60; refine (l01In_c _ _ _ _).mono ?_; rw [HI.out]; rintro e w' ⟨rfl, rfl⟩)
          go_round
          case rel => exact ⟨k + 1, ⟨by omega, by omega⟩, by go_num, Lib.hid (HST.out (by simp))⟩
          case measure => simp [intOf]; omega
    · have HF : Hid (fitK s.data.toList s.size) := Lib.hid (fun j h1 h2 => HP.out j h1 (by omega))
      go_wp2_with fail
      go_ret
      exact ⟨true, rfl, ⟨fun _ => HF.out, fun _ => rfl⟩, rfl⟩
end
end Go.Proofs.YtjmpgeffkdjpdaaGreatDoor
