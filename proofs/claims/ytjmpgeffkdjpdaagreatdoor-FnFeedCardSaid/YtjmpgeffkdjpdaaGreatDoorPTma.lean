/- Contracts of the functions that the claim reaches. No conditions but sizes. -/
import Derived.Test.YtjmpgeffkdjpdaaGreatDoorPTm0
import Derived.OrdersHeld
import Derived.RegionTactic
import Derived.Deep.RegionLaw
import Derived.Deep.RegionHeld
import Derived.Below
import Derived.Lib.Hide
import Derived.WalkKit
import Derived.WalkSpells
import Derived.Deep.Quiet
import Derived.Lib.ItoaNum
import Derived.Test.YtjmpgeffkdjpdaaGreatDoorRows
import Derived.WalkLawsBesides
import Derived.BigRegion
import Derived.Lib.Bytealg
import Derived.Deep.QuietTactic
import Derived.BigQuiet
import Derived.Deep.DeepCutAuto
import Derived.Deep.AppendSrc
import Derived.Deep.Upon
import Derived.Laws.IdiomStrings
import Derived.Deep.RegionHeld3
import Derived.Lib.Strings
import Derived.Shelf.Unicode.DecodeAny
namespace Go.Proofs.YtjmpgeffkdjpdaaGreatDoor
set_option linter.unusedVariables false
set_option linter.unusedSimpArgs false
set_option maxRecDepth 100000
set_option maxHeartbeats 16000000
open Go.RowKit
section
open Go
section
variable {P : Program} {ops : Array Oper} {Q : Exit → Act → World → Prop} {md : Region.Mode} {S : World → Prop} {ex : Nat → Bool}
def Za6 (P : Program) (md : Region.Mode) (ops : Array Oper) (Q : Exit → Act → World → Prop) (S : World → Prop) (ex : Nat → Bool) : Nat → Array Bool → Act → World → Prop
 | 0, listed, a, w => Region.ready md ops listed = [] ∧ Q .normal a w
 | fuel + 1, listed, a, w =>
   (Region.ready md ops listed = [] → Q .normal a w) ∧
   ∀ i ∈ Region.ready md ops listed, wpOp P ops Q i (fun a' w' => (ex i = true ∨ (S w → S w')) ∧ Za6 P md ops Q S ex fuel (listed.setIfInBounds i true) a' w') a w
theorem Zi2 : ∀ (fuel : Nat) (listed : Array Bool) (a : Act) (w : World), Za6 P md ops Q S ex fuel listed a w → wpAny P md ops Q fuel listed a w
 | 0, _, _, _, h => h
 | fuel + 1, _, _, _, h => ⟨h.1, fun i hi => wpOp_mono (fun a' w' h' => Zi2 fuel _ a' w' h'.2) (h.2 i hi)⟩
def Yc7 (md : Region.Mode) (ops : Array Oper) (ex : Nat → Bool) (i : Nat) : Bool :=
 (List.range ops.size).all fun j => !ex j || (match ops[j]? with | some o => o.after.any fun e => Region.binds md e && e.on == i | none => true)
theorem Zs6 {i : Nat} {oi : Oper} {v : Value} (hi : ops[i]? = some oi) (hsel : ∀ (j : Nat) (o : Oper) cs b, ops[j]? = some o → o.op ≠ .select cs b)
 (hQ : ∀ c a w, Q (.panic c) (a.put oi.dst v) w → Q (.panic c) a w)
 (hex : ∀ j oj, ops[j]? = some oj → ex j = true → ∃ e ∈ oj.after, Region.binds md e = true ∧ e.on = i) :
 ∀ (fuel : Nat) (listed : Array Bool) (a : Act) (w : World),
  (∀ j oj, ops[j]? = some oj → j ≠ i → listed.getD j true = false → (∀ e ∈ oj.after, Region.binds md e = true → e.on ≠ i) → oi.apart ops oj = true) →
  i ∈ Region.ready md ops listed → YieldsIf P ops S oi v a → S w →
  Za6 P md ops Q S ex fuel (listed.setIfInBounds i true) (a.put oi.dst v) w → Za6 P md ops Q S ex (fuel + 1) listed a w := by
 intro fuel
 induction fuel with
 | zero =>
   intro listed a w _ hr hy hS H
   refine ⟨fun h => (by rw [h] at hr; cases hr), fun j hj => ?_⟩
   by_cases hji : j = i
   ·subst hji; exact hy.wpOp hi hS ⟨.inr id, H⟩
   ·have := ready_mono hj hji
    rw [H.1] at this
    cases this
 | succ fuel ih =>
   intro listed a w hfree hr hy hS H
   refine ⟨fun h => (by rw [h] at hr; cases hr), fun j hj => ?_⟩
   by_cases hji : j = i
   ·subst hji; exact hy.wpOp hi hS ⟨.inr id, H⟩
   ·have h1 := H.2 j (ready_mono hj hji)
    obtain ⟨hjun, oj, hoj, hall⟩ := mem_ready.1 hj
    have hnot : ∀ e ∈ oj.after, Region.binds md e = true → e.on ≠ i := fun e he hb heq => by
     have h1 := hall e he hb
     have h0 := (mem_ready.1 hr).1
     rw [heq] at h1
     rcases Nat.lt_or_ge i listed.size with h' | h'
     ·simp [h'] at h0 h1; rw [h0] at h1; cases h1
     ·simp [Array.getElem?_eq_none h'] at h1
    have hjex : ex j = true → False := fun he => by
     obtain ⟨e, h2, h3, h4⟩ := hex j oj hoj he
     exact hnot e h2 h3 h4
    have h2 := wpOp_putIf hoj (hfree j oj hoj hji hjun hnot) (fun cs b => hsel i oi cs b hi) (fun cs b => hsel j oj cs b hoj) hQ hy h1
    have hfree' : ∀ k ok, ops[k]? = some ok → k ≠ i → (listed.setIfInBounds j true).getD k true = false →
     (∀ e ∈ ok.after, Region.binds md e = true → e.on ≠ i) → oi.apart ops ok = true := fun k ok hk hki hun hno => by
     refine hfree k ok hk hki ?_ hno
     by_cases hjk : j = k
     ·subst hjk; exact hjun
     ·rw [getD_set_ne true hjk] at hun; exact hun
    refine wpOp_mono (fun a' w' h3 => ?_) h2
    have hSw : S w' := h3.2.1.resolve_left (fun he => hjex he) hS
    refine ⟨.inr (fun _ => hSw), ih (listed.setIfInBounds j true) a' w' hfree' (ready_mono hr (Ne.symm hji)) h3.1 hSw ?_⟩
    rw [Array.setIfInBounds_comm _ _ hji]
    exact h3.2.2
theorem Zo1 {i : Nat} {oi : Oper} {v : Value} (hi : ops[i]? = some oi) (hsel : ∀ (j : Nat) (o : Oper) cs b, ops[j]? = some o → o.op ≠ .select cs b)
 (hQ : ∀ c a w, Q (.panic c) (a.put oi.dst v) w → Q (.panic c) a w) :
 ∀ (fuel : Nat) (listed : Array Bool) (a : Act) (w : World),
  (∀ j oj, ops[j]? = some oj → j ≠ i → listed.getD j true = false → (∀ e ∈ oj.after, Region.binds md e = true → e.on ≠ i) → oi.apart ops oj = true) →
  i ∈ Region.ready md ops listed → YieldsIf P ops (fun _ => True) oi v a →
  Za6 P md ops Q S ex fuel (listed.setIfInBounds i true) (a.put oi.dst v) w → Za6 P md ops Q S ex (fuel + 1) listed a w := by
 intro fuel
 induction fuel with
 | zero =>
   intro listed a w _ hr hy H
   refine ⟨fun h => (by rw [h] at hr; cases hr), fun j hj => ?_⟩
   by_cases hji : j = i
   ·subst hji; exact hy.wpOp hi trivial ⟨.inr id, H⟩
   ·have := ready_mono hj hji
    rw [H.1] at this
    cases this
 | succ fuel ih =>
   intro listed a w hfree hr hy H
   refine ⟨fun h => (by rw [h] at hr; cases hr), fun j hj => ?_⟩
   by_cases hji : j = i
   ·subst hji; exact hy.wpOp hi trivial ⟨.inr id, H⟩
   ·have h1 := H.2 j (ready_mono hj hji)
    obtain ⟨hjun, oj, hoj, hall⟩ := mem_ready.1 hj
    have hnot : ∀ e ∈ oj.after, Region.binds md e = true → e.on ≠ i := fun e he hb heq => by
     have h1 := hall e he hb
     have h0 := (mem_ready.1 hr).1
     rw [heq] at h1
     rcases Nat.lt_or_ge i listed.size with h' | h'
     ·simp [h'] at h0 h1; rw [h0] at h1; cases h1
     ·simp [Array.getElem?_eq_none h'] at h1
    have h2 := wpOp_putIf hoj (hfree j oj hoj hji hjun hnot) (fun cs b => hsel i oi cs b hi) (fun cs b => hsel j oj cs b hoj) hQ hy h1
    have hfree' : ∀ k ok, ops[k]? = some ok → k ≠ i → (listed.setIfInBounds j true).getD k true = false →
     (∀ e ∈ ok.after, Region.binds md e = true → e.on ≠ i) → oi.apart ops ok = true := fun k ok hk hki hun hno => by
     refine hfree k ok hk hki ?_ hno
     by_cases hjk : j = k
     ·subst hjk; exact hjun
     ·rw [getD_set_ne true hjk] at hun; exact hun
    refine wpOp_mono (fun a' w' h3 => ?_) h2
    refine ⟨h3.2.1, ih (listed.setIfInBounds j true) a' w' hfree' (ready_mono hr (Ne.symm hji)) h3.1 ?_⟩
    rw [Array.setIfInBounds_comm _ _ hji]
    exact h3.2.2
theorem Zj0 {i : Nat} {oi : Oper} {v : Value} {fuel : Nat} {listed : Array Bool} {a : Act} {w : World} (hi : ops[i]? = some oi)
 (hs : Region.noSelect ops = true) (hf : Region.free md ops listed i = true) (hr : (Region.ready md ops listed).contains i = true)
 (hQ : ∀ c a w, Q (.panic c) (a.put oi.dst v) w → Q (.panic c) a w) (hy : YieldsIf P ops (fun _ => True) oi v a)
 (h : Za6 P md ops Q S ex fuel (listed.setIfInBounds i true) (a.put oi.dst v) w) : Za6 P md ops Q S ex (fuel + 1) listed a w :=
 Zo1 hi (Region.noSelect_spec hs) hQ fuel listed a w (Region.free_spec hi hf) (by simpa using hr) hy h
theorem Zw4 {i : Nat} (h : Yc7 md ops ex i = true) : ∀ j oj, ops[j]? = some oj → ex j = true → ∃ e ∈ oj.after, Region.binds md e = true ∧ e.on = i := by
 intro j oj hj he
 have h1 := (List.all_eq_true.1 h) j (List.mem_range.2 (Array.getElem?_eq_some_iff.1 hj).1)
 rw [hj, he] at h1
 simp only [Bool.not_true, Bool.false_or] at h1
 obtain ⟨k, hk, h2⟩ := Array.any_eq_true.1 h1
 simp only [Bool.and_eq_true, beq_iff_eq] at h2
 exact ⟨oj.after[k], Array.getElem_mem hk, h2.1, h2.2⟩
theorem Zw5 {i : Nat} {oi : Oper} {v : Value} {fuel : Nat} {listed : Array Bool} {a : Act} {w : World} (hi : ops[i]? = some oi)
 (hs : Region.noSelect ops = true) (hf : Region.free md ops listed i = true) (hr : (Region.ready md ops listed).contains i = true) (hw : Yc7 md ops ex i = true)
 (hQ : ∀ c a w, Q (.panic c) (a.put oi.dst v) w → Q (.panic c) a w) (hS : S w) (hy : YieldsIf P ops S oi v a)
 (h : Za6 P md ops Q S ex fuel (listed.setIfInBounds i true) (a.put oi.dst v) w) : Za6 P md ops Q S ex (fuel + 1) listed a w :=
 Zs6 hi (Region.noSelect_spec hs) hQ (Zw4 hw) fuel listed a w (Region.free_spec hi hf) (by simpa using hr) hy hS h
theorem w1G {i : Nat} {o : Oper} {fuel : Nat} {listed : Array Bool} {a : Act} {w : World} (hr : Region.ready md ops listed = [i]) (ho : ops[i]? = some o)
 (hS : S w) (h : ∀ K' : Act → World → Prop, Shut (∀ a w, (ex i = true ∨ S w) → Za6 P md ops Q S ex fuel (listed.setIfInBounds i true) a w → K' a w) → if Region.wanted o (yielded ops a.tmps) = true then Oper.wp P o a w K' Q else K' (a.put o.dst undef) w) : Za6 P md ops Q S ex (fuel + 1) listed a w :=
 ⟨fun h0 => (by rw [hr] at h0; cases h0), fun j hj => by
   rw [hr] at hj
   obtain rfl : j = i := by simpa using hj
   exact wpOp_step ho (fun K' hK => h K' (fun a w h1 h2 => hK a w ⟨h1.imp id (fun h3 _ => h3), h2⟩))⟩
theorem wD {listed : Array Bool} {a : Act} {w : World} (hr : Region.ready md ops listed = []) (h : Q .normal a w) : ∀ fuel, Za6 P md ops Q S ex fuel listed a w
 | 0 => ⟨hr, h⟩
 | _ + 1 => ⟨fun _ => h, by rw [hr]; simp⟩
theorem Za4 {id : Nat} {a : Act} {w : World} (S : World → Prop) (ex : Nat → Bool) (hm : P.follows .mixedOrders = true) (hS : S w.drew)
 (h : Za6 P .any ops Q S ex ops.size (Array.replicate ops.size false) a w.drew) : (Code.region id ops true).wp P Q a w :=
 wp_region_any hm (Zi2 _ _ _ _ h)
end
end
section
variable {P : Program} {md : Region.Mode} {ops : Array Oper} {Q : Exit → Act → World → Prop} {S : World → Prop} {ex : Nat → Bool} {oi : Oper} {fuel : Nat} {listed : Array Bool} {a : Act} {w : World}
theorem tW (v : Value) (i : Nat) (hi : ops[i]? = some oi) (h2 : ∀ w, True → (execOp a.eval oi).run P w = .ok (.value v) w) (h : Za6 P md ops Q S ex fuel (listed.setIfInBounds i true) (a.put oi.dst v) w)
 (hs : Region.noSelect ops = true := by kernel_rfl) (hf : Region.free md ops listed i = true := by kernel_rfl) (hr : (Region.ready md ops listed).contains i = true := by kernel_rfl)
 (hQ : ∀ c a w, Q (.panic c) (a.put oi.dst v) w → Q (.panic c) a w := by exact fun _ _ _ h => h) (h1 : Region.wanted oi (yielded ops a.tmps) = true := by rfl) : Za6 P md ops Q S ex (fuel + 1) listed a w := Zj0 hi hs hf hr hQ (.inl ⟨h1, h2⟩) h
theorem tL (v : Value) (i : Nat) (hi : ops[i]? = some oi) (hS : S w) (h2 : ∀ w, S w → (execOp a.eval oi).run P w = .ok (.value v) w) (h : Za6 P md ops Q S ex fuel (listed.setIfInBounds i true) (a.put oi.dst v) w)
 (hs : Region.noSelect ops = true := by kernel_rfl) (hf : Region.free md ops listed i = true := by kernel_rfl) (hr : (Region.ready md ops listed).contains i = true := by kernel_rfl) (hw : Yc7 md ops ex i = true := by kernel_rfl)
 (hQ : ∀ c a w, Q (.panic c) (a.put oi.dst v) w → Q (.panic c) a w := by exact fun _ _ _ h => h) (h1 : Region.wanted oi (yielded ops a.tmps) = true := by rfl) : Za6 P md ops Q S ex (fuel + 1) listed a w := Zw5 hi hs hf hr hw hQ hS (.inl ⟨h1, h2⟩) h
end
section
open Go Go.RowKit
section
variable {P : Program} {ops : Array Oper} {Q : Exit → Act → World → Prop} {md : Region.Mode} {S : World → Prop} {ex : Nat → Bool}
def dcB (md : Region.Mode) (ops : Array Oper) (listed : Array Bool) : Bool :=
 (List.range ops.size).all fun j => !listed.getD j false || (match ops[j]? with | some o => o.after.all fun e => !Region.binds md e || listed.getD e.on false | none => true)
def DC (md : Region.Mode) (ops : Array Oper) (listed : Array Bool) : Prop :=
 ∀ j o, ops[j]? = some o → listed.getD j false = true → ∀ e ∈ o.after, Region.binds md e = true → listed.getD e.on false = true
theorem dcB_spec {listed : Array Bool} (h : dcB md ops listed = true) : DC md ops listed := by
 intro j o hj hl e he hb
 have h1 := (List.all_eq_true.1 h) j (List.mem_range.2 (Array.getElem?_eq_some_iff.1 hj).1)
 rw [hj, hl] at h1
 simp only [Bool.not_true, Bool.false_or, Array.all_eq_true_iff_forall_mem, Bool.or_eq_true, Bool.not_eq_true'] at h1
 rcases h1 e he with h2 | h2
 ·rw [hb] at h2; cases h2
 ·exact h2
theorem getD_tf {listed : Array Bool} {j : Nat} (h : listed.getD j false = true) : j < listed.size ∧ listed.getD j true = true := by
 rcases Nat.lt_or_ge j listed.size with h1 | h1
 ·simp [Array.getD, h1] at h ⊢
  exact h
 ·simp [Array.getD, Nat.not_lt.2 h1] at h
theorem DC.set {listed : Array Bool} {i : Nat} (h : DC md ops listed) (hr : i ∈ Region.ready md ops listed) : DC md ops (listed.setIfInBounds i true) := by
 obtain ⟨_, o, ho, hall⟩ := mem_ready.1 hr
 intro j oj hj hl e he hb
 by_cases hji : j = i
 ·subst hji
  rw [ho] at hj
  cases hj
  exact getD_set_true (hall e he hb)
 ·refine getD_set_true (h j oj hj ?_ e he hb)
  rw [getD_set_ne false (Ne.symm hji)] at hl
  exact hl
def Ze8 (md : Region.Mode) (ops : Array Oper) (i : Nat) : Nat → List Bool
 | 0 => []
 | j + 1 => (fun r : List Bool => (j == i || (match ops[j]? with | some o => o.after.any fun e => Region.binds md e && (decide (e.on < j) && r.getD (j - 1 - e.on) false) | none => false)) :: r) (Ze8 md ops i j)
theorem Zn8 (i : Nat) : ∀ n, (Ze8 md ops i n).length = n
 | 0 => rfl
 | n + 1 => by simp only [Ze8, List.length_cons, Zn8 i n]
theorem Zq1 {listed : Array Bool} {i : Nat} (hdc : DC md ops listed) (n : Nat) : ∀ k, k < n → (Ze8 md ops i n).getD (n - 1 - k) false = true → listed.getD k false = true → listed.getD i false = true := by
 induction n with
 | zero => intro k hk; omega
 | succ n ih =>
   intro k hk hr hl
   by_cases hkn : k = n
   ·subst hkn
    simp only [Ze8, Nat.add_sub_cancel, Nat.sub_self, List.getD_cons_zero, Bool.or_eq_true, beq_iff_eq] at hr
    rcases hr with rfl | hr
    ·exact hl
    ·cases ho : ops[k]? with
     | none => rw [ho] at hr; cases hr
     | some o =>
       rw [ho] at hr
       obtain ⟨e, he, h2⟩ := Array.any_eq_true'.1 hr
       simp only [Bool.and_eq_true, decide_eq_true_eq] at h2
       exact ih e.on h2.2.1 h2.2.2 (hdc k o ho hl e he h2.1)
   ·have h1 : n + 1 - 1 - k = (n - 1 - k) + 1 := by omega
    rw [h1] at hr
    simp only [Ze8, List.getD_cons_succ] at hr
    exact ih k (by omega) hr hl
def waitsR (md : Region.Mode) (ops : Array Oper) (ex : Nat → Bool) (i : Nat) : Bool :=
 (fun r : List Bool => (List.range ops.size).all fun j => !ex j || (j != i && r.getD (ops.size - 1 - j) false)) (Ze8 md ops i ops.size)
theorem Zu6 {listed : Array Bool} {i : Nat} (h : waitsR md ops ex i = true) (hdc : DC md ops listed) : ∀ j, j ∈ Region.ready md ops listed → ex j = true → listed.getD i false = true := by
 intro j hj he
 obtain ⟨_, o, ho, hall⟩ := mem_ready.1 hj
 have hlt := (Array.getElem?_eq_some_iff.1 ho).1
 have h1 := (List.all_eq_true.1 h) j (List.mem_range.2 hlt)
 simp only [he, Bool.not_true, Bool.false_or, Bool.and_eq_true, bne_iff_ne] at h1
 have hr := h1.2
 have hj2 : ops.size - 1 - j < (Ze8 md ops i ops.size).length := by rw [Zn8]; omega
 -- the head case by hand: j is not listed, but what it waits for is
 have key : ∀ n, j < n → n ≤ ops.size → (Ze8 md ops i n).getD (n - 1 - j) false = true → listed.getD i false = true := by
  intro n
  induction n with
  | zero => intro h0; omega
  | succ n ih =>
    intro hjn hn hr
    by_cases hkn : j = n
    ·subst hkn
     simp only [Ze8, Nat.add_sub_cancel, Nat.sub_self, List.getD_cons_zero, Bool.or_eq_true, beq_iff_eq] at hr
     rcases hr with h0 | hr
     ·exact absurd h0 h1.1
     ·rw [ho] at hr
      obtain ⟨e, he2, h2⟩ := Array.any_eq_true'.1 hr
      simp only [Bool.and_eq_true, decide_eq_true_eq] at h2
      exact Zq1 hdc j e.on h2.2.1 h2.2.2 (hall e he2 h2.1)
    ·have h1 : n + 1 - 1 - j = (n - 1 - j) + 1 := by omega
     rw [h1] at hr
     simp only [Ze8, List.getD_cons_succ] at hr
     exact ih (by omega) (by omega) hr
 exact key ops.size hlt (Nat.le_refl _) hr
theorem Zo7 {i : Nat} {oi : Oper} {v : Value} (hi : ops[i]? = some oi) (hsel : ∀ (j : Nat) (o : Oper) cs b, ops[j]? = some o → o.op ≠ .select cs b)
 (hQ : ∀ c a w, Q (.panic c) (a.put oi.dst v) w → Q (.panic c) a w)
 (hex : ∀ listed, DC md ops listed → ∀ j, j ∈ Region.ready md ops listed → ex j = true → listed.getD i false = true) :
 ∀ (fuel : Nat) (listed : Array Bool) (a : Act) (w : World), DC md ops listed →
  (∀ j oj, ops[j]? = some oj → j ≠ i → listed.getD j true = false → (∀ e ∈ oj.after, Region.binds md e = true → e.on ≠ i) → oi.apart ops oj = true) →
  i ∈ Region.ready md ops listed → YieldsIf P ops S oi v a → S w →
  Za6 P md ops Q S ex fuel (listed.setIfInBounds i true) (a.put oi.dst v) w → Za6 P md ops Q S ex (fuel + 1) listed a w := by
 intro fuel
 induction fuel with
 | zero =>
   intro listed a w hdc _ hr hy hS H
   refine ⟨fun h => (by rw [h] at hr; cases hr), fun j hj => ?_⟩
   by_cases hji : j = i
   ·subst hji; exact hy.wpOp hi hS ⟨.inr id, H⟩
   ·have := ready_mono hj hji
    rw [H.1] at this
    cases this
 | succ fuel ih =>
   intro listed a w hdc hfree hr hy hS H
   refine ⟨fun h => (by rw [h] at hr; cases hr), fun j hj => ?_⟩
   by_cases hji : j = i
   ·subst hji; exact hy.wpOp hi hS ⟨.inr id, H⟩
   ·have h1 := H.2 j (ready_mono hj hji)
    obtain ⟨hjun, oj, hoj, hall⟩ := mem_ready.1 hj
    have hun := (mem_ready.1 hr).1
    have hnl : ¬ listed.getD i false = true := fun h => by
     have := (getD_tf h).2
     rw [hun] at this
     cases this
    have hnot : ∀ e ∈ oj.after, Region.binds md e = true → e.on ≠ i := fun e he hb heq => by
     have h1 := hall e he hb
     rw [heq] at h1
     exact hnl h1
    have h2 := wpOp_putIf hoj (hfree j oj hoj hji hjun hnot) (fun cs b => hsel i oi cs b hi) (fun cs b => hsel j oj cs b hoj) hQ hy h1
    have hfree' : ∀ k ok, ops[k]? = some ok → k ≠ i → (listed.setIfInBounds j true).getD k true = false →
     (∀ e ∈ ok.after, Region.binds md e = true → e.on ≠ i) → oi.apart ops ok = true := fun k ok hk hki hun hno => by
     refine hfree k ok hk hki ?_ hno
     by_cases hjk : j = k
     ·subst hjk; exact hjun
     ·rw [getD_set_ne true hjk] at hun; exact hun
    refine wpOp_mono (fun a' w' h3 => ?_) h2
    have hSw : S w' := h3.2.1.resolve_left (fun he => hnl (hex listed hdc j hj he)) hS
    refine ⟨.inr (fun _ => hSw), ih (listed.setIfInBounds j true) a' w' (hdc.set hj) hfree' (ready_mono hr (Ne.symm hji)) h3.1 hSw ?_⟩
    rw [Array.setIfInBounds_comm _ _ hji]
    exact h3.2.2
end
def doneA (n : Nat) (rest : List Nat) : Array Bool := ((List.range n).map fun i => !rest.contains i).toArray
def wpO (P : Program) (ops : Array Oper) (Q : Exit → Act → World → Prop) (S : World → Prop) (ex : List Nat) (rest : List Nat) (a : Act) (w : World) : Prop :=
 Za6 P .any ops Q S (fun i => ex.contains i) rest.length (doneA ops.size rest) a w
def wless (o : Oper) : Bool :=
 match o.op with
 | .move _ | .assign _ | .pick _ _ _ | .build _ _ | .nilCheck _ | .binOp _ _ _ _ _ | .unOp _ _ _ | .convert _ _ _ | .slice _ _ _ _ _ | .fieldAddr _ _ _ | .field _ _ _ | .indexAddr _ _ _ | .index _ _ _ | .extract _ _ => true
 | .call c => match c.callee with | .builtin .len | .builtin .cap | .builtin .min | .builtin .max => true | _ => false
 | _ => false
def isLoad (o : Oper) : Bool := match o.op with | .load _ _ => true | _ => false
section
variable {P : Program} {ops : Array Oper} {Q : Exit → Act → World → Prop} {S : World → Prop} {w : World} {ex rest : List Nat} {a a' : Act} {i : Nat} {oi : Oper} {v : Value}
theorem drewH (W : World) : W.drew.heap = W.heap := rfl
theorem belowC {W w' : World} (h : Below W.heap.size W w') {b o : Nat} (hb : b < W.heap.size) : w'.cell? ⟨b, o, none⟩ = W.cell? ⟨b, o, none⟩ := h.cell (p := ⟨b, o, none⟩) hb
theorem rO {id : Nat} (S : World → Prop) (ex rest : List Nat) (h : wpO P ops Q S ex rest a w.drew) (hm : P.follows .mixedOrders = true := by kernel_rfl)
 (hl : rest.length = ops.size := by kernel_rfl) (hr : doneA ops.size rest = Array.replicate ops.size false := by kernel_rfl) : (Code.region id ops true).wp P Q a w := by
 refine wp_region_any hm (Zi2 (S := S) (ex := fun i => ex.contains i) _ _ _ _ ?_)
 unfold wpO at h
 rw [hl, hr] at h
 exact h
theorem rB {id : Nat} (ex rest : List Nat) (h : wpO P ops Q (Below w.heap.size w) ex rest a w.drew) (hm : P.follows .mixedOrders = true := by kernel_rfl)
 (hl : rest.length = ops.size := by kernel_rfl) (hr : doneA ops.size rest = Array.replicate ops.size false := by kernel_rfl) : (Code.region id ops true).wp P Q a w :=
 rO (Below w.heap.size w) ex rest h hm hl hr
theorem oW (hi : ops[i]? = some oi := by rfl) (hk : wless oi = true := by rfl) (h1 : Region.wanted oi (yielded ops a.tmps) = true := by rfl)
 (h2 : ∀ w, (execOp a.eval oi).run P w = .ok (.value v) w := by intro w; go_simp; try rfl)
 (ha : a.put oi.dst v = a' := by (try simp only [Act.put,j1,j2,j3,j4,j5,j6]); try rfl)
 (h : wpO P ops Q S ex rest a' w)
 (hs : Region.noSelect ops = true := by kernel_rfl) (hf : Region.free .any ops (doneA ops.size (i :: rest)) i = true := by kernel_rfl) (hr : (Region.ready .any ops (doneA ops.size (i :: rest))).contains i = true := by kernel_rfl)
 (hd : (doneA ops.size (i :: rest)).setIfInBounds i true = doneA ops.size rest := by kernel_rfl)
 (hQ : ∀ c a w, Q (.panic c) (a.put oi.dst v) w → Q (.panic c) a w := by exact fun _ _ _ h => h) : wpO P ops Q S ex (i :: rest) a w := by
 subst ha
 unfold wpO at h ⊢
 rw [← hd] at h
 exact Zj0 hi hs hf hr hQ (.inl ⟨h1, fun w _ => h2 w⟩) h
theorem oL (hi : ops[i]? = some oi := by rfl) (hk : isLoad oi = true := by rfl) (h1 : Region.wanted oi (yielded ops a.tmps) = true := by rfl)
 (hS : S w := by first | exact (Below.refl _ _).drew | assumption)
 (h2 : ∀ w', S w' → (execOp a.eval oi).run P w' = .ok (.value v) w' := by intro w' hS; (try have hc := fun b o => belowC hS (b := b) (o := o)); (try simp only [drewH] at hc); (try dsimp only at hS); go_simp; try rfl)
 (ha : a.put oi.dst v = a' := by (try simp only [Act.put,j1,j2,j3,j4,j5,j6]); try rfl)
 (h : wpO P ops Q S ex rest a' w)
 (hw : waitsR .any ops (fun i => ex.contains i) i = true := by kernel_rfl) (hdc : dcB .any ops (doneA ops.size (i :: rest)) = true := by kernel_rfl)
 (hs : Region.noSelect ops = true := by kernel_rfl) (hf : Region.free .any ops (doneA ops.size (i :: rest)) i = true := by kernel_rfl) (hr : (Region.ready .any ops (doneA ops.size (i :: rest))).contains i = true := by kernel_rfl)
 (hd : (doneA ops.size (i :: rest)).setIfInBounds i true = doneA ops.size rest := by kernel_rfl)
 (hQ : ∀ c a w, Q (.panic c) (a.put oi.dst v) w → Q (.panic c) a w := by exact fun _ _ _ h => h) : wpO P ops Q S ex (i :: rest) a w := by
 subst ha
 unfold wpO at h ⊢
 rw [← hd] at h
 exact Zo7 hi (Region.noSelect_spec hs) hQ (fun l hl => Zu6 hw hl) rest.length _ a w (dcB_spec hdc) (Region.free_spec hi hf) (by simpa using hr) (.inl ⟨h1, h2⟩) hS h
theorem oO (hi : ops[i]? = some oi := by rfl) (hr : Region.ready .any ops (doneA ops.size (i :: rest)) = [i] := by kernel_rfl)
 (hd : (doneA ops.size (i :: rest)).setIfInBounds i true = doneA ops.size rest := by kernel_rfl)
 (hS : ex.contains i = true ∨ S w := by first | exact Or.inl rfl | exact Or.inr (Below.refl _ _).drew | exact Or.inr (by assumption))
 (h : ∀ K' : Act → World → Prop, Shut (∀ a w, (ex.contains i = true ∨ S w) → wpO P ops Q S ex rest a w → K' a w) → if Region.wanted oi (yielded ops a.tmps) = true then Oper.wp P oi a w K' Q else K' (a.put oi.dst undef) w) : wpO P ops Q S ex (i :: rest) a w := by
 unfold wpO at h ⊢
 rw [← hd] at h
 refine ⟨fun h0 => (by rw [hr] at h0; cases h0), fun j hj => ?_⟩
 rw [hr] at hj
 obtain rfl : j = i := by simpa using hj
 refine wpOp_step hi (fun K' hK => h K' (fun a w h1 h2 => hK a w ⟨?_, h2⟩))
 rcases h1 with h1 | h1
 ·exact .inl h1
 ·exact .inr fun _ => h1
theorem oN {K' : Act → World → Prop} (hK : Shut (∀ a w, (ex.contains i = true ∨ S w) → wpO P ops Q S ex rest a w → K' a w))
 (hS : ex.contains i = true ∨ S w := by first | exact Or.inl rfl | exact Or.inr (Below.refl _ _).drew | exact Or.inr (by assumption))
 (ha : a = a' := by (try simp only [Act.put,j1,j2,j3,j4,j5,j6]); try rfl)
 (h : wpO P ops Q S ex rest a' w) : K' a w := by
 subst ha
 exact hK.out a w hS h
theorem oB {rs : List Nat} (hr : Region.ready .any ops (doneA ops.size rest) = rs) (hne : rs ≠ [])
 (h : ∀ j ∈ rs, ∃ oi rest', ops[j]? = some oi ∧ (doneA ops.size rest).setIfInBounds j true = doneA ops.size rest' ∧ rest.length = rest'.length + 1 ∧ ∀ K' : Act → World → Prop, Shut (∀ a w, (ex.contains j = true ∨ S w) → wpO P ops Q S ex rest' a w → K' a w) → if Region.wanted oi (yielded ops a.tmps) = true then Oper.wp P oi a w K' Q else K' (a.put oi.dst undef) w) (hS : S w := by first | exact (Below.refl _ _).drew | assumption) : wpO P ops Q S ex rest a w := by
 unfold wpO
 obtain ⟨k, hk⟩ : ∃ k, rest.length = k + 1 := by
  obtain ⟨j, hj⟩ := List.exists_mem_of_ne_nil rs hne
  obtain ⟨_, r, _, _, hl, _⟩ := h j hj
  exact ⟨_, hl⟩
 rw [hk]
 refine ⟨fun h0 => absurd (hr.symm.trans h0) hne, fun j hj => ?_⟩
 rw [hr] at hj
 obtain ⟨oi, r, hi, hd, hl, h2⟩ := h j hj
 refine wpOp_step hi (fun K' hK => h2 K' (fun a w h1 h3 => hK a w ⟨?_, ?_⟩))
 ·rcases h1 with h1 | h1
  ·exact .inl h1
  ·exact .inr fun _ => h1
 ·unfold wpO at h3
  rw [hd]
  obtain rfl : k = r.length := by omega
  exact h3
theorem oD (h : Q .normal a w) (hr : Region.ready .any ops (doneA ops.size []) = [] := by kernel_rfl) : wpO P ops Q S ex [] a w := ⟨hr, h⟩
end
end
section
def Sl {α : Type} (enc : α → List Value) (sz : Nat) (w : World) (a : Option Addr) (xs : List α) : Prop :=
 xs = [] ∨ ∃ b off, a = some ⟨b, off, none⟩ ∧ b < w.heap.size ∧ ∀ i (h : i < xs.length) j, j < sz → w.cell? ⟨b, off + i * sz + j, none⟩ = (enc xs[i])[j]?
def iE (n : Int) : List Value := [.int .i64 n]
def sE (s : ByteArray) : List Value := [.string s]
def yE (b : UInt8) : List Value := [.int .u8 b.toNat]
section
variable {α : Type} {enc : α → List Value} {sz : Nat} {w w' : World} {a : Option Addr} {xs : List α}
theorem Sl.nil : Sl enc sz w a [] := .inl rfl
theorem Sl.at (h : Sl enc sz w a xs) {i : Nat} (hi : i < xs.length) : ∃ b off, a = some ⟨b, off, none⟩ ∧ b < w.heap.size ∧ ∀ i (h : i < xs.length) j, j < sz → w.cell? ⟨b, off + i * sz + j, none⟩ = (enc xs[i])[j]? := by
 rcases h with rfl | h
 ·simp at hi
 ·exact h
theorem Sl.below {B : Nat} (h : Sl enc sz w a xs) (hb : Below B w w') (hB : ∀ b off, a = some ⟨b, off, none⟩ → b < B) : Sl enc sz w' a xs := by
 rcases h with h | ⟨b, off, rfl, hlt, hc⟩
 ·exact .inl h
 ·exact .inr ⟨b, off, rfl, Nat.lt_of_lt_of_le hlt hb.size, fun i hi j hj => by rw [hb.cell (p := ⟨b, _, none⟩) (hB b off rfl)]; exact hc i hi j hj⟩
theorem Sl.keep (h : Sl enc sz w a xs) (hb : Below w.heap.size w w') : Sl enc sz w' a xs := by
 rcases h with h | ⟨b, off, rfl, hlt, hc⟩
 ·exact .inl h
 ·exact .inr ⟨b, off, rfl, Nat.lt_of_lt_of_le hlt hb.size, fun i hi j hj => by rw [hb.cell (p := ⟨b, _, none⟩) hlt]; exact hc i hi j hj⟩
theorem Sl.grown {row : Option Nat} (h : Sl enc sz w a xs) (hg : w.grownBy w' row) (hne : ∀ b off, a = some ⟨b, off, none⟩ → some b ≠ row) : Sl enc sz w' a xs := by
 rcases h with h | ⟨b, off, rfl, hlt, hc⟩
 ·exact .inl h
 ·refine .inr ⟨b, off, rfl, Nat.lt_of_lt_of_le hlt hg.size, fun i hi j hj => ?_⟩
  rw [World.cell?_of_block (a := ⟨b, _, none⟩) (hg.block b hlt (hne b off rfl))]
  exact hc i hi j hj
theorem Sl.alloc (h : Sl enc sz w a xs) (o : Obj) : Sl enc sz (w.alloc o) a xs := h.keep (bA)
theorem Sl.drew (h : Sl enc sz w a xs) : Sl enc sz w.drew a xs := h.keep ((Below.refl _ _).drew)
theorem Zd1 (w : World) (n B : Nat) : Below B w (w.drewN n) := ⟨rfl, rfl, rfl, Nat.le_refl _, fun _ _ => rfl⟩
theorem Sl.drewN (h : Sl enc sz w a xs) (n : Nat) : Sl enc sz (w.drewN n) a xs := h.keep (Zd1 w n _)
theorem Zc0 (enc : α → List Value) (sz : Nat) (hs : ∀ x, (enc x).length = sz) : ∀ (xs : List α) (i : Nat) (h : i < xs.length) (j : Nat), j < sz → (xs.flatMap enc)[i * sz + j]? = (enc xs[i])[j]?
 | [], i, h, _, _ => by simp at h
 | x :: xs, 0, _, j, hj => by
   simp only [List.flatMap_cons, Nat.zero_mul, Nat.zero_add, List.getElem_cons_zero]
   rw [List.getElem?_append_left (by rw [hs]; exact hj)]
 | x :: xs, i + 1, h, j, hj => by
   simp only [List.flatMap_cons, List.getElem_cons_succ]
   rw [List.getElem?_append_right (by rw [hs, Nat.add_mul]; omega), hs, show (i + 1) * sz + j - sz = i * sz + j by rw [Nat.add_mul]; omega]
   exact Zc0 enc sz hs xs i (by simpa using h) j hj
theorem fL (enc : α → List Value) (sz : Nat) (hs : ∀ x, (enc x).length = sz) (xs : List α) : (xs.flatMap enc).length = xs.length * sz := by
 induction xs with
 | nil => simp
 | cons x xs ih => simp [List.flatMap_cons, ih, hs, Nat.add_mul, Nat.add_comm]
theorem Sl.of_own {base : Nat} {e : TypeId} {n cap : Nat} (hs : ∀ x, (enc x).length = sz) (h : w.ownsRow base e sz (.slice a n cap) xs.length (xs.flatMap enc)) : Sl enc sz w a xs := by
 by_cases hx : xs = []
 ·exact .inl hx
 rcases h.2 with ⟨hv, hn⟩ | ⟨g, cap', cur, hv, hb, hg, hle, hm, hsz, ht⟩
 ·exact .inl (List.eq_nil_of_length_eq_zero hn)
 ·simp only [Value.slice.injEq] at hv
  obtain ⟨rfl, rfl, rfl⟩ := hv
  refine .inr ⟨g, 0, rfl, (Array.getElem?_eq_some_iff.1 hg).1, fun i hi j hj => ?_⟩
  have hown := World.ownsRow.cells h (g := g) rfl
  have hf := Zc0 enc sz hs xs i hi j hj
  have hlt : j < (enc xs[i]).length := by rw [hs]; exact hj
  rw [List.getElem?_eq_getElem hlt] at hf ⊢
  have := hown _ _ hf
  rw [Nat.zero_add]
  have hadd : (⟨g, 0, none⟩ : Addr).add (i * sz + j) = ⟨g, i * sz + j, none⟩ := by unfold Addr.add; split <;> simp_all
  rwa [hadd] at this
theorem Zm0 (enc : α → List Value) (sz : Nat) (zero : α) (z : Array Value) (hz : z.toList = enc zero) (hs : ∀ x, (enc x).length = sz) (n : Nat) :
 (madeCells z (n * sz)).toList = (List.replicate n zero).flatMap enc := by
 have hzs : z.size = sz := by rw [← Array.length_toList, hz, hs]
 apply List.ext_getElem?
 intro j
 by_cases hj : j < n * sz
 ·have hsz : 0 < sz := by
   rcases Nat.eq_zero_or_pos sz with h | h
   ·rw [h] at hj; simp at hj
   ·exact h
  have hq : j / sz < n := Nat.div_lt_of_lt_mul (by rw [Nat.mul_comm]; exact hj)
  have hr : j % sz < sz := Nat.mod_lt _ hsz
  have hj' : j = j / sz * sz + j % sz := by rw [Nat.mul_comm]; exact (Nat.div_add_mod j sz).symm
  have h1 := Zc0 enc sz hs (List.replicate n zero) (j / sz) (by simpa using hq) (j % sz) hr
  rw [← hj'] at h1
  rw [h1]
  simp only [List.getElem_replicate]
  rw [← hz]
  simp only [madeCells, Array.toList_map, Array.toList_range, List.getElem?_map, List.getElem?_range hj, Option.map_some, hzs]
  have hr' : j % sz < z.size := by omega
  rw [getElem!_pos z (j % sz) hr']
  simp [hr']
 ·rw [List.getElem?_eq_none (by simp [size_madeCells]; omega), List.getElem?_eq_none (by rw [fL enc sz hs]; simp; omega)]
theorem Yf3 (enc : α → List Value) (hs : ∀ x, (enc x).length = 1) (ys : List α) (k : Nat) (hk : k < ys.length) (x : α) (u : Value) (hx : enc x = [u]) : (ys.flatMap enc).set k u = (ys.set k x).flatMap enc := by
 induction ys generalizing k with
 | nil => simp at hk
 | cons y ys ih =>
   obtain ⟨v, hv⟩ := List.length_eq_one_iff.1 (hs y)
   cases k with
   | zero => simp [List.flatMap_cons, hv, hx]
   | succ k => simp [List.flatMap_cons, hv, ih k (by simpa using hk)]
theorem Yh3 (enc : α → List Value) (hs : ∀ x, (enc x).length = 2) (ys : List α) (k : Nat) (hk : k < ys.length) (x : α) (u0 u1 : Value) (hx : enc x = [u0, u1]) : ((ys.flatMap enc).set (k * 2) u0).set (k * 2 + 1) u1 = (ys.set k x).flatMap enc := by
 induction ys generalizing k with
 | nil => simp at hk
 | cons y ys ih =>
   obtain ⟨v0, v1, hv⟩ : ∃ v0 v1, enc y = [v0, v1] := by
    match h : enc y, hs y with
    | [a, b], _ => exact ⟨a, b, rfl⟩
   cases k with
   | zero => simp [List.flatMap_cons, hv, hx]
   | succ k =>
     rw [show (k + 1) * 2 = k * 2 + 1 + 1 by omega]
     simp [List.flatMap_cons, hv]
     exact ih k (by simpa using hk)
def F_ (enc : α → List Value) (e : TypeId) (sz B : Nat) (v : Value) (xs : List α) (w : World) : Prop :=
 ∃ a cap, v = .slice a xs.length cap ∧ xs.length ≤ cap ∧ w.ownsRow B e sz (.slice a xs.length cap) xs.length (xs.flatMap enc)
theorem own_form {base : Nat} {e : TypeId} {sz : Nat} {v : Value} {n : Nat} {cs : List Value} {w : World} (h : w.ownsRow base e sz v n cs) : ∃ a cap, v = .slice a n cap ∧ n ≤ cap ∧ cap ≤ 9223372036854775807 := by
 rcases h.2 with ⟨rfl, rfl⟩ | ⟨g, cap, cur, rfl, _, _, h1, h2, _⟩
 ·exact ⟨none, 0, rfl, Nat.le_refl _, by omega⟩
 ·exact ⟨_, cap, rfl, h1, by unfold maxLen at h2; omega⟩
theorem F_.of_own {e : TypeId} {B : Nat} {v : Value} {n : Nat} {cs : List Value} {xs : List α} (h : w.ownsRow B e sz v n cs) (hn : n = xs.length) (hc : cs = xs.flatMap enc) : F_ enc e sz B v xs w := by
 subst hn hc
 obtain ⟨a, cap, rfl, h1, _⟩ := own_form h
 exact ⟨a, cap, rfl, h1, h⟩
theorem F_.sl {e : TypeId} {B : Nat} {cap : Nat} (hs : ∀ x, (enc x).length = sz) (h : F_ enc e sz B (.slice a xs.length cap) xs w) : Sl enc sz w a xs := by
 obtain ⟨a', cap', hv, h1, h2⟩ := h
 cases hv
 exact Sl.of_own (n := xs.length) hs h2
theorem F_.kept {e : TypeId} {B : Nat} {v : Value} {row : Option Nat} (h : F_ enc e sz B v xs w) (hg : w.grownBy w' row) (hne : v.ownBlock = none ∨ v.ownBlock ≠ row) : F_ enc e sz B v xs w' := by
 obtain ⟨a', cap', rfl, h1, h2⟩ := h
 exact ⟨a', cap', rfl, h1, h2.kept hg hne⟩
theorem Ze3 {w w' : World} (h : Below w.heap.size w w') : w.grownBy w' none := ⟨h.os, h.tape, h.output, h.size, fun k hk _ => h.block k hk⟩
theorem F_.below {e : TypeId} {B : Nat} {v : Value} (h : F_ enc e sz B v xs w) (hb : Below w.heap.size w w') : F_ enc e sz B v xs w' :=
 h.kept (Ze3 hb) (by cases hv : v.ownBlock <;> simp)
theorem F_.mono {e : TypeId} {B B' : Nat} {v : Value} (h : F_ enc e sz B v xs w) (hB : B' ≤ B) : F_ enc e sz B' v xs w := by
 obtain ⟨a', cap', rfl, h1, h2, h3⟩ := h
 refine ⟨a', cap', rfl, h1, h2, ?_⟩
 rcases h3 with h3 | ⟨g, cap, cur, hv, hg, r⟩
 ·exact .inl h3
 ·exact .inr ⟨g, cap, cur, hv, Nat.le_trans hB hg, r⟩
theorem F_.setCell {e : TypeId} {B : Nat} {v : Value} (h : F_ enc e sz B v xs w) {p : Addr} (hp : p.block < B) (u : Value) : F_ enc e sz B v xs (w.setCell p u) := by
 obtain ⟨a', cap', rfl, h1, h2⟩ := h
 exact ⟨a', cap', rfl, h1, ownsRow_setCell_below h2 hp u⟩
theorem F_.alloc {e : TypeId} {B : Nat} {v : Value} (h : F_ enc e sz B v xs w) (o : Obj) : F_ enc e sz B v xs (w.alloc o) := h.below (bA)
theorem F_.lt {e : TypeId} {B : Nat} {v : Value} (h : F_ enc e sz B v xs w) {k : Nat} (hk : v.ownBlock = some k) : B ≤ k ∧ k < w.heap.size := by
 obtain ⟨a', cap', rfl, h1, h2⟩ := h
 exact h2.lt k hk
theorem Sl.setCell {p : Addr} (h : Sl enc sz w a xs) (hp : ∀ b off, a = some ⟨b, off, none⟩ → b ≠ p.block) (u : Value) : Sl enc sz (w.setCell p u) a xs := by
 rcases h with h | ⟨b, off, rfl, hlt, hc⟩
 ·exact .inl h
 ·exact .inr ⟨b, off, rfl, by simpa using hlt, fun i hi j hj => by rw [World.cell?_setCell_other _ _ _ _ (fun e => hp b off rfl (by rw [e]))]; exact hc i hi j hj⟩
def Fr (enc : α → List Value) (e : TypeId) (sz lo hi : Nat) (v : Value) (xs : List α) (w : World) : Prop := F_ enc e sz lo v xs w ∧ ∀ k, v.ownBlock = some k → k < hi
theorem F_.here {e : TypeId} {B : Nat} {v : Value} (h : F_ enc e sz B v xs w) : Fr enc e sz B w.heap.size v xs w := ⟨h, fun _ hk => (h.lt hk).2⟩
theorem Fr.below {e : TypeId} {lo hi : Nat} {v : Value} (h : Fr enc e sz lo hi v xs w) (hb : Below w.heap.size w w') : Fr enc e sz lo hi v xs w' := ⟨h.1.below hb, h.2⟩
theorem Fr.setCell {e : TypeId} {lo hi : Nat} {v : Value} (h : Fr enc e sz lo hi v xs w) {p : Addr} (hp : p.block < lo) (u : Value) : Fr enc e sz lo hi v xs (w.setCell p u) := ⟨h.1.setCell hp u, h.2⟩
theorem Fr.mono {e : TypeId} {lo hi lo' hi' : Nat} {v : Value} (h : Fr enc e sz lo hi v xs w) (h1 : lo' ≤ lo) (h2 : hi ≤ hi') : Fr enc e sz lo' hi' v xs w := ⟨h.1.mono h1, fun k hk => Nat.lt_of_lt_of_le (h.2 k hk) h2⟩
theorem Fr.sl {e : TypeId} {lo hi : Nat} {cap : Nat} (hs : ∀ x, (enc x).length = sz) (h : Fr enc e sz lo hi (.slice a xs.length cap) xs w) : Sl enc sz w a xs := h.1.sl hs
theorem Fr.grown {e : TypeId} {lo hi : Nat} {v : Value} {row : Option Nat} (h : Fr enc e sz lo hi v xs w) (hg : w.grownBy w' row) (hr : ∀ k, row = some k → k < lo ∨ hi ≤ k) : Fr enc e sz lo hi v xs w' := by
 refine ⟨h.1.kept hg ?_, h.2⟩
 cases hv : v.ownBlock with
 | none => exact .inl rfl
 | some k =>
   right
   intro he
   have h1 := h.2 k hv
   have h2 := (h.1.lt hv).1
   rcases hr k he.symm with h3 | h3 <;> omega
end
end
section
structure PV where
 state : Int
 args : List Int
 priv : Bool
 text : ByteArray
 utf : ByteArray
structure AV where
 kind : Int
 n : Int
 priv : Bool
 args : List Int
 text : ByteArray
abbrev e0 : ByteArray := ⟨#[]⟩
def pz : PV := ⟨0, [], false, e0, e0⟩
def pst (s : Int) : PV := ⟨s, [], false, e0, e0⟩
def ctl (b : Nat) : Bool := (decide (7 ≤ b) && decide (b ≤ 10)) || b == 13
def esc (b : Nat) : Bool := b == 55 || b == 56 || b == 68 || b == 69 || b == 77 || b == 99
def uL (b : Nat) : Nat := if b < 194 ∨ 244 < b then 0 else if b < 224 then 2 else if b < 240 then 3 else 4
def lowOf (l : List UInt8) : Nat := match l with
 | [a] => if a.toNat = 224 then 160 else if a.toNat = 240 then 144 else 128
 | _ => 128
def Zy4 (l : List UInt8) : Nat := match l with
 | [a] => if a.toNat = 237 then 159 else if a.toNat = 244 then 143 else 191
 | _ => 191
def mayF (l : List UInt8) (b : Nat) : Bool := decide (lowOf l ≤ b) && decide (b ≤ Zy4 l)
def pr (n : Int) : AV := ⟨1, n, false, [], e0⟩
def gstep (b : UInt8) : PV × List AV :=
 if b.toNat = 27 then (pst 1, [])
 else if ctl b.toNat = true then (pz, [⟨2, b.toNat, false, [], e0⟩])
 else if 32 ≤ b.toNat ∧ b.toNat ≤ 126 then (pz, [pr b.toNat])
 else if b.toNat < 128 then (pz, [])
 else if 0 < uL b.toNat then (⟨6, [], false, e0, ⟨#[b]⟩⟩, [])
 else (pz, [pr 65533])
def rnV (l : List UInt8) : Int := match l with
 | [a, b] => (a.toNat - 192) * 64 + (b.toNat - 128)
 | [a, b, c] => ((a.toNat - 224) * 64 + (b.toNat - 128)) * 64 + (c.toNat - 128)
 | [a, b, c, d] => (((a.toNat - 240) * 64 + (b.toNat - 128)) * 64 + (c.toNat - 128)) * 64 + (d.toNat - 128)
 | _ => 0
def ustep (p : PV) (b : UInt8) : PV × List AV :=
 if mayF p.utf.data.toList b.toNat = false then ((gstep b).1, pr 65533 :: (gstep b).2)
 else if p.utf.size + 1 < uL (p.utf.data.toList.headD 0).toNat then ({ p with utf := p.utf ++ ⟨#[b]⟩ }, [])
 else (pz, [pr (rnV (p.utf.data.toList ++ [b]))])
def estep (b : UInt8) : PV × List AV :=
 if b.toNat = 91 then (⟨2, [-1], false, e0, e0⟩, [])
 else if b.toNat = 93 then (pst 4, [])
 else if b.toNat = 27 then (pst 1, [])
 else if esc b.toNat = true then (pz, [⟨3, b.toNat, false, [], e0⟩])
 else (pz, [])
def lastA (l : List Int) : Int := l.getLastD 0
def cstep (p : PV) (b : UInt8) : PV × List AV :=
 if b.toNat = 27 then (pst 1, [])
 else if ctl b.toNat = true then (p, [⟨2, b.toNat, false, [], e0⟩])
 else if 48 ≤ b.toNat ∧ b.toNat ≤ 57 then ({ p with args := p.args.dropLast ++ [min 9999 (max 0 (lastA p.args) * 10 + ((b.toNat : Int) - 48))] }, [])
 else if b.toNat = 59 ∧ p.args.length < 8 then ({ p with args := p.args ++ [-1] }, [])
 else if b.toNat = 63 ∧ p.args = [-1] ∧ p.priv = false then ({ p with priv := true }, [])
 else if 64 ≤ b.toNat ∧ b.toNat ≤ 126 then (pz, [⟨4, b.toNat, p.priv, p.args, e0⟩])
 else (pst 3, [])
def sstep (p : PV) (b : UInt8) : PV × List AV :=
 if b.toNat = 27 then (pst 1, []) else if 64 ≤ b.toNat ∧ b.toNat ≤ 126 then (pz, []) else (p, [])
def ostep (p : PV) (b : UInt8) : PV × List AV :=
 if b.toNat = 7 then (pz, [⟨5, 0, false, [], p.text⟩])
 else if b.toNat = 27 then ({ p with state := 5 }, [])
 else if (32 ≤ b.toNat ∧ b.toNat ≤ 126) ∧ p.text.size < 40 then ({ p with text := p.text ++ ⟨#[b]⟩ }, [])
 else (p, [])
def qstep (p : PV) (b : UInt8) : PV × List AV :=
 if b.toNat = 92 then (pz, [⟨5, 0, false, [], p.text⟩]) else estep b
def pstep (p : PV) (b : UInt8) : PV × List AV :=
 if p.state = 0 then gstep b
 else if p.state = 1 then estep b
 else if p.state = 2 then cstep p b
 else if p.state = 3 then sstep p b
 else if p.state = 4 then ostep p b
 else if p.state = 5 then qstep p b
 else ustep p b
def prun (p : PV) : List UInt8 → PV × List AV
 | [] => (p, [])
 | b :: l => ((prun (pstep p b).1 l).1, (pstep p b).2 ++ (prun (pstep p b).1 l).2)
theorem Zd8 (p : PV) (l m : List UInt8) : prun p (l ++ m) = ((prun (prun p l).1 m).1, (prun p l).2 ++ (prun (prun p l).1 m).2) := by
 induction l generalizing p with
 | nil => simp [prun]
 | cons b l ih => simp [prun, ih]
def titB (t : ByteArray) : Bool := decide (t.size ≤ 40) && t.data.toList.all (fun b => decide (32 ≤ b.toNat) && decide (b.toNat ≤ 126))
def begB (l : List UInt8) : Bool := decide (0 < l.length) && decide (l.length < uL (l.headD 0).toNat) && (List.range l.length).all (fun i => i == 0 || mayF (l.take i) (l.getD i 0).toNat)
def argsB (l : List Int) : Bool := decide (1 ≤ l.length) && decide (l.length ≤ 8) && l.all (fun n => decide (-1 ≤ n) && decide (n ≤ 9999))
def cE (p : PV) : Bool := (p.args.length == 0) && !p.priv
def tE (p : PV) : Bool := p.text.size == 0
def uE (p : PV) : Bool := p.utf.size == 0
def pvB (p : PV) : Bool :=
 if p.state = 0 ∨ p.state = 1 ∨ p.state = 3 then cE p && tE p && uE p
 else if p.state = 2 then argsB p.args && tE p && uE p
 else if p.state = 4 ∨ p.state = 5 then cE p && titB p.text && uE p
 else if p.state = 6 then cE p && tE p && begB p.utf.data.toList
 else false
structure PvOK (p : PV) : Prop where
 st : 0 ≤ p.state ∧ p.state ≤ 6
 csi : p.state = 2 → argsB p.args = true
 nocsi : p.state ≠ 2 → p.args = [] ∧ p.priv = false
 osc : p.state = 4 ∨ p.state = 5 → titB p.text = true
 noosc : p.state ≠ 4 → p.state ≠ 5 → p.text = e0
 ut : p.state = 6 → begB p.utf.data.toList = true
 nout : p.state ≠ 6 → p.utf = e0
theorem Zf0 {s : ByteArray} : s.size = 0 ↔ s = e0 := by
 constructor
 ·intro h
  cases s with
  | mk d =>
    have : d.size = 0 := h
    have : d = #[] := Array.eq_empty_of_size_eq_zero this
    subst this; rfl
 ·rintro rfl; rfl
theorem Zn4 {p : PV} : cE p = true ↔ p.args = [] ∧ p.priv = false := by simp [cE]
theorem Zn7 {p : PV} : tE p = true ↔ p.text = e0 := by unfold tE; rw [beq_iff_eq]; exact Zf0
theorem Zm6 {p : PV} : uE p = true ↔ p.utf = e0 := by unfold uE; rw [beq_iff_eq]; exact Zf0
theorem Zx3 {p : PV} : pvB p = true ↔ PvOK p := by
 unfold pvB
 constructor
 ·intro h
  repeat' split at h
  ·rename_i h1
   simp only [Bool.and_eq_true, Zn4, Zn7, Zm6] at h
   exact ⟨by omega, fun h2 => by omega, fun _ => h.1.1, fun h2 => by omega, fun _ _ => h.1.2, fun h2 => by omega, fun _ => h.2⟩
  ·rename_i h1 h2
   simp only [Bool.and_eq_true, Zn7, Zm6] at h
   exact ⟨by omega, fun _ => h.1.1, fun h3 => absurd h2 h3, fun h3 => by omega, fun _ _ => h.1.2, fun h3 => by omega, fun _ => h.2⟩
  ·rename_i h1 h2 h3
   simp only [Bool.and_eq_true, Zn4, Zm6] at h
   exact ⟨by omega, fun h4 => by omega, fun _ => h.1.1, fun _ => h.1.2, fun h4 h5 => by omega, fun h4 => by omega, fun _ => h.2⟩
  ·rename_i h1 h2 h3 h4
   simp only [Bool.and_eq_true, Zn4, Zn7] at h
   exact ⟨by omega, fun h5 => by omega, fun _ => h.1.1, fun h5 => by omega, fun _ _ => h.1.2, fun _ => h.2, fun h5 => by omega⟩
  ·cases h
 ·intro h
  obtain ⟨a, b, c, d, e, f, g⟩ := h
  repeat' split
  ·rename_i h1
   simp only [Bool.and_eq_true, Zn4, Zn7, Zm6]
   exact ⟨⟨c (by omega), e (by omega) (by omega)⟩, g (by omega)⟩
  ·rename_i h1 h2
   simp only [Bool.and_eq_true, Zn7, Zm6]
   exact ⟨⟨b h2, e (by omega) (by omega)⟩, g (by omega)⟩
  ·rename_i h1 h2 h3
   simp only [Bool.and_eq_true, Zn4, Zm6]
   exact ⟨⟨c h2, d h3⟩, g (by omega)⟩
  ·rename_i h1 h2 h3 h4
   simp only [Bool.and_eq_true, Zn4, Zn7]
   exact ⟨⟨c h2, e (by omega) (by omega)⟩, f h4⟩
  ·omega
theorem titB_e0 : titB e0 = true := by decide
theorem PvOK.z : PvOK pz := by refine ⟨by simp [pz], by simp [pz], by simp [pz], by simp [pz], by simp [pz], by simp [pz], by simp [pz]⟩
theorem PvOK.pst (s : Int) (h : s = 0 ∨ s = 1 ∨ s = 3 ∨ s = 4) : PvOK (pst s) := by
 rcases h with rfl | rfl | rfl | rfl <;> exact ⟨by decide, by simp [Go.Proofs.YtjmpgeffkdjpdaaGreatDoor.pst], by simp [Go.Proofs.YtjmpgeffkdjpdaaGreatDoor.pst], fun _ => titB_e0, fun _ _ => rfl, by simp [Go.Proofs.YtjmpgeffkdjpdaaGreatDoor.pst], fun _ => rfl⟩
theorem Zm7 {b : Nat} (h : 0 < uL b) : 2 ≤ uL b := by
 unfold uL at *
 split at h
 ·omega
 ·rename_i h1
  rw [if_neg h1]
  split <;> (try split) <;> omega
theorem Zz6 (b : UInt8) : PvOK (gstep b).1 := by
 unfold gstep
 repeat' split
 ·exact PvOK.pst 1 (by simp)
 ·exact PvOK.z
 ·exact PvOK.z
 ·exact PvOK.z
 ·rename_i h
  have h2 := Zm7 h
  refine ⟨by simp, by simp, by simp, by simp, by simp, fun _ => ?_, by simp⟩
  simp [begB]
  omega
 ·exact PvOK.z
theorem Zy5 (b : UInt8) : PvOK (estep b).1 := by
 unfold estep
 repeat' split
 ·exact ⟨by decide, fun _ => by decide, by simp, by simp, fun _ _ => rfl, by simp, fun _ => rfl⟩
 ·exact PvOK.pst 4 (by simp)
 ·exact PvOK.pst 1 (by simp)
 ·exact PvOK.z
 ·exact PvOK.z
theorem Yd3 {l : List UInt8} {b : UInt8} (h : begB l = true) (hm : mayF l b.toNat = true) (hl : l.length + 1 < uL (l.headD 0).toNat) : begB (l ++ [b]) = true := by
 simp only [begB, Bool.and_eq_true, decide_eq_true_eq, List.all_eq_true, List.mem_range, Bool.or_eq_true, beq_iff_eq] at *
 obtain ⟨⟨h1, h2⟩, h3⟩ := h
 have hh : (l ++ [b]).headD 0 = l.headD 0 := by cases l with
  | nil => simp at h1
  | cons a l => rfl
 refine ⟨⟨by simp, by rw [hh]; simpa using hl⟩, fun i hi => ?_⟩
 have hi' : i < l.length + 1 := by simpa using hi
 by_cases hil : i < l.length
 ·rcases h3 i hil with h4 | h4
  ·exact .inl h4
  ·refine .inr ?_
   rw [List.take_append_of_le_length (Nat.le_of_lt hil)]
   simp only [List.getD_eq_getElem?_getD, List.getElem?_append_left hil] at h4 ⊢
   exact h4
 ·have : i = l.length := by omega
  subst this
  refine .inr ?_
  rw [List.take_append_of_le_length (Nat.le_refl _), List.take_length]
  simpa [List.getD_eq_getElem?_getD] using hm
theorem Zy8 {p : PV} (h : PvOK p) (b : UInt8) : PvOK (pstep p b).1 := by
 obtain ⟨a, hb, c, d, e, f, g⟩ := h
 unfold pstep
 repeat' split
 ·exact Zz6 b
 ·exact Zy5 b
 ·rename_i h2
  have hA := hb h2
  have hT := e (by omega) (by omega)
  have hU := g (by omega)
  have hA' := hA
  simp only [argsB, Bool.and_eq_true, decide_eq_true_eq, List.all_eq_true] at hA'
  obtain ⟨⟨l1, l8⟩, hall⟩ := hA'
  unfold cstep
  repeat' split
  ·exact PvOK.pst 1 (by simp)
  ·exact ⟨a, hb, c, d, e, f, g⟩
  ·rename_i h48
   refine ⟨a, fun _ => ?_, fun h9 => absurd h2 h9, fun h9 => by simp at h9; omega, fun _ _ => hT, fun h9 => by simp at h9; omega, fun _ => hU⟩
   have hne : p.args ≠ [] := by intro h; rw [h] at l1; simp at l1
   simp only [argsB, Bool.and_eq_true, decide_eq_true_eq, List.all_eq_true]
   refine ⟨⟨by simp, by simp; omega⟩, fun x hx => ?_⟩
   rcases List.mem_append.1 hx with hx | hx
   ·exact hall x (List.dropLast_subset _ hx)
   ·simp at hx
    subst hx
    omega
  ·rename_i h59
   refine ⟨a, fun _ => ?_, fun h9 => absurd h2 h9, fun h9 => by simp at h9; omega, fun _ _ => hT, fun h9 => by simp at h9; omega, fun _ => hU⟩
   simp only [argsB, Bool.and_eq_true, decide_eq_true_eq, List.all_eq_true]
   refine ⟨⟨by simp, by simp; omega⟩, fun x hx => ?_⟩
   rcases List.mem_append.1 hx with hx | hx
   ·exact hall x hx
   ·simp at hx
    subst hx
    omega
  ·exact ⟨a, hb, fun h9 => absurd h2 h9, d, e, f, g⟩
  ·exact PvOK.z
  ·exact PvOK.pst 3 (by simp)
 ·unfold sstep
  repeat' split
  ·exact PvOK.pst 1 (by simp)
  ·exact PvOK.z
  ·exact ⟨a, hb, c, d, e, f, g⟩
 ·rename_i h4
  have hT := d (.inl h4)
  unfold ostep
  repeat' split
  ·exact PvOK.z
  ·exact ⟨by simp, by simp, fun _ => c (by omega), fun _ => hT, by simp, by simp, fun _ => g (by omega)⟩
  ·rename_i hb2
   refine ⟨a, hb, c, fun _ => ?_, fun h9 _ => absurd h4 h9, f, g⟩
   simp only [titB, Bool.and_eq_true, decide_eq_true_eq, List.all_eq_true] at *
   refine ⟨by rw [ByteArray.size_append]; show _ + 1 ≤ _; omega, fun x hx => ?_⟩
   simp only [ByteArray.data_append, Array.toList_append, List.mem_append] at hx
   rcases hx with hx | hx
   ·exact hT.2 x hx
   ·simp at hx
    subst hx
    exact hb2.1
  ·exact ⟨a, hb, c, d, e, f, g⟩
 ·unfold qstep
  repeat' split
  ·exact PvOK.z
  ·exact Zy5 b
 ·rename_i h0 h1 h2 h3 h4 h5
  have h6 : p.state = 6 := by omega
  unfold ustep
  repeat' split
  ·exact Zz6 b
  ·rename_i hm hl
   refine ⟨a, hb, c, d, e, fun _ => ?_, fun h9 => absurd h6 h9⟩
   have hs : p.utf.data.toList.length = p.utf.size := rfl
   have := Yd3 (f h6) (by simpa using hm) (by rw [hs]; exact hl)
   simpa using this
  ·exact PvOK.z
theorem Ze9 (l : List UInt8) {p : PV} (h : PvOK p) : PvOK (prun p l).1 := by
 induction l generalizing p with
 | nil => exact h
 | cons b l ih => exact ih (Zy8 h b)
structure PvSz (p : PV) (B : Nat) : Prop where
 args : p.args.length ≤ B
 text : p.text.size ≤ B
 utf : p.utf.size ≤ B
end
section
def rnOK (n : Int) : Prop := 32 ≤ n ∧ n ≤ 1114111 ∧ n ≠ 127 ∧ ¬ (55296 ≤ n ∧ n ≤ 57343)
def ctlN (n : Int) : Prop := (7 ≤ n ∧ n ≤ 10) ∨ n = 13
def escN (n : Int) : Prop := n = 55 ∨ n = 56 ∨ n = 68 ∨ n = 69 ∨ n = 77 ∨ n = 99
def AcOK (a : AV) : Prop :=
 (a.kind = 4 ∧ a.text = e0 ∧ argsB a.args = true ∧ 64 ≤ a.n ∧ a.n ≤ 126) ∨
 (a.priv = false ∧ a.args = [] ∧ ((a.kind = 5 ∧ a.n = 0 ∧ titB a.text = true) ∨ (a.text = e0 ∧ ((a.kind = 1 ∧ rnOK a.n) ∨ (a.kind = 2 ∧ ctlN a.n) ∨ (a.kind = 3 ∧ escN a.n)))))
abbrev u8 (n : Nat) : UInt8 := UInt8.ofNat n
theorem u8N {n : Nat} (h : n < 256) : (u8 n).toNat = n := by
 show n % 256 = n
 omega
def utfB (n : Nat) : List UInt8 :=
 if n < 128 then [u8 n] else if n < 2048 then [u8 (192 + n / 64), u8 (128 + n % 64)]
 else if n < 65536 then [u8 (224 + n / 4096), u8 (128 + n / 64 % 64), u8 (128 + n % 64)]
 else [u8 (240 + n / 262144), u8 (128 + n / 4096 % 64), u8 (128 + n / 64 % 64), u8 (128 + n % 64)]
theorem Zy6 (p : PV) (b : UInt8) : prun p [b] = pstep p b := by simp [prun]
end
section
theorem Zz7 (n : Nat) : (utfB n).length ≤ 4 := by unfold utfB; (repeat' split) <;> simp
theorem Zy1 (b : UInt8) : ∀ a ∈ (gstep b).2, AcOK a := by
 unfold gstep
 repeat' split
 ·simp
 ·rename_i h
  intro a ha
  simp only [List.mem_singleton] at ha
  subst ha
  refine .inr ⟨rfl, rfl, .inr ⟨rfl, .inr (.inl ⟨rfl, ?_⟩)⟩⟩
  simp only [ctl, Bool.or_eq_true, Bool.and_eq_true, decide_eq_true_eq, beq_iff_eq] at h
  unfold ctlN
  simp only
  omega
 ·rename_i h
  intro a ha
  simp only [List.mem_singleton] at ha
  subst ha
  refine .inr ⟨rfl, rfl, .inr ⟨rfl, .inl ⟨rfl, ?_⟩⟩⟩
  unfold rnOK
  simp only [pr]
  omega
 ·simp
 ·simp
 ·intro a ha
  simp only [List.mem_singleton] at ha
  subst ha
  exact .inr ⟨rfl, rfl, .inr ⟨rfl, .inl ⟨rfl, by unfold rnOK; simp only [pr]; omega⟩⟩⟩
theorem Zz2 (b : UInt8) : ∀ a ∈ (estep b).2, AcOK a := by
 unfold estep
 repeat' split
 ·simp
 ·simp
 ·simp
 ·rename_i h
  intro a ha
  simp only [List.mem_singleton] at ha
  subst ha
  refine .inr ⟨rfl, rfl, .inr ⟨rfl, .inr (.inr ⟨rfl, ?_⟩)⟩⟩
  simp only [esc, Bool.or_eq_true, beq_iff_eq] at h
  unfold escN
  simp only
  omega
 ·simp
theorem Zx2 {x : UInt8} {b : Nat} (h : mayF [x] b = true) : (if x.toNat = 224 then 160 else if x.toNat = 240 then 144 else 128) ≤ b ∧ b ≤ (if x.toNat = 237 then 159 else if x.toNat = 244 then 143 else 191) := by
 have h1 : (decide ((if x.toNat = 224 then 160 else if x.toNat = 240 then 144 else 128) ≤ b) && decide (b ≤ (if x.toNat = 237 then 159 else if x.toNat = 244 then 143 else 191))) = true := h
 simpa only [Bool.and_eq_true, decide_eq_true_eq] using h1
theorem ustep_ac {p : PV} (hu : begB p.utf.data.toList = true) (b : UInt8) : ∀ a ∈ (ustep p b).2, AcOK a := by
 unfold ustep
 split
 ·intro a ha
  simp only [List.mem_cons] at ha
  rcases ha with rfl | ha
  ·exact .inr ⟨rfl, rfl, .inr ⟨rfl, .inl ⟨rfl, by unfold rnOK; simp only [pr]; omega⟩⟩⟩
  ·exact Zy1 b a ha
 ·rename_i hm
  split
  ·simp
  ·rename_i hl
   intro a ha
   simp only [List.mem_singleton] at ha
   subst ha
   refine .inr ⟨rfl, rfl, .inr ⟨rfl, .inl ⟨rfl, ?_⟩⟩⟩
   simp only [pr]
   have hs : p.utf.size = p.utf.data.toList.length := rfl
   rw [hs] at hl
   generalize p.utf.data.toList = l at hu hm hl
   simp only [begB, Bool.and_eq_true, decide_eq_true_eq, List.all_eq_true, List.mem_range, Bool.or_eq_true, beq_iff_eq] at hu
   obtain ⟨⟨u1, u2⟩, u3⟩ := hu
   have hmt : mayF l b.toNat = true := by simpa using hm
   clear hm hs
   have hb := b.toNat_lt
   match l, u1, u2, u3, hl, hmt with
   | [x], _, u2, u3, hl, hmt =>
     have hx := x.toNat_lt
     simp only [List.headD_cons, List.length_cons, List.length_nil] at u2 hl
     obtain ⟨v3, v4⟩ := Zx2 hmt
     clear hmt u3
     simp only [List.cons_append, List.nil_append, rnV, rnOK]
     unfold uL at u2 hl
     (repeat' split at u2) <;> (repeat' split at hl) <;> (repeat' split at v3) <;> (repeat' split at v4) <;> omega
   | [x, y], _, u2, u3, hl, hmt =>
     have hx := x.toNat_lt
     have hy := y.toNat_lt
     have v1 := u3 1 (by simp)
     simp only [List.headD_cons, List.length_cons, List.length_nil] at u2 hl
     have v2 : mayF [x] y.toNat = true := by
      rcases v1 with h | h
      ·cases h
      ·exact h
     obtain ⟨v3, v4⟩ := Zx2 v2
     clear v2
     have hmt2 : 128 ≤ b.toNat ∧ b.toNat ≤ 191 := by
      have : (decide (128 ≤ b.toNat) && decide (b.toNat ≤ 191)) = true := hmt
      simpa using this
     simp only [List.cons_append, List.nil_append, rnV, rnOK]
     unfold uL at u2 hl
     clear hmt v1 u3
     (repeat' split at u2) <;> (repeat' split at hl) <;> (repeat' split at v3) <;> (repeat' split at v4) <;> omega
   | [x, y, z], _, u2, u3, hl, hmt =>
     have hx := x.toNat_lt
     have hy := y.toNat_lt
     have hz := z.toNat_lt
     have v1 := u3 1 (by simp)
     have w1 := u3 2 (by simp)
     simp only [List.headD_cons, List.length_cons, List.length_nil] at u2 hl
     have v2 : mayF [x] y.toNat = true := by
      rcases v1 with h | h
      ·cases h
      ·exact h
     have w2 : 128 ≤ z.toNat ∧ z.toNat ≤ 191 := by
      rcases w1 with h | h
      ·cases h
      ·have : (decide (128 ≤ z.toNat) && decide (z.toNat ≤ 191)) = true := h
       simpa using this
     obtain ⟨v3, v4⟩ := Zx2 v2
     clear v2
     have hmt2 : 128 ≤ b.toNat ∧ b.toNat ≤ 191 := by
      have : (decide (128 ≤ b.toNat) && decide (b.toNat ≤ 191)) = true := hmt
      simpa using this
     simp only [List.cons_append, List.nil_append, rnV, rnOK]
     unfold uL at u2 hl
     clear hmt v1 w1 u3
     (repeat' split at u2) <;> (repeat' split at hl) <;> (repeat' split at v3) <;> (repeat' split at v4) <;> omega
   | x :: y :: z :: q :: l, _, u2, _, _, _ =>
     exfalso
     simp only [List.headD_cons, List.length_cons] at u2
     unfold uL at u2
     (repeat' split at u2) <;> omega
theorem pstep_ac {p : PV} (h : PvOK p) (b : UInt8) : ∀ a ∈ (pstep p b).2, AcOK a := by
 unfold pstep
 repeat' split
 ·exact Zy1 b
 ·exact Zz2 b
 ·rename_i h2
  have hA := h.csi h2
  unfold cstep
  repeat' split
  ·simp
  ·rename_i hc
   intro a ha
   simp only [List.mem_singleton] at ha
   subst ha
   refine .inr ⟨rfl, rfl, .inr ⟨rfl, .inr (.inl ⟨rfl, ?_⟩)⟩⟩
   simp only [ctl, Bool.or_eq_true, Bool.and_eq_true, decide_eq_true_eq, beq_iff_eq] at hc
   unfold ctlN
   simp only
   omega
  ·simp
  ·simp
  ·simp
  ·rename_i h6
   intro a ha
   simp only [List.mem_singleton] at ha
   subst ha
   exact .inl ⟨rfl, rfl, hA, by simp only; omega, by simp only; omega⟩
  ·simp
 ·unfold sstep
  repeat' split
  ·simp
  ·simp
  ·simp
 ·rename_i h4
  unfold ostep
  repeat' split
  ·intro a ha
   simp only [List.mem_singleton] at ha
   subst ha
   exact .inr ⟨rfl, rfl, .inl ⟨rfl, rfl, h.osc (.inl h4)⟩⟩
  ·simp
  ·simp
  ·simp
 ·rename_i h5
  unfold qstep
  split
  ·intro a ha
   simp only [List.mem_singleton] at ha
   subst ha
   exact .inr ⟨rfl, rfl, .inl ⟨rfl, rfl, h.osc (.inr h5)⟩⟩
  ·exact Zz2 b
 ·exact ustep_ac (h.ut (by have := h.st; omega)) b
theorem Zd4 (l : List UInt8) {p : PV} (h : PvOK p) : ∀ a ∈ (prun p l).2, AcOK a := by
 induction l generalizing p with
 | nil => simp [prun]
 | cons b l ih =>
   intro a ha
   simp only [prun, List.mem_append] at ha
   rcases ha with ha | ha
   ·exact pstep_ac h b a ha
   ·exact ih (Zy8 h b) a ha
end
section
def inB (n l h : Int) : Bool := decide (l ≤ n) && decide (n ≤ h)
theorem wI (n l h : Int) (w : World) :
 Calls Tryz.prog 31 #[.int .i64 n, .int .i64 l, .int .i64 h] w fun e w' => e = .returned (.bool (inB n l h)) ∧ w = w' := by
 by_cases h1 : l ≤ n <;> by_cases h2 : n ≤ h
 all_goals
  go_enter Tryz.func31, Tryz.ntmps31
  go_wp2
  go_ret
  exact ⟨by simp [inB, *], rfl⟩
theorem lI (n l h : Int) (w : World) :
 Calls Tryz.prog 60 #[.int .i64 n, .int .i64 l, .int .i64 h] w fun e w' => e = .returned (.bool (inB n l h)) ∧ w = w' := by
 by_cases h1 : l ≤ n <;> by_cases h2 : n ≤ h
 all_goals
  go_enter Tryz.func60, Tryz.ntmps60
  go_wp2
  go_ret
  exact ⟨by simp [inB, *], rfl⟩
theorem iB0 {a b c : Int} (h : inB a b c = true) : b ≤ a ∧ a ≤ c := by
 simp only [inB, Bool.and_eq_true, decide_eq_true_eq] at h; exact h
theorem iB1 {a b c d e f : Int} (h : (inB a b c && inB d e f) = true) : b ≤ a ∧ a ≤ c := by
 rw [Bool.and_eq_true] at h; exact iB0 h.1
theorem iB2 {a b c d e f : Int} (h : (inB a b c && inB d e f) = true) : e ≤ d ∧ d ≤ f := by
 rw [Bool.and_eq_true] at h; exact iB0 h.2

end
section
theorem Zk5 {α : Type} {p : α → Bool} {xs : List α} {k : Nat} (h : ∀ j (hj : j < xs.length), j < k → p xs[j] = false) (hk : xs.length ≤ k) : xs.any p = false := by
 rw [List.any_eq_false]
 intro x hx
 obtain ⟨j, hj, rfl⟩ := List.getElem_of_mem hx
 simp [h j hj (by omega)]
theorem Zy0 {α : Type} {p : α → Bool} {xs : List α} {k : Nat} (hk : k < xs.length) (h : p xs[k] = true) : xs.any p = true := List.any_eq_true.2 ⟨_, List.getElem_mem hk, h⟩
def longP (n : Int) : Bool := decide (65536 < n)
def Zb6 (_ : Int) : Prop := True
theorem Zf1 (n : Int) (w : World) (_ : Zb6 n) : Calls Tryz.prog 85 #[.int .i64 n] w fun e w' => e = .returned (.bool (longP n)) ∧ w = w' := by
 go_enter Tryz.func85, Tryz.ntmps85
 go_wp2_with fail
 go_ret
 exact ⟨rfl, rfl⟩
theorem Zg8 (a : Option Addr) (ca : Nat) (xs : List Int) (w : World) (ha : Sl iE 1 w a xs) (la : xs.length ≤ 1099511627776) (hq : ∀ x ∈ xs, Zb6 x) :
 Calls Tryz.prog 122 #[.slice a xs.length ca, .func (.func 85) #[] #[]] w fun e w' => (∃ i : Int, e = .returned (.int .i64 i) ∧ Hid (decide (0 ≤ i) = xs.any longP)) ∧ w = w' := by
 have HQ := zz hq
 clear hq
 go_enter Tryz.func122, Tryz.ntmps122
 go_wp2_with fail
 go_loop [5, 8] (fun _ i => ∃ k : Nat, k ≤ xs.length ∧ i = .int .i64 k ∧ ∀ j (hj : j < xs.length), j < k → longP xs[j] = false) (fun _ i => xs.length - (intOf i).toNat)
 case atStart => exact ⟨0, Nat.zero_le _, rfl, fun j _ h => absurd h (Nat.not_lt_zero _)⟩
 case round =>
  obtain ⟨k, hk, rfl, hp⟩ := hrel
  have HP := zz hp
  clear hp
  by_cases hlt : k < xs.length
  ·obtain ⟨b1, o1, rfl, hb1, hc1⟩ := ha.at hlt
   have c1 := hc1 k hlt 0 (by omega)
   simp only [iE, Nat.mul_one, Nat.add_zero, List.getElem?_cons_zero] at c1
   have hx := HQ.out xs[k] (List.getElem_mem _)
   clear hc1
   cases hpk : longP xs[k]
   ·have HPK := zz hpk
    clear hpk
    go_wp2_with (go_at_call 85; refine (Zf1 xs[k] _ hx).mono ?_; rw [HPK.out]; rintro e w' ⟨rfl, rfl⟩)
    go_round
    case rel => exact ⟨k + 1, by omega, by go_num, fun j hj h => by
     rcases Nat.lt_succ_iff_lt_or_eq.1 h with h | rfl
     ·exact HP.out j hj h
     ·exact HPK.out⟩
    case measure => simp [intOf]; omega
   ·have HPK := zz hpk
    clear hpk
    go_wp2_with (go_at_call 85; refine (Zf1 xs[k] _ hx).mono ?_; rw [HPK.out]; rintro e w' ⟨rfl, rfl⟩)
    go_ret
    exact ⟨⟨_, rfl, by rw [Zy0 hlt HPK.out]; show decide _ = _; simp⟩, rfl⟩
  ·obtain rfl : k = xs.length := by omega
   go_wp2_with fail
   go_ret
   exact ⟨⟨_, rfl, by rw [Zk5 HP.out (Nat.le_refl _)]; rfl⟩, rfl⟩
theorem Ze4 (a : Option Addr) (ca : Nat) (xs : List Int) (w : World) (ha : Sl iE 1 w a xs) (la : xs.length ≤ 1099511627776) (hq : ∀ x ∈ xs, Zb6 x) :
 Calls Tryz.prog 84 #[.slice a xs.length ca, .func (.func 85) #[] #[]] w fun e w' => e = .returned (.bool (xs.any longP)) ∧ w = w' := by
 have HQ := zz hq
 clear hq
 go_enter Tryz.func84, Tryz.ntmps84
 go_wp2_with fail
 refine (Zg8 a ca xs _ ha la HQ.out).mono ?_
 rintro e w' ⟨⟨i, rfl, hi⟩, rfl⟩
 go_wp2_with fail
 go_ret
 exact ⟨by rw [← hi.out]; rfl, rfl⟩
theorem isLong_c (a : Option Addr) (ca : Nat) (xs : List Int) (w : World) (ha : Sl iE 1 w a xs) (la : xs.length ≤ 1099511627776) :
 Calls Tryz.prog 43 #[.slice a xs.length ca] w fun e w' => e = .returned (.bool (xs.any longP)) ∧ w = w' := by
 go_enter Tryz.func43, Tryz.ntmps43
 go_wp2_with fail
 refine (Ze4 a ca xs _ ha la (fun _ _ => trivial)).mono ?_
 rintro e w' ⟨rfl, rfl⟩
 go_wp2_with fail
 go_ret
 exact ⟨rfl, rfl⟩
theorem Sl.box {w : World} {b : Nat} {n : Int} (hb : b < w.heap.size) (hc : w.cell? ⟨b, 0, none⟩ = some (.int .i64 n)) : Sl iE 1 w (some ⟨b, 0, none⟩) [n] :=
 .inr ⟨b, 0, rfl, hb, fun i hi j hj => by
  have h1 : i = 0 := by simpa using hi
  have h2 : j = 0 := by omega
  subst h1 h2
  simpa [iE] using hc⟩
theorem Zl8 (b : Nat) (n : Int) (ca : Nat) (w : World) (hb : b < w.heap.size) (hc : w.cell? ⟨b, 0, none⟩ = some (.int .i64 n)) :
 Calls Tryz.prog 43 #[.slice (some ⟨b, 0, none⟩) 1 ca] w fun e w' => e = .returned (.bool (longP n)) ∧ w = w' :=
 (isLong_c _ ca [n] w (Sl.box hb hc) (by simp)).mono fun e w' ⟨h1, h2⟩ => ⟨by rw [h1]; simp, h2⟩
end
section
theorem Tryz.infoString : (Tryz.prog.info? 9).map (fun i => (i.zero, i.size, i.bytes)) = some (some (.string ⟨#[]⟩), 1, 16) := by kernel_rfl
def Ze0 {α : Type} (enc : α → List Value) (e : TypeId) (sz : Nat) (w : World) (xs : List α) (en : Ending) (w' : World) : Prop :=
 ∃ v, en = .returned v ∧ F_ enc e sz w.heap.size v xs w' ∧ Below w.heap.size w w'
theorem Tryz.infoInt : (Tryz.prog.info? 3).map (fun i => (i.zero, i.size, i.bytes)) = some (some (.int .i64 0), 1, 8) := by kernel_rfl
theorem Tryz.infoByte : (Tryz.prog.info? 5).map (fun i => (i.zero, i.size, i.bytes)) = some (some (.int .u8 0), 1, 1) := by kernel_rfl
end
section
theorem ret_i {a b : Int} (h : a = b) : Ending.returned (.int .i64 a) = .returned (.int .i64 b) := by rw [h]
theorem ret_b {a b : Bool} (h : a = b) : Ending.returned (.bool a) = .returned (.bool b) := by rw [h]
def ctlI (n : Int) : Bool := inB n 7 10 || (n == 13)
def escI (n : Int) : Bool := n == 55 || n == 56 || n == 68 || n == 69 || n == 77 || n == 99
theorem iCq (n : Int) (w : World) : Calls Tryz.prog 70 #[.int .i64 n] w fun e w' => e = .returned (.bool (ctlI n)) ∧ w = w' := by
 obtain ⟨v, h⟩ := eX (inB n 7 10)
 have H := zz h
 clear h
 cases v
 all_goals
  go_enter Tryz.func70, Tryz.ntmps70
  go_wp2_with (go_at_call 31; refine (wI _ _ _ _).mono ?_; rw [H.out]; rintro e w' ⟨rfl, rfl⟩)
  all_goals
   go_ret
   exact ⟨by unfold ctlI; rw [H.out]; simp, rfl⟩
theorem Zb3 (b : Nat) (w : World) : Calls Tryz.prog 123 #[.int .u8 b] w fun e w' => e = .returned (.int .i64 (uL b : Nat)) ∧ w = w' := by
 go_enter Tryz.func123, Tryz.ntmps123
 go_wp2_with fail
 all_goals
  go_ret
  exact ⟨ret_i (by unfold uL; (repeat' split) <;> omega), rfl⟩
theorem Zf5 (x : UInt8) : lowOf [x] = if x.toNat = 224 then 160 else if x.toNat = 240 then 144 else 128 := rfl
theorem Zc9 (x : UInt8) : Zy4 [x] = if x.toNat = 237 then 159 else if x.toNat = 244 then 143 else 191 := rfl
theorem list_one {s : ByteArray} (h : s.size = 1) : s.data.toList = [s[0]'(by omega)] := by
 cases s with
 | mk d =>
   have h1 : d.toList.length = 1 := h
   match hd : d.toList, h1 with
   | [a], _ =>
     have : d = #[a] := by rw [← Array.toList_inj]; simpa using hd
     subst this
     rfl
theorem Zv2 {l : List UInt8} (h : l.length ≠ 1) : lowOf l = 128 ∧ Zy4 l = 191 := by
 match l, h with
 | [], _ => exact ⟨rfl, rfl⟩
 | [_], h => simp at h
 | _ :: _ :: _, _ => exact ⟨rfl, rfl⟩
theorem Zd5 (s : ByteArray) (b : Nat) (w : World) (hz : s.size ≤ 1048576) : Calls Tryz.prog 124 #[.string s, .int .u8 b] w fun e w' => e = .returned (.bool (mayF s.data.toList b)) ∧ w = w' := by
 by_cases h1 : s.size = 1
 ·have h0 : 0 < s.size := by omega
  obtain ⟨x, hl, hx⟩ : ∃ x, s.data.toList = [x] ∧ s[0]'h0 = x := ⟨_, list_one h1, rfl⟩
  have HX := zz hl
  clear hl
  have h2 : ((s.size : Int) == 1) = true := by simp [h1]
  have HH := zz h1
  clear h1
  cases q1 : ((x.toNat : Int) == 224) <;> cases q2 : ((x.toNat : Int) == 237) <;> cases q3 : ((x.toNat : Int) == 240) <;> cases q4 : ((x.toNat : Int) == 244)
  all_goals
   have HQ : Hid ((x.toNat = 224 ↔ ((x.toNat : Int) == 224) = true) ∧ (x.toNat = 237 ↔ ((x.toNat : Int) == 237) = true) ∧ (x.toNat = 240 ↔ ((x.toNat : Int) == 240) = true) ∧ (x.toNat = 244 ↔ ((x.toNat : Int) == 244) = true)) := zz (by simp only [beq_iff_eq]; omega)
   go_enter Tryz.func124, Tryz.ntmps124
   go_wp2_with fail
   all_goals
    go_ret
    refine ⟨?_, rfl⟩
    rw [HX.out]
    unfold mayF
    rw [Zf5, Zc9]
    refine ret_b (Bool.eq_iff_iff.2 ?_)
    have hq := HQ.out
    rw [q1, q2, q3, q4] at hq
    simp only [Bool.and_eq_true, decide_eq_true_eq, Bool.false_eq_true, iff_false, iff_true] at hq ⊢
    (repeat' split) <;> (first | omega | (simp; omega) | (simp only [false_iff]; omega))
 ·have HX := zz (Zv2 (l := s.data.toList) h1)
  have h2 : ((s.size : Int) == 1) = false := beq_eq_false_iff_ne.2 (by omega)
  have HH := zz h1
  clear h1
  go_enter Tryz.func124, Tryz.ntmps124
  go_wp2_with fail
  all_goals
   go_ret
   refine ⟨?_, rfl⟩
   unfold mayF
   rw [HX.out.1, HX.out.2]
   refine ret_b (Bool.eq_iff_iff.2 ?_)
   simp only [Bool.and_eq_true, decide_eq_true_eq, Bool.false_eq_true]
   first | omega | (simp; omega)
end
section
theorem Ye2 (s : ByteArray) (c : Nat) (w : World) : Calls Tryz.prog 141 #[.string s, .int .u8 c] w fun e w' => e = .returned (.int .i64 (Lib.indexByte s.data.toList c.toUInt8)) ∧ w = w' := by
 have e1 : ∀ w, (callFunc 152 #[.string s, .int .u8 c]).run Tryz.prog w = .ok (.value (.int .i64 (Lib.indexByte s.data.toList c.toUInt8))) w := fun w => by
  rw [run_callFunc_extern Tryz.func152 (by kernel_rfl) (by kernel_rfl) (by kernel_rfl) (e := Extern.BytealgIndexByte.indexByte) (by kernel_rfl), Lib.run_indexByteString]
  rfl
 go_enter Tryz.func141, Tryz.ntmps141
 go_wp2_with fail
 go_ret
 exact ⟨rfl, rfl⟩
theorem Zs1 (s : ByteArray) (c : Nat) (w : World) : Calls Tryz.prog 108 #[.string s, .int .u8 c] w fun e w' => e = .returned (.int .i64 (Lib.indexByte s.data.toList c.toUInt8)) ∧ w = w' := by
 go_enter Tryz.func108, Tryz.ntmps108
 go_wp2_with fail
 refine (Ye2 _ _ _).mono ?_
 rintro e w' ⟨rfl, rfl⟩
 go_wp2_with fail
 go_ret
 exact ⟨rfl, rfl⟩
theorem esc_idx (n : Nat) (h : n < 128) : decide (0 ≤ Lib.indexByte [55, 56, 68, 69, 77, 99] n.toUInt8) = escI n := by
 have : ∀ x : Fin 128, decide (0 ≤ Lib.indexByte [55, 56, 68, 69, 77, 99] x.val.toUInt8) = escI x.val := by decide
 exact this ⟨n, h⟩
theorem Zh9 (n : Int) (w : World) : Calls Tryz.prog 71 #[.int .i64 n] w fun e w' => e = .returned (.bool (escI n)) ∧ w = w' := by
 obtain ⟨v, h⟩ := eX (inB n 1 127)
 have H := zz h
 clear h
 cases v
 ·go_enter Tryz.func71, Tryz.ntmps71
  go_wp2_with (go_at_call 31; refine (wI _ _ _ _).mono ?_; rw [H.out]; rintro e w' ⟨rfl, rfl⟩)
  go_ret
  refine ⟨ret_b ?_, rfl⟩
  have h := H.out
  simp only [inB, Bool.and_eq_false_iff, decide_eq_false_iff_not] at h
  have h2 : escI n = false := by
   simp only [escI, Bool.or_eq_false_iff, beq_eq_false_iff_ne]
   omega
  rw [h2]
 ·obtain ⟨m, rfl⟩ : ∃ m : Nat, n = m := by
   have h := H.out
   simp only [inB, Bool.and_eq_true, decide_eq_true_eq] at h
   exact ⟨n.toNat, by omega⟩
  have hm : m < 128 := by
   have h := H.out
   simp only [inB, Bool.and_eq_true, decide_eq_true_eq] at h
   omega
  have hw : (m : Int) < 128 := by omega
  obtain ⟨k, hk⟩ := eX (Lib.indexByte [55, 56, 68, 69, 77, 99] m.toUInt8)
  have HK := zz hk
  have HE : Hid (decide (0 ≤ k) = escI m) := zz (by rw [← hk]; exact esc_idx m hm)
  clear hk
  go_enter Tryz.func71, Tryz.ntmps71
  go_wp2_with (first
   | (go_at_call 31; refine (wI _ _ _ _).mono ?_; rw [H.out]; rintro e w' ⟨rfl, rfl⟩)
   | (go_at_call 108; refine (Zs1 _ m _).mono ?_; rw [show Lib.indexByte _ _ = k from HK.out]; rintro e w' ⟨rfl, rfl⟩))
  go_ret
  exact ⟨ret_b HE.out, rfl⟩
end
section
open Classical in
noncomputable def extW (w x : World) : World := if Below w.heap.size w x then x else w
theorem Zf9 (w x : World) : Below w.heap.size w (extW w x) := by
 unfold extW
 split
 ·assumption
 ·exact Below.refl _ _
theorem Ye3 {w x : World} (h : Below w.heap.size w x) : extW w x = x := by
 unfold extW
 rw [if_pos h]
theorem Ye0 {w : World} {b : Nat} (h : b < w.heap.size) : ∀ (x : World) (o : Nat), (extW w x).cell? ⟨b, o, none⟩ = w.cell? ⟨b, o, none⟩ :=
 fun x o => (Zf9 w x).cell (p := ⟨b, o, none⟩) h
theorem Zb5 {P : Program} {id : Nat} {Q : Exit → Act → World → Prop} {a : Act} {w : World} {l : List Oper} (w0 : World) (h0 : w0 = w) (hm : P.follows .mixedOrders = true) (hB : Region.lexB .any l.toArray = true)
 (h : wpQuiet P l.toArray (fun w' => ∃ x, w' = extW w0 x) (fun a' => ∀ w', (∃ x, w' = extW w0 x) → Q .normal a' w') l a) : (Code.region id l.toArray true).wp P Q a w := by
 subst h0
 exact wp_region_quiet (C := fun w' => ∃ x, w' = extW w0 x) hm hB ⟨w0.drew, (Ye3 ((Below.refl _ _).drew)).symm⟩ (by simpa using h)
theorem Calls.quietx_same {P : Program} {f : FuncId} {args : Array Value} {w x : World} {v : Value}
 (h : Calls P f args (extW w x) fun e w' => e = .returned v ∧ extW w x = w') : Calls P f args (extW w x) fun e w'' => e = .returned v ∧ ∃ y, w'' = extW w y :=
 h.mono fun _ w' ⟨he, hb⟩ => ⟨he, x, hb.symm⟩
end
section
def argP (n : Int) : Bool := !inB n (-1) 9999
def Zb2 (_ : Int) : Prop := True
theorem Ze1 (n : Int) (w : World) (_ : Zb2 n) : Calls Tryz.prog 107 #[.int .i64 n] w fun e w' => e = .returned (.bool (argP n)) ∧ w = w' := by
 go_enter Tryz.func107, Tryz.ntmps107
 go_wp2_with (go_at_call 31; refine (wI _ _ _ _).mono ?_; rintro e w' ⟨rfl, rfl⟩)
 go_ret
 exact ⟨rfl, rfl⟩
theorem Zg2 (a : Option Addr) (ca : Nat) (xs : List Int) (w : World) (ha : Sl iE 1 w a xs) (la : xs.length ≤ 1099511627776) (hq : ∀ x ∈ xs, Zb2 x) :
 Calls Tryz.prog 122 #[.slice a xs.length ca, .func (.func 107) #[] #[]] w fun e w' => (∃ i : Int, e = .returned (.int .i64 i) ∧ Hid (decide (0 ≤ i) = xs.any argP)) ∧ w = w' := by
 have HQ := zz hq
 clear hq
 go_enter Tryz.func122, Tryz.ntmps122
 go_wp2_with fail
 go_loop [5, 8] (fun _ i => ∃ k : Nat, k ≤ xs.length ∧ i = .int .i64 k ∧ ∀ j (hj : j < xs.length), j < k → argP xs[j] = false) (fun _ i => xs.length - (intOf i).toNat)
 case atStart => exact ⟨0, Nat.zero_le _, rfl, fun j _ h => absurd h (Nat.not_lt_zero _)⟩
 case round =>
  obtain ⟨k, hk, rfl, hp⟩ := hrel
  have HP := zz hp
  clear hp
  by_cases hlt : k < xs.length
  ·obtain ⟨b1, o1, rfl, hb1, hc1⟩ := ha.at hlt
   have c1 := hc1 k hlt 0 (by omega)
   simp only [iE, Nat.mul_one, Nat.add_zero, List.getElem?_cons_zero] at c1
   have hx := HQ.out xs[k] (List.getElem_mem _)
   clear hc1
   cases hpk : argP xs[k]
   ·have HPK := zz hpk
    clear hpk
    go_wp2_with (go_at_call 107; refine (Ze1 xs[k] _ hx).mono ?_; rw [HPK.out]; rintro e w' ⟨rfl, rfl⟩)
    go_round
    case rel => exact ⟨k + 1, by omega, by go_num, fun j hj h => by
     rcases Nat.lt_succ_iff_lt_or_eq.1 h with h | rfl
     ·exact HP.out j hj h
     ·exact HPK.out⟩
    case measure => simp [intOf]; omega
   ·have HPK := zz hpk
    clear hpk
    go_wp2_with (go_at_call 107; refine (Ze1 xs[k] _ hx).mono ?_; rw [HPK.out]; rintro e w' ⟨rfl, rfl⟩)
    go_ret
    exact ⟨⟨_, rfl, by rw [Zy0 hlt HPK.out]; show decide _ = _; simp⟩, rfl⟩
  ·obtain rfl : k = xs.length := by omega
   go_wp2_with fail
   go_ret
   exact ⟨⟨_, rfl, by rw [Zk5 HP.out (Nat.le_refl _)]; rfl⟩, rfl⟩
theorem Zd0 (a : Option Addr) (ca : Nat) (xs : List Int) (w : World) (ha : Sl iE 1 w a xs) (la : xs.length ≤ 1099511627776) (hq : ∀ x ∈ xs, Zb2 x) :
 Calls Tryz.prog 84 #[.slice a xs.length ca, .func (.func 107) #[] #[]] w fun e w' => e = .returned (.bool (xs.any argP)) ∧ w = w' := by
 have HQ := zz hq
 clear hq
 go_enter Tryz.func84, Tryz.ntmps84
 go_wp2_with fail
 refine (Zg2 a ca xs _ ha la HQ.out).mono ?_
 rintro e w' ⟨⟨i, rfl, hi⟩, rfl⟩
 go_wp2_with fail
 go_ret
 exact ⟨by rw [← hi.out]; rfl, rfl⟩
theorem Zx7 (xs : List Int) : argsB xs = (inB xs.length 1 8 && !xs.any argP) := by
 unfold argsB inB
 rw [List.not_any_eq_all_not]
 have e1 : (decide (1 ≤ xs.length) && decide (xs.length ≤ 8)) = (decide ((1 : Int) ≤ (xs.length : Int)) && decide ((xs.length : Int) ≤ 8)) := by
  rw [Bool.eq_iff_iff]
  simp only [Bool.and_eq_true, decide_eq_true_eq]
  omega
 have e2 : (fun n : Int => decide (-1 ≤ n) && decide (n ≤ 9999)) = fun n => !argP n := by
  funext n
  simp [argP, inB]
 rw [e1, e2]
theorem Zt1 (a : Option Addr) (ca : Nat) (xs : List Int) (w : World) (ha : Sl iE 1 w a xs) (la : xs.length ≤ 1099511627776) :
 Calls Tryz.prog 69 #[.slice a xs.length ca] w fun e w' => e = .returned (.bool (argsB xs)) ∧ w = w' := by
 obtain ⟨v, h⟩ := eX (inB xs.length 1 8)
 have H := zz h
 clear h
 cases v
 ·go_enter Tryz.func69, Tryz.ntmps69
  go_wp2_with (go_at_call 31; refine (wI _ _ _ _).mono ?_; rw [H.out]; rintro e w' ⟨rfl, rfl⟩)
  go_ret
  exact ⟨ret_b (by rw [Zx7, H.out]; rfl), rfl⟩
 ·obtain ⟨u, hu⟩ := eX (xs.any argP)
  have HU := zz hu
  have HA := zz ha
  clear hu ha
  go_enter Tryz.func69, Tryz.ntmps69
  go_wp2_with (first
   | (go_at_call 31; refine (wI _ _ _ _).mono ?_; rw [H.out]; rintro e w' ⟨rfl, rfl⟩)
   | (go_at_call 84; refine (Zd0 a ca xs _ HA.out la (fun _ _ => trivial)).mono ?_; rw [HU.out]; rintro e w' ⟨rfl, rfl⟩))
  go_ret
  exact ⟨ret_b (by rw [Zx7, H.out, HU.out]; cases u <;> rfl), rfl⟩
def inT (b : UInt8) : Bool := decide (32 ≤ b.toNat) && decide (b.toNat ≤ 126)
theorem Zw1 (s : ByteArray) : titB s = (decide (s.size ≤ 40) && s.data.toList.all inT) := rfl
theorem getL {s : ByteArray} {k : Nat} (h : k < s.size) : ∃ h2 : k < s.data.toList.length, s.data.toList[k]'h2 = s[k]'h := ⟨h, rfl⟩
theorem Za9 (s : ByteArray) (w : World) (hz : s.size ≤ 1099511627776) : Calls Tryz.prog 52 #[.string s] w fun e w' => e = .returned (.bool (titB s)) ∧ w = w' := by
 go_enter Tryz.func52, Tryz.ntmps52
 go_wp2_with fail
 go_loop [6] (fun i => ∃ k : Nat, k ≤ s.size ∧ i = .int .i64 k ∧ Hid (∀ j (hj : j < s.size), j < k → inT s[j] = true)) (fun i => s.size - (intOf i).toNat)
 case atStart => exact ⟨0, Nat.zero_le _, rfl, zz (fun j _ h => absurd h (Nat.not_lt_zero _))⟩
 case round =>
  obtain ⟨k, hk, rfl, HP⟩ := hrel
  by_cases hlt : k < s.size
  ·have HN : Hid (inT s[k] = false → titB s = false) := zz (fun h => by
    rw [Zw1]
    have : s.data.toList.all inT = false := by
     rw [List.all_eq_false]
     obtain ⟨h2, h3⟩ := getL hlt
     exact ⟨_, List.getElem_mem h2, by rw [h3, h]; simp⟩
    rw [this, Bool.and_false])
   obtain ⟨x, hx⟩ := eX (s[k])
   have HX := zz hx
   rw [hx] at HN
   go_wp2_with fail
   all_goals first
    | (go_ret; exact ⟨ret_b (HN.out (by simp [inT]; omega)).symm, rfl⟩)
    | (go_round
       case rel =>
        refine ⟨k + 1, by omega, by go_num, zz (fun j hj h => ?_)⟩
        rcases Nat.lt_succ_iff_lt_or_eq.1 h with h | rfl
        ·exact HP.out j hj h
        ·rw [HX.out]; simp [inT]; omega
       case measure => simp [intOf]; omega)
  ·have HA : Hid (titB s = decide (s.size ≤ 40)) := zz (by
    rw [Zw1]
    have : s.data.toList.all inT = true := by
     rw [List.all_eq_true]
     intro x hx
     obtain ⟨j, hj, rfl⟩ := List.getElem_of_mem hx
     exact HP.out j hj (by have : s.data.toList.length = s.size := rfl; omega)
    rw [this, Bool.and_true])
   go_wp2_with fail
   all_goals
    go_ret
    exact ⟨ret_b (by rw [HA.out, Bool.eq_iff_iff]; simp only [decide_eq_true_eq]; omega), rfl⟩
end
section
theorem Zs5 (s : ByteArray) (k : Nat) (hk : k ≤ s.size) : (s.extract 0 k).data.toList = s.data.toList.take k := by
 simp [ByteArray.data_extract]
theorem Zr8 (s : ByteArray) (k : Nat) (hk : k ≤ s.size) : (s.extract 0 k).size = k := by
 rw [ByteArray.size_extract]; omega
def fitK (l : List UInt8) (k : Nat) : Prop := ∀ j, 1 ≤ j → j < k → mayF (l.take j) (l.getD j 0).toNat = true
theorem Zd6 {l : List UInt8} : begB l = true ↔ 0 < l.length ∧ l.length < uL (l.headD 0).toNat ∧ fitK l l.length := by
 simp only [begB, Bool.and_eq_true, decide_eq_true_eq, List.all_eq_true, List.mem_range, Bool.or_eq_true, beq_iff_eq, fitK]
 constructor
 ·rintro ⟨⟨h1, h2⟩, h3⟩
  exact ⟨h1, h2, fun j hj hk => (h3 j hk).resolve_left (by omega)⟩
 ·rintro ⟨h1, h2, h3⟩
  refine ⟨⟨h1, h2⟩, fun j hj => ?_⟩
  rcases Nat.eq_zero_or_pos j with h | h
  ·exact .inl h
  ·exact .inr (h3 j h hj)
theorem headL {s : ByteArray} (h : 0 < s.size) : s.data.toList.headD 0 = s[0] := by
 cases s with
 | mk d =>
   have hl : d.toList.length = d.size := rfl
   match hd : d.toList, hl with
   | [], hl => have : d.size = 0 := hl.symm; have h' : 0 < d.size := h; omega
   | a :: l, _ =>
     have : d = (a :: l).toArray := by rw [← hd]
     subst this
     rfl
theorem getDL {s : ByteArray} {k : Nat} (h : k < s.size) : s.data.toList.getD k 0 = s[k] := by
 obtain ⟨h2, h3⟩ := getL h
 rw [← h3, List.getD_eq_getElem?_getD, List.getElem?_eq_getElem h2]
 rfl
theorem Zo3 (s : ByteArray) (w : World) (hz : s.size ≤ 1048576) : Calls Tryz.prog 86 #[.string s] w fun e w' => e = .returned (.bool (begB s.data.toList)) ∧ Below w.heap.size w w' := by
 have hls : s.data.toList.length = s.size := rfl
 have HLS := zz hls
 clear hls
 by_cases h0 : s.size = 0
 ·obtain rfl := Zf0.1 h0
  clear h0
  go_enter Tryz.func86, Tryz.ntmps86
  go_wp2_with fail
  go_ret
  exact ⟨rfl, Below.refl _ _⟩
 ·have hp : 0 < s.size := by omega
  have hne : s.toList.isEmpty = false := by
   rw [Lib.toList_data]
   cases h : s.data.toList with
   | nil => have := HLS.out; rw [h] at this; simp at this; omega
   | cons _ _ => rfl
  clear h0
  have HH := zz (headL hp)
  obtain ⟨x, hx⟩ := eX (s[0])
  rw [hx] at HH
  obtain ⟨u, hu⟩ := eX (uL x.toNat)
  have HU := zz hu
  clear hu
  have HL1 : Hid (u ≤ s.size → begB s.data.toList = false) := zz (fun h => by
   rw [Bool.eq_false_iff]
   intro hb
   obtain ⟨_, h2, _⟩ := Zd6.1 hb
   rw [HLS.out, HH.out, HU.out] at h2
   omega)
  by_cases hul : u ≤ s.size
  ·have gl : decide ((u : Int) ≤ (s.size : Int)) = true := decide_eq_true (by omega)
   go_enter Tryz.func86, Tryz.ntmps86
   go_wp2_with (go_at_call 123; refine (Zb3 _ _).mono ?_; rw [HU.out]; rintro e w' ⟨rfl, rfl⟩)
   go_ret
   exact ⟨ret_b (by rw [HL1.out hul]), Below.refl _ _⟩
  ·have gl : decide ((u : Int) ≤ (s.size : Int)) = false := decide_eq_false (by omega)
   have hul' : s.size < u := by omega
   clear hul
   go_enter Tryz.func86, Tryz.ntmps86
   go_wp2_with (go_at_call 123; refine (Zb3 _ _).mono ?_; rw [HU.out]; rintro e w' ⟨rfl, rfl⟩)
   go_loopw [3] (fun i wr => ∃ k : Nat, 1 ≤ k ∧ k ≤ s.size ∧ i = .int .i64 k ∧ Hid (fitK s.data.toList k) ∧ Below w.heap.size w wr) (fun i _ => s.size - (intOf i).toNat)
   case atStart => exact ⟨1, Nat.le_refl _, by omega, rfl, zz (fun j h1 h2 => by omega), Below.refl _ _⟩
   case round =>
    obtain ⟨k, hk1, hk, rfl, HF, hbel⟩ := hrel
    have HBL := zz hbel
    have hzr := hbel.size
    clear hbel
    by_cases hlt : k < s.size
    ·have HD := zz (getDL hlt)
     obtain ⟨y, hy⟩ := eX (s[k])
     rw [hy] at HD
     obtain ⟨v, hv⟩ := eX (mayF (s.data.toList.take k) y.toNat)
     have HV := zz hv
     clear hv
     have HC : Hid (∀ w', Calls Tryz.prog 124 #[.string (s.extract 0 k), .int .u8 y.toNat] w' fun e w'' => e = .returned (.bool v) ∧ w' = w'') := zz (fun w' => by
      have h := Zd5 (s.extract 0 k) y.toNat w' (by rw [Zr8 s k hk]; omega)
      rw [Zs5 s k hk, HV.out] at h
      exact h)
     have hkk : ¬ k < 0 := by omega
     cases v
     ·go_wp2_with fail
      refine Zb5 (wr) rfl (by kernel_rfl) (by kernel_rfl) ?_
      repeat (go_big_quiet_step ((go_at_call 124; exact Calls.quietx_same (HC.out _))))
      refine wpQuiet_nil ?_
      intro _ hw'
      obtain ⟨xq, hw''⟩ := hw'
      subst hw''
      have hbq := Zf9 (wr) xq
      generalize extW (wr) xq = wq at hbq ⊢
      go_wp2_with fail
      go_ret
      refine ⟨ret_b (Eq.symm ?_), HBL.out.trans (hbq.mono (by omega))⟩
      rw [Bool.eq_false_iff]
      intro hb
      obtain ⟨_, _, h3⟩ := Zd6.1 hb
      have h4 := h3 k hk1 (by rw [HLS.out]; exact hlt)
      rw [HD.out, HV.out] at h4
      cases h4
     ·go_wp2_with fail
      refine Zb5 (wr) rfl (by kernel_rfl) (by kernel_rfl) ?_
      repeat (go_big_quiet_step ((go_at_call 124; exact Calls.quietx_same (HC.out _))))
      refine wpQuiet_nil ?_
      intro _ hw'
      obtain ⟨xq, hw''⟩ := hw'
      subst hw''
      have hbq := Zf9 (wr) xq
      generalize extW (wr) xq = wq at hbq ⊢
      go_wp2_with fail
      go_roundw
      case rel =>
       refine ⟨k + 1, by omega, by omega, by go_num, zz (fun j h1 h2 => ?_), HBL.out.trans (hbq.mono (by omega))⟩
       rcases Nat.lt_succ_iff_lt_or_eq.1 h2 with h | rfl
       ·exact HF.out j h1 h
       ·rw [HD.out]; exact HV.out
      case measure => simp [intOf]; omega
    ·have hkn : k = s.size := by omega
     have HKN := zz hkn
     clear hkn
     go_wp2_with fail
     go_ret
     refine ⟨ret_b (Eq.symm (Zd6.2 ⟨?_, ?_, ?_⟩)), HBL.out⟩
     ·rw [HLS.out]; omega
     ·rw [HLS.out, HH.out, HU.out]; omega
     ·rw [HLS.out]
      have := HF.out
      rw [HKN.out] at this
      exact this
end
section
theorem Zj4 {s : ByteArray} (h : ¬ s.size = 0) : s.toList.isEmpty = false := by
 rw [Lib.toList_data]
 have hl : s.data.toList.length = s.size := rfl
 cases hd : s.data.toList with
 | nil => rw [hd] at hl; simp at hl; omega
 | cons _ _ => rfl
def Cut5 (p : PV) (w1 : World) (s3 s4 s5 : Value) (wx : World) : Prop := s3 = .bool (cE p) ∧ s4 = .bool (tE p) ∧ s5 = .bool (uE p) ∧ Below w1.heap.size w1 wx
theorem Zn5 (ap : Option Addr) (cp : Nat) (p : PV) (w : World) (ha : Sl iE 1 w ap p.args) (hZ : PvSz p 1048576) :
 Calls Tryz.prog 44 #[.agg #[.int .i64 p.state, .slice ap p.args.length cp, .bool p.priv, .string p.text, .string p.utf]] w fun e w' => e = .returned (.bool (pvB p)) ∧ Below w.heap.size w w' := by
 have HA := zz (ha.alloc (.cells #[.int .i64 p.state, .slice ap p.args.length cp, .bool p.priv, .string p.text, .string p.utf] 42))
 have z1 := hZ.args
 have z2 := hZ.text
 have z3 := hZ.utf
 clear ha hZ
 go_enter Tryz.func44, Tryz.ntmps44
 go_upto_region 1 with fail
 have a_0 : (w.alloc (.cells #[.int .i64 p.state, .slice ap p.args.length cp, .bool p.priv, .string p.text, .string p.utf] 42)).cell? ⟨w.heap.size, 0, none⟩ = some (.int .i64 p.state) := by simp [go_sem]
 have a_1 : (w.alloc (.cells #[.int .i64 p.state, .slice ap p.args.length cp, .bool p.priv, .string p.text, .string p.utf] 42)).cell? ⟨w.heap.size, 1, none⟩ = some (.slice ap p.args.length cp) := by simp [go_sem]
 have a_2 : (w.alloc (.cells #[.int .i64 p.state, .slice ap p.args.length cp, .bool p.priv, .string p.text, .string p.utf] 42)).cell? ⟨w.heap.size, 2, none⟩ = some (.bool p.priv) := by simp [go_sem]
 have a_3 : (w.alloc (.cells #[.int .i64 p.state, .slice ap p.args.length cp, .bool p.priv, .string p.text, .string p.utf] 42)).cell? ⟨w.heap.size, 3, none⟩ = some (.string p.text) := by simp [go_sem]
 have a_4 : (w.alloc (.cells #[.int .i64 p.state, .slice ap p.args.length cp, .bool p.priv, .string p.text, .string p.utf] 42)).cell? ⟨w.heap.size, 4, none⟩ = some (.string p.utf) := by simp [go_sem]
 have HB1 : Hid (Below w.heap.size w (w.alloc (.cells #[.int .i64 p.state, .slice ap p.args.length cp, .bool p.priv, .string p.text, .string p.utf] 42))) := zz ((Below.refl w.heap.size w).alloc (Nat.le_refl _) _)
 have hw1 : w.heap.size < (w.alloc (.cells #[.int .i64 p.state, .slice ap p.args.length cp, .bool p.priv, .string p.text, .string p.utf] 42)).heap.size := by simp
 generalize (w.alloc (.cells #[.int .i64 p.state, .slice ap p.args.length cp, .bool p.priv, .string p.text, .string p.utf] 42)) = w1 at *
 go_cut [3, 4, 5] (fun s3 s4 s5 wx => Cut5 p w1 s3 s4 s5 wx)
 case first =>
  have hpv : ∀ b, p.priv = b → w1.cell? ⟨w.heap.size, 2, none⟩ = some (.bool b) := fun b hb => by rw [a_2, hb]
  obtain ⟨pv, hp⟩ := eX (p.priv)
  replace a_2 := hpv pv hp
  have HP := zz hp
  clear hpv hp
  by_cases c1 : p.args.length = 0
  all_goals by_cases c3 : p.text.size = 0
  all_goals by_cases c4 : p.utf.size = 0
  all_goals
   have HC : Hid (cE p = (decide (p.args.length = 0) && !pv)) := zz (by unfold cE; rw [HP.out]; rfl)
   have HT : Hid (tE p = decide (p.text.size = 0)) := zz rfl
   have HU : Hid (uE p = decide (p.utf.size = 0)) := zz rfl
   have d1 : ((p.args.length : Int) == 0) = decide (p.args.length = 0) := by rw [Bool.eq_iff_iff]; simp only [beq_iff_eq, decide_eq_true_eq]; omega
   have e3 : p.text.toList.isEmpty = decide (p.text.size = 0) := by
    by_cases h : p.text.size = 0
    ·rw [Zf0.1 h]; rw [Lib.toList_data]; rfl
    ·rw [Zj4 h]; simp [h]
   have e4 : p.utf.toList.isEmpty = decide (p.utf.size = 0) := by
    by_cases h : p.utf.size = 0
    ·rw [Zf0.1 h]; rw [Lib.toList_data]; rfl
    ·rw [Zj4 h]; simp [h]
   have HK := zz c1
   have HK3 := zz c3
   have HK4 := zz c4
   first | rw [decide_eq_true c1] at HC d1 | rw [decide_eq_false c1] at HC d1
   first | rw [decide_eq_true c3] at HT e3 | rw [decide_eq_false c3] at HT e3
   first | rw [decide_eq_true c4] at HU e4 | rw [decide_eq_false c4] at HU e4
   clear c1 c3 c4
   have xq0 := Ye0 (w := w1) (b := w.heap.size) (by (try simp) <;> (try omega))
   refine Zb5 (w1) rfl (by kernel_rfl) (by kernel_rfl) ?_
   repeat (go_big_quiet_step (fail))
   refine wpQuiet_nil ?_
   intro _ hw'
   obtain ⟨xq, hw''⟩ := hw'
   subst hw''
   have hbq := Zf9 (w1) xq
   generalize extW (w1) xq = wq at hbq ⊢
   clear xq0
   try go_wp2_with fail
   go_meet
   exact ⟨by rw [HC.out]; simp, by rw [HT.out], by rw [HU.out], hbq⟩
 case rest =>
  obtain ⟨rfl, rfl, rfl, hb⟩ := hcut
  obtain ⟨c, hc⟩ := eX (cE p)
  obtain ⟨t, ht⟩ := eX (tE p)
  obtain ⟨u, hu⟩ := eX (uE p)
  rw [hc, ht, hu]
  have HC := zz hc
  have HT := zz ht
  have HU := zz hu
  obtain ⟨wd, hwd⟩ : ∃ x, x = wc := ⟨_, rfl⟩
  subst hwd
  have hzd := hb.size
  have HBD := zz (HB1.out.trans (hb.mono (by omega)))
  have hwd : w.heap.size < wd.heap.size := by omega
  have HAD := zz (HA.out.keep hb)
  have q_0 := kC hb hw1 a_0
  have q_1 := kC hb hw1 a_1
  have q_2 := kC hb hw1 a_2
  have q_3 := kC hb hw1 a_3
  have q_4 := kC hb hw1 a_4
  clear hb hc ht hu a_0 a_1 a_2 a_3 a_4
  obtain ⟨st, hst⟩ := eX (p.state)
  rw [hst] at q_0
  have HST := zz hst
  clear hst
  by_cases hk : st = 0
  case pos =>
   have g0 : (st == 0) = true := by subst hk; rfl
   have g1 : (st == 1) = false := by subst hk; rfl
   have g2 : (st == 2) = false := by subst hk; rfl
   have g3 : (st == 3) = false := by subst hk; rfl
   have g4 : (st == 4) = false := by subst hk; rfl
   have g5 : (st == 5) = false := by subst hk; rfl
   have g6 : (st == 6) = false := by subst hk; rfl
   have HK : Hid (p.state = 0) := zz (by rw [HST.out, hk])
   clear hk HST
   have HV : Hid (pvB p = ((c && t) && u)) := zz (by unfold pvB; rw [HK.out, HC.out, HT.out, HU.out]; rfl)
   cases c <;> cases t
   all_goals
    go_wp2_with fail
    go_ret
    exact ⟨ret_b (by rw [HV.out]; rfl), HBD.out⟩
  have g0 : (st == 0) = false := beq_eq_false_iff_ne.2 hk
  by_cases hk : st = 1
  case pos =>
   have g0 : (st == 0) = false := by subst hk; rfl
   have g1 : (st == 1) = true := by subst hk; rfl
   have g2 : (st == 2) = false := by subst hk; rfl
   have g3 : (st == 3) = false := by subst hk; rfl
   have g4 : (st == 4) = false := by subst hk; rfl
   have g5 : (st == 5) = false := by subst hk; rfl
   have g6 : (st == 6) = false := by subst hk; rfl
   have HK : Hid (p.state = 1) := zz (by rw [HST.out, hk])
   clear hk HST
   have HV : Hid (pvB p = ((c && t) && u)) := zz (by unfold pvB; rw [HK.out, HC.out, HT.out, HU.out]; rfl)
   cases c <;> cases t
   all_goals
    go_wp2_with fail
    go_ret
    exact ⟨ret_b (by rw [HV.out]; rfl), HBD.out⟩
  have g1 : (st == 1) = false := beq_eq_false_iff_ne.2 hk
  by_cases hk : st = 2
  case pos =>
   have g0 : (st == 0) = false := by subst hk; rfl
   have g1 : (st == 1) = false := by subst hk; rfl
   have g2 : (st == 2) = true := by subst hk; rfl
   have g3 : (st == 3) = false := by subst hk; rfl
   have g4 : (st == 4) = false := by subst hk; rfl
   have g5 : (st == 5) = false := by subst hk; rfl
   have g6 : (st == 6) = false := by subst hk; rfl
   have HK : Hid (p.state = 2) := zz (by rw [HST.out, hk])
   clear hk HST
   obtain ⟨v, hv⟩ := eX (argsB p.args)
   have HVV := zz hv
   have HV : Hid (pvB p = ((v && t) && u)) := zz (by unfold pvB; rw [HK.out, HT.out, HU.out, hv]; rfl)
   clear hv
   cases v <;> cases t
   all_goals
    go_wp2_with (go_at_call 69; refine (Zt1 ap cp p.args _ HAD.out (by omega)).mono ?_; rw [HVV.out]; rintro e w' ⟨rfl, rfl⟩)
    go_ret
    exact ⟨ret_b (by rw [HV.out]; rfl), HBD.out⟩
  have g2 : (st == 2) = false := beq_eq_false_iff_ne.2 hk
  by_cases hk : st = 3
  case pos =>
   have g0 : (st == 0) = false := by subst hk; rfl
   have g1 : (st == 1) = false := by subst hk; rfl
   have g2 : (st == 2) = false := by subst hk; rfl
   have g3 : (st == 3) = true := by subst hk; rfl
   have g4 : (st == 4) = false := by subst hk; rfl
   have g5 : (st == 5) = false := by subst hk; rfl
   have g6 : (st == 6) = false := by subst hk; rfl
   have HK : Hid (p.state = 3) := zz (by rw [HST.out, hk])
   clear hk HST
   have HV : Hid (pvB p = ((c && t) && u)) := zz (by unfold pvB; rw [HK.out, HC.out, HT.out, HU.out]; rfl)
   cases c <;> cases t
   all_goals
    go_wp2_with fail
    go_ret
    exact ⟨ret_b (by rw [HV.out]; rfl), HBD.out⟩
  have g3 : (st == 3) = false := beq_eq_false_iff_ne.2 hk
  by_cases hk : st = 4
  case pos =>
   have g0 : (st == 0) = false := by subst hk; rfl
   have g1 : (st == 1) = false := by subst hk; rfl
   have g2 : (st == 2) = false := by subst hk; rfl
   have g3 : (st == 3) = false := by subst hk; rfl
   have g4 : (st == 4) = true := by subst hk; rfl
   have g5 : (st == 5) = false := by subst hk; rfl
   have g6 : (st == 6) = false := by subst hk; rfl
   have HK : Hid (p.state = 4) := zz (by rw [HST.out, hk])
   clear hk HST
   obtain ⟨v, hv⟩ := eX (titB p.text)
   have HVV := zz hv
   have HV : Hid (pvB p = ((c && v) && u)) := zz (by unfold pvB; rw [HK.out, HC.out, HU.out, hv]; rfl)
   clear hv
   cases c <;> cases v
   all_goals
    go_wp2_with (go_at_call 52; refine (Za9 p.text _ (by omega)).mono ?_; rw [HVV.out]; rintro e w' ⟨rfl, rfl⟩)
    go_ret
    exact ⟨ret_b (by rw [HV.out]; rfl), HBD.out⟩
  have g4 : (st == 4) = false := beq_eq_false_iff_ne.2 hk
  by_cases hk : st = 5
  case pos =>
   have g0 : (st == 0) = false := by subst hk; rfl
   have g1 : (st == 1) = false := by subst hk; rfl
   have g2 : (st == 2) = false := by subst hk; rfl
   have g3 : (st == 3) = false := by subst hk; rfl
   have g4 : (st == 4) = false := by subst hk; rfl
   have g5 : (st == 5) = true := by subst hk; rfl
   have g6 : (st == 6) = false := by subst hk; rfl
   have HK : Hid (p.state = 5) := zz (by rw [HST.out, hk])
   clear hk HST
   obtain ⟨v, hv⟩ := eX (titB p.text)
   have HVV := zz hv
   have HV : Hid (pvB p = ((c && v) && u)) := zz (by unfold pvB; rw [HK.out, HC.out, HU.out, hv]; rfl)
   clear hv
   cases c <;> cases v
   all_goals
    go_wp2_with (go_at_call 52; refine (Za9 p.text _ (by omega)).mono ?_; rw [HVV.out]; rintro e w' ⟨rfl, rfl⟩)
    go_ret
    exact ⟨ret_b (by rw [HV.out]; rfl), HBD.out⟩
  have g5 : (st == 5) = false := beq_eq_false_iff_ne.2 hk
  by_cases hk : st = 6
  case pos =>
   have g0 : (st == 0) = false := by subst hk; rfl
   have g1 : (st == 1) = false := by subst hk; rfl
   have g2 : (st == 2) = false := by subst hk; rfl
   have g3 : (st == 3) = false := by subst hk; rfl
   have g4 : (st == 4) = false := by subst hk; rfl
   have g5 : (st == 5) = false := by subst hk; rfl
   have g6 : (st == 6) = true := by subst hk; rfl
   have HK : Hid (p.state = 6) := zz (by rw [HST.out, hk])
   clear hk HST
   obtain ⟨v, hv⟩ := eX (begB p.utf.data.toList)
   have HVV := zz hv
   have HV : Hid (pvB p = ((c && t) && v)) := zz (by unfold pvB; rw [HK.out, HC.out, HT.out, hv]; rfl)
   clear hv
   cases c <;> cases t
   all_goals
    go_wp2_with (go_at_call 86; refine (Zo3 p.utf _ (by omega)).mono ?_; rw [HVV.out]; rintro e wb ⟨rfl, hbb⟩; have HBB := zz (HBD.out.trans (hbb.mono (by omega))); clear hbb)
    go_ret
    exact ⟨ret_b (by rw [HV.out]; rfl), HBB.out⟩
  have g6 : (st == 6) = false := beq_eq_false_iff_ne.2 hk
  have HV : Hid (pvB p = false) := zz (by
   have h := HST.out
   simp only [beq_eq_false_iff_ne] at g0 g1 g2 g3 g4 g5 g6
   unfold pvB
   rw [h, if_neg (by omega), if_neg (by omega), if_neg (by omega), if_neg (by omega)])
  clear HST
  go_wp2_with fail
  go_ret
  exact ⟨ret_b (by rw [HV.out]), HBD.out⟩
end
section
structure Mid (lo hi : Nat) (w w' : World) : Prop where
 os : w'.os = w.os
 tape : w'.tape = w.tape
 output : w'.output = w.output
 size : w.heap.size ≤ w'.heap.size
 block : ∀ k, k < w.heap.size → (k < lo ∨ hi ≤ k) → w'.heap[k]? = w.heap[k]?
theorem Mid.refl (lo hi : Nat) (w : World) : Mid lo hi w w := ⟨rfl, rfl, rfl, Nat.le_refl _, fun _ _ _ => rfl⟩
theorem Mid.trans {lo hi : Nat} {a b c : World} (h : Mid lo hi a b) (k : Mid lo hi b c) : Mid lo hi a c :=
 ⟨k.os.trans h.os, k.tape.trans h.tape, k.output.trans h.output, Nat.le_trans h.size k.size, fun i hi hd => (k.block i (Nat.lt_of_lt_of_le hi h.size) hd).trans (h.block i hi hd)⟩
theorem Mid.of_below {w w' : World} (lo hi : Nat) (h : Below w.heap.size w w') : Mid lo hi w w' := ⟨h.os, h.tape, h.output, h.size, fun k hk _ => h.block k hk⟩
theorem Mid.mono {lo hi lo' hi' : Nat} {w w' : World} (h : Mid lo hi w w') (h1 : lo' ≤ lo) (h2 : hi ≤ hi') : Mid lo' hi' w w' :=
 ⟨h.os, h.tape, h.output, h.size, fun k hk hd => h.block k hk (by omega)⟩
theorem Mid.below {lo hi B : Nat} {w w' : World} (h : Mid lo hi w w') (h1 : B ≤ lo) (h2 : B ≤ w.heap.size) : Below B w w' :=
 ⟨h.os, h.tape, h.output, h.size, fun k hk => h.block k (by omega) (by omega)⟩
theorem Mid.setCell {lo hi : Nat} {a w : World} (h : Mid lo hi a w) {p : Addr} (h1 : lo ≤ p.block) (h2 : p.block < hi) (u : Value) : Mid lo hi a (w.setCell p u) :=
 h.trans ⟨rfl, rfl, rfl, by simp [World.setCell], fun k _ hd => Below.heap_setCell _ _ _ _ (by omega)⟩
theorem Mid.cell {lo hi : Nat} {w w' : World} (h : Mid lo hi w w') {p : Addr} (hp : p.block < w.heap.size) (hd : p.block < lo ∨ hi ≤ p.block) : w'.cell? p = w.cell? p :=
 World.cell?_of_block (w := w) (h.block p.block hp hd)
theorem Mid.frozen {lo hi : Nat} {w w' : World} (h : Mid lo hi w w') {p : Addr} (hp : p.block < w.heap.size) (hd : p.block < lo ∨ hi ≤ p.block) : w'.frozen? p = w.frozen? p :=
 World.frozen?_of_block (w := w) (h.block p.block hp hd)
section
variable {α : Type} {enc : α → List Value} {sz : Nat} {w w' : World} {a : Option Addr} {xs : List α}
theorem Fr.alloc {e : TypeId} {lo hi : Nat} {v : Value} (h : Fr enc e sz lo hi v xs w) (o : Obj) : Fr enc e sz lo hi v xs (w.alloc o) := h.below (bA)
theorem Fr.drew {e : TypeId} {lo hi : Nat} {v : Value} (h : Fr enc e sz lo hi v xs w) : Fr enc e sz lo hi v xs w.drew := h.below ((Below.refl _ _).drew)
theorem SlIn.alloc {lo hi : Nat} (h : Sl enc sz w a xs ∧ ∀ b off, a = some ⟨b, off, none⟩ → lo ≤ b ∧ b < hi) (o : Obj) : Sl enc sz (w.alloc o) a xs ∧ ∀ b off, a = some ⟨b, off, none⟩ → lo ≤ b ∧ b < hi := ⟨h.1.alloc o, h.2⟩
def SlIn (enc : α → List Value) (sz lo hi : Nat) (w : World) (a : Option Addr) (xs : List α) : Prop := Sl enc sz w a xs ∧ ∀ b off, a = some ⟨b, off, none⟩ → lo ≤ b ∧ b < hi
theorem SlIn.below {lo hi : Nat} (h : SlIn enc sz lo hi w a xs) (hb : Below w.heap.size w w') : SlIn enc sz lo hi w' a xs := ⟨h.1.keep hb, h.2⟩
theorem SlIn.mono {lo hi lo' hi' : Nat} (h : SlIn enc sz lo hi w a xs) (h1 : lo' ≤ lo) (h2 : hi ≤ hi') : SlIn enc sz lo' hi' w a xs := ⟨h.1, fun b off e => by have := h.2 b off e; omega⟩
end
end
section
theorem Ze7 (g : Nat) (e : TypeId) : ∀ (news : List Value) (o : Nat) (w : World) (cur : Array Value), w.heap[g]? = some (.cells cur e (0, 0)) → o + news.length ≤ cur.size →
 ∃ cur', (w.setCells g o news).heap[g]? = some (.cells cur' e (0, 0)) ∧ cur'.size = cur.size ∧ cur'.toList.take (o + news.length) = cur.toList.take o ++ news
 | [], o, w, cur, hg, _ => ⟨cur, hg, rfl, by simp⟩
 | v :: r, o, w, cur, hg, hl => by
   simp only [List.length_cons] at hl
   obtain ⟨cur', h1, h2, h3⟩ := Ze7 g e r (o + 1) (w.setCell ⟨g, o, none⟩ v) (cur.setIfInBounds o v) (heap_setCell_same w g o cur e v hg) (by simp; omega)
   refine ⟨cur', h1, by simpa using h2, ?_⟩
   rw [show o + (v :: r).length = o + 1 + r.length by simp; omega, h3]
   have hlt : o < cur.toList.length := by rw [Array.length_toList]; omega
   have hlt' : o < cur.size := by omega
   rw [Array.toList_setIfInBounds, List.take_succ_eq_append_getElem (by simpa using hlt'), List.getElem_set_self, List.take_set_of_le (Nat.le_refl _), List.append_assoc]
   rfl
theorem Zc3 (g : Nat) : ∀ (news : List Value) (o : Nat) (w : World), w.grownBy (w.setCells g o news) (some g)
 | [], _, w => World.grownBy.refl _ _
 | v :: r, o, w => by
   have h1 := Zc3 g r (o + 1) (w.setCell ⟨g, o, none⟩ v)
   refine ⟨h1.os, h1.tape, h1.output, by rw [World.setCells]; have := h1.size; simpa using this, fun k hk hne => ?_⟩
   have := h1.block k (by simpa using hk) hne
   rw [World.setCells, this]
   exact Below.heap_setCell _ _ _ _ (fun e => hne (by rw [e]))
theorem Zb0 {P : Program} (w : World) (base : Nat) (t tx ty e : TypeId) (i : TypeInfo) (z : Value) (size bytes : Nat) (ht : P.underlying t = some (.slice e)) (hi : P.info? e = some i) (hz : i.zero = some z)
 (hsize : i.size = size) (hby : i.bytes = bytes) (hzs : z.cells.size = size)
 (v : Value) (n : Nat) (xs : List Value) (hown : w.ownsRow base e size v n xs) (x : Value) (m : Nat) (news : List Value) (hs : Src P size tx x m news w)
 (h63 : n + m ≤ maxLen) (hbytes : (n + m) * bytes ≤ 140737488355328) (hbase : base ≤ w.heap.size) :
 ∃ v' w', (Builtin.append_ #[t, tx] ty #[v, x]).run P w = .ok v' w' ∧ w'.ownsRow base e size v' (n + m) (xs ++ news) ∧ w.grownBy w' v.ownBlock ∧ (v'.ownBlock = v.ownBlock ∨ v'.ownBlock = some w.heap.size) := by
 subst hsize
 subst hby
 have hsmall : ((n + m : Nat) : Int) ≤ 9223372036854775807 := by simp only [maxLen] at h63; omega
 have hnl := hs.newsLen
 have hlen : (xs ++ news).length = (n + m) * i.size := by rw [List.length_append, hown.1, hnl, Nat.add_mul]
 have grown : ∀ (old : Nat) (row : Option Nat),
  (w.drew.alloc (.cells ((xs ++ news).toArray ++ Builtin.zeroCells z.cells (grownCap w (n + m) old e - (n + m))) e)).ownsRow base e i.size
    (.slice (some ⟨w.heap.size, 0, none⟩) (n + m) (grownCap w (n + m) old e)) (n + m) (xs ++ news) ∧
  w.grownBy (w.drew.alloc (.cells ((xs ++ news).toArray ++ Builtin.zeroCells z.cells (grownCap w (n + m) old e - (n + m))) e)) row := by
  intro old row
  have hge := grownCap_ge w (n + m) old e
  have hcm : grownCap w (n + m) old e ≤ maxLen := grownCap_le_maxLen w (n + m) old e h63
  refine ⟨⟨hlen, .inr ⟨w.heap.size, _, _, rfl, hbase, heap_alloc_new w.drew _, hge, hcm, ?_, ?_⟩⟩, ⟨rfl, rfl, rfl, by simp, fun k hk _ => Below.heap_alloc w.drew _ k hk⟩⟩
  ·simp only [Array.size_append, List.size_toArray, size_zeroCells, hzs]
   rw [hlen, ← Nat.add_mul]
   congr 1
   omega
  ·rw [← hlen, Array.toList_append]
   exact List.take_left
 rcases hown.2 with ⟨rfl, rfl⟩ | ⟨g, cap, cur, rfl, hbg, hg, hnc, hcm, hcs, htake⟩
 ·have hx : xs = [] := List.eq_nil_of_length_eq_zero (by simpa using hown.1)
  subst hx
  by_cases hm : m = 0
  ·subst hm
   have hn : news = [] := List.eq_nil_of_length_eq_zero (by simpa using hnl)
   subst hn
   exact ⟨.slice none 0 0, w, run_append_nothing w t tx ty e i ht hi none 0 0 (Nat.le_refl _) x hs, World.ownsRow_nil w base e i.size, ⟨rfl, rfl, rfl, Nat.le_refl _, fun _ _ _ => rfl⟩, .inl rfl⟩
  ·have hr := run_append_grow_src (P := P) w t tx ty e i z ht hi hz none 0 0 [] (run_firstCells_none w.drew i.size 0 0 0) x m news hs (by omega) (by simpa using hsmall) (growslice_fits (by omega) hbytes)
   have hgr := grown 0 (Value.ownBlock (.slice none 0 0))
   simp only [List.nil_append] at hgr hr ⊢
   exact ⟨_, _, hr, hgr.1, hgr.2, .inr rfl⟩
 ·by_cases hroom : n + m ≤ cap
  ·have hfit : n * i.size + news.length ≤ cur.size := by rw [hnl, hcs, ← Nat.add_mul]; exact Nat.mul_le_mul_right _ hroom
   have hc : ∀ j, j < news.length → (w.cell? ⟨g, 0 + n * i.size + j, none⟩).isSome = true := by
    intro j hj
    rw [cell_of_row w g _ cur e (0, 0) hg]
    rw [Array.getElem?_eq_getElem (by omega)]
    rfl
   have hf : ∀ j, j < news.length → w.frozen? ⟨g, 0 + n * i.size + j, none⟩ = false := fun j hj => frozen_of_row w g _ cur e hg
   have hr := run_append_room_src (P := P) w t tx ty e i ht hi g 0 n cap x m news hs hroom hc hf
   obtain ⟨cur', h1, h2, h3⟩ := Ze7 g e news (0 + n * i.size) w cur hg (by omega)
   refine ⟨_, _, hr, ⟨hlen, .inr ⟨g, cap, cur', rfl, hbg, h1, hroom, hcm, by omega, ?_⟩⟩, Zc3 g news _ w, .inl rfl⟩
   rw [Nat.add_mul, ← hnl]
   have h4 : 0 + n * i.size = n * i.size := Nat.zero_add _
   rw [h4] at h3
   rw [h3, htake]
  ·have holds : ∀ j u, xs[j]? = some u → w.drew.cell? ((⟨g, 0, none⟩ : Addr).add j) = some u := by
    have := hown.cells (g := g) rfl
    intro j u hu
    simpa using this j u hu
   have hr := run_append_grow_src (P := P) w t tx ty e i z ht hi hz (some ⟨g, 0, none⟩) n cap xs (run_firstCells_some w.drew i.size n ⟨g, 0, none⟩ n cap xs hown.1 holds) x m news hs (by omega) hsmall (growslice_fits (by omega) hbytes)
   have hgr := grown cap (Value.ownBlock (.slice (some ⟨g, 0, none⟩) n cap))
   exact ⟨_, _, hr, hgr.1, hgr.2, .inr rfl⟩
theorem Zc8 {P : Program} (w : World) {ops : Array Oper} {rest : List Oper} {o : Oper} {a : Act} {Q : Exit → Act → World → Prop} (hgd : o.guard = none) (s x : Operand) (t tx : TypeId)
 (ho : o.op = .call { callee := .builtin .append, args := #[s, x], argTypes := #[t, tx] })
 (base : Nat) (e : TypeId) (i : TypeInfo) (z : Value) (size bytes : Nat) (ht : P.underlying t = some (.slice e)) (hi : P.info? e = some i) (hz : i.zero = some z)
 (hsize : i.size = size) (hby : i.bytes = bytes) (hzs : z.cells.size = size)
 (v : Value) (n : Nat) (xs : List Value) (hs : a.eval s = v) (hown : w.ownsRow base e size v n xs)
 (xv : Value) (m : Nat) (news : List Value) (hx : a.eval x = xv) (hsrc : Src P size tx xv m news w)
 (h63 : n + m ≤ maxLen) (hbytes : (n + m) * bytes ≤ 140737488355328) (hbase : base ≤ w.heap.size)
 (h : ∀ v' w', w'.ownsRow base e size v' (n + m) (xs ++ news) → w.grownBy w' v.ownBlock → (v'.ownBlock = v.ownBlock ∨ v'.ownBlock = some w.heap.size) → wpList P ops Q rest (a.put o.dst v') w') : wpList P ops Q (o :: rest) a w := by
 refine wpList_plain hgd fun K hK => ?_
 obtain ⟨v', w', hr, h2, h3, h4⟩ := Zb0 (P := P) w base t tx o.type e i z size bytes ht hi hz hsize hby hzs v n xs hown xv m news hsrc h63 hbytes hbase
 unfold Oper.wp execOp
 simp only [ho, resolve, invoke, builtin, Sem.run_bind, Sem.run_pure, Result.andThen_ok, List.map_toArray, List.map_cons, List.map_nil, hs, hx, hr]
 exact hK _ _ (h v' w' h2 h3 h4)
section
variable {α : Type} {enc : α → List Value} {sz : Nat} {w w' : World} {a : Option Addr} {xs : List α}
theorem Src.ofSl {P : Program} {tx e' : TypeId} (hk : P.underlying tx = some (.slice e')) (hs : ∀ x, (enc x).length = sz) (h1 : ∀ x, ∀ u ∈ enc x, u.oneCell' = true) (h : Sl enc sz w a xs) (c : Nat) : Src P sz tx (.slice a xs.length c) xs.length (xs.flatMap enc) w := by
 have hone : ∀ u ∈ xs.flatMap enc, u.oneCell' = true := fun u hu => by
  obtain ⟨x, _, hx⟩ := List.mem_flatMap.1 hu
  exact h1 x u hx
 rcases h with rfl | ⟨b, off, rfl, hlt, hc⟩
 ·cases a with
  | none => exact Src.ofNil w hk c
  | some a => exact Src.ofSlice w hk a 0 c [] (by simp) (by simp) (by simp)
 ·refine Src.ofSlice w hk ⟨b, off, none⟩ _ c _ (fL enc sz hs xs) (fun j u hu => ?_) hone
  have hj : j < xs.length * sz := by rw [← fL enc sz hs xs]; exact (List.getElem?_eq_some_iff.1 hu).1
  have hsz : 0 < sz := by
   rcases Nat.eq_zero_or_pos sz with h | h
   ·rw [h] at hj; simp at hj
   ·exact h
  have hq : j / sz < xs.length := Nat.div_lt_of_lt_mul (by rw [Nat.mul_comm]; exact hj)
  have hr : j % sz < sz := Nat.mod_lt _ hsz
  have hj' : j = j / sz * sz + j % sz := by rw [Nat.mul_comm]; exact (Nat.div_add_mod j sz).symm
  have h2 := hc (j / sz) hq (j % sz) hr
  have h3 := Zc0 enc sz hs xs (j / sz) hq (j % sz) hr
  rw [← hj', hu] at h3
  rw [← h3] at h2
  have hadd : (⟨b, off, none⟩ : Addr).add j = ⟨b, off + j / sz * sz + j % sz, none⟩ := by
   rw [Addr.add_lit, Nat.add_assoc, ← hj']
  rw [hadd, h2]
theorem Zm3 (s : ByteArray) : byteCells s = s.data.toList.flatMap yE := by
 unfold byteCells
 induction s.data.toList with
 | nil => rfl
 | cons b l ih => simp [List.flatMap_cons, ih, yE]
theorem Fr.nil (enc : α → List Value) (e : TypeId) (sz lo hi : Nat) (w : World) : Fr enc e sz lo hi (.slice none 0 0) [] w :=
 ⟨⟨none, 0, rfl, Nat.le_refl _, World.ownsRow_nil _ _ _ _⟩, fun _ hk => by simp [Value.ownBlock] at hk⟩
theorem Fr.block {e : TypeId} {lo hi n cap : Nat} (h : Fr enc e sz lo hi (.slice a n cap) xs w) (h0 : 0 < xs.length) : ∃ g, a = some ⟨g, 0, none⟩ ∧ lo ≤ g ∧ g < hi ∧ g < w.heap.size ∧ w.ownsRow lo e sz (.slice (some ⟨g, 0, none⟩) xs.length cap) xs.length (xs.flatMap enc) := by
 obtain ⟨⟨a', cap', hv, h1, h2⟩, h3⟩ := h
 cases hv
 rcases h2.2 with ⟨_, hn⟩ | ⟨g, cap', cur, hv, hg, hb, _⟩
 ·omega
 ·cases hv
  exact ⟨g, rfl, hg, h3 g rfl, (Array.getElem?_eq_some_iff.1 hb).1, h2⟩
theorem Fr.len {e : TypeId} {lo hi n cap : Nat} (h : Fr enc e sz lo hi (.slice a n cap) xs w) : n = xs.length := by
 obtain ⟨⟨a', cap', hv, h1, h2⟩, h3⟩ := h
 cases hv
 rfl
theorem Fr.of_owns {e : TypeId} {lo hi g n cap : Nat} {cs : List Value} (h : w.ownsRow lo e sz (.slice (some ⟨g, 0, none⟩) n cap) n cs) (hn : n = xs.length) (hc : cs = xs.flatMap enc) (hg : g < hi) : Fr enc e sz lo hi (.slice (some ⟨g, 0, none⟩) n cap) xs w :=
 ⟨F_.of_own h hn hc, fun k hk => by cases hk; exact hg⟩
theorem Yg7 {base : Nat} {e : TypeId} {size : Nat} {v : Value} {n : Nat} {cs : List Value} (h : w.ownsRow base e size v n cs) (hb : Below w.heap.size w w') : w'.ownsRow base e size v n cs :=
 h.kept (Ze3 hb) (by cases hv : v.ownBlock <;> simp)
theorem Mid.of_grown {lo hi : Nat} {row : Option Nat} (h : w.grownBy w' row) (hr : ∀ k, row = some k → lo ≤ k ∧ k < hi) : Mid lo hi w w' :=
 ⟨h.os, h.tape, h.output, h.size, fun k hk hd => h.block k hk (fun e => by have := hr k e.symm; omega)⟩
theorem Fr.row {e : TypeId} {lo hi : Nat} {v : Value} (h : Fr enc e sz lo hi v xs w) : ∀ k, v.ownBlock = some k → lo ≤ k ∧ k < hi := fun k hk => ⟨(h.1.lt hk).1, h.2 k hk⟩
theorem wF {P : Program} {ops : Array Oper} {rest : List Oper} {o : Oper} {a : Act} {Q : Exit → Act → World → Prop} (hgd : o.guard = none) (s x : Operand) (t tx : TypeId)
 (ho : o.op = .call { callee := .builtin .append, args := #[s, x], argTypes := #[t, tx] })
 (lo hi : Nat) (e : TypeId) (i : TypeInfo) (z : Value) (size bytes : Nat) (ht : P.underlying t = some (.slice e)) (hinfo : P.info? e = some i) (hz : i.zero = some z)
 (hsize : i.size = size) (hby : i.bytes = bytes) (hzs : z.cells.size = size) (hbp : 0 < bytes)
 (v : Value) (zs : List α) (hs : a.eval s = v) (hF : Fr enc e size lo hi v zs w)
 (xv : Value) (ys : List α) (hx : a.eval x = xv) (hsrc : Src P size tx xv ys.length (ys.flatMap enc) w)
 (hbytes : (zs.length + ys.length) * bytes ≤ 140737488355328) (hlo : lo ≤ w.heap.size)
 (h : ∀ a' c' w' us, Hid (us = zs ++ ys) → Fr enc e size lo w'.heap.size (.slice a' us.length c') us w' → Mid lo hi w w' → wpList P ops Q rest (a.put o.dst (.slice a' us.length c')) w') : wpList P ops Q (o :: rest) a w := by
 have hrow := hF.row
 obtain ⟨⟨a', cap', rfl, h1, h2⟩, h3⟩ := hF
 refine Zc8 w hgd s x t tx ho lo e i z size bytes ht hinfo hz hsize hby hzs _ zs.length (zs.flatMap enc) hs h2 xv ys.length (ys.flatMap enc) hx hsrc ?_ hbytes hlo ?_
 ·have : zs.length + ys.length ≤ (zs.length + ys.length) * bytes := Nat.le_mul_of_pos_right _ hbp
  unfold maxLen; omega
 ·intro v' w' k1 k2 k3
  have hf : F_ enc e size lo v' (zs ++ ys) w' := F_.of_own k1 (by simp) (by simp)
  obtain ⟨a1, c1, rfl, _⟩ := id hf
  exact h a1 c1 w' _ rfl hf.here (Mid.of_grown k2 hrow)
theorem Src.ofBox {P : Program} {tx e' : TypeId} (hk : P.underlying tx = some (.slice e')) (hs : ∀ x, (enc x).length = sz) (h1 : ∀ x, ∀ u ∈ enc x, u.oneCell' = true) (x : α) (cs : Array Value) (T : TypeId) (hc : cs.toList = enc x) (b : Nat) (hb : b = w.heap.size) :
 Src P sz tx (.slice (some ⟨b, 0, none⟩) 1 1) [x].length ([x].flatMap enc) (w.alloc (.cells cs T)) := by
 subst hb
 refine Src.ofSlice _ hk ⟨w.heap.size, 0, none⟩ 1 1 _ (by simp [hs]) (fun j u hu => ?_) (fun u hu => h1 x u (by simpa using hu))
 have hj : cs[j]? = some u := by
  rw [← Array.getElem?_toList, hc]; simpa using hu
 rw [Addr.add_lit, Nat.zero_add, World.cell?_alloc_new]
 exact hj
theorem Src.ofStr {P : Program} {tx : TypeId} {w : World} (hk : P.underlying tx = some .string) (s : ByteArray) : Src P 1 tx (.string s) s.data.toList.length (s.data.toList.flatMap yE) w := by
 rw [← Zm3]
 exact Src.ofString w hk s
end
end
section
structure Upd (g lo hi : Nat) (S : Nat → Prop) (w w' : World) : Prop where
 os : w'.os = w.os
 tape : w'.tape = w.tape
 output : w'.output = w.output
 size : w.heap.size ≤ w'.heap.size
 block : ∀ k, k < w.heap.size → k ≠ g → ¬ S k → w'.heap[k]? = w.heap[k]?
 cell : ∀ o, (o < lo ∨ hi ≤ o) → w'.cell? ⟨g, o, none⟩ = w.cell? ⟨g, o, none⟩
 fz : ∀ o, w'.frozen? ⟨g, o, none⟩ = w.frozen? ⟨g, o, none⟩
section
variable {g lo hi : Nat} {S : Nat → Prop} {a w w' : World}
theorem Upd.refl : Upd g lo hi S w w := ⟨rfl, rfl, rfl, Nat.le_refl _, fun _ _ _ _ => rfl, fun _ _ => rfl, fun _ => rfl⟩
theorem Upd.trans (h : Upd g lo hi S a w) (k : Upd g lo hi S w w') : Upd g lo hi S a w' :=
 ⟨k.os.trans h.os, k.tape.trans h.tape, k.output.trans h.output, Nat.le_trans h.size k.size, fun i h1 h2 h3 => (k.block i (Nat.lt_of_lt_of_le h1 h.size) h2 h3).trans (h.block i h1 h2 h3), fun o ho => (k.cell o ho).trans (h.cell o ho), fun o => (k.fz o).trans (h.fz o)⟩
theorem Upd.setCell (h : Upd g lo hi S a w) (o : Nat) (h1 : lo ≤ o) (h2 : o < hi) (u : Value) : Upd g lo hi S a (w.setCell ⟨g, o, none⟩ u) :=
 h.trans ⟨rfl, rfl, rfl, by simp [World.setCell], fun k _ hk _ => Below.heap_setCell _ _ _ _ hk, fun o' ho => World.cell?_setCell_other _ _ _ _ (fun e => by cases e; omega), fun o' => World.frozen?_setCell _ _ _ _⟩
theorem Upd.below (h : Upd g lo hi S a w) (hb : Below w.heap.size w w') (hg : g < w.heap.size) : Upd g lo hi S a w' :=
 h.trans ⟨hb.os, hb.tape, hb.output, hb.size, fun k h1 _ _ => hb.block k h1, fun o _ => hb.cell (p := ⟨g, o, none⟩) hg, fun o => hb.frozen (p := ⟨g, o, none⟩) hg⟩
theorem Upd.mono {lo' hi' : Nat} {T : Nat → Prop} (h : Upd g lo hi S w w') (h1 : lo' ≤ lo) (h2 : hi ≤ hi') (hS : ∀ k, S k → T k) : Upd g lo' hi' T w w' :=
 ⟨h.os, h.tape, h.output, h.size, fun k a b c => h.block k a b (fun hs => c (hS k hs)), fun o ho => h.cell o (by omega), h.fz⟩
theorem Upd.toBelow {B : Nat} (h : Upd g lo hi S w w') (hB : B ≤ w.heap.size) (h1 : B ≤ g) (hS : ∀ k, S k → B ≤ k) : Below B w w' :=
 ⟨h.os, h.tape, h.output, h.size, fun k hk => h.block k (by omega) (by omega) (fun hs => by have := hS k hs; omega)⟩
variable {α : Type} {enc : α → List Value} {sz : Nat} {ad : Option Addr} {xs : List α}
theorem Sl.row (h : Sl enc sz w (some ⟨g, 0, none⟩) xs) (hg : g < w.heap.size) {q : Nat} (hq : q < xs.length) (hu : Upd g (q * sz) (q * sz + sz) S w w') (x : α) (hx : ∀ j, j < sz → w'.cell? ⟨g, q * sz + j, none⟩ = (enc x)[j]?) : Sl enc sz w' (some ⟨g, 0, none⟩) (xs.set q x) := by
 obtain ⟨b, off, he, hlt, hc⟩ := h.at hq
 simp only [Option.some.injEq, Addr.mk.injEq] at he
 obtain ⟨rfl, rfl, _⟩ := he
 refine .inr ⟨g, 0, rfl, Nat.lt_of_lt_of_le hg hu.size, fun i hi j hj => ?_⟩
 have hi' : i < xs.length := by simpa using hi
 rw [Nat.zero_add]
 by_cases hiq : i = q
 ·subst hiq
  rw [hx j hj]
  simp
 ·have h1 := hc i hi' j hj
  rw [Nat.zero_add] at h1
  rw [hu.cell _ (by
   rcases Nat.lt_or_gt_of_ne hiq with h | h
   ·left
    have : (i + 1) * sz ≤ q * sz := Nat.mul_le_mul_right _ h
    rw [Nat.add_mul] at this
    omega
   ·right
    have : (q + 1) * sz ≤ i * sz := Nat.mul_le_mul_right _ h
    rw [Nat.add_mul] at this
    omega), h1]
  rw [List.getElem_set_ne (fun e => hiq e.symm)]
def bO : Option Addr → List Nat
 | some p => [p.block]
 | none => []
theorem Fr.tight {e : TypeId} {B n c : Nat} (h : Fr enc e sz B w.heap.size (.slice ad n c) xs w) : ∃ b, Fr enc e sz b (b + 1) (.slice ad n c) xs w ∧ b ≤ w.heap.size ∧ (∀ k, b ≤ k → k < b + 1 → k < w.heap.size → k ∈ bO ad) ∧ (b < w.heap.size → b ∈ bO ad ∧ B ≤ b) := by
 obtain ⟨⟨a', cap', hv, h1, h2, h3⟩, h4⟩ := h
 cases hv
 rcases h3 with ⟨h3, hn⟩ | ⟨b, cap, cur, hv, hg, hb, r'⟩
 ·refine ⟨w.heap.size, ⟨⟨ad, c, rfl, h1, h2, .inl ⟨h3, hn⟩⟩, fun k hk => ?_⟩, Nat.le_refl _, fun k h5 _ h6 => by omega, fun h5 => by omega⟩
  rw [h3] at hk
  simp [Value.ownBlock] at hk
 ·cases hv
  have hlt := (Array.getElem?_eq_some_iff.1 hb).1
  refine ⟨b, ⟨⟨_, _, rfl, h1, h2, .inr ⟨b, _, cur, rfl, Nat.le_refl _, hb, r'⟩⟩, fun k hk => ?_⟩, Nat.le_of_lt hlt, fun k h5 h6 _ => ?_, fun _ => ⟨by simp [bO], hg⟩⟩
  ·simp [Value.ownBlock] at hk
   omega
  ·have : k = b := by omega
   subst this
   simp [bO]
end
end
section
def dig (k : Nat) : UInt8 := UInt8.ofNat (48 + k % 10)
end
section
def over {α : Type} (f : Nat → α) (xs : List α) (k : Nat) : List α := (List.range k).map f ++ xs.drop k
end
section
def Sep (g : Nat) (bs : List (List Nat)) : Prop :=
 (∀ i (h : i < bs.length), g ∉ bs[i] ∧ bs[i].Nodup) ∧ ∀ i j (hi : i < bs.length) (hj : j < bs.length), i ≠ j → ∀ b ∈ bs[i], b ∉ bs[j]
structure RowsR {R : Type} (enc : R → List Value) (sz : Nat) (ok : Nat → World → R → Prop) (blk : R → List Nat) (B : Nat) (w : World) (g : Nat) (rs : List R) : Prop where
 low : B ≤ g
 lt : g < w.heap.size
 sl : Sl enc sz w (some ⟨g, 0, none⟩) rs
 fz : ∀ o, w.frozen? ⟨g, o, none⟩ = false
 ok : ∀ i (h : i < rs.length), ok B w rs[i]
 sep : Sep g (rs.map blk)
section
variable {R : Type} {enc : R → List Value} {sz : Nat} {ok : Nat → World → R → Prop} {blk : R → List Nat} {B : Nat} {w w' : World} {g : Nat} {rs : List R}
theorem RowsR.step (h : RowsR enc sz ok blk B w g rs) {q : Nat} (hq : q < rs.length) {x : R} (hb : blk x = blk rs[q])
 (hu : Upd g (q * sz) (q * sz + sz) (· ∈ blk rs[q]) w w') (hx : ∀ j, j < sz → w'.cell? ⟨g, q * sz + j, none⟩ = (enc x)[j]?) (ho : ok B w' x)
 (hk : ∀ r, ok B w r → (∀ k ∈ blk r, k ≠ g ∧ k ∉ blk rs[q]) → ok B w' r) : RowsR enc sz ok blk B w' g (rs.set q x) where
 low := h.low
 lt := Nat.lt_of_lt_of_le h.lt hu.size
 sl := Sl.row h.sl h.lt hq hu x hx
 fz := fun o => (hu.fz o).trans (h.fz o)
 ok := fun i hi => by
  have hi' : i < rs.length := by simpa using hi
  by_cases hiq : i = q
  ·subst hiq
   simpa using ho
  ·rw [List.getElem_set_ne (fun e => hiq e.symm)]
   refine hk _ (h.ok i hi') (fun k hk' => ⟨fun e => ?_, ?_⟩)
   ·subst e
    have := (h.sep.1 i (by simpa using hi')).1
    simp at this
    exact this hk'
   ·have := h.sep.2 i q (by simpa using hi') (by simpa using hq) hiq k (by simpa using hk')
    simpa using this
 sep := by
  have : (rs.set q x).map blk = rs.map blk := by
   rw [List.map_set, hb]
   exact List.ext_getElem (by simp) (fun i h1 h2 => by
    by_cases hiq : q = i
    ·subst hiq; simp
    ·rw [List.getElem_set_ne hiq])
  rw [this]
  exact h.sep
theorem RowsR.in (h : RowsR enc sz ok blk B w g rs) {q : Nat} (hq : q < rs.length) : g ∉ blk rs[q] ∧ (blk rs[q]).Nodup := by
 have := h.sep.1 q (by simpa using hq)
 simpa using this
theorem RowsR.below (h : RowsR enc sz ok blk B w g rs) (hb : Below w.heap.size w w') (hk : ∀ r, ok B w r → ok B w' r) : RowsR enc sz ok blk B w' g rs where
 low := h.low
 lt := Nat.lt_of_lt_of_le h.lt hb.size
 sl := h.sl.keep hb
 fz := fun o => (hb.frozen (p := ⟨g, o, none⟩) h.lt).trans (h.fz o)
 ok := fun i hi => hk _ (h.ok i hi)
 sep := h.sep
end
end
section
structure RowsG {R : Type} (own : Nat → World → R → Prop) (blk : R → List Nat) (st : R → Prop) (B : Nat) (w : World) (L : List R) : Prop where
 ow : ∀ r ∈ L, own B w r
 nd : ∀ r ∈ L, (blk r).Nodup
 bd : ∀ r ∈ L, ∀ b ∈ blk r, B ≤ b ∧ b < w.heap.size
 sta : ∀ r ∈ L, st r
 ap : L.Pairwise (fun r s => ∀ b ∈ blk r, b ∉ blk s)
structure RowNew {R : Type} (own : Nat → World → R → Prop) (blk : R → List Nat) (st : R → Prop) (lo : Nat) (w : World) (t : R) : Prop where
 ow : own lo w t
 nd : (blk t).Nodup
 bd : ∀ b ∈ blk t, lo ≤ b ∧ b < w.heap.size
 sta : st t
section
variable {R : Type} {own : Nat → World → R → Prop} {blk : R → List Nat} {st : R → Prop} {B lo : Nat} {w w' : World} {L : List R} {t : R}
theorem RowsG.nil : RowsG own blk st B w [] := ⟨by simp, by simp, by simp, by simp, .nil⟩
theorem RowsG.to (h : RowsG own blk st B w L) (hz : w.heap.size ≤ w'.heap.size) (hk : ∀ r, own B w r → own B w' r) : RowsG own blk st B w' L :=
 ⟨fun r hr => hk r (h.ow r hr), h.nd, fun r hr b hb => ⟨(h.bd r hr b hb).1, Nat.lt_of_lt_of_le (h.bd r hr b hb).2 hz⟩, h.sta, h.ap⟩
theorem RowsG.snoc (h : RowsG own blk st B w L) (hz : w.heap.size ≤ w'.heap.size) (hk : ∀ r, own B w r → own B w' r) (hB : B ≤ w.heap.size) (ht : RowNew own blk st w.heap.size w' t) (hm : own w.heap.size w' t → own B w' t) : RowsG own blk st B w' (L ++ [t]) := by
 have h' := h.to hz hk
 refine ⟨?_, ?_, ?_, ?_, ?_⟩
 ·intro r hr
  rcases List.mem_append.1 hr with hr | hr
  ·exact h'.ow r hr
  ·simp at hr; subst hr; exact hm ht.ow
 ·intro r hr
  rcases List.mem_append.1 hr with hr | hr
  ·exact h'.nd r hr
  ·simp at hr; subst hr; exact ht.nd
 ·intro r hr b hb
  rcases List.mem_append.1 hr with hr | hr
  ·exact h'.bd r hr b hb
  ·simp at hr; subst hr
   have := ht.bd b hb
   exact ⟨by omega, this.2⟩
 ·intro r hr
  rcases List.mem_append.1 hr with hr | hr
  ·exact h'.sta r hr
  ·simp at hr; subst hr; exact ht.sta
 ·rw [List.pairwise_append]
  refine ⟨h.ap, List.pairwise_singleton _ _, fun r hr s hs b hb hbs => ?_⟩
  simp at hs
  subst hs
  have h1 := (h.bd r hr b hb).2
  have h2 := (ht.bd b hbs).1
  omega
theorem RowsG.rows {enc : R → List Value} {sz B' g : Nat} (h : RowsG own blk st B w L) (hs : Sl enc sz w (some ⟨g, 0, none⟩) L) (hB : B' ≤ g) (hg : g < B) (hgw : g < w.heap.size) (hf : ∀ o, w.frozen? ⟨g, o, none⟩ = false) (hm : ∀ r, own B w r → own B' w r) : RowsR enc sz own blk B' w g L where
 low := hB
 lt := hgw
 sl := hs
 fz := hf
 ok := fun i hi => hm _ (h.ow _ (List.getElem_mem hi))
 sep := by
  refine ⟨fun i hi => ?_, fun i j hi hj hij b hb => ?_⟩
  ·have hi' : i < L.length := by simpa using hi
   rw [List.getElem_map]
   refine ⟨fun hb => ?_, h.nd _ (List.getElem_mem hi')⟩
   have := h.bd _ (List.getElem_mem hi') g hb
   omega
  ·have hi' : i < L.length := by simpa using hi
   have hj' : j < L.length := by simpa using hj
   rw [List.getElem_map] at hb ⊢
   have hp := List.pairwise_iff_getElem.1 h.ap
   rcases Nat.lt_or_gt_of_ne hij with hlt | hlt
   ·exact hp i j hi' hj' hlt b hb
   ·exact fun hbj => hp j i hj' hi' hlt b hbj hb
theorem Zd3 (a : Option Addr) : (bO a).Nodup := by cases a <;> simp [bO]
theorem Fr.blks {α : Type} {enc : α → List Value} {sz : Nat} {e : TypeId} {hi n c : Nat} {ad : Option Addr} {xs : List α} (h : Fr enc e sz lo hi (.slice ad n c) xs w) : ∀ k ∈ bO ad, lo ≤ k ∧ k < hi := by
 intro k hk
 cases ad with
 | none => simp [bO] at hk
 | some p =>
   simp only [bO, List.mem_singleton] at hk
   subst hk
   exact (Fr.row h) p.block (by simp [Value.ownBlock])
theorem Fr.low {α : Type} {enc : α → List Value} {sz : Nat} {e : TypeId} {hi n c : Nat} {ad : Option Addr} {xs : List α} {B' : Nat} (h : Fr enc e sz lo hi (.slice ad n c) xs w) (h1 : B' ≤ lo) : Fr enc e sz B' hi (.slice ad n c) xs w := h.mono h1 (Nat.le_refl _)
theorem Fr.keepB {α : Type} {enc : α → List Value} {sz : Nat} {e : TypeId} {n c : Nat} {ad : Option Addr} {xs : List α} (h : Fr enc e sz B w.heap.size (.slice ad n c) xs w) (hb : Below w.heap.size w w') : Fr enc e sz B w'.heap.size (.slice ad n c) xs w' := (h.below hb).mono (Nat.le_refl _) hb.size
theorem Fr.setB {α : Type} {enc : α → List Value} {sz : Nat} {e : TypeId} {n c : Nat} {ad : Option Addr} {xs : List α} (h : Fr enc e sz B w.heap.size (.slice ad n c) xs w) {p : Addr} (hp : p.block < B) (u : Value) : Fr enc e sz B (w.setCell p u).heap.size (.slice ad n c) xs (w.setCell p u) := by
 have := h.setCell hp u
 simpa [World.setCell] using this
end
end
section
section
variable {α : Type} {enc : α → List Value} {w : World}
theorem Zk4 {P : Program} {o : Oper} {a : Act} {K : Act → World → Prop} {Q : Exit → Act → World → Prop} (s x : Operand) (t tx : TypeId)
 (ho : o.op = .call { callee := .builtin .append, args := #[s, x], argTypes := #[t, tx] })
 (lo hi : Nat) (e : TypeId) (i : TypeInfo) (z : Value) (size bytes : Nat) (ht : P.underlying t = some (.slice e)) (hinfo : P.info? e = some i) (hz : i.zero = some z)
 (hsize : i.size = size) (hby : i.bytes = bytes) (hzs : z.cells.size = size) (hbp : 0 < bytes)
 (v : Value) (zs : List α) (hs : a.eval s = v) (hF : Fr enc e size lo hi v zs w)
 (xv : Value) (ys : List α) (hx : a.eval x = xv) (hsrc : Src P size tx xv ys.length (ys.flatMap enc) w)
 (hbytes : (zs.length + ys.length) * bytes ≤ 140737488355328) (hlo : lo ≤ w.heap.size)
 (h : ∀ a' c' w' us, Hid (us = zs ++ ys) → Fr enc e size lo w'.heap.size (.slice a' us.length c') us w' → Mid lo hi w w' → K (a.put o.dst (.slice a' us.length c')) w') : o.wp P a w K Q := by
 have hrow := hF.row
 obtain ⟨⟨a', cap', rfl, h1, h2⟩, h3⟩ := hF
 have h63 : zs.length + ys.length ≤ maxLen := by
  have : zs.length + ys.length ≤ (zs.length + ys.length) * bytes := Nat.le_mul_of_pos_right _ hbp
  unfold maxLen; omega
 obtain ⟨v', w', hr, k1, k2, k3⟩ := Zb0 (P := P) w lo t tx o.type e i z size bytes ht hinfo hz hsize hby hzs _ zs.length (zs.flatMap enc) h2 xv ys.length (ys.flatMap enc) hsrc h63 hbytes hlo
 have hf : F_ enc e size lo v' (zs ++ ys) w' := F_.of_own k1 (by simp) (by simp)
 obtain ⟨a1, c1, rfl, _⟩ := id hf
 unfold Oper.wp execOp
 simp only [ho, resolve, invoke, builtin, Sem.run_bind, Sem.run_pure, Result.andThen_ok, List.map_toArray, List.map_cons, List.map_nil, hs, hx, hr]
 exact h a1 c1 w' _ rfl hf.here (Mid.of_grown k2 hrow)
theorem Zc5 {P : Program} {ops : Array Oper} {o : Oper} {a : Act} {K : Act → World → Prop} {Q : Exit → Act → World → Prop} {E : Prop} (hgd : o.guard = none) (s x : Operand) (t tx : TypeId)
 (ho : o.op = .call { callee := .builtin .append, args := #[s, x], argTypes := #[t, tx] })
 (lo hi : Nat) (e : TypeId) (i : TypeInfo) (z : Value) (size bytes : Nat) (ht : P.underlying t = some (.slice e)) (hinfo : P.info? e = some i) (hz : i.zero = some z)
 (hsize : i.size = size) (hby : i.bytes = bytes) (hzs : z.cells.size = size) (hbp : 0 < bytes)
 (v : Value) (zs : List α) (hs : a.eval s = v) (hF : Fr enc e size lo hi v zs w)
 (xv : Value) (ys : List α) (hx : a.eval x = xv) (hsrc : Src P size tx xv ys.length (ys.flatMap enc) w)
 (hbytes : (zs.length + ys.length) * bytes ≤ 140737488355328) (hlo : lo ≤ w.heap.size)
 (h : ∀ a' c' w' us, Hid (us = zs ++ ys) → Fr enc e size lo w'.heap.size (.slice a' us.length c') us w' → Mid lo hi w w' → K (a.put o.dst (.slice a' us.length c')) w') :
 if Region.wanted o (yielded ops a.tmps) = true then Oper.wp P o a w K Q else E := by
 have hw : Region.wanted o (yielded ops a.tmps) = true := by simp [Region.wanted, hgd]
 rw [if_pos hw]
 exact Zk4 s x t tx ho lo hi e i z size bytes ht hinfo hz hsize hby hzs hbp v zs hs hF xv ys hx hsrc hbytes hlo h
end
end
section
structure Ch (M : Nat → Prop) (w w' : World) : Prop where
 os : w'.os = w.os
 tape : w'.tape = w.tape
 output : w'.output = w.output
 size : w.heap.size ≤ w'.heap.size
 block : ∀ k, k < w.heap.size → ¬ M k → w'.heap[k]? = w.heap[k]?
section
variable {M N : Nat → Prop} {a w w' : World}
theorem Ch.refl : Ch M w w := ⟨rfl, rfl, rfl, Nat.le_refl _, fun _ _ _ => rfl⟩
theorem Ch.trans (h : Ch M a w) (k : Ch N w w') (hN : ∀ i, N i → M i ∨ a.heap.size ≤ i) : Ch M a w' :=
 ⟨k.os.trans h.os, k.tape.trans h.tape, k.output.trans h.output, Nat.le_trans h.size k.size, fun i h1 h2 => (k.block i (Nat.lt_of_lt_of_le h1 h.size) (fun t => by
   rcases hN i t with h4 | h4
   ·exact h2 h4
   ·omega)).trans (h.block i h1 h2)⟩
theorem Ch.mono (h : Ch N w w') (hN : ∀ i, N i → M i ∨ w.heap.size ≤ i) : Ch M w w' := Ch.trans Ch.refl h hN
theorem Ch.of_below (h : Below w.heap.size w w') : Ch M w w' := ⟨h.os, h.tape, h.output, h.size, fun k hk _ => h.block k hk⟩
theorem Ch.of_mid {l r : Nat} (h : Mid l r w w') (hM : ∀ k, l ≤ k → k < r → k < w.heap.size → M k) : Ch M w w' :=
 ⟨h.os, h.tape, h.output, h.size, fun k hk hn => h.block k hk (by
   rcases Nat.lt_or_ge k l with h1 | h1
   ·exact .inl h1
   ·rcases Nat.lt_or_ge k r with h2 | h2
    ·exact absurd (hM k h1 h2 hk) hn
    ·exact .inr h2)⟩
theorem Ch.setCell (h : Ch M a w) {p : Addr} (hp : M p.block ∨ a.heap.size ≤ p.block) (u : Value) : Ch M a (w.setCell p u) :=
 h.trans (N := fun k => k = p.block) ⟨rfl, rfl, rfl, by simp [World.setCell], fun k _ hk => Below.heap_setCell _ _ _ _ hk⟩ (fun i hi => by subst hi; exact hp)
theorem Ch.alloc (h : Ch M a w) (o : Obj) : Ch M a (w.alloc o) := h.trans (N := fun _ => False) (Ch.of_below (bA)) (fun _ h => h.elim)
theorem Ch.drew (h : Ch M a w) : Ch M a w.drew := h.trans (N := fun _ => False) (Ch.of_below ((Below.refl _ _).drew)) (fun _ h => h.elim)
theorem Ch.below1 (h : Ch M a w) (k : Below w.heap.size w w') : Ch M a w' := h.trans (N := fun _ => False) (Ch.of_below k) (fun _ h => h.elim)
theorem Ch.cell (h : Ch M w w') {p : Addr} (hp : p.block < w.heap.size) (hd : ¬ M p.block) : w'.cell? p = w.cell? p := World.cell?_of_block (w := w) (h.block p.block hp hd)
theorem Ch.frozen (h : Ch M w w') {p : Addr} (hp : p.block < w.heap.size) (hd : ¬ M p.block) : w'.frozen? p = w.frozen? p := World.frozen?_of_block (w := w) (h.block p.block hp hd)
theorem Ch.below {B : Nat} (h : Ch M w w') (hB : B ≤ w.heap.size) (hM : ∀ k, M k → B ≤ k) : Below B w w' :=
 ⟨h.os, h.tape, h.output, h.size, fun k hk => h.block k (by omega) (fun hm => by have := hM k hm; omega)⟩
variable {α : Type} {enc : α → List Value} {sz : Nat} {ad : Option Addr} {xs : List α}
theorem Sl.ch (h : Sl enc sz w ad xs) (hc : Ch M w w') (hd : ∀ k ∈ bO ad, ¬ M k) : Sl enc sz w' ad xs := by
 rcases h with h1 | ⟨b, off, rfl, hlt, hq⟩
 ·exact .inl h1
 ·exact .inr ⟨b, off, rfl, Nat.lt_of_lt_of_le hlt hc.size, fun i hi j hj => by
   rw [hc.cell (p := ⟨b, _, none⟩) hlt (hd b (by simp [bO]))]; exact hq i hi j hj⟩
theorem Fr.ch {e : TypeId} {B n c : Nat} (h : Fr enc e sz B w.heap.size (.slice ad n c) xs w) (hu : Ch M w w') (hd : ∀ k ∈ bO ad, ¬ M k) : Fr enc e sz B w'.heap.size (.slice ad n c) xs w' := by
 obtain ⟨⟨a', cap', hv, h1, h2, h3⟩, h4⟩ := h
 refine ⟨⟨a', cap', hv, h1, h2, ?_⟩, fun k hk => Nat.lt_of_lt_of_le (h4 k hk) hu.size⟩
 cases hv
 rcases h3 with h3 | ⟨b, cap, cur, hv, hg, hb, r'⟩
 ·exact .inl h3
 ·refine .inr ⟨b, cap, cur, hv, hg, ?_, r'⟩
  cases hv
  rw [hu.block b (Array.getElem?_eq_some_iff.1 hb).1 (hd b (by simp [bO]))]
  exact hb
end
structure OwnL {R : Type} (own : Nat → World → R → Prop) (blk : R → List Nat) : Prop where
 ch : ∀ {lo w w' r} {M : Nat → Prop}, own lo w r → Ch M w w' → (∀ k ∈ blk r, ¬ M k) → own lo w' r
 low : ∀ {lo lo' w r}, lo' ≤ lo → own lo w r → own lo' w r
 bd : ∀ {lo w r}, own lo w r → ∀ k ∈ blk r, lo ≤ k ∧ k < w.heap.size
 nd : ∀ {lo w r}, own lo w r → (blk r).Nodup
def roB {R : Type} (blk : R → List Nat) (am : Option Addr) (L : List R) : List Nat := bO am ++ L.flatMap blk
structure RO {R : Type} (enc : R → List Value) (T : TypeId) (sz : Nat) (own : Nat → World → R → Prop) (blk : R → List Nat) (lo : Nat) (L : List R) (am : Option Addr) (cm : Nat) (w : World) : Prop where
 row : Fr enc T sz lo w.heap.size (.slice am L.length cm) L w
 ow : ∀ r ∈ L, own lo w r
 nd : (roB blk am L).Nodup
section
variable {R : Type} {enc : R → List Value} {T : TypeId} {sz : Nat} {own : Nat → World → R → Prop} {blk : R → List Nat} {lo : Nat} {L : List R} {am : Option Addr} {cm : Nat} {w w' : World} {M : Nat → Prop}
theorem RO.nil : RO enc T sz own blk lo [] none 0 w := ⟨Fr.nil _ _ _ _ _ _, by simp, by simp [roB, bO]⟩
theorem RO.ch (hO : OwnL own blk) (h : RO enc T sz own blk lo L am cm w) (hc : Ch M w w') (hd : ∀ k ∈ roB blk am L, ¬ M k) : RO enc T sz own blk lo L am cm w' :=
 ⟨h.row.ch hc (fun k hk => hd k (by simp [roB, hk])), fun r hr => hO.ch (h.ow r hr) hc (fun k hk => hd k (by simp only [roB, List.mem_append, List.mem_flatMap]; exact .inr ⟨r, hr, hk⟩)), h.nd⟩
theorem RO.keep (hO : OwnL own blk) (h : RO enc T sz own blk lo L am cm w) (hb : Below w.heap.size w w') : RO enc T sz own blk lo L am cm w' := h.ch hO (M := fun _ => False) (Ch.of_below hb) (fun _ _ h => h)
theorem RO.bd (hO : OwnL own blk) (h : RO enc T sz own blk lo L am cm w) : ∀ k ∈ roB blk am L, lo ≤ k ∧ k < w.heap.size := by
 intro k hk
 simp only [roB, List.mem_append, List.mem_flatMap] at hk
 rcases hk with hk | ⟨r, hr, hk⟩
 ·exact Fr.blks h.row k hk
 ·exact hO.bd (h.ow r hr) k hk
theorem RO.low (hO : OwnL own blk) {lo' : Nat} (h : RO enc T sz own blk lo L am cm w) (hl : lo' ≤ lo) : RO enc T sz own blk lo' L am cm w := ⟨h.row.mono hl (Nat.le_refl _), fun r hr => hO.low hl (h.ow r hr), h.nd⟩
theorem RO.push (hO : OwnL own blk) {x : R} {us : List R} {am' : Option Addr} {cm' : Nat} (h : RO enc T sz own blk lo L am cm w) (hx : own lo w x) (hd : ∀ k ∈ blk x, k ∉ roB blk am L)
 (hus : us = L ++ [x]) (hf : Fr enc T sz lo w'.heap.size (.slice am' us.length cm') us w') (hc : Ch (· ∈ bO am) w w') (hk : ∀ k ∈ bO am', k ∈ bO am ∨ k = w.heap.size) : RO enc T sz own blk lo us am' cm' w' := by
 have hnd := h.nd
 simp only [roB, List.nodup_append] at hnd
 obtain ⟨n1, n2, n3⟩ := hnd
 subst hus
 refine ⟨hf, fun r hr => ?_, ?_⟩
 ·rcases List.mem_append.1 hr with hr | hr
  ·exact hO.ch (h.ow r hr) hc (fun k hk1 hk2 => n3 k hk2 k (List.mem_flatMap.2 ⟨r, hr, hk1⟩) rfl)
  ·simp at hr; subst hr
   exact hO.ch hx hc (fun k hk1 hk2 => hd k hk1 (by simp [roB, hk2]))
 ·simp only [roB, List.flatMap_append, List.flatMap_cons, List.flatMap_nil, List.append_nil, List.nodup_append]
  refine ⟨Zd3 _, ⟨n2, hO.nd hx, fun k hk1 j hj e => ?_⟩, fun k hk1 j hj e => ?_⟩
  ·subst e
   exact hd k hj (by simp only [roB, List.mem_append]; exact .inr hk1)
  ·subst e
   have hb : k ∈ L.flatMap blk ++ blk x → k < w.heap.size := fun hk2 => by
    rcases List.mem_append.1 hk2 with hk2 | hk2
    ·obtain ⟨r, hr, hk3⟩ := List.mem_flatMap.1 hk2
     exact (hO.bd (h.ow r hr) k hk3).2
    ·exact (hO.bd hx k hk2).2
   have hlt := hb (by simpa using hj)
   rcases hk k hk1 with h1 | h1
   ·rcases List.mem_append.1 (by simpa using hj : k ∈ L.flatMap blk ++ blk x) with h2 | h2
    ·exact n3 k h1 k h2 rfl
    ·exact hd k h2 (by simp [roB, h1])
   ·omega
end
section
variable {α : Type} {enc : α → List Value} {w : World}
theorem Zf8 {a : Option Addr} {n c : Nat} {k : Nat} : k ∈ bO a ↔ (Value.slice a n c).ownBlock = some k := by
 cases a with
 | none => simp [bO, Value.ownBlock]
 | some p => simp [bO, Value.ownBlock, eq_comm]
theorem wA {P : Program} {ops : Array Oper} {rest : List Oper} {o : Oper} {a : Act} {Q : Exit → Act → World → Prop} (s x : Operand) (t tx : TypeId)
 (lo : Nat) (e : TypeId) (i : TypeInfo) (z : Value) (size bytes : Nat) (ht : P.underlying t = some (.slice e)) (hinfo : P.info? e = some i) (hz : i.zero = some z)
 (hsize : i.size = size) (hby : i.bytes = bytes) (hzs : z.cells.size = size) (hbp : 0 < bytes)
 (ad : Option Addr) (n c : Nat) (zs : List α) (hF : Fr enc e size lo w.heap.size (.slice ad n c) zs w)
 (xv : Value) (ys : List α) (hsrc : Src P size tx xv ys.length (ys.flatMap enc) w)
 (hbytes : (zs.length + ys.length) * bytes ≤ 140737488355328) (hlo : lo ≤ w.heap.size)
 (hgd : o.guard = none) (ho : o.op = .call { callee := .builtin .append, args := #[s, x], argTypes := #[t, tx] }) (hs : a.eval s = .slice ad n c) (hx : a.eval x = xv)
 (h : ∀ a' c' w' us, Hid (us = zs ++ ys) → Fr enc e size lo w'.heap.size (.slice a' us.length c') us w' → Ch (· ∈ bO ad) w w' → (∀ k ∈ bO a', k ∈ bO ad ∨ k = w.heap.size) → wpList P ops Q rest (a.put o.dst (.slice a' us.length c')) w') : wpList P ops Q (o :: rest) a w := by
 obtain ⟨b, t1, t2, t3, t4⟩ := hF.tight
 have hblk := Fr.blks hF
 have hrow := t1.row
 obtain ⟨⟨a', cap', hv, h1, h2⟩, h3⟩ := t1
 cases hv
 refine Zc8 w hgd s x t tx ho b e i z size bytes ht hinfo hz hsize hby hzs _ zs.length (zs.flatMap enc) hs h2 xv ys.length (ys.flatMap enc) hx hsrc ?_ hbytes t2 ?_
 ·have : zs.length + ys.length ≤ (zs.length + ys.length) * bytes := Nat.le_mul_of_pos_right _ hbp
  unfold maxLen; omega
 ·intro v' w' k1 k2 k3
  have hf : F_ enc e size b v' (zs ++ ys) w' := F_.of_own k1 (by simp) (by simp)
  obtain ⟨a1, c1, rfl, _⟩ := id hf
  have hm : Mid b (b + 1) w w' := Mid.of_grown k2 hrow
  have hk : ∀ k ∈ bO a1, k ∈ bO ad ∨ k = w.heap.size := fun k hk => by
   have hk' := (Zf8 (n := (zs ++ ys).length) (c := c1)).1 hk
   rcases k3 with k3 | k3
   ·exact .inl ((Zf8 (n := zs.length) (c := c)).2 (k3 ▸ hk'))
   ·rw [k3] at hk'
    exact .inr (Option.some.inj hk').symm
  refine h a1 c1 w' _ rfl ?_ (Ch.of_mid hm t3) hk
  rcases Nat.lt_or_ge b w.heap.size with hb | hb
  ·exact hf.here.mono (t4 hb).2 (Nat.le_refl _)
  ·exact hf.here.mono (by omega) (Nat.le_refl _)
end
end
section
structure aA where
 A : AV
 aa : Option Addr
 ca : Nat
def actE (r : aA) : List Value := [.int .i64 r.A.kind, .int .i64 r.A.n, .bool r.A.priv, .slice r.aa r.A.args.length r.ca, .string r.A.text]
def Zb8 (r : aA) : List Nat := bO r.aa
def Zf3 (lo : Nat) (w : World) (r : aA) : Prop := Fr iE 3 1 lo w.heap.size (.slice r.aa r.A.args.length r.ca) r.A.args w
theorem actL : OwnL Zf3 Zb8 where
 ch := fun h hc hd => Fr.ch h hc hd
 low := fun hl h => Fr.low h hl
 bd := fun h k hk => Fr.blks h k hk
 nd := fun _ => Zd3 _
abbrev ActO (lo : Nat) (L : List aA) (al : Option Addr) (cl : Nat) (w : World) : Prop := RO actE 38 5 Zf3 Zb8 lo L al cl w
abbrev acB (al : Option Addr) (L : List aA) : List Nat := roB Zb8 al L
theorem Tryz.infoAction : (Tryz.prog.info? 38).map (fun i => (i.zero, i.size, i.bytes)) = some (some (.agg #[.int .i64 0, .int .i64 0, .bool false, .slice none 0 0, .string ⟨#[]⟩]), 5, 64) := by kernel_rfl
theorem Zd9 : ∀ (x : aA), ∀ u ∈ actE x, u.oneCell' = true := by
 intro x u hu
 simp only [actE, List.mem_cons, List.not_mem_nil, or_false] at hu
 rcases hu with rfl | rfl | rfl | rfl | rfl <;> rfl
structure PS (B lo : Nat) (p : PV) (ap : Option Addr) (cp : Nat) (L : List aA) (al : Option Addr) (cl : Nat) (w : World) : Prop where
 c0 : w.cell? ⟨B, 0, none⟩ = some (.int .i64 p.state)
 c1 : w.cell? ⟨B, 1, none⟩ = some (.slice ap p.args.length cp)
 c2 : w.cell? ⟨B, 2, none⟩ = some (.bool p.priv)
 c3 : w.cell? ⟨B, 3, none⟩ = some (.string p.text)
 c4 : w.cell? ⟨B, 4, none⟩ = some (.string p.utf)
 fz : ∀ o, w.frozen? ⟨B, o, none⟩ = false
 lt : B < w.heap.size
 args : Fr iE 3 1 lo w.heap.size (.slice ap p.args.length cp) p.args w
 ro : ActO lo L al cl w
 nB : B ∉ bO ap ++ acB al L
 nd : ∀ k ∈ bO ap, k ∉ acB al L
section
variable {B lo : Nat} {p p' : PV} {ap ap' al al' : Option Addr} {cp cp' cl cl' : Nat} {L us : List aA} {w w' w1 : World} {M : Nat → Prop}
theorem PS.ch (h : PS B lo p ap cp L al cl w) (hc : Ch M w w') (hB : ¬ M B) (hd : ∀ k ∈ bO ap ++ acB al L, ¬ M k) : PS B lo p ap cp L al cl w' where
 c0 := (hc.cell (p := ⟨B, 0, none⟩) h.lt hB).trans h.c0
 c1 := (hc.cell (p := ⟨B, 1, none⟩) h.lt hB).trans h.c1
 c2 := (hc.cell (p := ⟨B, 2, none⟩) h.lt hB).trans h.c2
 c3 := (hc.cell (p := ⟨B, 3, none⟩) h.lt hB).trans h.c3
 c4 := (hc.cell (p := ⟨B, 4, none⟩) h.lt hB).trans h.c4
 fz := fun o => (hc.frozen (p := ⟨B, o, none⟩) h.lt hB).trans (h.fz o)
 lt := Nat.lt_of_lt_of_le h.lt hc.size
 args := h.args.ch hc (fun k hk => hd k (by simp [hk]))
 ro := h.ro.ch actL hc (fun k hk => hd k (by rw [List.mem_append]; exact .inr hk))
 nB := h.nB
 nd := h.nd
theorem PS.keep (h : PS B lo p ap cp L al cl w) (hb : Below w.heap.size w w') : PS B lo p ap cp L al cl w' := h.ch (M := fun _ => False) (Ch.of_below hb) (fun h => h) (fun _ _ h => h)
theorem PS.cells (h : PS B lo p ap cp L al cl w) (hc : Ch (· = B) w w') (c0 : w'.cell? ⟨B, 0, none⟩ = some (.int .i64 p'.state)) (c1 : w'.cell? ⟨B, 1, none⟩ = some (.slice ap' p'.args.length cp')) (c2 : w'.cell? ⟨B, 2, none⟩ = some (.bool p'.priv))
 (c3 : w'.cell? ⟨B, 3, none⟩ = some (.string p'.text)) (c4 : w'.cell? ⟨B, 4, none⟩ = some (.string p'.utf)) (fz : ∀ o, w'.frozen? ⟨B, o, none⟩ = false) (ha : (ap' = ap ∧ cp' = cp ∧ p'.args = p.args) ∨ (ap' = none ∧ cp' = 0 ∧ p'.args = [])) : PS B lo p' ap' cp' L al cl w' := by
 have hne : ∀ k ∈ bO ap ++ acB al L, ¬ k = B := fun k hk e => h.nB (e ▸ hk)
 have hro := h.ro.ch actL hc (fun k hk => hne k (by rw [List.mem_append]; exact .inr hk))
 have hlt := Nat.lt_of_lt_of_le h.lt hc.size
 rcases ha with ⟨rfl, rfl, e⟩ | ⟨rfl, rfl, e⟩
 ·exact ⟨c0, c1, c2, c3, c4, fz, hlt, by rw [e]; exact h.args.ch hc (fun k hk => hne k (by simp [hk])), hro, h.nB, h.nd⟩
 ·refine ⟨c0, c1, c2, c3, c4, fz, hlt, by rw [e]; exact Fr.nil _ _ _ _ _ _, hro, fun hb => h.nB ?_, by simp [bO]⟩
  simp only [bO, List.nil_append] at hb
  rw [List.mem_append]; exact .inr hb
theorem PS.push (h : PS B lo p ap cp L al cl w) {x : aA} (hx : x.aa = none ∧ x.ca = 0 ∧ x.A.args = []) (hus : us = L ++ [x]) (hf : Fr actE 38 5 lo w'.heap.size (.slice al' us.length cl') us w') (hc : Ch (· ∈ bO al) w w')
 (hk : ∀ k ∈ bO al', k ∈ bO al ∨ k = w.heap.size) : PS B lo p ap cp us al' cl' w' := by
 have hB : B ∉ bO al := fun hb => h.nB (by simp [roB, hb])
 have hA : ∀ k ∈ bO ap, k ∉ bO al := fun k hk1 hk2 => h.nd k hk1 (by simp [roB, hk2])
 have hbx : Zb8 x = [] := by unfold Zb8; rw [hx.1]; rfl
 have hro : ActO lo us al' cl' w' := h.ro.push actL (by unfold Zf3; rw [hx.1, hx.2.1, hx.2.2]; exact Fr.nil _ _ _ _ _ _) (by rw [hbx]; simp) hus hf hc hk
 have hin : ∀ k ∈ acB al' us, k ∈ acB al L ∨ k = w.heap.size := by
  intro k hk1
  simp only [roB, List.mem_append] at hk1 ⊢
  rcases hk1 with hk1 | hk1
  ·rcases hk k hk1 with h2 | h2
   ·exact .inl (.inl h2)
   ·exact .inr h2
  ·rw [hus] at hk1
   simp only [List.flatMap_append, List.flatMap_cons, List.flatMap_nil, List.append_nil, hbx] at hk1
   exact .inl (.inr hk1)
 refine ⟨(hc.cell (p := ⟨B, 0, none⟩) h.lt hB).trans h.c0, (hc.cell (p := ⟨B, 1, none⟩) h.lt hB).trans h.c1, (hc.cell (p := ⟨B, 2, none⟩) h.lt hB).trans h.c2, (hc.cell (p := ⟨B, 3, none⟩) h.lt hB).trans h.c3, (hc.cell (p := ⟨B, 4, none⟩) h.lt hB).trans h.c4, fun o => (hc.frozen (p := ⟨B, o, none⟩) h.lt hB).trans (h.fz o), Nat.lt_of_lt_of_le h.lt hc.size, h.args.ch hc hA, hro, fun hb => ?_, fun k hk1 hk2 => ?_⟩
 ·rcases List.mem_append.1 hb with hb | hb
  ·exact h.nB (by simp [hb])
  ·rcases hin B hb with h2 | h2
   ·exact h.nB (List.mem_append.2 (.inr h2))
   ·have := h.lt; omega
 ·rcases hin k hk2 with h2 | h2
  ·exact h.nd k hk1 h2
  ·have := (Fr.blks h.args k hk1).2; omega
theorem PS.pushIn {x : aA} (hx : x.aa = none) (hus : us = L ++ [x]) (hk : ∀ k ∈ bO al', k ∈ bO al ∨ k = w.heap.size) : ∀ k ∈ acB al' us, k ∈ acB al L ∨ w.heap.size ≤ k := by
 intro k hk1
 have hbx : Zb8 x = [] := by unfold Zb8; rw [hx]; rfl
 simp only [roB, List.mem_append] at hk1 ⊢
 rcases hk1 with hk1 | hk1
 ·rcases hk k hk1 with h2 | h2
  ·exact .inl (.inl h2)
  ·exact .inr (by omega)
 ·rw [hus] at hk1
  simp only [List.flatMap_append, List.flatMap_cons, List.flatMap_nil, List.append_nil, hbx] at hk1
  exact .inl (.inr hk1)
end
def PR (B lo : Nat) (R : PV × List AV) (ap : Option Addr) (L : List aA) (al : Option Addr) (w : World) (e : Ending) (w' : World) : Prop :=
 ∃ (ap' : Option Addr) (cp' : Nat) (L' : List aA) (al' : Option Addr) (cl' : Nat), e = .returned (.slice al' L'.length cl') ∧ PS B lo R.1 ap' cp' L' al' cl' w' ∧ L'.map (·.A) = L.map (·.A) ++ R.2 ∧
  Ch (fun k => k = B ∨ k ∈ bO ap ∨ k ∈ bO al) w w' ∧ (∀ k ∈ bO ap' ++ acB al' L', k ∈ bO ap ++ acB al L ∨ w.heap.size ≤ k)
section
variable {B lo : Nat} {p p' : PV} {ap ap' al al' : Option Addr} {cp cp' cl cl' : Nat} {L us : List aA} {w w' w1 w2 : World} {R : PV × List AV} {e : Ending}
theorem PR.cells (h : PS B lo p ap cp L al cl w) (hc : Ch (· = B) w w') (hR1 : R.1 = p') (hR2 : R.2 = []) (h' : PS B lo p' ap' cp' L al cl w') (ha : ap' = ap ∨ ap' = none) : PR B lo R ap L al w (.returned (.slice al L.length cl)) w' := by
 refine ⟨ap', cp', L, al, cl, rfl, by rw [hR1]; exact h', by rw [hR2]; simp, hc.mono (fun i hi => .inl (.inl hi)), fun k hk => .inl ?_⟩
 rcases ha with rfl | rfl
 ·exact hk
 ·simp only [bO, List.nil_append] at hk
  rw [List.mem_append]; exact .inr hk
theorem PR.push (h : PS B lo p ap cp L al cl w) {x : aA} (hx : x.aa = none) (hus : us = L ++ [x]) (hk : ∀ k ∈ bO al', k ∈ bO al ∨ k = w1.heap.size) (hz : w.heap.size ≤ w1.heap.size)
 (hc : Ch (fun k => k = B ∨ k ∈ bO al) w w') (hR1 : R.1 = p') (hR2 : R.2 = [x.A]) (h' : PS B lo p' ap' cp' us al' cl' w') (ha : ap' = ap ∨ ap' = none) : PR B lo R ap L al w (.returned (.slice al' us.length cl')) w' := by
 refine ⟨ap', cp', us, al', cl', rfl, by rw [hR1]; exact h', by rw [hR2, hus]; simp, hc.mono (fun i hi => .inl (by rcases hi with h | h; exact .inl h; exact .inr (.inr h))), fun k hk1 => ?_⟩
 have hin := PS.pushIn (w := w1) (al := al) (L := L) hx hus hk
 rcases List.mem_append.1 hk1 with hk2 | hk2
 ·rcases ha with rfl | rfl
  ·exact .inl (List.mem_append.2 (.inl hk2))
  ·simp [bO] at hk2
 ·rcases hin k hk2 with h2 | h2
  ·exact .inl (List.mem_append.2 (.inr h2))
  ·exact .inr (by omega)
end
end
section
theorem Zt7 (n : Nat) : ctlI (n : Int) = ctl n := by
 unfold ctlI ctl inB
 rw [Bool.eq_iff_iff]
 simp only [Bool.or_eq_true, Bool.and_eq_true, decide_eq_true_eq, beq_iff_eq]
 omega
theorem Ch.setB {a w : World} {B : Nat} (h : Ch (fun k => k = B) a w) (o : Nat) (u : Value) : Ch (fun k => k = B) a (w.setCell ⟨B, o, none⟩ u) := Ch.setCell (M := fun k => k = B) (p := ⟨B, o, none⟩) h (Or.inl rfl) u
theorem Ch.set1 (w : World) (B o : Nat) (u : Value) : Ch (fun k => k = B) w (w.setCell ⟨B, o, none⟩ u) := Ch.refl.setB o u
theorem conv1 (w : World) (b : UInt8) (n : Nat) (hn : b.toNat = n) : (convert 22 9 (.slice (some ⟨w.heap.size, 0, none⟩) 1 1)).run Tryz.prog (w.alloc (.cells #[.int .u8 n] 5)) = .ok (.string ⟨#[b]⟩) (w.alloc (.cells #[.int .u8 n] 5)) := by
 refine run_convert_bytes_back (w.alloc (.cells #[.int .u8 n] 5)) _ _ 5 ⟨w.heap.size, 0, none⟩ 1 [b] Tryz.underlying22 Tryz.underlying5 Tryz.underlying9 (fun j hj => ?_)
 have h0 : j = 0 := by simpa using hj
 subst h0
 simp [go_sem, hn]
section
variable {b : UInt8}
theorem gs1 (h : b.toNat = 27) : gstep b = (pst 1, []) := by unfold gstep; rw [if_pos h]
theorem gs2 (h : ¬ b.toNat = 27) (h2 : ctl b.toNat = true) : gstep b = (pz, [⟨2, b.toNat, false, [], e0⟩]) := by unfold gstep; rw [if_neg h, if_pos h2]
theorem gs3 (h : ¬ b.toNat = 27) (h2 : ctl b.toNat = false) (h3 : 32 ≤ b.toNat ∧ b.toNat ≤ 126) : gstep b = (pz, [pr b.toNat]) := by unfold gstep; rw [if_neg h, if_neg (by rw [h2]; simp), if_pos h3]
theorem gs4 (h : ¬ b.toNat = 27) (h2 : ctl b.toNat = false) (h3 : ¬ (32 ≤ b.toNat ∧ b.toNat ≤ 126)) (h4 : b.toNat < 128) : gstep b = (pz, []) := by unfold gstep; rw [if_neg h, if_neg (by rw [h2]; simp), if_neg h3, if_pos h4]
theorem gs5 (h : 128 ≤ b.toNat) (h5 : 0 < uL b.toNat) : gstep b = (⟨6, [], false, e0, ⟨#[b]⟩⟩, []) := by
 unfold gstep
 rw [if_neg (by omega), if_neg (by simp [ctl]; omega), if_neg (by omega), if_neg (by omega), if_pos h5]
theorem gs6 (h : 128 ≤ b.toNat) (h5 : ¬ 0 < uL b.toNat) : gstep b = (pz, [pr 65533]) := by
 unfold gstep
 rw [if_neg (by omega), if_neg (by simp [ctl]; omega), if_neg (by omega), if_neg (by omega), if_neg h5]
end
theorem Zz5 (B lo : Nat) (ap al : Option Addr) (cp cl : Nat) (L : List aA) (b : UInt8) (w : World) (h : PS B lo pz ap cp L al cl w) (hL : L.length ≤ 1048576) (hlo : lo ≤ w.heap.size) :
 Calls Tryz.prog 88 #[.pointer (some ⟨B, 0, none⟩), .slice al L.length cl, .int .u8 b.toNat] w (PR B lo (gstep b) ap L al w) := by
 obtain ⟨iA, hA, hA0, hA1, hA2⟩ := info_parts Tryz.infoAction
 have HP := zz h
 have k_0 : w.cell? ⟨B, 0, none⟩ = some (.int .i64 0) := h.c0
 have k_1 : w.cell? ⟨B, 1, none⟩ = some (.slice ap 0 cp) := h.c1
 have k_2 : w.cell? ⟨B, 2, none⟩ = some (.bool false) := h.c2
 have k_3 : w.cell? ⟨B, 3, none⟩ = some (.string ⟨#[]⟩) := h.c3
 have k_4 : w.cell? ⟨B, 4, none⟩ = some (.string ⟨#[]⟩) := h.c4
 have kf := h.fz
 have klt := h.lt
 have h256 : b.toNat < 256 := b.toNat_lt
 have HG1 := zz (@gs1 b)
 have HG2 := zz (@gs2 b)
 have HG3 := zz (@gs3 b)
 have HG4 := zz (@gs4 b)
 have HG5 := zz (@gs5 b)
 have HG6 := zz (@gs6 b)
 clear h
 generalize hG : gstep b = G at *
 have HGG := zz hG
 clear hG
 obtain ⟨n, hn⟩ := eX (b.toNat)
 rw [hn] at h256 HG1 HG2 HG3 HG4 HG5 HG6 ⊢
 have HN := zz hn
 clear hn
 by_cases h27 : n = 27
 case pos =>
  have HR := zz (HG1.out h27)
  have g27 : ((n : Int) == 27) = true := by subst h27; rfl
  clear h27
  go_enter Tryz.func88, Tryz.ntmps88
  go_wp2_with fail
  go_ret
  have hc : Ch (· = B) w (w.setCell ⟨B, 0, none⟩ (.int .i64 1)) := Ch.set1 _ _ _ _
  refine PR.cells (p' := pst 1) (ap' := ap) (cp' := cp) HP.out hc (by rw [HR.out]) (by rw [HR.out]) (HP.out.cells hc ?_ ?_ ?_ ?_ ?_ ?_ (.inl ⟨rfl, rfl, rfl⟩)) (.inl rfl)
  all_goals first | (intro o; simp [go_sem, kf]; done) | (simp [go_sem, k_0, k_1, k_2, k_3, k_4, pst]; done)
 have g27 : ((n : Int) == 27) = false := beq_eq_false_iff_ne.2 (by omega)
 obtain ⟨c, hc⟩ := eX (ctl n)
 have HCT : Hid (ctlI (n : Int) = c) := zz (by rw [Zt7]; exact hc)
 have HCC := zz hc
 clear hc
 cases c
 case true =>
  have HR := zz (HG2.out h27 HCC.out)
  go_enter Tryz.func88, Tryz.ntmps88
  go_upto_region 5 with (go_at_call 70; refine (iCq _ _).mono ?_; rw [HCT.out]; rintro e w' ⟨rfl, rfl⟩)
  have HSRC1 : Hid (Src Tryz.prog 5 48 (.slice (some ⟨w.heap.size, 0, none⟩) 1 1) [(⟨⟨2, n, false, [], e0⟩, none, 0⟩ : aA)].length ([(⟨⟨2, n, false, [], e0⟩, none, 0⟩ : aA)].flatMap actE) (w.alloc (.cells #[.int .i64 2, .int .i64 n, .bool false, .slice none 0 0, .string ⟨#[]⟩] 38))) := zz (Src.ofBox (enc := actE) Tryz.underlying48 (fun _ => rfl) Zd9 (⟨⟨2, n, false, [], e0⟩, none, 0⟩ : aA) _ _ (by first | rfl | simp [actE]) _ rfl)
  have HRO1 : Hid (ActO lo L al cl (w.alloc (.cells #[.int .i64 2, .int .i64 n, .bool false, .slice none 0 0, .string ⟨#[]⟩] 38))) := zz (HP.out.ro.keep actL (bA))
  go_wp2_with (at_builtin; refine wA (.tmp 21) (.tmp 25) 48 48 lo 38 iA (.agg #[.int .i64 0, .int .i64 0, .bool false, .slice none 0 0, .string ⟨#[]⟩]) 5 64 Tryz.underlying48 hA hA0 hA1 hA2 rfl (by decide) al L.length cl L HRO1.out.row (.slice (some ⟨w.heap.size, 0, none⟩) 1 1) [(⟨⟨2, n, false, [], e0⟩, none, 0⟩ : aA)] HSRC1.out (by simp; omega) (by simp; omega) rfl rfl rfl rfl ?_)
  intro a1 c1 w1 us1 hus hf hc hk
  have HUS1 := hus
  have HF1 := zz hf
  have HC1 : Hid (Ch (· ∈ bO al) w w1) := zz ((Ch.refl.alloc _).trans hc (fun i hi => .inl hi))
  have HK1 : Hid (∀ j ∈ bO a1, j ∈ bO al ∨ j = (w.alloc (.cells #[.int .i64 2, .int .i64 n, .bool false, .slice none 0 0, .string ⟨#[]⟩] 38)).heap.size) := zz (fun j hj => by simpa using hk j hj)
  have HCA1 := zz hc
  clear hus hf hc hk
  go_wp2_with fail
  go_ret
  exact PR.push (p' := pz) (ap' := ap) (cp' := cp) (w1 := w.alloc (.cells #[.int .i64 2, .int .i64 n, .bool false, .slice none 0 0, .string ⟨#[]⟩] 38)) HP.out (x := ⟨⟨2, n, false, [], e0⟩, none, 0⟩) rfl HUS1.out HK1.out (by simp) (HC1.out.mono (fun i hi => .inl (.inr hi))) (by rw [HR.out]) (by rw [HR.out]; try rfl) ((HP.out.keep ((Below.refl _ _).alloc (Nat.le_refl _) (.cells #[.int .i64 2, .int .i64 n, .bool false, .slice none 0 0, .string ⟨#[]⟩] 38))).push ⟨rfl, rfl, rfl⟩ HUS1.out HF1.out HCA1.out HK1.out) (.inl rfl)
 have HCC2 := HCC
 by_cases h3 : 32 ≤ n ∧ n ≤ 126
 case pos =>
  have HR := zz (HG3.out h27 HCC.out h3)
  obtain ⟨h31, h32⟩ := h3
  have g31 : (32 : Int) ≤ (n : Int) := by omega
  have g32 : (n : Int) ≤ 126 := by omega
  go_enter Tryz.func88, Tryz.ntmps88
  go_upto_region 7 with (go_at_call 70; refine (iCq _ _).mono ?_; rw [HCT.out]; rintro e w' ⟨rfl, rfl⟩)
  have HSRC1 : Hid (Src Tryz.prog 5 48 (.slice (some ⟨w.heap.size, 0, none⟩) 1 1) [(⟨⟨1, n, false, [], e0⟩, none, 0⟩ : aA)].length ([(⟨⟨1, n, false, [], e0⟩, none, 0⟩ : aA)].flatMap actE) (w.alloc (.cells #[.int .i64 1, .int .i64 n, .bool false, .slice none 0 0, .string ⟨#[]⟩] 38))) := zz (Src.ofBox (enc := actE) Tryz.underlying48 (fun _ => rfl) Zd9 (⟨⟨1, n, false, [], e0⟩, none, 0⟩ : aA) _ _ (by first | rfl | simp [actE]) _ rfl)
  have HRO1 : Hid (ActO lo L al cl (w.alloc (.cells #[.int .i64 1, .int .i64 n, .bool false, .slice none 0 0, .string ⟨#[]⟩] 38))) := zz (HP.out.ro.keep actL (bA))
  go_wp2_with (at_builtin; refine wA (.tmp 34) (.tmp 38) 48 48 lo 38 iA (.agg #[.int .i64 0, .int .i64 0, .bool false, .slice none 0 0, .string ⟨#[]⟩]) 5 64 Tryz.underlying48 hA hA0 hA1 hA2 rfl (by decide) al L.length cl L HRO1.out.row (.slice (some ⟨w.heap.size, 0, none⟩) 1 1) [(⟨⟨1, n, false, [], e0⟩, none, 0⟩ : aA)] HSRC1.out (by simp; omega) (by simp; omega) rfl rfl rfl rfl ?_)
  intro a1 c1 w1 us1 hus hf hc hk
  have HUS1 := hus
  have HF1 := zz hf
  have HC1 : Hid (Ch (· ∈ bO al) w w1) := zz ((Ch.refl.alloc _).trans hc (fun i hi => .inl hi))
  have HK1 : Hid (∀ j ∈ bO a1, j ∈ bO al ∨ j = (w.alloc (.cells #[.int .i64 1, .int .i64 n, .bool false, .slice none 0 0, .string ⟨#[]⟩] 38)).heap.size) := zz (fun j hj => by simpa using hk j hj)
  have HCA1 := zz hc
  clear hus hf hc hk
  go_wp2_with fail
  go_ret
  exact PR.push (p' := pz) (ap' := ap) (cp' := cp) (w1 := w.alloc (.cells #[.int .i64 1, .int .i64 n, .bool false, .slice none 0 0, .string ⟨#[]⟩] 38)) HP.out (x := ⟨⟨1, n, false, [], e0⟩, none, 0⟩) rfl HUS1.out HK1.out (by simp) (HC1.out.mono (fun i hi => .inl (.inr hi))) (by rw [HR.out]) (by rw [HR.out]; try rfl) ((HP.out.keep ((Below.refl _ _).alloc (Nat.le_refl _) (.cells #[.int .i64 1, .int .i64 n, .bool false, .slice none 0 0, .string ⟨#[]⟩] 38))).push ⟨rfl, rfl, rfl⟩ HUS1.out HF1.out HCA1.out HK1.out) (.inl rfl)
 by_cases h4 : n < 128
 case pos =>
  have HR := zz (HG4.out h27 HCC.out h3 h4)
  have g4 : (n : Int) < 128 := by omega
  go_enter Tryz.func88, Tryz.ntmps88
  go_wp2_with (go_at_call 70; refine (iCq _ _).mono ?_; rw [HCT.out]; rintro e w' ⟨rfl, rfl⟩)
  all_goals first
   | (exfalso; omega)
   | (go_ret
      exact PR.cells (p' := pz) (ap' := ap) (cp' := cp) HP.out Ch.refl (by rw [HR.out]) (by rw [HR.out]) HP.out (.inl rfl))
 have g4 : (128 : Int) ≤ (n : Int) := by omega
 have g32 : ¬ (n : Int) ≤ 126 := by omega
 have h4' : 128 ≤ n := by omega
 clear h3 h4
 by_cases h5 : 0 < uL n
 case pos =>
  have HR := zz (HG5.out h4' h5)
  obtain ⟨u, hu⟩ := eX (uL n)
  have HU := zz hu
  rw [hu] at h5
  have g5 : (0 : Int) < (u : Int) := by omega
  clear hu
  have hcv := conv1 w b n HN.out
  go_enter Tryz.func88, Tryz.ntmps88
  go_wp2_with (first
   | (go_at_call 70; refine (iCq _ _).mono ?_; rw [HCT.out]; rintro e w' ⟨rfl, rfl⟩)
   | (go_at_call 123; refine (Zb3 _ _).mono ?_; rw [HU.out]; rintro e w' ⟨rfl, rfl⟩))
  go_ret
  refine PR.cells (p' := ⟨6, [], false, e0, ⟨#[b]⟩⟩) (ap' := none) (cp' := 0) HP.out ?hc (by rw [HR.out]) (by rw [HR.out]) (HP.out.cells ?hc ?_ ?_ ?_ ?_ ?_ ?_ (.inr ⟨rfl, rfl, rfl⟩)) (.inr rfl)
  case hc => repeat (first | (with_reducible exact Ch.refl) | (with_reducible refine Ch.alloc ?_ _) | (with_reducible refine Ch.drew ?_) | (with_reducible refine Ch.setB ?_ _ _))
  all_goals first | (intro o; simp [go_sem, kf, klt]; done) | (simp [go_sem, k_0, k_1, k_2, k_3, k_4, klt]; done)
 have HR := zz (HG6.out h4' h5)
 obtain ⟨u, hu⟩ := eX (uL n)
 have HU := zz hu
 rw [hu] at h5
 have g5 : (u : Int) ≤ 0 := by omega
 clear hu
 go_enter Tryz.func88, Tryz.ntmps88
 go_upto_region 1 with (first
  | (go_at_call 70; refine (iCq _ _).mono ?_; rw [HCT.out]; rintro e w' ⟨rfl, rfl⟩)
  | (go_at_call 123; refine (Zb3 _ _).mono ?_; rw [HU.out]; rintro e w' ⟨rfl, rfl⟩))
 have HSRC1 : Hid (Src Tryz.prog 5 48 (.slice (some ⟨w.heap.size, 0, none⟩) 1 1) [(⟨⟨1, 65533, false, [], e0⟩, none, 0⟩ : aA)].length ([(⟨⟨1, 65533, false, [], e0⟩, none, 0⟩ : aA)].flatMap actE) (w.alloc (.cells #[.int .i64 1, .int .i64 65533, .bool false, .slice none 0 0, .string ⟨#[]⟩] 38))) := zz (Src.ofBox (enc := actE) Tryz.underlying48 (fun _ => rfl) Zd9 (⟨⟨1, 65533, false, [], e0⟩, none, 0⟩ : aA) _ _ (by first | rfl | simp [actE]) _ rfl)
 have HRO1 : Hid (ActO lo L al cl (w.alloc (.cells #[.int .i64 1, .int .i64 65533, .bool false, .slice none 0 0, .string ⟨#[]⟩] 38))) := zz (HP.out.ro.keep actL (bA))
 go_wp2_with (at_builtin; refine wA (.tmp 7) (.tmp 9) 48 48 lo 38 iA (.agg #[.int .i64 0, .int .i64 0, .bool false, .slice none 0 0, .string ⟨#[]⟩]) 5 64 Tryz.underlying48 hA hA0 hA1 hA2 rfl (by decide) al L.length cl L HRO1.out.row (.slice (some ⟨w.heap.size, 0, none⟩) 1 1) [(⟨⟨1, 65533, false, [], e0⟩, none, 0⟩ : aA)] HSRC1.out (by simp; omega) (by simp; omega) rfl rfl rfl rfl ?_)
 intro a1 c1 w1 us1 hus hf hc hk
 have HUS1 := hus
 have HF1 := zz hf
 have HC1 : Hid (Ch (· ∈ bO al) w w1) := zz ((Ch.refl.alloc _).trans hc (fun i hi => .inl hi))
 have HK1 : Hid (∀ j ∈ bO a1, j ∈ bO al ∨ j = (w.alloc (.cells #[.int .i64 1, .int .i64 65533, .bool false, .slice none 0 0, .string ⟨#[]⟩] 38)).heap.size) := zz (fun j hj => by simpa using hk j hj)
 have HCA1 := zz hc
 clear hus hf hc hk
 go_wp2_with fail
 go_ret
 exact PR.push (p' := pz) (ap' := ap) (cp' := cp) (w1 := w.alloc (.cells #[.int .i64 1, .int .i64 65533, .bool false, .slice none 0 0, .string ⟨#[]⟩] 38)) HP.out (x := ⟨⟨1, 65533, false, [], e0⟩, none, 0⟩) rfl HUS1.out HK1.out (by simp) (HC1.out.mono (fun i hi => .inl (.inr hi))) (by rw [HR.out]) (by rw [HR.out]; try rfl) ((HP.out.keep ((Below.refl _ _).alloc (Nat.le_refl _) (.cells #[.int .i64 1, .int .i64 65533, .bool false, .slice none 0 0, .string ⟨#[]⟩] 38))).push ⟨rfl, rfl, rfl⟩ HUS1.out HF1.out HCA1.out HK1.out) (.inl rfl)
end
section
section
variable {B lo g : Nat} {p p' : PV} {ap ap' al al' : Option Addr} {cp cp' cl cl' : Nat} {L us : List aA} {w w' w1 w2 : World} {R : PV × List AV} {e : Ending} {xs ys : List Int}
theorem Fr.setI {c k : Nat} (h : Fr iE 3 1 lo w.heap.size (.slice (some ⟨g, 0, none⟩) xs.length c) xs w) (hk : k < xs.length) (v : Int) : Fr iE 3 1 lo (w.setCell ⟨g, k, none⟩ (.int .i64 v)).heap.size (.slice (some ⟨g, 0, none⟩) (xs.set k v).length c) (xs.set k v) (w.setCell ⟨g, k, none⟩ (.int .i64 v)) := by
 obtain ⟨g', he, h1, h2, h3, ho⟩ := h.block (by omega)
 cases he
 have hs := (ho.stored k (.int .i64 v)).1
 rw [Yf3 iE (fun _ => rfl) _ k hk v _ rfl] at hs
 have hl : (xs.set k v).length = xs.length := by simp
 refine ⟨?_, fun j hj => by simp [Value.ownBlock] at hj; subst hj; simpa [World.setCell] using h3⟩
 rw [hl]
 exact F_.of_own hs hl.symm rfl
theorem PS.arg (h : PS B lo p ap cp L al cl w) (hc : Ch (· ∈ bO ap) w w') (ha : Fr iE 3 1 lo w'.heap.size (.slice ap xs.length cp) xs w') (hl : xs.length = p.args.length) : PS B lo { p with args := xs } ap cp L al cl w' := by
 have hB : ¬ B ∈ bO ap := fun hb => h.nB (by simp [hb])
 exact ⟨(hc.cell (p := ⟨B, 0, none⟩) h.lt hB).trans h.c0, by
  show _ = some (Value.slice ap xs.length cp)
  rw [hl]; exact (hc.cell (p := ⟨B, 1, none⟩) h.lt hB).trans h.c1, (hc.cell (p := ⟨B, 2, none⟩) h.lt hB).trans h.c2, (hc.cell (p := ⟨B, 3, none⟩) h.lt hB).trans h.c3, (hc.cell (p := ⟨B, 4, none⟩) h.lt hB).trans h.c4,
  fun o => (hc.frozen (p := ⟨B, o, none⟩) h.lt hB).trans (h.fz o), Nat.lt_of_lt_of_le h.lt hc.size, ha, h.ro.ch actL hc (fun k hk hk2 => h.nd k hk2 hk), h.nB, h.nd⟩
theorem PS.arg2 (h : PS B lo p ap cp L al cl w) (hc : Ch (· ∈ bO ap) w w1) (ha : Fr iE 3 1 lo w1.heap.size (.slice ap' xs.length cp') xs w1) (hk : ∀ k ∈ bO ap', k ∈ bO ap ∨ w.heap.size ≤ k) : PS B lo { p with args := xs } ap' cp' L al cl (w1.setCell ⟨B, 1, none⟩ (.slice ap' xs.length cp')) := by
 have hB : ¬ B ∈ bO ap := fun hb => h.nB (by simp [hb])
 have hlt := Nat.lt_of_lt_of_le h.lt hc.size
 have hB' : B ∉ bO ap' := fun hb => by
  rcases hk B hb with h1 | h1
  ·exact hB h1
  ·have := h.lt; omega
 have hcs : Ch (fun k => k = B) w1 (w1.setCell ⟨B, 1, none⟩ (.slice ap' xs.length cp')) := Ch.set1 _ _ _ _
 have k1 : w1.cell? ⟨B, 1, none⟩ = some (.slice ap p.args.length cp) := (hc.cell (p := ⟨B, 1, none⟩) h.lt hB).trans h.c1
 have ot : ∀ o, o ≠ 1 → (w1.setCell ⟨B, 1, none⟩ (.slice ap' xs.length cp')).cell? ⟨B, o, none⟩ = w.cell? ⟨B, o, none⟩ := fun o ho => (World.cell?_setCell_other _ _ _ _ (fun e => by cases e; exact ho rfl)).trans (hc.cell (p := ⟨B, o, none⟩) h.lt hB)
 refine ⟨(ot 0 (by decide)).trans h.c0, by simp [go_sem, k1], (ot 2 (by decide)).trans h.c2, (ot 3 (by decide)).trans h.c3, (ot 4 (by decide)).trans h.c4, fun o => (World.frozen?_setCell _ _ _ _).trans ((hc.frozen (p := ⟨B, o, none⟩) h.lt hB).trans (h.fz o)), by simpa [World.setCell] using hlt, ha.ch hcs (fun k hk1 e => hB' (e ▸ hk1)), (h.ro.ch actL hc (fun k hk hk2 => h.nd k hk2 hk)).ch actL hcs (fun k hk1 e => h.nB (by rw [List.mem_append]; exact .inr (e ▸ hk1))), fun hb => ?_, fun k hk1 hk2 => ?_⟩
 ·rcases List.mem_append.1 hb with hb | hb
  ·exact hB' hb
  ·exact h.nB (List.mem_append.2 (.inr hb))
 ·rcases hk k hk1 with h1 | h1
  ·exact h.nd k h1 hk2
  ·have := (h.ro.bd actL k hk2).2; omega
theorem PR.arg (h : PS B lo p ap cp L al cl w) (hR1 : R.1 = p') (hR2 : R.2 = []) (h' : PS B lo p' ap' cp' L al cl w') (hc : Ch (fun k => k = B ∨ k ∈ bO ap) w w') (hk : ∀ k ∈ bO ap', k ∈ bO ap ∨ w.heap.size ≤ k) : PR B lo R ap L al w (.returned (.slice al L.length cl)) w' := by
 refine ⟨ap', cp', L, al, cl, rfl, by rw [hR1]; exact h', by rw [hR2]; simp, hc.mono (fun i hi => .inl (by rcases hi with h1 | h1; exact .inl h1; exact .inr (.inl h1))), fun k hk1 => ?_⟩
 rcases List.mem_append.1 hk1 with h1 | h1
 ·rcases hk k h1 with h2 | h2
  ·exact .inl (List.mem_append.2 (.inl h2))
  ·exact .inr h2
 ·exact .inl (List.mem_append.2 (.inr h1))
theorem PR.give (h : PS B lo p ap cp L al cl w) {x : aA} (hx : x.aa = ap ∧ x.ca = cp ∧ x.A.args = p.args) (hus : us = L ++ [x]) (hf : Fr actE 38 5 lo w1.heap.size (.slice al' us.length cl') us w1) (hc : Ch (· ∈ bO al) w w1)
 (hk : ∀ k ∈ bO al', k ∈ bO al ∨ k = w.heap.size) (hcs : Ch (fun k => k = B) w1 w2) (c0 : w2.cell? ⟨B, 0, none⟩ = some (.int .i64 p'.state)) (c1 : w2.cell? ⟨B, 1, none⟩ = some (.slice none 0 0)) (c2 : w2.cell? ⟨B, 2, none⟩ = some (.bool p'.priv))
 (c3 : w2.cell? ⟨B, 3, none⟩ = some (.string p'.text)) (c4 : w2.cell? ⟨B, 4, none⟩ = some (.string p'.utf)) (fz : ∀ o, w2.frozen? ⟨B, o, none⟩ = false) (hp : p'.args = []) (hR1 : R.1 = p') (hR2 : R.2 = [x.A]) :
 PR B lo R ap L al w (.returned (.slice al' us.length cl')) w2 := by
 have hbx : Zb8 x = bO ap := by unfold Zb8; rw [hx.1]
 have hro : ActO lo us al' cl' w1 := h.ro.push actL (by unfold Zf3; rw [hx.1, hx.2.1, hx.2.2]; exact h.args) (by rw [hbx]; exact h.nd) hus hf hc hk
 have hin : ∀ k ∈ acB al' us, (k ∈ bO ap ∨ k ∈ acB al L) ∨ k = w.heap.size := by
  intro k hk1
  simp only [roB, List.mem_append] at hk1 ⊢
  rcases hk1 with hk1 | hk1
  ·rcases hk k hk1 with h2 | h2
   ·exact .inl (.inr (.inl h2))
   ·exact .inr h2
  ·rw [hus] at hk1
   simp only [List.flatMap_append, List.flatMap_cons, List.flatMap_nil, List.append_nil, hbx, List.mem_append] at hk1
   rcases hk1 with h2 | h2
   ·exact .inl (.inr (.inr h2))
   ·exact .inl (.inl h2)
 have hBn : B ∉ acB al' us := fun hb => by
  rcases hin B hb with (h2 | h2) | h2
  ·exact h.nB (List.mem_append.2 (.inl h2))
  ·exact h.nB (List.mem_append.2 (.inr h2))
  ·have := h.lt; omega
 refine ⟨none, 0, us, al', cl', rfl, ?_, by rw [hR2, hus]; simp, ?_, fun k hk1 => ?_⟩
 ·rw [hR1]
  exact ⟨c0, by rw [hp]; exact c1, c2, c3, c4, fz, Nat.lt_of_lt_of_le h.lt (Nat.le_trans hc.size hcs.size), by rw [hp]; exact Fr.nil _ _ _ _ _ _, hro.ch actL hcs (fun k hk1 e => hBn (e ▸ hk1)), by simpa [bO] using hBn, by simp [bO]⟩
 ·refine (hc.mono (M := fun k => k = B ∨ k ∈ bO ap ∨ k ∈ bO al) (fun i hi => .inl (.inr (.inr hi)))).trans hcs (fun i hi => .inl (.inl hi))
 ·simp only [bO, List.nil_append] at hk1
  rcases hin k hk1 with (h2 | h2) | h2
  ·exact .inl (List.mem_append.2 (.inl h2))
  ·exact .inl (List.mem_append.2 (.inr h2))
  ·exact .inr (by omega)
end
end
section
open Go.Shelf Go.RowKit
def Tryz.lays197_ren : Go.Shelf.Ren := ⟨fun | 197 => 125 | 260 => 143 | n => n, fun | 9 => 9 | 21 => 21 | 3 => 3 | 4 => 4 | 5 => 5 | 105 => 139 | 119 => 153 | 0 => 0 | 46 => 127 | 139 => 156 | 138 => 155 | n => n, fun | 3 => 0 | 4 => 1 | n => n⟩
theorem Tryz.lays197 : Go.Proofs.Lays.n197 Tryz.prog Tryz.lays197_ren where
 mixed := by kernel_rfl
 f197 := Tryz.func125.trans (congrArg some (by kernel_rfl))
 f260 := Tryz.func143.trans (congrArg some (by kernel_rfl))
 t0 := Tryz.underlying0
 a0 := Tryz.isAgg0
 z0 := Tryz.sizeOf0
 v0 := Tryz.zeroValue0
 t3 := Tryz.underlying3
 a3 := Tryz.isAgg3
 z3 := Tryz.sizeOf3
 v3 := Tryz.zeroValue3
 t4 := Tryz.underlying4
 a4 := Tryz.isAgg4
 z4 := Tryz.sizeOf4
 v4 := Tryz.zeroValue4
 t5 := Tryz.underlying5
 a5 := Tryz.isAgg5
 z5 := Tryz.sizeOf5
 v5 := Tryz.zeroValue5
 t9 := Tryz.underlying9
 a9 := Tryz.isAgg9
 z9 := Tryz.sizeOf9
 v9 := Tryz.zeroValue9
 t21 := Tryz.underlying21
 a21 := Tryz.isAgg21
 z21 := Tryz.sizeOf21
 v21 := Tryz.zeroValue21
 t46 := Tryz.underlying127
 a46 := Tryz.isAgg127
 z46 := Tryz.sizeOf127
 v46 := Tryz.zeroValue127
 t105 := Tryz.underlying139
 a105 := Tryz.isAgg139
 z105 := Tryz.sizeOf139
 v105 := Tryz.zeroValue139
 t119 := Tryz.underlying153
 a119 := Tryz.isAgg153
 z119 := Tryz.sizeOf153
 t138 := Tryz.underlying155
 a138 := Tryz.isAgg155
 z138 := Tryz.sizeOf155
 v138 := Tryz.zeroValue155
 t139 := Tryz.underlying156
 a139 := Tryz.isAgg156
 z139 := Tryz.sizeOf156
 v139 := Tryz.zeroValue156
 g3 := by kernel_rfl
 g4 := by kernel_rfl
structure UT (w : World) : Prop where
 tabs : Lib.Utf8Tabs 0 1 w
 l1 : 0 < w.heap.size
 l2 : 1 < w.heap.size
theorem UT.ch {M : Nat → Prop} {w w' : World} (h : UT w) (hc : Ch M w w') (h1 : ¬ M 0) (h2 : ¬ M 1) : UT w' := by
 obtain ⟨⟨a, b⟩, l1, l2⟩ := h
 refine ⟨⟨fun c hcc => (hc.cell (p := ⟨_, c, none⟩) l1 h1).trans (a c hcc), fun i hi => ⟨(hc.cell (p := ⟨_, 2 * i, none⟩) l2 h2).trans (b i hi).1, (hc.cell (p := ⟨_, 2 * i + 1, none⟩) l2 h2).trans (b i hi).2⟩⟩, Nat.lt_of_lt_of_le l1 hc.size, Nat.lt_of_lt_of_le l2 hc.size⟩
theorem UT.keep {w w' : World} (h : UT w) (hb : Below w.heap.size w w') : UT w' := h.ch (M := fun _ => False) (Ch.of_below hb) (fun h => h) (fun h => h)
theorem Yd0 (s : ByteArray) (w : World) (h : UT w) : Calls Tryz.prog 125 #[.string s] w fun e w' => e = .returned (.tuple #[.int .i32 (Lib.decodeGo s).1, .int .i64 (Lib.decodeGo s).2]) ∧ Below w.heap.size w w' :=
 Any.utf8_DecodeRuneInString Tryz.lays197 s w h.tabs
theorem Zo8 {l : List UInt8} {b : Nat} (h : mayF l b = true) : lowOf l ≤ b ∧ b ≤ Zy4 l := by
 simpa [mayF] using h
theorem dec_rune {l : List UInt8} {b : UInt8} (h : begB l = true) (hm : mayF l b.toNat = true) (hl : l.length + 1 = uL (l.headD 0).toNat) : (((Lib.decodeGo ⟨(l ++ [b]).toArray⟩).1 : Nat) : Int) = rnV (l ++ [b]) := by
 obtain ⟨h1, h2, h3⟩ := Zd6.1 h
 have hs : ∀ xs : List UInt8, (⟨xs.toArray⟩ : ByteArray).size = xs.length := fun xs => rfl
 have hd : Lib.decodeGo ⟨(l ++ [b]).toArray⟩ = Utf8.decode ⟨(l ++ [b]).toArray⟩ 0 := by
  unfold Lib.decodeGo
  rw [if_neg (by rw [hs]; simp)]
 rw [hd, Lib.decode_at, hs]
 have hm' := Zo8 hm
 match l, h1, h2, h3, hl, hm' with
 | [a], _, _, _, hl, hm' =>
   rw [Zf5, Zc9] at hm'
   simp only [List.headD_cons, List.length_cons, List.length_nil] at hl
   have ha : 194 ≤ a.toNat ∧ a.toNat < 224 := by unfold uL at hl; (repeat' split at hl) <;> omega
   have hb : 128 ≤ b.toNat ∧ b.toNat ≤ 191 := by (repeat' split at hm') <;> omega
   show (((Lib.decodeN 2 a.toNat b.toNat 0 0).1 : Nat) : Int) = (a.toNat - 192) * 64 + (b.toNat - 128)
   unfold Lib.decodeN
   rw [if_neg (by omega), if_pos (by omega), if_pos (by omega)]
   show ((a.toNat % 32 * 64 + b.toNat % 64 : Nat) : Int) = _
   omega
 | [a, c], _, _, h3, hl, hm' =>
   have h4 := Zo8 (h3 1 (by omega) (by simp))
   simp only [List.take_succ_cons, List.take_zero, List.getD_cons_succ, List.getD_cons_zero] at h4
   rw [Zf5, Zc9] at h4
   simp only [List.headD_cons, List.length_cons, List.length_nil] at hl
   have hb : 128 ≤ b.toNat ∧ b.toNat ≤ 191 := hm'
   have ha : 224 ≤ a.toNat ∧ a.toNat < 240 := by unfold uL at hl; (repeat' split at hl) <;> omega
   have hc : 128 ≤ c.toNat ∧ c.toNat ≤ 191 ∧ (a.toNat = 224 → 160 ≤ c.toNat) ∧ (a.toNat = 237 → c.toNat ≤ 159) := by (repeat' split at h4) <;> omega
   show (((Lib.decodeN 3 a.toNat c.toNat b.toNat 0).1 : Nat) : Int) = ((a.toNat - 224) * 64 + (c.toNat - 128)) * 64 + (b.toNat - 128)
   unfold Lib.decodeN
   rw [if_neg (by omega), if_neg (by omega), if_pos (by omega), if_pos (by omega)]
   show ((a.toNat % 16 * 4096 + c.toNat % 64 * 64 + b.toNat % 64 : Nat) : Int) = _
   omega
 | [a, c, d], _, _, h3, hl, hm' =>
   have h4 := Zo8 (h3 1 (by omega) (by simp))
   have h5 := Zo8 (h3 2 (by omega) (by simp))
   simp only [List.take_succ_cons, List.take_zero, List.getD_cons_succ, List.getD_cons_zero] at h4 h5
   rw [Zf5, Zc9] at h4
   simp only [List.headD_cons, List.length_cons, List.length_nil] at hl
   have hb : 128 ≤ b.toNat ∧ b.toNat ≤ 191 := hm'
   have hdd : 128 ≤ d.toNat ∧ d.toNat ≤ 191 := h5
   have ha : 240 ≤ a.toNat ∧ a.toNat ≤ 244 := by unfold uL at hl; (repeat' split at hl) <;> omega
   have hc : 128 ≤ c.toNat ∧ c.toNat ≤ 191 ∧ (a.toNat = 240 → 144 ≤ c.toNat) ∧ (a.toNat = 244 → c.toNat ≤ 143) := by (repeat' split at h4) <;> omega
   show (((Lib.decodeN 4 a.toNat c.toNat d.toNat b.toNat).1 : Nat) : Int) = (((a.toNat - 240) * 64 + (c.toNat - 128)) * 64 + (d.toNat - 128)) * 64 + (b.toNat - 128)
   unfold Lib.decodeN
   rw [if_neg (by omega), if_neg (by omega), if_neg (by omega), if_pos (by omega), if_pos (by omega)]
   show ((a.toNat % 8 * 262144 + c.toNat % 64 * 4096 + d.toNat % 64 * 64 + b.toNat % 64 : Nat) : Int) = _
   omega
 | a :: c :: d :: e :: l, _, _, _, hl, _ =>
   exfalso
   simp only [List.length_cons] at hl
   have : ∀ n, uL n ≤ 4 := fun n => by unfold uL; (repeat' split) <;> omega
   have := this ((a :: c :: d :: e :: l).headD 0).toNat
   omega
end
section
section
variable {α : Type} {enc : α → List Value} {w : World}
theorem sAw {P : Program} {o : Oper} {a : Act} {K : Act → World → Prop} {Q : Exit → Act → World → Prop} (s x : Operand) (t tx : TypeId)
 (ho : o.op = .call { callee := .builtin .append, args := #[s, x], argTypes := #[t, tx] })
 (lo hi : Nat) (e : TypeId) (i : TypeInfo) (z : Value) (size bytes : Nat) (ht : P.underlying t = some (.slice e)) (hinfo : P.info? e = some i) (hz : i.zero = some z)
 (hsize : i.size = size) (hby : i.bytes = bytes) (hzs : z.cells.size = size) (hbp : 0 < bytes)
 (ad : Option Addr) (n c : Nat) (zs : List α) (hs : a.eval s = .slice ad n c) (hF : Fr enc e size lo hi (.slice ad n c) zs w)
 (xv : Value) (ys : List α) (hx : a.eval x = xv) (hsrc : Src P size tx xv ys.length (ys.flatMap enc) w)
 (hbytes : (zs.length + ys.length) * bytes ≤ 140737488355328) (hlo : lo ≤ w.heap.size)
 (h : ∀ a' c' w' us, Hid (us = zs ++ ys) → Fr enc e size lo w'.heap.size (.slice a' us.length c') us w' → Mid lo hi w w' → (∀ k ∈ bO a', k ∈ bO ad ∨ k = w.heap.size) → K (a.put o.dst (.slice a' us.length c')) w') :
 Oper.wp P o a w K Q := by
 have hrow := hF.row
 obtain ⟨⟨a', cap', hv, h1, h2⟩, h3⟩ := hF
 cases hv
 have h63 : zs.length + ys.length ≤ maxLen := by
  have : zs.length + ys.length ≤ (zs.length + ys.length) * bytes := Nat.le_mul_of_pos_right _ hbp
  unfold maxLen; omega
 obtain ⟨v', w', hr, k1, k2, k3⟩ := Zb0 (P := P) w lo t tx o.type e i z size bytes ht hinfo hz hsize hby hzs _ zs.length (zs.flatMap enc) h2 xv ys.length (ys.flatMap enc) hsrc h63 hbytes hlo
 have hf : F_ enc e size lo v' (zs ++ ys) w' := F_.of_own k1 (by simp) (by simp)
 obtain ⟨a1, c1, rfl, _⟩ := id hf
 unfold Oper.wp execOp
 simp only [ho, resolve, invoke, builtin, Sem.run_bind, Sem.run_pure, Result.andThen_ok, List.map_toArray, List.map_cons, List.map_nil, hs, hx, hr]
 refine h a1 c1 w' _ rfl hf.here (Mid.of_grown k2 hrow) (fun k hk => ?_)
 have hk' := (Zf8 (n := (zs ++ ys).length) (c := c1)).1 hk
 rcases k3 with k3 | k3
 ·exact .inl ((Zf8 (n := zs.length) (c := c)).2 (k3 ▸ hk'))
 ·rw [k3] at hk'
  exact .inr (Option.some.inj hk').symm
end
section
variable {α : Type} {enc : α → List Value} {w : World}
theorem sAc {P : Program} {o : Oper} {a : Act} {K : Act → World → Prop} {Q : Exit → Act → World → Prop} (s x : Operand) (t tx : TypeId)
 (lo : Nat) (e : TypeId) (i : TypeInfo) (z : Value) (size bytes : Nat) (ht : P.underlying t = some (.slice e)) (hinfo : P.info? e = some i) (hz : i.zero = some z)
 (hsize : i.size = size) (hby : i.bytes = bytes) (hzs : z.cells.size = size) (hbp : 0 < bytes)
 (ad : Option Addr) (n c : Nat) (zs : List α) (hF : Fr enc e size lo w.heap.size (.slice ad n c) zs w)
 (xv : Value) (ys : List α) (hsrc : Src P size tx xv ys.length (ys.flatMap enc) w)
 (hbytes : (zs.length + ys.length) * bytes ≤ 140737488355328) (hlo : lo ≤ w.heap.size)
 (ho : o.op = .call { callee := .builtin .append, args := #[s, x], argTypes := #[t, tx] }) (hs : a.eval s = .slice ad n c) (hx : a.eval x = xv)
 (h : ∀ a' c' w' us, Hid (us = zs ++ ys) → Fr enc e size lo w'.heap.size (.slice a' us.length c') us w' → Ch (· ∈ bO ad) w w' → (∀ k ∈ bO a', k ∈ bO ad ∨ k = w.heap.size) → K (a.put o.dst (.slice a' us.length c')) w') : Oper.wp P o a w K Q := by
 obtain ⟨b, t1, t2, t3, t4⟩ := hF.tight
 refine sAw s x t tx ho b (b + 1) e i z size bytes ht hinfo hz hsize hby hzs hbp ad n c zs hs t1 xv ys hx hsrc hbytes t2 ?_
 intro a' c' w' us hus hf hm hk
 refine h a' c' w' us hus ?_ (Ch.of_mid hm t3) hk
 rcases Nat.lt_or_ge b w.heap.size with hb | hb
 ·exact hf.mono (t4 hb).2 (Nat.le_refl _)
 ·exact hf.mono (by omega) (Nat.le_refl _)
end
end
section
section
variable {p : PV} {b : UInt8} {n : Nat}
theorem cs1 (hn : b.toNat = n) (h : n = 27) : cstep p b = (pst 1, []) := by subst hn; unfold cstep; rw [if_pos h]
theorem cs2 (hn : b.toNat = n) (h : ¬ n = 27) (h2 : ctl n = true) : cstep p b = (p, [⟨2, n, false, [], e0⟩]) := by subst hn; unfold cstep; rw [if_neg h, if_pos h2]
theorem cs3 (hn : b.toNat = n) (h2 : ctl n = false) (h3 : 48 ≤ n ∧ n ≤ 57) : cstep p b = ({ p with args := p.args.dropLast ++ [min 9999 (max 0 (lastA p.args) * 10 + ((n : Int) - 48))] }, []) := by subst hn; unfold cstep; rw [if_neg (by omega), if_neg (by rw [h2]; simp), if_pos h3]
theorem cs4 (hn : b.toNat = n) (h2 : ctl n = false) (h3 : n = 59 ∧ p.args.length < 8) : cstep p b = ({ p with args := p.args ++ [-1] }, []) := by subst hn; unfold cstep; rw [if_neg (by omega), if_neg (by rw [h2]; simp), if_neg (by omega), if_pos h3]
theorem cs5 (hn : b.toNat = n) (h2 : ctl n = false) (h3 : n = 63 ∧ p.args = [-1] ∧ p.priv = false) : cstep p b = ({ p with priv := true }, []) := by subst hn; unfold cstep; rw [if_neg (by omega), if_neg (by rw [h2]; simp), if_neg (by omega), if_neg (by omega), if_pos h3]
theorem cs6 (hn : b.toNat = n) (h2 : ctl n = false) (h3 : 64 ≤ n ∧ n ≤ 126) : cstep p b = (pz, [⟨4, n, p.priv, p.args, e0⟩]) := by subst hn; unfold cstep; rw [if_neg (by omega), if_neg (by rw [h2]; simp), if_neg (by omega), if_neg (by omega), if_neg (by omega), if_pos h3]
theorem cs7 (hn : b.toNat = n) (h : ¬ n = 27) (h2 : ctl n = false) (h3 : ¬ (48 ≤ n ∧ n ≤ 57)) (h4 : ¬ (n = 59 ∧ p.args.length < 8)) (h5 : ¬ (n = 63 ∧ p.args = [-1] ∧ p.priv = false)) (h6 : ¬ (64 ≤ n ∧ n ≤ 126)) : cstep p b = (pst 3, []) := by
 subst hn; unfold cstep; rw [if_neg h, if_neg (by rw [h2]; simp), if_neg h3, if_neg h4, if_neg h5, if_neg h6]
end
theorem Zy2 {xs : List Int} {m : Nat} (hm : xs.length = m + 1) (v : Int) : xs.set m v = xs.dropLast ++ [v] := by
 have h1 : xs ≠ [] := by intro h; rw [h] at hm; simp at hm
 obtain ⟨ys, y, rfl⟩ : ∃ ys y, xs = ys ++ [y] := ⟨xs.dropLast, xs.getLast h1, (List.dropLast_concat_getLast h1).symm⟩
 have : ys.length = m := by simpa using hm
 subst this
 simp
theorem Yd2 {xs : List Int} {m : Nat} (hm : xs.length = m + 1) : lastA xs = xs[m]'(by omega) := by
 have h1 : xs ≠ [] := by intro h; rw [h] at hm; simp at hm
 unfold lastA
 rw [List.getLastD_eq_getLast?, List.getLast?_eq_some_getLast h1, Option.getD_some, List.getLast_eq_getElem]
 congr 1
 omega
theorem one_at {xs : List Int} (h1 : xs.length = 1) (h2 : xs[0]'(by omega) = -1) : xs = [-1] := by
 match xs, h1, h2 with
 | [x], _, h2 => simpa using h2
theorem u8_in {n : Int} (h1 : 0 ≤ n) (h2 : n < 256) : IntKind.u8.wrap n = n := by
 unfold IntKind.wrap
 simp [IntKind.bits, IntKind.signed]
 omega
theorem PR.dig {B lo g m : Nat} {p : PV} {al : Option Addr} {cp cl : Nat} {L : List aA} {w : World} {R : PV × List AV} {V v : Int} (h : PS B lo p (some ⟨g, 0, none⟩) cp L al cl w) (hm : m < p.args.length) (hv : V = v) (hR1 : R.1 = { p with args := p.args.set m v }) (hR2 : R.2 = []) :
 PR B lo R (some ⟨g, 0, none⟩) L al w (.returned (.slice al L.length cl)) (w.setCell ⟨g, m, none⟩ (.int .i64 V)).drew := by
 subst hv
 have hc : Ch (fun k => k = g) w (w.setCell ⟨g, m, none⟩ (.int .i64 V)) := Ch.set1 _ _ _ _
 have hc1 : Ch (· ∈ bO (some (⟨g, 0, none⟩ : Addr))) w (w.setCell ⟨g, m, none⟩ (.int .i64 V)) := hc.mono (fun i hi => .inl (by simp [bO, hi]))
 have h1 := (h.arg hc1 (h.args.setI hm V) (by simp)).keep ((Below.refl _ _).drew)
 exact PR.arg h hR1 hR2 h1 ((hc1.drew).mono (fun i hi => .inl (.inr hi))) (fun k hk => .inl hk)
theorem PR.base {B lo : Nat} {R : PV × List AV} {ap al : Option Addr} {L : List aA} {w w1 w' : World} {e : Ending} (h : PR B lo R ap L al w1 e w') (hb : Below w.heap.size w w1) : PR B lo R ap L al w e w' := by
 obtain ⟨ap', cp', L', al', cl', h1, h2, h3, h4, h5⟩ := h
 refine ⟨ap', cp', L', al', cl', h1, h2, h3, (Ch.of_below hb).trans h4 (fun i hi => .inl hi), fun k hk => ?_⟩
 rcases h5 k hk with h6 | h6
 ·exact .inl h6
 ·have := hb.size
  exact .inr (by omega)
theorem csi_c (B lo : Nat) (p : PV) (ap al : Option Addr) (cp cl : Nat) (L : List aA) (b : UInt8) (w : World) (h : PS B lo p ap cp L al cl w) (hL : L.length ≤ 1048576) (hlo : lo ≤ w.heap.size)
 (hs : p.state = 2) (hA : argsB p.args = true) (hT : p.text = e0) (hU : p.utf = e0) :
 Calls Tryz.prog 90 #[.pointer (some ⟨B, 0, none⟩), .slice al L.length cl, .int .u8 b.toNat] w (PR B lo (cstep p b) ap L al w) := by
 obtain ⟨iA, hA, hA0, hA1, hA2⟩ := info_parts Tryz.infoAction
 obtain ⟨iI, hI, hI0, hI1, hI2⟩ := info_parts Tryz.infoInt
 have HP := zz h
 have k_0 : w.cell? ⟨B, 0, none⟩ = some (.int .i64 2) := by rw [h.c0, hs]
 have k_2 : w.cell? ⟨B, 2, none⟩ = some (.bool p.priv) := h.c2
 have k_3 : w.cell? ⟨B, 3, none⟩ = some (.string ⟨#[]⟩) := by rw [h.c3, hT]
 have k_4 : w.cell? ⟨B, 4, none⟩ = some (.string ⟨#[]⟩) := by rw [h.c4, hU]
 have kf := h.fz
 have klt := h.lt
 have h256 : b.toNat < 256 := b.toNat_lt
 rename_i hAA
 simp only [argsB, Bool.and_eq_true, decide_eq_true_eq, List.all_eq_true] at hAA
 obtain ⟨⟨hl1, hl8⟩, hall⟩ := hAA
 obtain ⟨g, rfl, hg1, _, hg3, ho⟩ := h.args.block (by omega)
 obtain ⟨m, hm⟩ : ∃ m, p.args.length = m + 1 := ⟨p.args.length - 1, by omega⟩
 have k_1 : w.cell? ⟨B, 1, none⟩ = some (.slice (some ⟨g, 0, none⟩) (m + 1) cp) := by rw [h.c1, hm]
 have HLM := zz hm
 have HST := zz hs
 have HTX := zz hT
 have HUX := zz hU
 have hBg : ¬ B = g := fun e => h.nB (by simp [bO, e])
 have hgB : ¬ g = B := fun e => hBg e.symm
 have hlm : m < p.args.length := by omega
 obtain ⟨x, hx⟩ := eX (p.args[m]'hlm)
 have a_m : w.cell? ⟨g, m, none⟩ = some (.int .i64 x) := by
  have := (h.args.sl (fun _ => rfl) : Sl iE 1 w (some ⟨g, 0, none⟩) p.args)
  obtain ⟨b1, o1, he, _, hc⟩ := this.at hlm
  cases he
  have h2 := hc m hlm 0 (by omega)
  simpa [iE, hx] using h2
 have gf : ∀ o, w.frozen? ⟨g, o, none⟩ = false := fun o => ho.frozenAt o
 have hxb : -1 ≤ x ∧ x ≤ 9999 := by
  rw [← hx]
  exact hall _ (List.getElem_mem _)
 obtain ⟨hx1, hx2⟩ := hxb
 have HX : Hid (lastA p.args = x) := zz (by rw [Yd2 hm]; exact hx)
 have HX0 : Hid (m = 0 → x = -1 → p.args = [-1]) := zz (fun h0 h1 => by
  subst h0
  exact one_at hm (by rw [hx]; exact h1))
 have HX1 : Hid (p.args = [-1] → m = 0 ∧ x = -1) := zz (fun h0 => by
  have e1 : m = 0 := by rw [h0] at hm; simp at hm; omega
  subst e1
  refine ⟨rfl, ?_⟩
  rw [← hx]
  simp [h0])
 have hm7 : m ≤ 7 := by omega
 clear h ho hall hs hT hU hx hl1 hl8 hm
 obtain ⟨n, hn⟩ := eX (b.toNat)
 rw [hn] at h256 ⊢
 have HN := zz hn
 clear hn
 obtain ⟨Gr, hG⟩ := eX (cstep p b)
 have HGG := zz hG
 rw [hG]
 clear hG
 by_cases h27 : n = 27
 case pos =>
  have HR : Hid (Gr = (pst 1, [])) := zz (by rw [← HGG.out]; exact cs1 HN.out h27)
  have g27 : ((n : Int) == 27) = true := by subst h27; rfl
  clear h27
  go_enter Tryz.func90, Tryz.ntmps90
  go_wp2_with fail
  go_ret
  refine PR.cells (p' := pst 1) (ap' := none) (cp' := 0) HP.out ?hc (by rw [HR.out]) (by rw [HR.out]) (HP.out.cells ?hc ?_ ?_ ?_ ?_ ?_ ?_ (.inr ⟨rfl, rfl, rfl⟩)) (.inr rfl)
  case hc => repeat (first | (with_reducible exact Ch.refl) | (with_reducible refine Ch.alloc ?_ _) | (with_reducible refine Ch.drew ?_) | (with_reducible refine Ch.setB ?_ _ _))
  all_goals first | (intro o; simp [go_sem, kf]; done) | (simp [go_sem, k_0, k_1, k_2, k_3, k_4, pst]; done)
 have g27 : ((n : Int) == 27) = false := beq_eq_false_iff_ne.2 (by omega)
 obtain ⟨c, hc⟩ := eX (ctl n)
 have HCT : Hid (ctlI (n : Int) = c) := zz (by rw [Zt7]; exact hc)
 have HCC := zz hc
 clear hc
 cases c
 case true =>
  have HR : Hid (Gr = (p, [⟨2, n, false, [], e0⟩])) := zz (by rw [← HGG.out]; exact cs2 HN.out h27 HCC.out)
  go_enter Tryz.func90, Tryz.ntmps90
  go_upto_region 6 with (go_at_call 70; refine (iCq _ _).mono ?_; rw [HCT.out]; rintro e w' ⟨rfl, rfl⟩)
  have HSRC1 : Hid (Src Tryz.prog 5 48 (.slice (some ⟨w.heap.size, 0, none⟩) 1 1) [(⟨⟨2, n, false, [], e0⟩, none, 0⟩ : aA)].length ([(⟨⟨2, n, false, [], e0⟩, none, 0⟩ : aA)].flatMap actE) (w.alloc (.cells #[.int .i64 2, .int .i64 n, .bool false, .slice none 0 0, .string ⟨#[]⟩] 38))) := zz (Src.ofBox (enc := actE) Tryz.underlying48 (fun _ => rfl) Zd9 (⟨⟨2, n, false, [], e0⟩, none, 0⟩ : aA) _ _ (by first | rfl | simp [actE]) _ rfl)
  have HRO1 : Hid (ActO lo L al cl (w.alloc (.cells #[.int .i64 2, .int .i64 n, .bool false, .slice none 0 0, .string ⟨#[]⟩] 38))) := zz (HP.out.ro.keep actL (bA))
  go_wp2_with (at_builtin; refine wA (.tmp 27) (.tmp 31) 48 48 lo 38 iA (.agg #[.int .i64 0, .int .i64 0, .bool false, .slice none 0 0, .string ⟨#[]⟩]) 5 64 Tryz.underlying48 hA hA0 hA1 hA2 rfl (by decide) al L.length cl L HRO1.out.row (.slice (some ⟨w.heap.size, 0, none⟩) 1 1) [(⟨⟨2, n, false, [], e0⟩, none, 0⟩ : aA)] HSRC1.out (by simp; omega) (by simp; omega) rfl rfl rfl rfl ?_)
  intro a1 c1 w1 us1 hus hf hc hk
  have HUS1 := hus
  have HF1 := zz hf
  have HC1 : Hid (Ch (· ∈ bO al) w w1) := zz ((Ch.refl.alloc _).trans hc (fun i hi => .inl hi))
  have HK1 : Hid (∀ j ∈ bO a1, j ∈ bO al ∨ j = (w.alloc (.cells #[.int .i64 2, .int .i64 n, .bool false, .slice none 0 0, .string ⟨#[]⟩] 38)).heap.size) := zz (fun j hj => by simpa using hk j hj)
  have HCA1 := zz hc
  clear hus hf hc hk
  go_wp2_with fail
  go_ret
  exact PR.push (p' := p) (ap' := some ⟨g, 0, none⟩) (cp' := cp) (w1 := w.alloc (.cells #[.int .i64 2, .int .i64 n, .bool false, .slice none 0 0, .string ⟨#[]⟩] 38)) HP.out (x := ⟨⟨2, n, false, [], e0⟩, none, 0⟩) rfl HUS1.out HK1.out (by simp) (HC1.out.mono (fun i hi => .inl (.inr hi))) (by rw [HR.out]) (by rw [HR.out]; try rfl) ((HP.out.keep ((Below.refl _ _).alloc (Nat.le_refl _) (.cells #[.int .i64 2, .int .i64 n, .bool false, .slice none 0 0, .string ⟨#[]⟩] 38))).push ⟨rfl, rfl, rfl⟩ HUS1.out HF1.out HCA1.out HK1.out) (.inl rfl)
 by_cases h3 : 48 ≤ n ∧ n ≤ 57
 case pos =>
  have HR : Hid (Gr = ({ p with args := p.args.dropLast ++ [min 9999 (max 0 x * 10 + ((n : Int) - 48))] }, [])) := zz (by rw [← HGG.out, cs3 HN.out HCC.out h3, HX.out])
  obtain ⟨h31, h32⟩ := h3
  have g31 : (48 : Int) ≤ (n : Int) := by omega
  have g32 : (n : Int) ≤ 57 := by omega
  obtain ⟨y, hy⟩ := eX (max 0 x)
  have hy0 : 0 ≤ y := by omega
  have hy1 : y ≤ 9999 := by omega
  rw [hy] at HR
  have HY := zz hy
  clear h31 h32 hy
  go_enter Tryz.func90, Tryz.ntmps90
  go_upto_region 8 with (go_at_call 70; refine (iCq _ _).mono ?_; rw [HCT.out]; rintro e w' ⟨rfl, rfl⟩)
  have hS0 : w.cell? ⟨B, 1, none⟩ = some (.slice (some ⟨g, 0, none⟩) (m + 1) cp) ∧ w.cell? ⟨g, m, none⟩ = some (.int .i64 x) := ⟨k_1, a_m⟩
  have em : (m : Int) < (m : Int) + 1 := by omega
  refine Za4 (fun w' => w'.cell? ⟨B, 1, none⟩ = some (.slice (some ⟨g, 0, none⟩) (m + 1) cp) ∧ w'.cell? ⟨g, m, none⟩ = some (.int .i64 x)) (fun i => i == 20) (by kernel_rfl) hS0 ?_
  refine tW ?_ 0 rfl ?_ ?_; rotate_left
  ·intro w' hSw; go_simp; try rfl
  try simp only [Act.put,j1,j2,j3,j4,j5,j6]
  refine tW ?_ 1 rfl ?_ ?_; rotate_left
  ·intro w' hSw; go_simp; try rfl
  try simp only [Act.put,j1,j2,j3,j4,j5,j6]
  refine tW ?_ 2 rfl ?_ ?_; rotate_left
  ·intro w' hSw; go_simp; try rfl
  try simp only [Act.put,j1,j2,j3,j4,j5,j6]
  refine tL ?_ 3 rfl hS0 ?_ ?_; rotate_left
  ·intro w' hSw; obtain ⟨s0, s1⟩ := hSw; go_simp; try rfl
  try simp only [Act.put,j1,j2,j3,j4,j5,j6]
  refine tW ?_ 4 rfl ?_ ?_; rotate_left
  ·intro w' hSw; go_simp; try rfl
  try simp only [Act.put,j1,j2,j3,j4,j5,j6]
  refine tW ?_ 5 rfl ?_ ?_; rotate_left
  ·intro w' hSw; go_simp; try rfl
  try simp only [Act.put,j1,j2,j3,j4,j5,j6]
  refine tW ?_ 6 rfl ?_ ?_; rotate_left
  ·intro w' hSw; go_simp; try rfl
  try simp only [Act.put,j1,j2,j3,j4,j5,j6]
  refine tW ?_ 7 rfl ?_ ?_; rotate_left
  ·intro w' hSw; go_simp; try rfl
  try simp only [Act.put,j1,j2,j3,j4,j5,j6]
  refine tL ?_ 8 rfl hS0 ?_ ?_; rotate_left
  ·intro w' hSw; obtain ⟨s0, s1⟩ := hSw; go_simp; try rfl
  try simp only [Act.put,j1,j2,j3,j4,j5,j6]
  refine tW ?_ 9 rfl ?_ ?_; rotate_left
  ·intro w' hSw; go_simp; try rfl
  try simp only [Act.put,j1,j2,j3,j4,j5,j6]
  refine tW ?_ 10 rfl ?_ ?_; rotate_left
  ·intro w' hSw; go_simp; try rfl
  try simp only [Act.put,j1,j2,j3,j4,j5,j6]
  refine tL ?_ 11 rfl hS0 ?_ ?_; rotate_left
  ·intro w' hSw; obtain ⟨s0, s1⟩ := hSw; go_simp; try rfl
  try simp only [Act.put,j1,j2,j3,j4,j5,j6]
  refine tW ?_ 12 rfl ?_ ?_; rotate_left
  ·intro w' hSw; go_simp; try rfl
  try simp only [Act.put,j1,j2,j3,j4,j5,j6]
  refine tW ?_ 13 rfl ?_ ?_; rotate_left
  ·intro w' hSw; go_simp; try rfl
  try simp only [Act.put,j1,j2,j3,j4,j5,j6]
  refine tW ?_ 14 rfl ?_ ?_; rotate_left
  ·intro w' hSw; go_simp; try rfl
  try simp only [Act.put,j1,j2,j3,j4,j5,j6]
  refine tW ?_ 15 rfl ?_ ?_; rotate_left
  ·intro w' hSw; go_simp; try rfl
  try simp only [Act.put,j1,j2,j3,j4,j5,j6]
  refine tW ?_ 16 rfl ?_ ?_; rotate_left
  ·intro w' hSw; go_simp; try rfl
  try simp only [Act.put,j1,j2,j3,j4,j5,j6]
  refine tW ?_ 17 rfl ?_ ?_; rotate_left
  ·intro w' hSw; go_simp; try rfl
  try simp only [Act.put,j1,j2,j3,j4,j5,j6]
  refine tW ?_ 18 rfl ?_ ?_; rotate_left
  ·intro w' hSw; go_simp; try rfl
  try simp only [Act.put,j1,j2,j3,j4,j5,j6]
  refine tW ?_ 19 rfl ?_ ?_; rotate_left
  ·intro w' hSw; go_simp; try rfl
  try simp only [Act.put,j1,j2,j3,j4,j5,j6]
  refine w1G (i := 20) (by kernel_rfl) rfl hS0 (fun K' hK => ?_)
  simp only [j1,j2,j3]
  go_simp
  refine hK.out _ _ (Or.inl rfl) ?_
  clear hK K'
  try simp only [Act.put,j1,j2,j3,j4,j5,j6]
  refine wD (by kernel_rfl) ?_ _
  go_wp2_with fail
  all_goals
   have hset := Zy2 HLM.out (min 9999 (y * 10 + ((n : Int) - 48)))
   go_ret
   refine PR.dig HP.out hlm (v := min 9999 (y * 10 + ((n : Int) - 48))) ?_ (by rw [HR.out, hset]) (by rw [HR.out])
   have hyx := HY.out
   simp only [IntKind.wrap_i64, IntKind.wrap_u8] at *
   omega
 have HN27 := h27
 by_cases h59 : n = 59
 case pos =>
  have g59 : ((n : Int) == 59) = true := by subst h59; rfl
  have g57 : ¬ (n : Int) ≤ 57 := by omega
  have g48 : (48 : Int) ≤ (n : Int) := by omega
  have H59 := zz h59
  clear h59
  by_cases hm8 : m < 7
  case pos =>
   have HR : Hid (Gr = ({ p with args := p.args ++ [-1] }, [])) := zz (by rw [← HGG.out]; exact cs4 HN.out HCC.out ⟨H59.out, by rw [HLM.out]; omega⟩)
   have gm8 : (m : Int) + 1 < 8 := by omega
   go_enter Tryz.func90, Tryz.ntmps90
   go_upto_region 10 with (go_at_call 70; refine (iCq _ _).mono ?_; rw [HCT.out]; rintro e w' ⟨rfl, rfl⟩)
   have HSRC : Hid (Src Tryz.prog 1 36 (.slice (some ⟨w.heap.size, 0, none⟩) 1 1) [(-1 : Int)].length ([(-1 : Int)].flatMap iE) (w.alloc (.cells #[.int .i64 (-1)] 3))) := zz (Src.ofBox (enc := iE) Tryz.underlying36 (fun _ => rfl) (fun x u hu => by simp [iE] at hu; subst hu; rfl) (-1 : Int) _ _ (by first | rfl | simp [iE]) _ rfl)
   have hrow := HP.out.args.ch (M := fun _ => False) (Ch.of_below ((Below.refl _ _).alloc (Nat.le_refl _) (.cells #[.int .i64 (-1)] 3))) (fun _ _ h => h)
   rw [HLM.out] at hrow
   have HROW := zz hrow
   clear hrow
   go_wp2_with (at_builtin; refine wA (.tmp 75) (.tmp 76) 36 36 lo 3 iI (.int .i64 0) 1 8 Tryz.underlying36 hI hI0 hI1 hI2 rfl (by decide) (some ⟨g, 0, none⟩) (m + 1) cp p.args HROW.out (.slice (some ⟨w.heap.size, 0, none⟩) 1 1) [(-1 : Int)] HSRC.out (by rw [HLM.out]; simp; omega) (by simp; omega) rfl rfl rfl rfl ?_)
   intro a1 c1 w1 us hus hf hc hk
   have HUS := hus
   have HF := zz hf
   have HC1 : Hid (Ch (· ∈ bO (some (⟨g, 0, none⟩ : Addr))) w w1) := zz ((Ch.refl.alloc _).trans hc (fun i hi => .inl hi))
   have HK : Hid (∀ j ∈ bO a1, j ∈ bO (some (⟨g, 0, none⟩ : Addr)) ∨ w.heap.size ≤ j) := zz (fun j hj => by
    rcases hk j hj with h | h
    ·exact .inl h
    ·right; (try simp at h); omega)
   have q_1 : w1.cell? ⟨B, 1, none⟩ = some (.slice (some ⟨g, 0, none⟩) (m + 1) cp) := (HC1.out.cell (p := ⟨B, 1, none⟩) klt (by simpa [bO] using hBg)).trans k_1
   have qf : ∀ o, w1.frozen? ⟨B, o, none⟩ = false := fun o => (HC1.out.frozen (p := ⟨B, o, none⟩) klt (by simpa [bO] using hBg)).trans (kf o)
   clear hus hf hc hk
   go_wp2_with fail
   go_ret
   exact PR.arg (p' := { p with args := us }) HP.out (by rw [HR.out, HUS.out]) (by rw [HR.out]) (HP.out.arg2 HC1.out HF.out HK.out) ((HC1.out.mono (M := fun k => k = B ∨ k ∈ bO (some (⟨g, 0, none⟩ : Addr))) (fun i hi => .inl (.inr hi))).trans (Ch.set1 _ _ _ _) (fun i hi => .inl (.inl hi))) HK.out
  have gm8 : ¬ (m : Int) + 1 < 8 := by omega
  have n59 := H59.out
  have g31 : ¬ (n : Int) ≤ 57 := by omega
  have g63 : ((n : Int) == 63) = false := beq_eq_false_iff_ne.2 (by omega)
  have g64 : ¬ (64 : Int) ≤ (n : Int) := by omega
  have HH59 : Hid (¬ (n = 59 ∧ p.args.length < 8)) := zz (fun h => by rw [HLM.out] at h; omega)
  have HH63 : Hid (¬ (n = 63 ∧ p.args = [-1] ∧ p.priv = false)) := zz (fun h => by omega)
  have HH64 : Hid (¬ (64 ≤ n ∧ n ≤ 126)) := zz (by omega)
  clear n59
  have HR : Hid (Gr = (pst 3, [])) := zz (by rw [← HGG.out]; exact cs7 HN.out h27 HCC.out h3 HH59.out HH63.out HH64.out)
  go_enter Tryz.func90, Tryz.ntmps90
  go_wp2_with (go_at_call 70; refine (iCq _ _).mono ?_; rw [HCT.out]; rintro e w' ⟨rfl, rfl⟩)
  go_ret
  refine PR.cells (p' := pst 3) (ap' := none) (cp' := 0) HP.out ?hc (by rw [HR.out]) (by rw [HR.out]) (HP.out.cells ?hc ?_ ?_ ?_ ?_ ?_ ?_ (.inr ⟨rfl, rfl, rfl⟩)) (.inr rfl)
  case hc => repeat (first | (with_reducible exact Ch.refl) | (with_reducible refine Ch.alloc ?_ _) | (with_reducible refine Ch.drew ?_) | (with_reducible refine Ch.setB ?_ _ _))
  all_goals first | (intro o; simp [go_sem, kf]; done) | (simp [go_sem, k_0, k_1, k_2, k_3, k_4, pst]; done)
 have g59 : ((n : Int) == 59) = false := beq_eq_false_iff_ne.2 (by omega)
 by_cases h63 : n = 63
 case pos =>
  have g63 : ((n : Int) == 63) = true := by subst h63; rfl
  have g64 : ¬ (64 : Int) ≤ (n : Int) := by omega
  have g57 : ¬ (n : Int) ≤ 57 := by omega
  have HH64 : Hid (¬ (64 ≤ n ∧ n ≤ 126)) := zz (by omega)
  have HH59 : Hid (¬ (n = 59 ∧ p.args.length < 8)) := zz (fun h => by omega)
  have H63 := zz h63
  clear h63
  by_cases hm0 : m = 0
  case neg =>
   have gm0 : ((m : Int) == 0) = false := beq_eq_false_iff_ne.2 (by omega)
   have HH63 : Hid (¬ (n = 63 ∧ p.args = [-1] ∧ p.priv = false)) := zz (fun h => hm0 (HX1.out h.2.1).1)
   skip
   have HR : Hid (Gr = (pst 3, [])) := zz (by rw [← HGG.out]; exact cs7 HN.out h27 HCC.out h3 HH59.out HH63.out HH64.out)
   go_enter Tryz.func90, Tryz.ntmps90
   go_wp2_with (go_at_call 70; refine (iCq _ _).mono ?_; rw [HCT.out]; rintro e w' ⟨rfl, rfl⟩)
   go_ret
   refine PR.cells (p' := pst 3) (ap' := none) (cp' := 0) HP.out ?hc (by rw [HR.out]) (by rw [HR.out]) (HP.out.cells ?hc ?_ ?_ ?_ ?_ ?_ ?_ (.inr ⟨rfl, rfl, rfl⟩)) (.inr rfl)
   case hc => repeat (first | (with_reducible exact Ch.refl) | (with_reducible refine Ch.alloc ?_ _) | (with_reducible refine Ch.drew ?_) | (with_reducible refine Ch.setB ?_ _ _))
   all_goals first | (intro o; simp [go_sem, kf]; done) | (simp [go_sem, k_0, k_1, k_2, k_3, k_4, pst]; done)
  have gm0 : ((m : Int) == 0) = true := by subst hm0; rfl
  have a_0 : w.cell? ⟨g, 0, none⟩ = some (.int .i64 x) := by rw [← a_m, hm0]
  have HM0 := zz hm0
  clear hm0
  by_cases hxm : x = -1
  case neg =>
   have gx : (x == -1) = false := beq_eq_false_iff_ne.2 hxm
   have HH63 : Hid (¬ (n = 63 ∧ p.args = [-1] ∧ p.priv = false)) := zz (fun h => hxm (HX1.out h.2.1).2)
   skip
   have HR : Hid (Gr = (pst 3, [])) := zz (by rw [← HGG.out]; exact cs7 HN.out h27 HCC.out h3 HH59.out HH63.out HH64.out)
   go_enter Tryz.func90, Tryz.ntmps90
   go_wp2_with (go_at_call 70; refine (iCq _ _).mono ?_; rw [HCT.out]; rintro e w' ⟨rfl, rfl⟩)
   go_ret
   refine PR.cells (p' := pst 3) (ap' := none) (cp' := 0) HP.out ?hc (by rw [HR.out]) (by rw [HR.out]) (HP.out.cells ?hc ?_ ?_ ?_ ?_ ?_ ?_ (.inr ⟨rfl, rfl, rfl⟩)) (.inr rfl)
   case hc => repeat (first | (with_reducible exact Ch.refl) | (with_reducible refine Ch.alloc ?_ _) | (with_reducible refine Ch.drew ?_) | (with_reducible refine Ch.setB ?_ _ _))
   all_goals first | (intro o; simp [go_sem, kf]; done) | (simp [go_sem, k_0, k_1, k_2, k_3, k_4, pst]; done)
  have gx : (x == -1) = true := by subst hxm; rfl
  have HXM := zz hxm
  clear hxm
  obtain ⟨pv, hpv⟩ := eX (p.priv)
  rw [hpv] at k_2
  have HPV := zz hpv
  clear hpv
  cases pv
  case true =>
   have HH63 : Hid (¬ (n = 63 ∧ p.args = [-1] ∧ p.priv = false)) := zz (fun h => by rw [HPV.out] at h; exact absurd h.2.2 (by simp))
   skip
   have HR : Hid (Gr = (pst 3, [])) := zz (by rw [← HGG.out]; exact cs7 HN.out h27 HCC.out h3 HH59.out HH63.out HH64.out)
   go_enter Tryz.func90, Tryz.ntmps90
   go_wp2_with (go_at_call 70; refine (iCq _ _).mono ?_; rw [HCT.out]; rintro e w' ⟨rfl, rfl⟩)
   go_ret
   refine PR.cells (p' := pst 3) (ap' := none) (cp' := 0) HP.out ?hc (by rw [HR.out]) (by rw [HR.out]) (HP.out.cells ?hc ?_ ?_ ?_ ?_ ?_ ?_ (.inr ⟨rfl, rfl, rfl⟩)) (.inr rfl)
   case hc => repeat (first | (with_reducible exact Ch.refl) | (with_reducible refine Ch.alloc ?_ _) | (with_reducible refine Ch.drew ?_) | (with_reducible refine Ch.setB ?_ _ _))
   all_goals first | (intro o; simp [go_sem, kf]; done) | (simp [go_sem, k_0, k_1, k_2, k_3, k_4, pst]; done)
  have HR : Hid (Gr = ({ p with priv := true }, [])) := zz (by rw [← HGG.out]; exact cs5 HN.out HCC.out ⟨H63.out, HX0.out HM0.out HXM.out, HPV.out⟩)
  go_enter Tryz.func90, Tryz.ntmps90
  go_wp2_with (go_at_call 70; refine (iCq _ _).mono ?_; rw [HCT.out]; rintro e w' ⟨rfl, rfl⟩)
  go_ret
  have hc : Ch (fun k => k = B) w (w.setCell ⟨B, 2, none⟩ (.bool true)) := Ch.set1 _ _ _ _
  refine PR.cells (p' := { p with priv := true }) (ap' := some ⟨g, 0, none⟩) (cp' := cp) HP.out hc (by rw [HR.out]) (by rw [HR.out]) (HP.out.cells hc ?_ ?_ ?_ ?_ ?_ ?_ (.inl ⟨rfl, rfl, rfl⟩)) (.inl rfl)
  all_goals first | (intro o; simp [go_sem, kf]; done) | (simp [go_sem, k_0, k_1, k_2, k_3, k_4, HST.out, HTX.out, HUX.out, HLM.out]; done)
 have g63 : ((n : Int) == 63) = false := beq_eq_false_iff_ne.2 (by omega)
 by_cases h64 : 64 ≤ n ∧ n ≤ 126
 case neg =>
  have HH63 : Hid (¬ (n = 63 ∧ p.args = [-1] ∧ p.priv = false)) := zz (fun h => h63 h.1)
  have HH59 : Hid (¬ (n = 59 ∧ p.args.length < 8)) := zz (fun h => h59 h.1)
  have HH64 := zz h64
  have g57 : ¬ ((48 : Int) ≤ (n : Int) ∧ (n : Int) ≤ 57) := by omega
  by_cases hlow : n < 48
  ·have g48 : (n : Int) < 48 := by omega
   have g64 : (n : Int) < 64 := by omega
   clear hlow
   skip
   have HR : Hid (Gr = (pst 3, [])) := zz (by rw [← HGG.out]; exact cs7 HN.out h27 HCC.out h3 HH59.out HH63.out HH64.out)
   go_enter Tryz.func90, Tryz.ntmps90
   go_wp2_with (go_at_call 70; refine (iCq _ _).mono ?_; rw [HCT.out]; rintro e w' ⟨rfl, rfl⟩)
   go_ret
   refine PR.cells (p' := pst 3) (ap' := none) (cp' := 0) HP.out ?hc (by rw [HR.out]) (by rw [HR.out]) (HP.out.cells ?hc ?_ ?_ ?_ ?_ ?_ ?_ (.inr ⟨rfl, rfl, rfl⟩)) (.inr rfl)
   case hc => repeat (first | (with_reducible exact Ch.refl) | (with_reducible refine Ch.alloc ?_ _) | (with_reducible refine Ch.drew ?_) | (with_reducible refine Ch.setB ?_ _ _))
   all_goals first | (intro o; simp [go_sem, kf]; done) | (simp [go_sem, k_0, k_1, k_2, k_3, k_4, pst]; done)
  have g48 : (57 : Int) < (n : Int) := by omega
  by_cases hl4 : n < 64
  ·have g64 : (n : Int) < 64 := by omega
   skip
   have HR : Hid (Gr = (pst 3, [])) := zz (by rw [← HGG.out]; exact cs7 HN.out h27 HCC.out h3 HH59.out HH63.out HH64.out)
   go_enter Tryz.func90, Tryz.ntmps90
   go_wp2_with (go_at_call 70; refine (iCq _ _).mono ?_; rw [HCT.out]; rintro e w' ⟨rfl, rfl⟩)
   go_ret
   refine PR.cells (p' := pst 3) (ap' := none) (cp' := 0) HP.out ?hc (by rw [HR.out]) (by rw [HR.out]) (HP.out.cells ?hc ?_ ?_ ?_ ?_ ?_ ?_ (.inr ⟨rfl, rfl, rfl⟩)) (.inr rfl)
   case hc => repeat (first | (with_reducible exact Ch.refl) | (with_reducible refine Ch.alloc ?_ _) | (with_reducible refine Ch.drew ?_) | (with_reducible refine Ch.setB ?_ _ _))
   all_goals first | (intro o; simp [go_sem, kf]; done) | (simp [go_sem, k_0, k_1, k_2, k_3, k_4, pst]; done)
  have g64 : (126 : Int) < (n : Int) := by omega
  skip
  have HR : Hid (Gr = (pst 3, [])) := zz (by rw [← HGG.out]; exact cs7 HN.out h27 HCC.out h3 HH59.out HH63.out HH64.out)
  go_enter Tryz.func90, Tryz.ntmps90
  go_wp2_with (go_at_call 70; refine (iCq _ _).mono ?_; rw [HCT.out]; rintro e w' ⟨rfl, rfl⟩)
  go_ret
  refine PR.cells (p' := pst 3) (ap' := none) (cp' := 0) HP.out ?hc (by rw [HR.out]) (by rw [HR.out]) (HP.out.cells ?hc ?_ ?_ ?_ ?_ ?_ ?_ (.inr ⟨rfl, rfl, rfl⟩)) (.inr rfl)
  case hc => repeat (first | (with_reducible exact Ch.refl) | (with_reducible refine Ch.alloc ?_ _) | (with_reducible refine Ch.drew ?_) | (with_reducible refine Ch.setB ?_ _ _))
  all_goals first | (intro o; simp [go_sem, kf]; done) | (simp [go_sem, k_0, k_1, k_2, k_3, k_4, pst]; done)
 have HR : Hid (Gr = (pz, [⟨4, n, p.priv, p.args, e0⟩])) := zz (by rw [← HGG.out]; exact cs6 HN.out HCC.out h64)
 obtain ⟨h641, h642⟩ := h64
 have g57 : ¬ (n : Int) ≤ 57 := by omega
 have g641 : (64 : Int) ≤ (n : Int) := by omega
 have g642 : (n : Int) ≤ 126 := by omega
 go_enter Tryz.func90, Tryz.ntmps90
 go_upto_region 14 with (go_at_call 70; refine (iCq _ _).mono ?_; rw [HCT.out]; rintro e w' ⟨rfl, rfl⟩)
 have hS0 : w.cell? ⟨B, 2, none⟩ = some (.bool p.priv) ∧ w.cell? ⟨B, 1, none⟩ = some (.slice (some ⟨g, 0, none⟩) (m + 1) cp) := ⟨k_2, k_1⟩
 have hwn : IntKind.i64.wrap (n : Int) = n := iIq _
 refine Za4 (fun w' => w'.cell? ⟨B, 2, none⟩ = some (.bool p.priv) ∧ w'.cell? ⟨B, 1, none⟩ = some (.slice (some ⟨g, 0, none⟩) (m + 1) cp)) (fun i => false) (by kernel_rfl) hS0 ?_
 refine tW ?_ 0 rfl ?_ ?_; rotate_left
 ·intro w' hSw; go_simp; try rfl
 try simp only [Act.put,j1,j2,j3,j4,j5,j6]
 refine tW ?_ 1 rfl ?_ ?_; rotate_left
 ·intro w' hSw; go_simp; try rfl
 try simp only [Act.put,j1,j2,j3,j4,j5,j6]
 refine tW ?_ 2 rfl ?_ ?_; rotate_left
 ·intro w' hSw; go_simp; try rfl
 try simp only [Act.put,j1,j2,j3,j4,j5,j6]
 refine tW ?_ 3 rfl ?_ ?_; rotate_left
 ·intro w' hSw; go_simp; try rfl
 try simp only [Act.put,j1,j2,j3,j4,j5,j6]
 refine tW ?_ 4 rfl ?_ ?_; rotate_left
 ·intro w' hSw; go_simp; try rfl
 try simp only [Act.put,j1,j2,j3,j4,j5,j6]
 refine tW ?_ 5 rfl ?_ ?_; rotate_left
 ·intro w' hSw; go_simp; try rfl
 try simp only [Act.put,j1,j2,j3,j4,j5,j6]
 refine tL ?_ 6 rfl hS0 ?_ ?_; rotate_left
 ·intro w' hSw; obtain ⟨s0, s1⟩ := hSw; go_simp; try rfl
 try simp only [Act.put,j1,j2,j3,j4,j5,j6]
 refine tW ?_ 7 rfl ?_ ?_; rotate_left
 ·intro w' hSw; go_simp; try rfl
 try simp only [Act.put,j1,j2,j3,j4,j5,j6]
 refine tW ?_ 8 rfl ?_ ?_; rotate_left
 ·intro w' hSw; go_simp; try rfl
 try simp only [Act.put,j1,j2,j3,j4,j5,j6]
 refine tW ?_ 9 rfl ?_ ?_; rotate_left
 ·intro w' hSw; go_simp; try rfl
 try simp only [Act.put,j1,j2,j3,j4,j5,j6]
 refine tL ?_ 10 rfl hS0 ?_ ?_; rotate_left
 ·intro w' hSw; obtain ⟨s0, s1⟩ := hSw; go_simp; try rfl
 try simp only [Act.put,j1,j2,j3,j4,j5,j6]
 refine tW ?_ 11 rfl ?_ ?_; rotate_left
 ·intro w' hSw; go_simp; try rfl
 try simp only [Act.put,j1,j2,j3,j4,j5,j6]
 refine w1G (i := 12) (by kernel_rfl) rfl hS0 (fun K' hK => ?_)
 simp only [j1,j2,j3]
 go_simp
 clear hwn
 obtain ⟨x1, hx1⟩ : ∃ x, (w.alloc (.cells #[.int .i64 4, .int .i64 n, .bool p.priv, .slice (some ⟨g, 0, none⟩) (m + 1) cp, .string ⟨#[]⟩] 38)).drew = x := ⟨_, rfl⟩
 have hx1' : w.drew.alloc (.cells #[.int .i64 4, .int .i64 n, .bool p.priv, .slice (some ⟨g, 0, none⟩) (m + 1) cp, .string ⟨#[]⟩] 38) = x1 := by rw [← hx1]; rfl
 have HB1 : Hid (Below w.heap.size w x1) := zz (by rw [← hx1]; exact (bA).drew)
 have hz1 : w.heap.size < x1.heap.size := by rw [← hx1]; simp
 have hsrc : Src Tryz.prog 5 48 (.slice (some ⟨w.heap.size, 0, none⟩) 1 1) [(⟨⟨4, n, p.priv, p.args, e0⟩, some ⟨g, 0, none⟩, cp⟩ : aA)].length ([(⟨⟨4, n, p.priv, p.args, e0⟩, some ⟨g, 0, none⟩, cp⟩ : aA)].flatMap actE) x1 := by
  rw [← hx1']
  exact Src.ofBox (enc := actE) Tryz.underlying48 (fun _ => rfl) Zd9 (⟨⟨4, n, p.priv, p.args, e0⟩, some ⟨g, 0, none⟩, cp⟩ : aA) _ _ (by simp [actE, HLM.out]) _ (by simp)
 have HSRC := zz hsrc
 have HP1 := zz (HP.out.keep HB1.out)
 have hS1 : x1.cell? ⟨B, 2, none⟩ = some (.bool p.priv) ∧ x1.cell? ⟨B, 1, none⟩ = some (.slice (some ⟨g, 0, none⟩) (m + 1) cp) := ⟨(HB1.out.cell (p := ⟨B, 2, none⟩) klt).trans k_2, (HB1.out.cell (p := ⟨B, 1, none⟩) klt).trans k_1⟩
 have HX1' : Hid (x1.heap.size = w.heap.size + 1) := zz (by rw [← hx1]; simp)
 clear hsrc hx1'
 rw [hx1]
 clear hx1
 refine hK.out _ _ (Or.inr hS1) ?_
 clear hK K'
 try simp only [Act.put,j1,j2,j3,j4,j5,j6]
 refine w1G (i := 13) (by kernel_rfl) rfl hS1 (fun K' hK => ?_)
 simp only [j1,j2,j3]
 rw [if_pos (by rfl)]
 refine sAc (.tmp 113) (.tmp 125) 48 48 lo 38 iA (.agg #[.int .i64 0, .int .i64 0, .bool false, .slice none 0 0, .string ⟨#[]⟩]) 5 64 Tryz.underlying48 hA hA0 hA1 hA2 rfl (by decide) al L.length cl L HP1.out.ro.row (.slice (some ⟨w.heap.size, 0, none⟩) 1 1) [(⟨⟨4, n, p.priv, p.args, e0⟩, some ⟨g, 0, none⟩, cp⟩ : aA)] HSRC.out (by simp; omega) (by omega) ?_ ?_ ?_ ?_
 ·rfl
 ·rfl
 ·rfl
 intro a4 c4 w4 us hus hf hc hk
 have HUS := hus
 have HF := zz hf
 have HC4 := zz hc
 have HK := zz hk
 have HC1 : Hid (Ch (· ∈ bO al) w w4) := zz ((Ch.of_below HB1.out).trans hc (fun i hi => .inl hi))
 have hBal : ¬ B ∈ bO al := fun hb => HP.out.nB (by rw [List.mem_append]; right; simp [roB, hb])
 have q_0 : w4.cell? ⟨B, 0, none⟩ = some (.int .i64 2) := (HC1.out.cell (p := ⟨B, 0, none⟩) klt hBal).trans k_0
 have q_1 : w4.cell? ⟨B, 1, none⟩ = some (.slice (some ⟨g, 0, none⟩) (m + 1) cp) := (HC1.out.cell (p := ⟨B, 1, none⟩) klt hBal).trans k_1
 have q_2 : w4.cell? ⟨B, 2, none⟩ = some (.bool p.priv) := (HC1.out.cell (p := ⟨B, 2, none⟩) klt hBal).trans k_2
 have q_3 : w4.cell? ⟨B, 3, none⟩ = some (.string ⟨#[]⟩) := (HC1.out.cell (p := ⟨B, 3, none⟩) klt hBal).trans k_3
 have q_4 : w4.cell? ⟨B, 4, none⟩ = some (.string ⟨#[]⟩) := (HC1.out.cell (p := ⟨B, 4, none⟩) klt hBal).trans k_4
 have qf : ∀ o, w4.frozen? ⟨B, o, none⟩ = false := fun o => (HC1.out.frozen (p := ⟨B, o, none⟩) klt hBal).trans (kf o)
 clear hus hf hc hk
 refine hK.out _ _ (Or.inr ⟨q_2, q_1⟩) ?_
 clear hK K'
 try simp only [Act.put,j1,j2,j3,j4,j5,j6]
 refine tW ?_ 14 rfl ?_ ?_; rotate_left
 ·intro w' hSw; go_simp; try rfl
 try simp only [Act.put,j1,j2,j3,j4,j5,j6]
 refine wD (by kernel_rfl) ?_ _
 go_wp2_with fail
 go_ret
 refine PR.give (p' := pz) (w1 := w4) HP1.out (x := ⟨⟨4, n, p.priv, p.args, e0⟩, some ⟨g, 0, none⟩, cp⟩) ⟨rfl, rfl, rfl⟩ HUS.out HF.out HC4.out HK.out ?hc ?_ ?_ ?_ ?_ ?_ ?_ rfl (by rw [HR.out]) (by rw [HR.out]) |>.base HB1.out
 case hc => repeat (first | (with_reducible exact Ch.refl) | (with_reducible refine Ch.alloc ?_ _) | (with_reducible refine Ch.drew ?_) | (with_reducible refine Ch.setB ?_ _ _))
 all_goals first | (intro o; simp [go_sem, qf]; done) | (simp [go_sem, q_0, q_1, q_2, q_3, q_4, pz]; done)
end
end Go.Proofs.YtjmpgeffkdjpdaaGreatDoor
