/- impl.isNode: validity of nodes. -/
import Derived.Test.YtfehfjiemelffaaNode
import Derived.BigGuardPart
namespace Go.Proofs.Ytfehfjiemelffaa
set_option linter.unusedVariables false
set_option linter.unusedSimpArgs false
open Go.RowKit
def VoteAt (N : NodeV) (k : Nat) : Prop := ∃ h : k < N.votes.length, inB N.votes[k] 0 (N.nodes - 1) = true ∧ ∀ h0 : 0 < k, N.votes[k - 1] < N.votes[k]
def NextAt (N : NodeV) (k : Nat) : Prop := ∃ (h : k < N.next.length) (h2 : k < N.mtch.length), inB N.next[k] 1 (N.log.length + 1) = true ∧ inB N.mtch[k] 0 (N.next[k] - 1) = true
structure NHead (N : NodeV) : Prop where
  nodes : inB N.nodes 1 5 = true
  id : inB N.id 0 (N.nodes - 1) = true
  st : stOK N.term N.vote N.log = true
  vote : N.vote < N.nodes
  role : inB N.role 0 2 = true
  up : N.up = true ∨ N.role = 0
  commit : inB N.commit 0 N.log.length = true
  elapsed : inB N.elapsed 0 1000 = true
  wait : inB N.wait 5 100 = true
  nl : (N.next.length : Int) = N.nodes
  ml : (N.mtch.length : Int) = N.nodes
structure NOK (N : NodeV) : Prop extends NHead N where
  votes : ∀ k, k < N.votes.length → VoteAt N k
  next : ∀ k, k < N.next.length → NextAt N k
open Classical in
noncomputable def nodeOK (N : NodeV) : Bool := decide (NOK N)
theorem nodeOK_true {N : NodeV} (h : NOK N) : nodeOK N = true := by simp [nodeOK, h]
theorem nodeOK_false {N : NodeV} (h : ¬ NOK N) : nodeOK N = false := by simp [nodeOK, h]
theorem hml_of {a b : Int} (h : (a != b) = false) : a = b := by
  by_cases hq : a = b
  · exact hq
  · exact hq.elim (by rw [bne, beq_false_of_ne hq] at h; cases h)
end Go.Proofs.Ytfehfjiemelffaa
