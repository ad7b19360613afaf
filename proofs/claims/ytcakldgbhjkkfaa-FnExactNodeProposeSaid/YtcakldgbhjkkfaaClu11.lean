/- Marks on a cluster in memory of its own: markCluster, heldCluster. No conditions but sizes. -/
import Derived.Test.YtcakldgbhjkkfaaClu3r
namespace Go.Proofs.Ytcakldgbhjkkfaa
set_option linter.unusedVariables false
set_option linter.unusedSimpArgs false
open Go.RowKit
def nodesMk (rs : List NodeA) (K : Nat) : List NodeA := (List.range rs.length).map (nodeF rs K)
def storesMk (rs : List Sto) (K : Nat) : List Sto := (List.range rs.length).map (storeF rs K)
def wireMk (rs : List MsgA) (K : Nat) : List MsgA := (List.range rs.length).map (messageF rs K)
def cluK1 (D : CluA) (K : Nat) : Nat := nodeNum K D.nodes
def cluK2 (D : CluA) (K : Nat) : Nat := storeNum (cluK1 D K) D.stores
def cluK3 (D : CluA) (K : Nat) : Nat := messageNum (cluK2 D K) D.wire
def cluNum (D : CluA) (K : Nat) : Nat := cluK3 D K + D.done.length
theorem markMsgP_c (lo hi ca K : Nat) (a : Option Addr) (rs : List MsgA) (w : World) (h : MsgP lo hi w a rs) (hK : messageNum K rs ≤ 17592186044416) :
    Calls Try.prog 11 #[.slice a rs.length ca, .int .i64 K] w fun e w' => e = .returned (.int .i64 ((messageNum K rs : Nat))) ∧ MsgP lo hi w' a (wireMk rs K) ∧ Mid lo hi w w' := by
  obtain ⟨⟨g, rfl, hg, hr⟩, hbd⟩ := h
  refine (markMessageS_c g ca lo rs K w hr hK).mono ?_
  rintro e w' ⟨rfl, h1, h2⟩
  have hS : ∀ k, allBlk messageBlk rs k → lo ≤ k ∧ k < hi := fun k ⟨r, hm, hk⟩ => hbd r hm k hk
  refine ⟨rfl, ⟨⟨g, rfl, hg, h1⟩, fun r hm b hb => ?_⟩, h2.toMid hr.low hg hS⟩
  obtain ⟨i, hi, rfl⟩ := List.getElem_of_mem hm
  have hi' : i < rs.length := by simpa [wireMk] using hi
  have he : (wireMk rs K)[i] = messageMk rs[i] (messageNum K (rs.take i)) := by simpa [wireMk] using messageF_at rs K i hi'
  rw [he] at hb
  exact hbd rs[i] (List.getElem_mem hi') b hb
theorem heldMsgP_c (lo hi ca K : Nat) (a : Option Addr) (rs : List MsgA) (w : World) (h : MsgP lo hi w a (wireMk rs K)) (hK : messageNum K rs ≤ 17592186044416) :
    Calls Try.prog 13 #[.slice a rs.length ca, .int .i64 K] w fun e w' => e = .returned (.int .i64 ((messageNum K rs : Nat))) ∧ Below w.heap.size w w' := by
  obtain ⟨⟨g, rfl, hg, hr⟩, hbd⟩ := h
  exact heldMessageS_c g ca lo rs K w hr hK
theorem FreshIn.slmB {lo hi n K ca : Nat} {a : Option Addr} {e : TypeId} {w : World} (h : FreshIn strE e 1 lo hi (.slice a n ca) (marks K n) w) : Sl strE 1 w a (marks K n) := by
  have h' : FreshIn strE e 1 lo hi (.slice a (marks K n).length ca) (marks K n) w := by simpa [marks_length] using h
  exact h'.sl (fun _ => rfl)
/-- The marks from K on lie in the cluster. -/
structure CluH (lo hi K : Nat) (w : World) (D : CluA) : Prop where
  ex : ∃ m1 m2 m3, lo ≤ m1 ∧ m1 ≤ m2 ∧ m2 ≤ m3 ∧ m3 ≤ hi ∧ NodeP lo m1 w D.an (nodesMk D.nodes K) ∧ StoP m1 m2 w D.ast (storesMk D.stores (cluK1 D K)) ∧ MsgP m2 m3 w D.aw (wireMk D.wire (cluK2 D K)) ∧ FreshIn strE 9 1 m3 hi (.slice D.ad D.done.length D.cd) (marks (cluK3 D K) D.done.length) w
theorem CluH.below {lo hi K : Nat} {w w' : World} {D : CluA} (h : CluH lo hi K w D) (hb : Below w.heap.size w w') : CluH lo hi K w' D := by
  obtain ⟨m1, m2, m3, h1, h2, h3, h4, a, b, c, d⟩ := h
  exact ⟨m1, m2, m3, h1, h2, h3, h4, NodeP.keep a hb, StoP.keep b hb, MsgP.keep c hb, d.below hb⟩
theorem CluH.mid {lo hi K l r : Nat} {w w' : World} {D : CluA} (h : CluH lo hi K w D) (hm : Mid l r w w') (hd : hi ≤ l ∨ r ≤ lo) : CluH lo hi K w' D := by
  obtain ⟨m1, m2, m3, h1, h2, h3, h4, a, b, c, d⟩ := h
  exact ⟨m1, m2, m3, h1, h2, h3, h4, NodeP.mid a hm (by omega), StoP.mid b hm (by omega), MsgP.mid c hm (by omega), d.mid hm (by omega)⟩
theorem CluH.alloc {lo hi K : Nat} {w : World} {D : CluA} (h : CluH lo hi K w D) (o : Obj) : CluH lo hi K (w.alloc o) D := h.below ((Below.refl _ _).alloc (Nat.le_refl _) _)
theorem CluH.drew {lo hi K : Nat} {w : World} {D : CluA} (h : CluH lo hi K w D) : CluH lo hi K w.drew D := h.below ((Below.refl _ _).drew)
end Go.Proofs.Ytcakldgbhjkkfaa
