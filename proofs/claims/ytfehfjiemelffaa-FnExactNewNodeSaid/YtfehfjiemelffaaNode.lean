/- Nodes: the laws' helper functions. -/
import Derived.Test.YtfehfjiemelffaaState
import Derived.Test.YtfehfjiemelffaaState3
import Derived.Test.YtfehfjiemelffaaQuiet
import Derived.Test.YtfehfjiemelffaaSl2
import Derived.Deep.RegionHeld3
namespace Go.Proofs.Ytfehfjiemelffaa
set_option linter.unusedVariables false
set_option linter.unusedSimpArgs false
open Go.RowKit
structure NodeV where
  id : Int
  nodes : Int
  term : Int
  vote : Int
  role : Int
  up : Bool
  log : List Ent
  commit : Int
  elapsed : Int
  wait : Int
  votes : List Int
  next : List Int
  mtch : List Int
/-- The four slices of a node read as its lists. -/
structure NodeSl (w : World) (al av an am : Option Addr) (N : NodeV) : Prop where
  log : Sl entE 2 w al N.log
  votes : Sl intE 1 w av N.votes
  next : Sl intE 1 w an N.next
  mtch : Sl intE 1 w am N.mtch
structure NodeSz (N : NodeV) (B : Nat) : Prop where
  log : N.log.length ≤ B
  data : ∀ s ∈ N.log, s.2.size ≤ B
  votes : N.votes.length ≤ B
  next : N.next.length ≤ B
  mtch : N.mtch.length ≤ B
theorem NodeSl.keep {w w' : World} {al av an am : Option Addr} {N : NodeV} (h : NodeSl w al av an am N) (hb : Below w.heap.size w w') : NodeSl w' al av an am N :=
  ⟨h.log.keep hb, h.votes.keep hb, h.next.keep hb, h.mtch.keep hb⟩
theorem NodeSl.alloc {w : World} {al av an am : Option Addr} {N : NodeV} (h : NodeSl w al av an am N) (o : Obj) : NodeSl (w.alloc o) al av an am N := h.keep ((Below.refl _ _).alloc (Nat.le_refl _) _)
theorem NodeSl.drew {w : World} {al av an am : Option Addr} {N : NodeV} (h : NodeSl w al av an am N) : NodeSl w.drew al av an am N := h.keep ((Below.refl _ _).drew)
/-- A node whose four slices lie in memory of their own, one behind the other. -/
def FreshNode (B : Nat) (N : NodeV) (w : World) (al : Option Addr) (cl : Nat) (av : Option Addr) (cv : Nat) (an : Option Addr) (cn : Nat) (am : Option Addr) (cm : Nat) : Prop :=
  ∃ b1 b2 b3, B ≤ b1 ∧ b1 ≤ b2 ∧ b2 ≤ b3 ∧ b3 ≤ w.heap.size ∧ FreshIn entE 43 2 B b1 (.slice al N.log.length cl) N.log w ∧ FreshIn intE 3 1 b1 b2 (.slice av N.votes.length cv) N.votes w ∧
    FreshIn intE 3 1 b2 b3 (.slice an N.next.length cn) N.next w ∧ FreshIn intE 3 1 b3 w.heap.size (.slice am N.mtch.length cm) N.mtch w
theorem FreshNode.sl {B : Nat} {N : NodeV} {w : World} {al av an am : Option Addr} {cl cv cn cm : Nat} (h : FreshNode B N w al cl av cv an cn am cm) : NodeSl w al av an am N := by
  obtain ⟨_, _, _, _, _, _, _, h1, h2, h3, h4⟩ := h
  exact ⟨h1.sl fun _ => rfl, h2.sl fun _ => rfl, h3.sl fun _ => rfl, h4.sl fun _ => rfl⟩
def FreshNodeR (N : NodeV) (w : World) (e : Ending) (w' : World) : Prop :=
  ∃ al cl av cv an cn am cm, e = .returned (.agg #[.int .i64 N.id, .int .i64 N.nodes, .int .i64 N.term, .int .i64 N.vote, .int .i64 N.role, .bool N.up, .slice al N.log.length cl, .int .i64 N.commit, .int .i64 N.elapsed, .int .i64 N.wait, .slice av N.votes.length cv, .slice an N.next.length cn, .slice am N.mtch.length cm]) ∧ FreshNode w.heap.size N w' al cl av cv an cn am cm ∧ Below w.heap.size w w'
end Go.Proofs.Ytfehfjiemelffaa
