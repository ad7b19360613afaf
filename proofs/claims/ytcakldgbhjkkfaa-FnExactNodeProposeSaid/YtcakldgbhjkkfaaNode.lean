/- Nodes: the laws' helper functions. -/
import Derived.Test.YtcakldgbhjkkfaaState
import Derived.Test.YtcakldgbhjkkfaaState3
import Derived.Test.YtcakldgbhjkkfaaQuiet
import Derived.Test.YtcakldgbhjkkfaaSl2
import Derived.Deep.RegionHeld3
namespace Go.Proofs.Ytcakldgbhjkkfaa
set_option linter.unusedVariables false
set_option linter.unusedSimpArgs false
open Go.RowKit
structure NodeV where
  id : Int
  nodes : Int
  term : Int
  vote : Int
  role : Int
  up : Bool
  log : List Ent
  commit : Int
  elapsed : Int
  wait : Int
  votes : List Int
  next : List Int
  mtch : List Int
/-- The four slices of a node read as its lists. -/
structure NodeSl (w : World) (al av an am : Option Addr) (N : NodeV) : Prop where
  log : Sl entE 2 w al N.log
  votes : Sl intE 1 w av N.votes
  next : Sl intE 1 w an N.next
  mtch : Sl intE 1 w am N.mtch
structure NodeSz (N : NodeV) (B : Nat) : Prop where
  log : N.log.length ≤ B
  data : ∀ s ∈ N.log, s.2.size ≤ B
  votes : N.votes.length ≤ B
  next : N.next.length ≤ B
  mtch : N.mtch.length ≤ B
theorem NodeSl.keep {w w' : World} {al av an am : Option Addr} {N : NodeV} (h : NodeSl w al av an am N) (hb : Below w.heap.size w w') : NodeSl w' al av an am N :=
  ⟨h.log.keep hb, h.votes.keep hb, h.next.keep hb, h.mtch.keep hb⟩
theorem NodeSl.alloc {w : World} {al av an am : Option Addr} {N : NodeV} (h : NodeSl w al av an am N) (o : Obj) : NodeSl (w.alloc o) al av an am N := h.keep ((Below.refl _ _).alloc (Nat.le_refl _) _)
theorem NodeSl.drew {w : World} {al av an am : Option Addr} {N : NodeV} (h : NodeSl w al av an am N) : NodeSl w.drew al av an am N := h.keep ((Below.refl _ _).drew)
set_option maxHeartbeats 400000 in
theorem szIntS_c (a : Option Addr) (ca n : Nat) (left : Int) (w : World) (la : n ≤ 9223372036854775807) (h0 : 0 ≤ left) (h1 : left ≤ 1048576) :
    Calls Try.prog 15 #[.slice a n ca, .int .i64 left] w (SzRes (n ≤ 1048576) w) := by
  go_enter Try.func15, Try.ntmps15
  go_wp2_with fail
  all_goals
    go_ret
    exact ⟨⟨_, rfl, by omega, fun h => by omega⟩, Below.refl _ _⟩
set_option maxRecDepth 100000 in
set_option maxHeartbeats 1000000 in
theorem szNode_c (al : Option Addr) (cl : Nat) (av : Option Addr) (cv : Nat) (an : Option Addr) (cn : Nat) (am : Option Addr) (cm : Nat) (N : NodeV) (left : Int) (w : World) (hN : NodeSl w al av an am N) (hZ : NodeSz N 9223372036854775807) (h0 : 0 ≤ left) (h1 : left ≤ 1048576) :
    Calls Try.prog 4 #[.agg #[.int .i64 N.id, .int .i64 N.nodes, .int .i64 N.term, .int .i64 N.vote, .int .i64 N.role, .bool N.up, .slice al N.log.length cl, .int .i64 N.commit, .int .i64 N.elapsed, .int .i64 N.wait, .slice av N.votes.length cv, .slice an N.next.length cn, .slice am N.mtch.length cm], .int .i64 left] w (SzRes (NodeSz N 1048576) w) := by
  have HZ := Lib.hid hZ
  clear hZ
  go_enter Try.func4, Try.ntmps4
  go_wp2_with fail
  refine (szEntryS_c al cl N.log left _ (hN.log.alloc _) HZ.out.log HZ.out.data h0 h1).mono ?_
  rintro e w1 ⟨⟨n1, rfl, hn1, himp1⟩, hb1⟩
  have HI1 := Lib.hid himp1
  clear himp1
  have hz1 := hb1.size
  try simp at hz1
  have q1_0_0 : w1.cell? ⟨w.heap.size, 0, none⟩ = some (.int .i64 N.id) := by
    rw [hb1.cell (p := ⟨w.heap.size, 0, none⟩) (show w.heap.size < _ by (try simp) <;> (try omega))]
    first | assumption | (simp [go_sem, *])
  have q1_0_1 : w1.cell? ⟨w.heap.size, 1, none⟩ = some (.int .i64 N.nodes) := by
    rw [hb1.cell (p := ⟨w.heap.size, 1, none⟩) (show w.heap.size < _ by (try simp) <;> (try omega))]
    first | assumption | (simp [go_sem, *])
  have q1_0_2 : w1.cell? ⟨w.heap.size, 2, none⟩ = some (.int .i64 N.term) := by
    rw [hb1.cell (p := ⟨w.heap.size, 2, none⟩) (show w.heap.size < _ by (try simp) <;> (try omega))]
    first | assumption | (simp [go_sem, *])
  have q1_0_3 : w1.cell? ⟨w.heap.size, 3, none⟩ = some (.int .i64 N.vote) := by
    rw [hb1.cell (p := ⟨w.heap.size, 3, none⟩) (show w.heap.size < _ by (try simp) <;> (try omega))]
    first | assumption | (simp [go_sem, *])
  have q1_0_4 : w1.cell? ⟨w.heap.size, 4, none⟩ = some (.int .i64 N.role) := by
    rw [hb1.cell (p := ⟨w.heap.size, 4, none⟩) (show w.heap.size < _ by (try simp) <;> (try omega))]
    first | assumption | (simp [go_sem, *])
  have q1_0_5 : w1.cell? ⟨w.heap.size, 5, none⟩ = some (.bool N.up) := by
    rw [hb1.cell (p := ⟨w.heap.size, 5, none⟩) (show w.heap.size < _ by (try simp) <;> (try omega))]
    first | assumption | (simp [go_sem, *])
  have q1_0_6 : w1.cell? ⟨w.heap.size, 6, none⟩ = some (.slice al N.log.length cl) := by
    rw [hb1.cell (p := ⟨w.heap.size, 6, none⟩) (show w.heap.size < _ by (try simp) <;> (try omega))]
    first | assumption | (simp [go_sem, *])
  have q1_0_7 : w1.cell? ⟨w.heap.size, 7, none⟩ = some (.int .i64 N.commit) := by
    rw [hb1.cell (p := ⟨w.heap.size, 7, none⟩) (show w.heap.size < _ by (try simp) <;> (try omega))]
    first | assumption | (simp [go_sem, *])
  have q1_0_8 : w1.cell? ⟨w.heap.size, 8, none⟩ = some (.int .i64 N.elapsed) := by
    rw [hb1.cell (p := ⟨w.heap.size, 8, none⟩) (show w.heap.size < _ by (try simp) <;> (try omega))]
    first | assumption | (simp [go_sem, *])
  have q1_0_9 : w1.cell? ⟨w.heap.size, 9, none⟩ = some (.int .i64 N.wait) := by
    rw [hb1.cell (p := ⟨w.heap.size, 9, none⟩) (show w.heap.size < _ by (try simp) <;> (try omega))]
    first | assumption | (simp [go_sem, *])
  have q1_0_10 : w1.cell? ⟨w.heap.size, 10, none⟩ = some (.slice av N.votes.length cv) := by
    rw [hb1.cell (p := ⟨w.heap.size, 10, none⟩) (show w.heap.size < _ by (try simp) <;> (try omega))]
    first | assumption | (simp [go_sem, *])
  have q1_0_11 : w1.cell? ⟨w.heap.size, 11, none⟩ = some (.slice an N.next.length cn) := by
    rw [hb1.cell (p := ⟨w.heap.size, 11, none⟩) (show w.heap.size < _ by (try simp) <;> (try omega))]
    first | assumption | (simp [go_sem, *])
  have q1_0_12 : w1.cell? ⟨w.heap.size, 12, none⟩ = some (.slice am N.mtch.length cm) := by
    rw [hb1.cell (p := ⟨w.heap.size, 12, none⟩) (show w.heap.size < _ by (try simp) <;> (try omega))]
    first | assumption | (simp [go_sem, *])
  have hl1_0 : w.heap.size < w1.heap.size := by omega
  by_cases hneg : n1 < 0
  · go_wp2_with fail
    go_ret
    exact ⟨⟨_, rfl, by omega, fun h => by omega⟩, (by repeat (first | exact Below.refl _ _ | (refine Below.alloc ?_ (by (try simp) <;> (try omega)) _) | (refine Below.setCell ?_ (by (try simp) <;> (try omega)) _) | (refine Below.drew ?_) | (refine Below.trans ?_ (Below.mono (by assumption) (by (try simp) <;> (try omega))))))⟩
  go_wp2_with fail
  refine (szIntS_c av cv N.votes.length n1 _ HZ.out.votes (by omega) (by omega)).mono ?_
  rintro e w2 ⟨⟨n2, rfl, hn2, himp2⟩, hb2⟩
  have HI2 := Lib.hid himp2
  clear himp2
  have hz2 := hb2.size
  try simp at hz2
  have q2_0_0 : w2.cell? ⟨w.heap.size, 0, none⟩ = some (.int .i64 N.id) := by
    rw [hb2.cell (p := ⟨w.heap.size, 0, none⟩) (show w.heap.size < _ by (try simp) <;> (try omega))]
    first | assumption | (simp [go_sem, *])
  have q2_0_1 : w2.cell? ⟨w.heap.size, 1, none⟩ = some (.int .i64 N.nodes) := by
    rw [hb2.cell (p := ⟨w.heap.size, 1, none⟩) (show w.heap.size < _ by (try simp) <;> (try omega))]
    first | assumption | (simp [go_sem, *])
  have q2_0_2 : w2.cell? ⟨w.heap.size, 2, none⟩ = some (.int .i64 N.term) := by
    rw [hb2.cell (p := ⟨w.heap.size, 2, none⟩) (show w.heap.size < _ by (try simp) <;> (try omega))]
    first | assumption | (simp [go_sem, *])
  have q2_0_3 : w2.cell? ⟨w.heap.size, 3, none⟩ = some (.int .i64 N.vote) := by
    rw [hb2.cell (p := ⟨w.heap.size, 3, none⟩) (show w.heap.size < _ by (try simp) <;> (try omega))]
    first | assumption | (simp [go_sem, *])
  have q2_0_4 : w2.cell? ⟨w.heap.size, 4, none⟩ = some (.int .i64 N.role) := by
    rw [hb2.cell (p := ⟨w.heap.size, 4, none⟩) (show w.heap.size < _ by (try simp) <;> (try omega))]
    first | assumption | (simp [go_sem, *])
  have q2_0_5 : w2.cell? ⟨w.heap.size, 5, none⟩ = some (.bool N.up) := by
    rw [hb2.cell (p := ⟨w.heap.size, 5, none⟩) (show w.heap.size < _ by (try simp) <;> (try omega))]
    first | assumption | (simp [go_sem, *])
  have q2_0_6 : w2.cell? ⟨w.heap.size, 6, none⟩ = some (.slice al N.log.length cl) := by
    rw [hb2.cell (p := ⟨w.heap.size, 6, none⟩) (show w.heap.size < _ by (try simp) <;> (try omega))]
    first | assumption | (simp [go_sem, *])
  have q2_0_7 : w2.cell? ⟨w.heap.size, 7, none⟩ = some (.int .i64 N.commit) := by
    rw [hb2.cell (p := ⟨w.heap.size, 7, none⟩) (show w.heap.size < _ by (try simp) <;> (try omega))]
    first | assumption | (simp [go_sem, *])
  have q2_0_8 : w2.cell? ⟨w.heap.size, 8, none⟩ = some (.int .i64 N.elapsed) := by
    rw [hb2.cell (p := ⟨w.heap.size, 8, none⟩) (show w.heap.size < _ by (try simp) <;> (try omega))]
    first | assumption | (simp [go_sem, *])
  have q2_0_9 : w2.cell? ⟨w.heap.size, 9, none⟩ = some (.int .i64 N.wait) := by
    rw [hb2.cell (p := ⟨w.heap.size, 9, none⟩) (show w.heap.size < _ by (try simp) <;> (try omega))]
    first | assumption | (simp [go_sem, *])
  have q2_0_10 : w2.cell? ⟨w.heap.size, 10, none⟩ = some (.slice av N.votes.length cv) := by
    rw [hb2.cell (p := ⟨w.heap.size, 10, none⟩) (show w.heap.size < _ by (try simp) <;> (try omega))]
    first | assumption | (simp [go_sem, *])
  have q2_0_11 : w2.cell? ⟨w.heap.size, 11, none⟩ = some (.slice an N.next.length cn) := by
    rw [hb2.cell (p := ⟨w.heap.size, 11, none⟩) (show w.heap.size < _ by (try simp) <;> (try omega))]
    first | assumption | (simp [go_sem, *])
  have q2_0_12 : w2.cell? ⟨w.heap.size, 12, none⟩ = some (.slice am N.mtch.length cm) := by
    rw [hb2.cell (p := ⟨w.heap.size, 12, none⟩) (show w.heap.size < _ by (try simp) <;> (try omega))]
    first | assumption | (simp [go_sem, *])
  have hl2_0 : w.heap.size < w2.heap.size := by omega
  clear q1_0_0 q1_0_1 q1_0_2 q1_0_3 q1_0_4 q1_0_5 q1_0_6 q1_0_7 q1_0_8 q1_0_9 q1_0_10 q1_0_11 q1_0_12
  by_cases hneg2 : n2 < 0
  · go_wp2_with fail
    go_ret
    exact ⟨⟨_, rfl, by omega, fun h => by omega⟩, (by repeat (first | exact Below.refl _ _ | (refine Below.alloc ?_ (by (try simp) <;> (try omega)) _) | (refine Below.setCell ?_ (by (try simp) <;> (try omega)) _) | (refine Below.drew ?_) | (refine Below.trans ?_ (Below.mono (by assumption) (by (try simp) <;> (try omega))))))⟩
  go_wp2_with fail
  refine (szIntS_c an cn N.next.length n2 _ HZ.out.next (by omega) (by omega)).mono ?_
  rintro e w3 ⟨⟨n3, rfl, hn3, himp3⟩, hb3⟩
  have HI3 := Lib.hid himp3
  clear himp3
  have hz3 := hb3.size
  try simp at hz3
  have q3_0_0 : w3.cell? ⟨w.heap.size, 0, none⟩ = some (.int .i64 N.id) := by
    rw [hb3.cell (p := ⟨w.heap.size, 0, none⟩) (show w.heap.size < _ by (try simp) <;> (try omega))]
    first | assumption | (simp [go_sem, *])
  have q3_0_1 : w3.cell? ⟨w.heap.size, 1, none⟩ = some (.int .i64 N.nodes) := by
    rw [hb3.cell (p := ⟨w.heap.size, 1, none⟩) (show w.heap.size < _ by (try simp) <;> (try omega))]
    first | assumption | (simp [go_sem, *])
  have q3_0_2 : w3.cell? ⟨w.heap.size, 2, none⟩ = some (.int .i64 N.term) := by
    rw [hb3.cell (p := ⟨w.heap.size, 2, none⟩) (show w.heap.size < _ by (try simp) <;> (try omega))]
    first | assumption | (simp [go_sem, *])
  have q3_0_3 : w3.cell? ⟨w.heap.size, 3, none⟩ = some (.int .i64 N.vote) := by
    rw [hb3.cell (p := ⟨w.heap.size, 3, none⟩) (show w.heap.size < _ by (try simp) <;> (try omega))]
    first | assumption | (simp [go_sem, *])
  have q3_0_4 : w3.cell? ⟨w.heap.size, 4, none⟩ = some (.int .i64 N.role) := by
    rw [hb3.cell (p := ⟨w.heap.size, 4, none⟩) (show w.heap.size < _ by (try simp) <;> (try omega))]
    first | assumption | (simp [go_sem, *])
  have q3_0_5 : w3.cell? ⟨w.heap.size, 5, none⟩ = some (.bool N.up) := by
    rw [hb3.cell (p := ⟨w.heap.size, 5, none⟩) (show w.heap.size < _ by (try simp) <;> (try omega))]
    first | assumption | (simp [go_sem, *])
  have q3_0_6 : w3.cell? ⟨w.heap.size, 6, none⟩ = some (.slice al N.log.length cl) := by
    rw [hb3.cell (p := ⟨w.heap.size, 6, none⟩) (show w.heap.size < _ by (try simp) <;> (try omega))]
    first | assumption | (simp [go_sem, *])
  have q3_0_7 : w3.cell? ⟨w.heap.size, 7, none⟩ = some (.int .i64 N.commit) := by
    rw [hb3.cell (p := ⟨w.heap.size, 7, none⟩) (show w.heap.size < _ by (try simp) <;> (try omega))]
    first | assumption | (simp [go_sem, *])
  have q3_0_8 : w3.cell? ⟨w.heap.size, 8, none⟩ = some (.int .i64 N.elapsed) := by
    rw [hb3.cell (p := ⟨w.heap.size, 8, none⟩) (show w.heap.size < _ by (try simp) <;> (try omega))]
    first | assumption | (simp [go_sem, *])
  have q3_0_9 : w3.cell? ⟨w.heap.size, 9, none⟩ = some (.int .i64 N.wait) := by
    rw [hb3.cell (p := ⟨w.heap.size, 9, none⟩) (show w.heap.size < _ by (try simp) <;> (try omega))]
    first | assumption | (simp [go_sem, *])
  have q3_0_10 : w3.cell? ⟨w.heap.size, 10, none⟩ = some (.slice av N.votes.length cv) := by
    rw [hb3.cell (p := ⟨w.heap.size, 10, none⟩) (show w.heap.size < _ by (try simp) <;> (try omega))]
    first | assumption | (simp [go_sem, *])
  have q3_0_11 : w3.cell? ⟨w.heap.size, 11, none⟩ = some (.slice an N.next.length cn) := by
    rw [hb3.cell (p := ⟨w.heap.size, 11, none⟩) (show w.heap.size < _ by (try simp) <;> (try omega))]
    first | assumption | (simp [go_sem, *])
  have q3_0_12 : w3.cell? ⟨w.heap.size, 12, none⟩ = some (.slice am N.mtch.length cm) := by
    rw [hb3.cell (p := ⟨w.heap.size, 12, none⟩) (show w.heap.size < _ by (try simp) <;> (try omega))]
    first | assumption | (simp [go_sem, *])
  have hl3_0 : w.heap.size < w3.heap.size := by omega
  clear q2_0_0 q2_0_1 q2_0_2 q2_0_3 q2_0_4 q2_0_5 q2_0_6 q2_0_7 q2_0_8 q2_0_9 q2_0_10 q2_0_11 q2_0_12
  by_cases hneg3 : n3 < 0
  · go_wp2_with fail
    go_ret
    exact ⟨⟨_, rfl, by omega, fun h => by omega⟩, (by repeat (first | exact Below.refl _ _ | (refine Below.alloc ?_ (by (try simp) <;> (try omega)) _) | (refine Below.setCell ?_ (by (try simp) <;> (try omega)) _) | (refine Below.drew ?_) | (refine Below.trans ?_ (Below.mono (by assumption) (by (try simp) <;> (try omega))))))⟩
  go_wp2_with fail
  refine (szIntS_c am cm N.mtch.length n3 _ HZ.out.mtch (by omega) (by omega)).mono ?_
  rintro e w4 ⟨⟨n4, rfl, hn4, himp4⟩, hb4⟩
  have HI4 := Lib.hid himp4
  clear himp4
  have hz4 := hb4.size
  by_cases hneg4 : n4 < 0
  · go_wp2_with fail
    go_ret
    exact ⟨⟨_, rfl, by omega, fun h => by omega⟩, (by repeat (first | exact Below.refl _ _ | (refine Below.alloc ?_ (by (try simp) <;> (try omega)) _) | (refine Below.setCell ?_ (by (try simp) <;> (try omega)) _) | (refine Below.drew ?_) | (refine Below.trans ?_ (Below.mono (by assumption) (by (try simp) <;> (try omega))))))⟩
  go_wp2_with fail
  go_ret
  exact ⟨⟨_, rfl, by omega, fun h => ⟨(HI1.out (by omega)).1, (HI1.out (by omega)).2, HI2.out (by omega), HI3.out (by omega), HI4.out (by omega)⟩⟩, (by repeat (first | exact Below.refl _ _ | (refine Below.alloc ?_ (by (try simp) <;> (try omega)) _) | (refine Below.setCell ?_ (by (try simp) <;> (try omega)) _) | (refine Below.drew ?_) | (refine Below.trans ?_ (Below.mono (by assumption) (by (try simp) <;> (try omega))))))⟩
/-- A node whose four slices lie in memory of their own, one behind the other. -/
def FreshNode (B : Nat) (N : NodeV) (w : World) (al : Option Addr) (cl : Nat) (av : Option Addr) (cv : Nat) (an : Option Addr) (cn : Nat) (am : Option Addr) (cm : Nat) : Prop :=
  ∃ b1 b2 b3, B ≤ b1 ∧ b1 ≤ b2 ∧ b2 ≤ b3 ∧ b3 ≤ w.heap.size ∧ FreshIn entE 48 2 B b1 (.slice al N.log.length cl) N.log w ∧ FreshIn intE 3 1 b1 b2 (.slice av N.votes.length cv) N.votes w ∧
    FreshIn intE 3 1 b2 b3 (.slice an N.next.length cn) N.next w ∧ FreshIn intE 3 1 b3 w.heap.size (.slice am N.mtch.length cm) N.mtch w
theorem FreshNode.sl {B : Nat} {N : NodeV} {w : World} {al av an am : Option Addr} {cl cv cn cm : Nat} (h : FreshNode B N w al cl av cv an cn am cm) : NodeSl w al av an am N := by
  obtain ⟨_, _, _, _, _, _, _, h1, h2, h3, h4⟩ := h
  exact ⟨h1.sl fun _ => rfl, h2.sl fun _ => rfl, h3.sl fun _ => rfl, h4.sl fun _ => rfl⟩
def FreshNodeR (N : NodeV) (w : World) (e : Ending) (w' : World) : Prop :=
  ∃ al cl av cv an cn am cm, e = .returned (.agg #[.int .i64 N.id, .int .i64 N.nodes, .int .i64 N.term, .int .i64 N.vote, .int .i64 N.role, .bool N.up, .slice al N.log.length cl, .int .i64 N.commit, .int .i64 N.elapsed, .int .i64 N.wait, .slice av N.votes.length cv, .slice an N.next.length cn, .slice am N.mtch.length cm]) ∧ FreshNode w.heap.size N w' al cl av cv an cn am cm ∧ Below w.heap.size w w'
set_option maxRecDepth 100000 in
set_option maxHeartbeats 2000000 in
theorem toNode_c (al : Option Addr) (cl : Nat) (av : Option Addr) (cv : Nat) (an : Option Addr) (cn : Nat) (am : Option Addr) (cm : Nat) (N : NodeV) (w : World) (hN : NodeSl w al av an am N) (hZ : NodeSz N 1048576) :
    Calls Try.prog 6 #[.agg #[.int .i64 N.id, .int .i64 N.nodes, .int .i64 N.term, .int .i64 N.vote, .int .i64 N.role, .bool N.up, .slice al N.log.length cl, .int .i64 N.commit, .int .i64 N.elapsed, .int .i64 N.wait, .slice av N.votes.length cv, .slice an N.next.length cn, .slice am N.mtch.length cm]] w (FreshNodeR N w) := by
  have HZ := Lib.hid hZ
  clear hZ
  go_enter Try.func6, Try.ntmps6
  go_wp2_with fail
  refine (toEntryS_c al cl N.log _ (((hN.log.alloc _).alloc _).alloc _) HZ.out.log).mono ?_
  rintro e w1 ⟨v1, rfl, hf1, hb1⟩
  have hN1 := (((hN.alloc _).alloc _).alloc _).keep hb1
  obtain ⟨al', cl', rfl, hc1, ho1⟩ := hf1
  have hz1 := hb1.size
  try simp at hz1
  have kc1_0 := fun o => hb1.cell (p := ⟨w.heap.size, o, none⟩) (by (try simp) <;> (try omega))
  have kf1_0 := fun o => hb1.frozen (p := ⟨w.heap.size, o, none⟩) (by (try simp) <;> (try omega))
  have hl1_0 : w.heap.size < w1.heap.size := by omega
  have kc1_1 := fun o => hb1.cell (p := ⟨w.heap.size + 1, o, none⟩) (by (try simp) <;> (try omega))
  have kf1_1 := fun o => hb1.frozen (p := ⟨w.heap.size + 1, o, none⟩) (by (try simp) <;> (try omega))
  have hl1_1 : w.heap.size + 1 < w1.heap.size := by omega
  have kc1_2 := fun o => hb1.cell (p := ⟨w.heap.size + 1 + 1, o, none⟩) (by (try simp) <;> (try omega))
  have kf1_2 := fun o => hb1.frozen (p := ⟨w.heap.size + 1 + 1, o, none⟩) (by (try simp) <;> (try omega))
  have hl1_2 : w.heap.size + 1 + 1 < w1.heap.size := by omega
  have HF1 := Lib.hid (show FreshIn entE 48 2 (w.heap.size + 3) w1.heap.size (.slice al' N.log.length cl') N.log w1 from Fresh.here ⟨_, _, rfl, hc1, by simpa using ho1⟩)
  clear ho1
  go_wp2_with fail
  refine (toIntS_c av cv N.votes _ (hN.keep (by repeat (first | exact Below.refl _ _ | (refine Below.alloc ?_ (by (try simp) <;> (try omega)) _) | (refine Below.setCell ?_ (by (try simp) <;> (try omega)) _) | (refine Below.drew ?_) | (refine Below.trans ?_ (Below.mono (by assumption) (by (try simp) <;> (try omega))))))).votes HZ.out.votes).mono ?_
  rintro e w2 ⟨v2, rfl, hf2, hb2⟩
  obtain ⟨av', cv', rfl, hc2, ho2⟩ := hf2
  have HF1b := Lib.hid (((((HF1.out.setCell (by (try simp) <;> (try omega)) _).setCell (by (try simp) <;> (try omega)) _).setCell (by (try simp) <;> (try omega)) _).setCell (by (try simp) <;> (try omega)) _).below hb2)
  have HF2 := Lib.hid (show FreshIn intE 3 1 w1.heap.size w2.heap.size (.slice av' N.votes.length cv') N.votes w2 from Fresh.here ⟨_, _, rfl, hc2, by simpa using ho2⟩)
  have HB2 : Hid (Below w.heap.size w w2) := (by repeat (first | exact Below.refl _ _ | (refine Below.alloc ?_ (by (try simp) <;> (try omega)) _) | (refine Below.setCell ?_ (by (try simp) <;> (try omega)) _) | (refine Below.drew ?_) | (refine Below.trans ?_ (Below.mono (by assumption) (by (try simp) <;> (try omega))))))
  have hz2 := hb2.size
  try simp at hz2
  have kc2_0 := fun o => hb2.cell (p := ⟨w.heap.size, o, none⟩) (by (try simp) <;> (try omega))
  have kf2_0 := fun o => hb2.frozen (p := ⟨w.heap.size, o, none⟩) (by (try simp) <;> (try omega))
  have hl2_0 : w.heap.size < w2.heap.size := by omega
  have kc2_1 := fun o => hb2.cell (p := ⟨w.heap.size + 1, o, none⟩) (by (try simp) <;> (try omega))
  have kf2_1 := fun o => hb2.frozen (p := ⟨w.heap.size + 1, o, none⟩) (by (try simp) <;> (try omega))
  have hl2_1 : w.heap.size + 1 < w2.heap.size := by omega
  have kc2_2 := fun o => hb2.cell (p := ⟨w.heap.size + 1 + 1, o, none⟩) (by (try simp) <;> (try omega))
  have kf2_2 := fun o => hb2.frozen (p := ⟨w.heap.size + 1 + 1, o, none⟩) (by (try simp) <;> (try omega))
  have hl2_2 : w.heap.size + 1 + 1 < w2.heap.size := by omega
  clear ho2 hb1
  go_wp2_with fail
  refine (toIntS_c an cn N.next _ (hN.keep (HB2.out.setCell (by (try simp) <;> (try omega)) _)).next HZ.out.next).mono ?_
  rintro e w3 ⟨v3, rfl, hf3, hb3⟩
  obtain ⟨an', cn', rfl, hc3, ho3⟩ := hf3
  have HF1c := Lib.hid ((HF1b.out.setCell (by (try simp) <;> (try omega)) _).below hb3)
  have HF2b := Lib.hid ((HF2.out.setCell (by (try simp) <;> (try omega)) _).below hb3)
  have HF3 := Lib.hid (show FreshIn intE 3 1 w2.heap.size w3.heap.size (.slice an' N.next.length cn') N.next w3 from Fresh.here ⟨_, _, rfl, hc3, by simpa using ho3⟩)
  have HB3 : Hid (Below w.heap.size w w3) := (HB2.out.setCell (by (try simp) <;> (try omega)) _).trans (hb3.mono (by (try simp) <;> (try omega)))
  have hz3 := hb3.size
  try simp at hz3
  have kc3_0 := fun o => hb3.cell (p := ⟨w.heap.size, o, none⟩) (by (try simp) <;> (try omega))
  have kf3_0 := fun o => hb3.frozen (p := ⟨w.heap.size, o, none⟩) (by (try simp) <;> (try omega))
  have hl3_0 : w.heap.size < w3.heap.size := by omega
  have kc3_1 := fun o => hb3.cell (p := ⟨w.heap.size + 1, o, none⟩) (by (try simp) <;> (try omega))
  have kf3_1 := fun o => hb3.frozen (p := ⟨w.heap.size + 1, o, none⟩) (by (try simp) <;> (try omega))
  have hl3_1 : w.heap.size + 1 < w3.heap.size := by omega
  have kc3_2 := fun o => hb3.cell (p := ⟨w.heap.size + 1 + 1, o, none⟩) (by (try simp) <;> (try omega))
  have kf3_2 := fun o => hb3.frozen (p := ⟨w.heap.size + 1 + 1, o, none⟩) (by (try simp) <;> (try omega))
  have hl3_2 : w.heap.size + 1 + 1 < w3.heap.size := by omega
  clear ho3 hb2
  go_wp2_with fail
  refine (toIntS_c am cm N.mtch _ (hN.keep (HB3.out.setCell (by (try simp) <;> (try omega)) _)).mtch HZ.out.mtch).mono ?_
  rintro e w4 ⟨v4, rfl, hf4, hb4⟩
  obtain ⟨am', cm', rfl, hc4, ho4⟩ := hf4
  have HF1d := Lib.hid ((HF1c.out.setCell (by (try simp) <;> (try omega)) _).below hb4)
  have HF2c := Lib.hid ((HF2b.out.setCell (by (try simp) <;> (try omega)) _).below hb4)
  have HF3b := Lib.hid ((HF3.out.setCell (by (try simp) <;> (try omega)) _).below hb4)
  have HF4 := Lib.hid (show FreshIn intE 3 1 w3.heap.size w4.heap.size (.slice am' N.mtch.length cm') N.mtch w4 from Fresh.here ⟨_, _, rfl, hc4, by simpa using ho4⟩)
  have HB4 : Hid (Below w.heap.size w w4) := (HB3.out.setCell (by (try simp) <;> (try omega)) _).trans (hb4.mono (by (try simp) <;> (try omega)))
  have hz4 := hb4.size
  try simp at hz4
  have kc4_0 := fun o => hb4.cell (p := ⟨w.heap.size, o, none⟩) (by (try simp) <;> (try omega))
  have kf4_0 := fun o => hb4.frozen (p := ⟨w.heap.size, o, none⟩) (by (try simp) <;> (try omega))
  have hl4_0 : w.heap.size < w4.heap.size := by omega
  have kc4_1 := fun o => hb4.cell (p := ⟨w.heap.size + 1, o, none⟩) (by (try simp) <;> (try omega))
  have kf4_1 := fun o => hb4.frozen (p := ⟨w.heap.size + 1, o, none⟩) (by (try simp) <;> (try omega))
  have hl4_1 : w.heap.size + 1 < w4.heap.size := by omega
  have kc4_2 := fun o => hb4.cell (p := ⟨w.heap.size + 1 + 1, o, none⟩) (by (try simp) <;> (try omega))
  have kf4_2 := fun o => hb4.frozen (p := ⟨w.heap.size + 1 + 1, o, none⟩) (by (try simp) <;> (try omega))
  have hl4_2 : w.heap.size + 1 + 1 < w4.heap.size := by omega
  clear ho4 hb3
  go_wp2_with fail
  change bodyPost _ _ _ _ _ (storeAll (w.heap.size + 1) (w4.setCell ⟨w.heap.size + 1 + 1, 12, none⟩ (.slice am' N.mtch.length cm')) 0 [.int .i64 N.id, .int .i64 N.nodes, .int .i64 N.term, .int .i64 N.vote, .int .i64 N.role, .bool N.up, .slice al' N.log.length cl', .int .i64 N.commit, .int .i64 N.elapsed, .int .i64 N.wait, .slice av' N.votes.length cv', .slice an' N.next.length cn', .slice am' N.mtch.length cm'])
  have hsome : ∀ j, j < 13 → ((w4.setCell ⟨w.heap.size + 1 + 1, 12, none⟩ (.slice am' N.mtch.length cm')).cell? ⟨w.heap.size + 1, 0 + j, none⟩).isSome = true := by
    intro j hj
    rw [Nat.zero_add, World.cell?_setCell_other _ _ _ _ (by simp), kc4_1, World.cell?_setCell_other _ _ _ _ (by simp), kc3_1, World.cell?_setCell_other _ _ _ _ (by simp), kc2_1,
      World.cell?_setCell_other _ _ _ _ (by simp), World.cell?_setCell_other _ _ _ _ (by simp), World.cell?_setCell_other _ _ _ _ (by simp), World.cell?_setCell_other _ _ _ _ (by simp), kc1_1]
    have h1 : (w.heap.size + 1 : Nat) < w.heap.size + 1 + 1 := by omega
    rw [World.cell?_alloc_lt _ _ _ (by simp)]
    refine alloc_some _ _ _ _ _ (by simp) ?_
    match j, hj with
    | 0, _ | 1, _ | 2, _ | 3, _ | 4, _ | 5, _ | 6, _ | 7, _ | 8, _ | 9, _ | 10, _ | 11, _ | 12, _ => rfl
  have hr := storeAll_cell (w.heap.size + 1) [.int .i64 N.id, .int .i64 N.nodes, .int .i64 N.term, .int .i64 N.vote, .int .i64 N.role, .bool N.up, .slice al' N.log.length cl', .int .i64 N.commit, .int .i64 N.elapsed, .int .i64 N.wait, .slice av' N.votes.length cv', .slice an' N.next.length cn', .slice am' N.mtch.length cm'] (w4.setCell ⟨w.heap.size + 1 + 1, 12, none⟩ (.slice am' N.mtch.length cm')) 0 hsome
  have hB := storeAll_below (w.heap.size + 1) w.heap.size (by omega) [.int .i64 N.id, .int .i64 N.nodes, .int .i64 N.term, .int .i64 N.vote, .int .i64 N.role, .bool N.up, .slice al' N.log.length cl', .int .i64 N.commit, .int .i64 N.elapsed, .int .i64 N.wait, .slice av' N.votes.length cv', .slice an' N.next.length cn', .slice am' N.mtch.length cm'] w _ 0 (HB4.out.setCell (p := ⟨w.heap.size + 1 + 1, 12, none⟩) (by show w.heap.size ≤ w.heap.size + 1 + 1; omega) (.slice am' N.mtch.length cm'))
  have hS := storeAll_size (w.heap.size + 1) [.int .i64 N.id, .int .i64 N.nodes, .int .i64 N.term, .int .i64 N.vote, .int .i64 N.role, .bool N.up, .slice al' N.log.length cl', .int .i64 N.commit, .int .i64 N.elapsed, .int .i64 N.wait, .slice av' N.votes.length cv', .slice an' N.next.length cn', .slice am' N.mtch.length cm'] (w4.setCell ⟨w.heap.size + 1 + 1, 12, none⟩ (.slice am' N.mtch.length cm')) 0
  have g1 := storeAll_fresh (w.heap.size + 1) (by omega) [.int .i64 N.id, .int .i64 N.nodes, .int .i64 N.term, .int .i64 N.vote, .int .i64 N.role, .bool N.up, .slice al' N.log.length cl', .int .i64 N.commit, .int .i64 N.elapsed, .int .i64 N.wait, .slice av' N.votes.length cv', .slice an' N.next.length cn', .slice am' N.mtch.length cm'] _ 0 (HF1d.out.setCell (p := ⟨w.heap.size + 1 + 1, 12, none⟩) (by show w.heap.size + 1 + 1 < _; omega) (.slice am' N.mtch.length cm'))
  have g2 := storeAll_fresh (w.heap.size + 1) (by omega) [.int .i64 N.id, .int .i64 N.nodes, .int .i64 N.term, .int .i64 N.vote, .int .i64 N.role, .bool N.up, .slice al' N.log.length cl', .int .i64 N.commit, .int .i64 N.elapsed, .int .i64 N.wait, .slice av' N.votes.length cv', .slice an' N.next.length cn', .slice am' N.mtch.length cm'] _ 0 (HF2c.out.setCell (p := ⟨w.heap.size + 1 + 1, 12, none⟩) (by show w.heap.size + 1 + 1 < _; omega) (.slice am' N.mtch.length cm'))
  have g3 := storeAll_fresh (w.heap.size + 1) (by omega) [.int .i64 N.id, .int .i64 N.nodes, .int .i64 N.term, .int .i64 N.vote, .int .i64 N.role, .bool N.up, .slice al' N.log.length cl', .int .i64 N.commit, .int .i64 N.elapsed, .int .i64 N.wait, .slice av' N.votes.length cv', .slice an' N.next.length cn', .slice am' N.mtch.length cm'] _ 0 (HF3b.out.setCell (p := ⟨w.heap.size + 1 + 1, 12, none⟩) (by show w.heap.size + 1 + 1 < _; omega) (.slice am' N.mtch.length cm'))
  have g4 := storeAll_fresh (w.heap.size + 1) (by omega) [.int .i64 N.id, .int .i64 N.nodes, .int .i64 N.term, .int .i64 N.vote, .int .i64 N.role, .bool N.up, .slice al' N.log.length cl', .int .i64 N.commit, .int .i64 N.elapsed, .int .i64 N.wait, .slice av' N.votes.length cv', .slice an' N.next.length cn', .slice am' N.mtch.length cm'] _ 0 (HF4.out.setCell (p := ⟨w.heap.size + 1 + 1, 12, none⟩) (by show w.heap.size + 1 + 1 < _; omega) (.slice am' N.mtch.length cm'))
  generalize storeAll (w.heap.size + 1) (w4.setCell ⟨w.heap.size + 1 + 1, 12, none⟩ (.slice am' N.mtch.length cm')) 0 [.int .i64 N.id, .int .i64 N.nodes, .int .i64 N.term, .int .i64 N.vote, .int .i64 N.role, .bool N.up, .slice al' N.log.length cl', .int .i64 N.commit, .int .i64 N.elapsed, .int .i64 N.wait, .slice av' N.votes.length cv', .slice an' N.next.length cn', .slice am' N.mtch.length cm'] = Wf at *
  simp only [Nat.zero_add] at hr
  have r0 := hr 0 (by simp)
  have r1 := hr 1 (by simp)
  have r2 := hr 2 (by simp)
  have r3 := hr 3 (by simp)
  have r4 := hr 4 (by simp)
  have r5 := hr 5 (by simp)
  have r6 := hr 6 (by simp)
  have r7 := hr 7 (by simp)
  have r8 := hr 8 (by simp)
  have r9 := hr 9 (by simp)
  have r10 := hr 10 (by simp)
  have r11 := hr 11 (by simp)
  have r12 := hr 12 (by simp)
  simp only [List.getElem?_cons_zero, List.getElem?_cons_succ] at r0 r1 r2 r3 r4 r5 r6 r7 r8 r9 r10 r11 r12
  clear hr hsome
  refine ⟨rfl, _, (by simp [results, Try.results6, go_sem, r0, r1, r2, r3, r4, r5, r6, r7, r8, r9, r10, r11, r12]; rfl), ?_⟩
  simp only [World.size_setCell] at hS
  exact ⟨al', cl', av', cv', an', cn', am', cm', rfl, ⟨w1.heap.size, w2.heap.size, w3.heap.size, (by (try simp) <;> (try omega)), (by (try simp) <;> (try omega)), (by (try simp) <;> (try omega)), (by (try simp) <;> (try omega)), g1.mono (by omega) (Nat.le_refl _), g2, g3, g4.mono (Nat.le_refl _) (by omega)⟩, hB⟩
end Go.Proofs.Ytcakldgbhjkkfaa
