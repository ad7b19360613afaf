/- Marks on a node. -/
import Derived.Test.YtcakldgbhjkkfaaMark3
import Derived.Test.YtcakldgbhjkkfaaNode
namespace Go.Proofs.Ytcakldgbhjkkfaa
set_option linter.unusedVariables false
set_option linter.unusedSimpArgs false
open Go.RowKit
/-- A node whose four slices lie in memory of their own, in blocks from lo on and below hi, one behind the other. -/
def FreshNodeX (lo hi : Nat) (N : NodeV) (w : World) (al : Option Addr) (cl : Nat) (av : Option Addr) (cv : Nat) (an : Option Addr) (cn : Nat) (am : Option Addr) (cm : Nat) : Prop :=
  ∃ l1 b1 v1 b2 n1 n2 m1 m2, (lo ≤ l1 ∧ l1 ≤ b1 ∧ b1 ≤ hi ∧ lo ≤ v1 ∧ v1 ≤ b2 ∧ b2 ≤ hi ∧ lo ≤ n1 ∧ n1 ≤ n2 ∧ n2 ≤ hi ∧ lo ≤ m1 ∧ m1 ≤ m2 ∧ m2 ≤ hi) ∧ ((b1 ≤ v1 ∨ b2 ≤ l1) ∧ (b1 ≤ n1 ∨ n2 ≤ l1) ∧ (b1 ≤ m1 ∨ m2 ≤ l1) ∧ (b2 ≤ n1 ∨ n2 ≤ v1) ∧ (b2 ≤ m1 ∨ m2 ≤ v1) ∧ (n2 ≤ m1 ∨ m2 ≤ n1)) ∧ FreshIn entE 48 2 l1 b1 (.slice al N.log.length cl) N.log w ∧ FreshIn intE 3 1 v1 b2 (.slice av N.votes.length cv) N.votes w ∧
    FreshIn intE 3 1 n1 n2 (.slice an N.next.length cn) N.next w ∧ FreshIn intE 3 1 m1 m2 (.slice am N.mtch.length cm) N.mtch w
section
variable {N : NodeV} {w w' : World} {al av an am : Option Addr} {cl cv cn cm lo hi : Nat}
theorem FreshNode.hereX {B : Nat} (h : FreshNode B N w al cl av cv an cn am cm) : FreshNodeX B w.heap.size N w al cl av cv an cn am cm := by
  obtain ⟨b1, b2, b3, h1, h2, h3, h4, k1, k2, k3, k4⟩ := h
  exact ⟨B, b1, b1, b2, b2, b3, b3, w.heap.size, by omega, by omega, k1, k2, k3, k4⟩
theorem FreshNodeX.below (h : FreshNodeX lo hi N w al cl av cv an cn am cm) (hb : Below w.heap.size w w') : FreshNodeX lo hi N w' al cl av cv an cn am cm := by
  obtain ⟨l1, b1, v1, b2, n1, n2, m1, m2, h1, h2, k1, k2, k3, k4⟩ := h
  exact ⟨l1, b1, v1, b2, n1, n2, m1, m2, h1, h2, k1.below hb, k2.below hb, k3.below hb, k4.below hb⟩
theorem FreshNodeX.mid {l r : Nat} (h : FreshNodeX lo hi N w al cl av cv an cn am cm) (hm : Mid l r w w') (hd : hi ≤ l ∨ r ≤ lo) : FreshNodeX lo hi N w' al cl av cv an cn am cm := by
  obtain ⟨l1, b1, v1, b2, n1, n2, m1, m2, h1, h2, k1, k2, k3, k4⟩ := h
  exact ⟨l1, b1, v1, b2, n1, n2, m1, m2, h1, h2, k1.mid hm (by omega), k2.mid hm (by omega), k3.mid hm (by omega), k4.mid hm (by omega)⟩
theorem FreshNodeX.alloc (h : FreshNodeX lo hi N w al cl av cv an cn am cm) (o : Obj) : FreshNodeX lo hi N (w.alloc o) al cl av cv an cn am cm := h.below ((Below.refl _ _).alloc (Nat.le_refl _) _)
theorem FreshNodeX.drew (h : FreshNodeX lo hi N w al cl av cv an cn am cm) : FreshNodeX lo hi N w.drew al cl av cv an cn am cm := h.below ((Below.refl _ _).drew)
theorem FreshNodeX.sl (h : FreshNodeX lo hi N w al cl av cv an cn am cm) : NodeSl w al av an am N := by
  obtain ⟨l1, b1, v1, b2, n1, n2, m1, m2, h1, h2, k1, k2, k3, k4⟩ := h
  exact ⟨k1.sl fun _ => rfl, k2.sl fun _ => rfl, k3.sl fun _ => rfl, k4.sl fun _ => rfl⟩
theorem FreshNodeX.cap (h : FreshNodeX lo hi N w al cl av cv an cn am cm) : N.log.length ≤ cl := by
  obtain ⟨l1, b1, v1, b2, n1, n2, m1, m2, h1, h2, ⟨⟨a', c', hv, hc, _⟩, _⟩, _⟩ := h
  cases hv
  exact hc
end
def markNumX (N : NodeV) (K : Nat) : Nat := K + 2 * N.log.length + 1 * N.votes.length + 1 * N.next.length + 1 * N.mtch.length
/-- The four slices hold the marks from K on. -/
def MarkedX (lo hi K : Nat) (N : NodeV) (w : World) (al : Option Addr) (cl : Nat) (av : Option Addr) (cv : Nat) (an : Option Addr) (cn : Nat) (am : Option Addr) (cm : Nat) : Prop :=
  ∃ l1 b1 v1 b2 n1 n2 m1 m2, (lo ≤ l1 ∧ l1 ≤ b1 ∧ b1 ≤ hi ∧ lo ≤ v1 ∧ v1 ≤ b2 ∧ b2 ≤ hi ∧ lo ≤ n1 ∧ n1 ≤ n2 ∧ n2 ≤ hi ∧ lo ≤ m1 ∧ m1 ≤ m2 ∧ m2 ≤ hi) ∧ ((b1 ≤ v1 ∨ b2 ≤ l1) ∧ (b1 ≤ n1 ∨ n2 ≤ l1) ∧ (b1 ≤ m1 ∨ m2 ≤ l1) ∧ (b2 ≤ n1 ∨ n2 ≤ v1) ∧ (b2 ≤ m1 ∨ m2 ≤ v1) ∧ (n2 ≤ m1 ∨ m2 ≤ n1)) ∧ FreshIn entE 48 2 l1 b1 (.slice al N.log.length cl) ((List.range N.log.length).map (markE K)) w ∧
    FreshIn intE 3 1 v1 b2 (.slice av N.votes.length cv) ((List.range N.votes.length).map (markI (K + 2 * N.log.length))) w ∧
    FreshIn intE 3 1 n1 n2 (.slice an N.next.length cn) ((List.range N.next.length).map (markI (K + 2 * N.log.length + 1 * N.votes.length))) w ∧
    FreshIn intE 3 1 m1 m2 (.slice am N.mtch.length cm) ((List.range N.mtch.length).map (markI (K + 2 * N.log.length + 1 * N.votes.length + 1 * N.next.length))) w
section
variable {N : NodeV} {w w' : World} {al av an am : Option Addr} {cl cv cn cm lo hi K : Nat}
theorem MarkedX.below (h : MarkedX lo hi K N w al cl av cv an cn am cm) (hb : Below w.heap.size w w') : MarkedX lo hi K N w' al cl av cv an cn am cm := by
  obtain ⟨l1, b1, v1, b2, n1, n2, m1, m2, h1, h2, k1, k2, k3, k4⟩ := h
  exact ⟨l1, b1, v1, b2, n1, n2, m1, m2, h1, h2, k1.below hb, k2.below hb, k3.below hb, k4.below hb⟩
theorem MarkedX.mid {l r : Nat} (h : MarkedX lo hi K N w al cl av cv an cn am cm) (hm : Mid l r w w') (hd : hi ≤ l ∨ r ≤ lo) : MarkedX lo hi K N w' al cl av cv an cn am cm := by
  obtain ⟨l1, b1, v1, b2, n1, n2, m1, m2, h1, h2, k1, k2, k3, k4⟩ := h
  exact ⟨l1, b1, v1, b2, n1, n2, m1, m2, h1, h2, k1.mid hm (by omega), k2.mid hm (by omega), k3.mid hm (by omega), k4.mid hm (by omega)⟩
theorem MarkedX.alloc (h : MarkedX lo hi K N w al cl av cv an cn am cm) (o : Obj) : MarkedX lo hi K N (w.alloc o) al cl av cv an cn am cm := h.below ((Below.refl _ _).alloc (Nat.le_refl _) _)
theorem MarkedX.drew (h : MarkedX lo hi K N w al cl av cv an cn am cm) : MarkedX lo hi K N w.drew al cl av cv an cn am cm := h.below ((Below.refl _ _).drew)
end
theorem FreshIn.slrX {α : Type} {enc : α → List Value} {sz lo hi n ca : Nat} {f : Nat → α} {a : Option Addr} {e : TypeId} {w : World} (hs : ∀ x, (enc x).length = sz) (h : FreshIn enc e sz lo hi (.slice a n ca) ((List.range n).map f) w) : Sl enc sz w a ((List.range n).map f) := by
  have h' : FreshIn enc e sz lo hi (.slice a ((List.range n).map f).length ca) ((List.range n).map f) w := by simpa using h
  exact h'.sl hs
set_option maxRecDepth 100000 in
set_option maxHeartbeats 4000000 in
theorem markNodeX_c (al : Option Addr) (cl : Nat) (av : Option Addr) (cv : Nat) (an : Option Addr) (cn : Nat) (am : Option Addr) (cm : Nat) (N : NodeV) (K lo hi : Nat) (w : World) (h : FreshNodeX lo hi N w al cl av cv an cn am cm) (hhi : hi ≤ w.heap.size) (hK : markNumX N K ≤ 1099511627776) :
    Calls Try.prog 10 #[.agg #[.int .i64 N.id, .int .i64 N.nodes, .int .i64 N.term, .int .i64 N.vote, .int .i64 N.role, .bool N.up, .slice al N.log.length cl, .int .i64 N.commit, .int .i64 N.elapsed, .int .i64 N.wait, .slice av N.votes.length cv, .slice an N.next.length cn, .slice am N.mtch.length cm], .int .i64 K] w fun e w' => e = .returned (.int .i64 ((markNumX N K : Nat))) ∧ MarkedX lo hi K N w' al cl av cv an cn am cm ∧ Mid lo hi w w' := by
  obtain ⟨l1, b1, v1, b2, n1, n2, m1, m2, h1, h2, k1, k2, k3, k4⟩ := h
  unfold markNumX at hK
  have HK := Lib.hid hK
  have hl1 : K + 2 * N.log.length ≤ 1099511627776 := by omega
  have hl2 : K + 2 * N.log.length + 1 * N.votes.length ≤ 1099511627776 := by omega
  have hl3 : K + 2 * N.log.length + 1 * N.votes.length + 1 * N.next.length ≤ 1099511627776 := by omega
  have K1 := Lib.hid (k1.alloc (.cells #[.int .i64 N.id, .int .i64 N.nodes, .int .i64 N.term, .int .i64 N.vote, .int .i64 N.role, .bool N.up, .slice al N.log.length cl, .int .i64 N.commit, .int .i64 N.elapsed, .int .i64 N.wait, .slice av N.votes.length cv, .slice an N.next.length cn, .slice am N.mtch.length cm] 29))
  have K2 := Lib.hid (k2.alloc (.cells #[.int .i64 N.id, .int .i64 N.nodes, .int .i64 N.term, .int .i64 N.vote, .int .i64 N.role, .bool N.up, .slice al N.log.length cl, .int .i64 N.commit, .int .i64 N.elapsed, .int .i64 N.wait, .slice av N.votes.length cv, .slice an N.next.length cn, .slice am N.mtch.length cm] 29))
  have K3 := Lib.hid (k3.alloc (.cells #[.int .i64 N.id, .int .i64 N.nodes, .int .i64 N.term, .int .i64 N.vote, .int .i64 N.role, .bool N.up, .slice al N.log.length cl, .int .i64 N.commit, .int .i64 N.elapsed, .int .i64 N.wait, .slice av N.votes.length cv, .slice an N.next.length cn, .slice am N.mtch.length cm] 29))
  have K4 := Lib.hid (k4.alloc (.cells #[.int .i64 N.id, .int .i64 N.nodes, .int .i64 N.term, .int .i64 N.vote, .int .i64 N.role, .bool N.up, .slice al N.log.length cl, .int .i64 N.commit, .int .i64 N.elapsed, .int .i64 N.wait, .slice av N.votes.length cv, .slice an N.next.length cn, .slice am N.mtch.length cm] 29))
  clear k1 k2 k3 k4
  go_enter Try.func10, Try.ntmps10
  go_wp2_with fail
  refine (markEntryS_c al cl N.log K l1 b1 _ K1.out (by first | omega | (simp; omega)) (by have := HK.out; omega)).mono ?_
  rintro e w1 ⟨rfl, hf1, hm1⟩
  have hq1 : K + 2 * N.log.length ≤ 1099511627776 := by have := HK.out; omega
  generalize hQ1 : K + 2 * N.log.length = Q1 at hq1 ⊢
  replace HK : Hid (Q1 + 1 * N.votes.length + 1 * N.next.length + 1 * N.mtch.length ≤ 1099511627776) := by have := HK.out; show _ ≤ _; omega
  have HQ1 := Lib.hid hQ1
  clear hQ1
  have hz1 := hm1.size
  simp only [World.size_alloc] at hz1
  have M1 := Lib.hid hf1
  clear hf1
  replace K2 := Lib.hid (K2.out.mid hm1 (by omega))
  replace K3 := Lib.hid (K3.out.mid hm1 (by omega))
  replace K4 := Lib.hid (K4.out.mid hm1 (by omega))
  have q1_10 : w1.cell? ⟨w.heap.size, 10, none⟩ = some (.slice av N.votes.length cv) := by
    rw [hm1.cell (p := ⟨w.heap.size, 10, none⟩) (by simp) (.inr (by show _ ≤ w.heap.size; omega))]
    simp [go_sem]
  have q1_11 : w1.cell? ⟨w.heap.size, 11, none⟩ = some (.slice an N.next.length cn) := by
    rw [hm1.cell (p := ⟨w.heap.size, 11, none⟩) (by simp) (.inr (by show _ ≤ w.heap.size; omega))]
    simp [go_sem]
  have q1_12 : w1.cell? ⟨w.heap.size, 12, none⟩ = some (.slice am N.mtch.length cm) := by
    rw [hm1.cell (p := ⟨w.heap.size, 12, none⟩) (by simp) (.inr (by show _ ≤ w.heap.size; omega))]
    simp [go_sem]
  have MM1 : Hid (Mid lo hi w w1) := (Mid.of_below _ _ ((Below.refl _ _).alloc (Nat.le_refl _) (.cells #[.int .i64 N.id, .int .i64 N.nodes, .int .i64 N.term, .int .i64 N.vote, .int .i64 N.role, .bool N.up, .slice al N.log.length cl, .int .i64 N.commit, .int .i64 N.elapsed, .int .i64 N.wait, .slice av N.votes.length cv, .slice an N.next.length cn, .slice am N.mtch.length cm] 29))).trans (hm1.mono (by omega) (by omega))
  go_wp2_with fail
  refine (markIntS_c av cv N.votes Q1 v1 b2 _ K2.out (by first | omega | (simp; omega)) (by have := HK.out; omega)).mono ?_
  rintro e w2 ⟨rfl, hf2, hm2⟩
  have hq2 : Q1 + 1 * N.votes.length ≤ 1099511627776 := by have := HK.out; omega
  generalize hQ2 : Q1 + 1 * N.votes.length = Q2 at hq2 ⊢
  replace HK : Hid (Q2 + 1 * N.next.length + 1 * N.mtch.length ≤ 1099511627776) := by have := HK.out; show _ ≤ _; omega
  have HQ2 := Lib.hid hQ2
  clear hQ2
  have hz2 := hm2.size
  have M2 := Lib.hid hf2
  clear hf2
  have M1_2 := Lib.hid (M1.out.mid hm2 (by omega))
  replace K3 := Lib.hid (K3.out.mid hm2 (by omega))
  replace K4 := Lib.hid (K4.out.mid hm2 (by omega))
  have q2_11 : w2.cell? ⟨w.heap.size, 11, none⟩ = some (.slice an N.next.length cn) := by
    rw [hm2.cell (p := ⟨w.heap.size, 11, none⟩) (by show w.heap.size < _; omega) (.inr (by show _ ≤ w.heap.size; omega))]
    exact q1_11
  have q2_12 : w2.cell? ⟨w.heap.size, 12, none⟩ = some (.slice am N.mtch.length cm) := by
    rw [hm2.cell (p := ⟨w.heap.size, 12, none⟩) (by show w.heap.size < _; omega) (.inr (by show _ ≤ w.heap.size; omega))]
    exact q1_12
  have MM2 : Hid (Mid lo hi w w2) := MM1.out.trans (hm2.mono (by omega) (by omega))
  go_wp2_with fail
  refine (markIntS_c an cn N.next Q2 n1 n2 _ K3.out (by first | omega | (simp; omega)) (by have := HK.out; omega)).mono ?_
  rintro e w3 ⟨rfl, hf3, hm3⟩
  have hq3 : Q2 + 1 * N.next.length ≤ 1099511627776 := by have := HK.out; omega
  generalize hQ3 : Q2 + 1 * N.next.length = Q3 at hq3 ⊢
  replace HK : Hid (Q3 + 1 * N.mtch.length ≤ 1099511627776) := by have := HK.out; show _ ≤ _; omega
  have HQ3 := Lib.hid hQ3
  clear hQ3
  have hz3 := hm3.size
  have M3 := Lib.hid hf3
  clear hf3
  have M1_3 := Lib.hid (M1_2.out.mid hm3 (by omega))
  have M2_3 := Lib.hid (M2.out.mid hm3 (by omega))
  replace K4 := Lib.hid (K4.out.mid hm3 (by omega))
  have q3_12 : w3.cell? ⟨w.heap.size, 12, none⟩ = some (.slice am N.mtch.length cm) := by
    rw [hm3.cell (p := ⟨w.heap.size, 12, none⟩) (by show w.heap.size < _; omega) (.inr (by show _ ≤ w.heap.size; omega))]
    exact q2_12
  have MM3 : Hid (Mid lo hi w w3) := MM2.out.trans (hm3.mono (by omega) (by omega))
  go_wp2_with fail
  refine (markIntS_c am cm N.mtch Q3 m1 m2 _ K4.out (by first | omega | (simp; omega)) (by have := HK.out; omega)).mono ?_
  rintro e w4 ⟨rfl, hf4, hm4⟩
  have hq4 : Q3 + 1 * N.mtch.length ≤ 1099511627776 := by have := HK.out; omega
  generalize hQ4 : Q3 + 1 * N.mtch.length = Q4 at hq4 ⊢
  replace HK : Hid (Q4 ≤ 1099511627776) := by have := HK.out; show _ ≤ _; omega
  have HQ4 := Lib.hid hQ4
  clear hQ4
  have hz4 := hm4.size
  have M4 := Lib.hid hf4
  clear hf4
  have M1_4 := Lib.hid (M1_3.out.mid hm4 (by omega))
  have M2_4 := Lib.hid (M2_3.out.mid hm4 (by omega))
  have M3_4 := Lib.hid (M3.out.mid hm4 (by omega))
  have MM4 : Hid (Mid lo hi w w4) := MM3.out.trans (hm4.mono (by omega) (by omega))
  go_wp2_with fail
  go_ret
  have e1 := HQ1.out
  have e2 := HQ2.out
  have e3 := HQ3.out
  have e4 := HQ4.out
  have mm1 := M1_4.out
  have mm2 := M2_4.out
  have mm3 := M3_4.out
  have mm4 := M4.out
  subst e1 e2 e3 e4
  exact ⟨rfl, ⟨l1, b1, v1, b2, n1, n2, m1, m2, h1, h2, mm1, mm2, mm3, mm4⟩, MM4.out⟩
set_option maxRecDepth 100000 in
set_option maxHeartbeats 4000000 in
theorem heldNodeX_c (al : Option Addr) (cl : Nat) (av : Option Addr) (cv : Nat) (an : Option Addr) (cn : Nat) (am : Option Addr) (cm : Nat) (N : NodeV) (K lo hi : Nat) (w : World) (h : MarkedX lo hi K N w al cl av cv an cn am cm) (hK : markNumX N K ≤ 1099511627776) :
    Calls Try.prog 12 #[.agg #[.int .i64 N.id, .int .i64 N.nodes, .int .i64 N.term, .int .i64 N.vote, .int .i64 N.role, .bool N.up, .slice al N.log.length cl, .int .i64 N.commit, .int .i64 N.elapsed, .int .i64 N.wait, .slice av N.votes.length cv, .slice an N.next.length cn, .slice am N.mtch.length cm], .int .i64 K] w fun e w' => e = .returned (.int .i64 ((markNumX N K : Nat))) ∧ Below w.heap.size w w' := by
  obtain ⟨l1, b1, v1, b2, n1, n2, m1, m2, h1, h2, k1, k2, k3, k4⟩ := h
  unfold markNumX at hK
  have HK := Lib.hid hK
  have hl1 : K + 2 * N.log.length ≤ 1099511627776 := by omega
  have hl2 : K + 2 * N.log.length + 1 * N.votes.length ≤ 1099511627776 := by omega
  have hl3 : K + 2 * N.log.length + 1 * N.votes.length + 1 * N.next.length ≤ 1099511627776 := by omega
  have K1 := Lib.hid (k1.alloc (.cells #[.int .i64 N.id, .int .i64 N.nodes, .int .i64 N.term, .int .i64 N.vote, .int .i64 N.role, .bool N.up, .slice al N.log.length cl, .int .i64 N.commit, .int .i64 N.elapsed, .int .i64 N.wait, .slice av N.votes.length cv, .slice an N.next.length cn, .slice am N.mtch.length cm] 29))
  have K2 := Lib.hid (k2.alloc (.cells #[.int .i64 N.id, .int .i64 N.nodes, .int .i64 N.term, .int .i64 N.vote, .int .i64 N.role, .bool N.up, .slice al N.log.length cl, .int .i64 N.commit, .int .i64 N.elapsed, .int .i64 N.wait, .slice av N.votes.length cv, .slice an N.next.length cn, .slice am N.mtch.length cm] 29))
  have K3 := Lib.hid (k3.alloc (.cells #[.int .i64 N.id, .int .i64 N.nodes, .int .i64 N.term, .int .i64 N.vote, .int .i64 N.role, .bool N.up, .slice al N.log.length cl, .int .i64 N.commit, .int .i64 N.elapsed, .int .i64 N.wait, .slice av N.votes.length cv, .slice an N.next.length cn, .slice am N.mtch.length cm] 29))
  have K4 := Lib.hid (k4.alloc (.cells #[.int .i64 N.id, .int .i64 N.nodes, .int .i64 N.term, .int .i64 N.vote, .int .i64 N.role, .bool N.up, .slice al N.log.length cl, .int .i64 N.commit, .int .i64 N.elapsed, .int .i64 N.wait, .slice av N.votes.length cv, .slice an N.next.length cn, .slice am N.mtch.length cm] 29))
  clear k1 k2 k3 k4
  obtain ⟨Q1, hQ1⟩ : ∃ x, x = K + 2 * N.log.length := ⟨_, rfl⟩
  obtain ⟨Q2, hQ2⟩ : ∃ x, x = Q1 + 1 * N.votes.length := ⟨_, rfl⟩
  obtain ⟨Q3, hQ3⟩ : ∃ x, x = Q2 + 1 * N.next.length := ⟨_, rfl⟩
  obtain ⟨Q4, hQ4⟩ : ∃ x, x = Q3 + 1 * N.mtch.length := ⟨_, rfl⟩
  have hn : markNumX N K = Q4 := by rw [hQ4, hQ3, hQ2, hQ1]; rfl
  rw [hn]
  have HQ1 := Lib.hid hQ1
  have HQ2 := Lib.hid hQ2
  have HQ3 := Lib.hid hQ3
  have HQ4 := Lib.hid hQ4
  rw [← hQ1, ← hQ2, ← hQ3] at K4
  rw [← hQ1, ← hQ2] at K3
  rw [← hQ1] at K2
  have g1 : Q1 ≤ 1099511627776 := by omega
  have g2 : Q2 ≤ 1099511627776 := by omega
  have g3 : Q3 ≤ 1099511627776 := by omega
  have g4 : Q4 ≤ 1099511627776 := by omega
  clear hn hQ1 hQ2 hQ3 hQ4 hK hl1 hl2 hl3
  go_enter Try.func12, Try.ntmps12
  go_wp2_with fail
  refine (heldEntryS_c al cl N.log.length K _ (K1.out.slrX fun _ => rfl) (by have := HQ1.out; omega)).mono ?_
  rw [← HQ1.out]
  rintro e w1 ⟨rfl, hb1⟩
  replace K2 := Lib.hid (K2.out.below hb1)
  replace K3 := Lib.hid (K3.out.below hb1)
  replace K4 := Lib.hid (K4.out.below hb1)
  have hz1 := hb1.size
  try simp at hz1
  have q1_0_0 : w1.cell? ⟨w.heap.size, 0, none⟩ = some (.int .i64 N.id) := by
    rw [hb1.cell (p := ⟨w.heap.size, 0, none⟩) (show w.heap.size < _ by (try simp) <;> (try omega))]
    first | assumption | (simp [go_sem, *])
  have q1_0_1 : w1.cell? ⟨w.heap.size, 1, none⟩ = some (.int .i64 N.nodes) := by
    rw [hb1.cell (p := ⟨w.heap.size, 1, none⟩) (show w.heap.size < _ by (try simp) <;> (try omega))]
    first | assumption | (simp [go_sem, *])
  have q1_0_2 : w1.cell? ⟨w.heap.size, 2, none⟩ = some (.int .i64 N.term) := by
    rw [hb1.cell (p := ⟨w.heap.size, 2, none⟩) (show w.heap.size < _ by (try simp) <;> (try omega))]
    first | assumption | (simp [go_sem, *])
  have q1_0_3 : w1.cell? ⟨w.heap.size, 3, none⟩ = some (.int .i64 N.vote) := by
    rw [hb1.cell (p := ⟨w.heap.size, 3, none⟩) (show w.heap.size < _ by (try simp) <;> (try omega))]
    first | assumption | (simp [go_sem, *])
  have q1_0_4 : w1.cell? ⟨w.heap.size, 4, none⟩ = some (.int .i64 N.role) := by
    rw [hb1.cell (p := ⟨w.heap.size, 4, none⟩) (show w.heap.size < _ by (try simp) <;> (try omega))]
    first | assumption | (simp [go_sem, *])
  have q1_0_5 : w1.cell? ⟨w.heap.size, 5, none⟩ = some (.bool N.up) := by
    rw [hb1.cell (p := ⟨w.heap.size, 5, none⟩) (show w.heap.size < _ by (try simp) <;> (try omega))]
    first | assumption | (simp [go_sem, *])
  have q1_0_6 : w1.cell? ⟨w.heap.size, 6, none⟩ = some (.slice al N.log.length cl) := by
    rw [hb1.cell (p := ⟨w.heap.size, 6, none⟩) (show w.heap.size < _ by (try simp) <;> (try omega))]
    first | assumption | (simp [go_sem, *])
  have q1_0_7 : w1.cell? ⟨w.heap.size, 7, none⟩ = some (.int .i64 N.commit) := by
    rw [hb1.cell (p := ⟨w.heap.size, 7, none⟩) (show w.heap.size < _ by (try simp) <;> (try omega))]
    first | assumption | (simp [go_sem, *])
  have q1_0_8 : w1.cell? ⟨w.heap.size, 8, none⟩ = some (.int .i64 N.elapsed) := by
    rw [hb1.cell (p := ⟨w.heap.size, 8, none⟩) (show w.heap.size < _ by (try simp) <;> (try omega))]
    first | assumption | (simp [go_sem, *])
  have q1_0_9 : w1.cell? ⟨w.heap.size, 9, none⟩ = some (.int .i64 N.wait) := by
    rw [hb1.cell (p := ⟨w.heap.size, 9, none⟩) (show w.heap.size < _ by (try simp) <;> (try omega))]
    first | assumption | (simp [go_sem, *])
  have q1_0_10 : w1.cell? ⟨w.heap.size, 10, none⟩ = some (.slice av N.votes.length cv) := by
    rw [hb1.cell (p := ⟨w.heap.size, 10, none⟩) (show w.heap.size < _ by (try simp) <;> (try omega))]
    first | assumption | (simp [go_sem, *])
  have q1_0_11 : w1.cell? ⟨w.heap.size, 11, none⟩ = some (.slice an N.next.length cn) := by
    rw [hb1.cell (p := ⟨w.heap.size, 11, none⟩) (show w.heap.size < _ by (try simp) <;> (try omega))]
    first | assumption | (simp [go_sem, *])
  have q1_0_12 : w1.cell? ⟨w.heap.size, 12, none⟩ = some (.slice am N.mtch.length cm) := by
    rw [hb1.cell (p := ⟨w.heap.size, 12, none⟩) (show w.heap.size < _ by (try simp) <;> (try omega))]
    first | assumption | (simp [go_sem, *])
  have hl1_0 : w.heap.size < w1.heap.size := by omega
  have HB1 : Hid (Below w.heap.size w w1) := (by repeat (first | exact Below.refl _ _ | (refine Below.alloc ?_ (by (try simp) <;> (try omega)) _) | (refine Below.setCell ?_ (by (try simp) <;> (try omega)) _) | (refine Below.drew ?_) | (refine Below.trans ?_ (Below.mono (by assumption) (by (try simp) <;> (try omega))))))
  clear hb1
  go_wp2_with fail
  refine (heldIntS_c av cv N.votes.length Q1 _ (K2.out.slrX fun _ => rfl) (by have := HQ2.out; omega)).mono ?_
  rw [show Q1 + N.votes.length = Q2 by have := HQ2.out; omega]
  rintro e w2 ⟨rfl, rfl⟩
  go_wp2_with fail
  refine (heldIntS_c an cn N.next.length Q2 _ (K3.out.slrX fun _ => rfl) (by have := HQ3.out; omega)).mono ?_
  rw [show Q2 + N.next.length = Q3 by have := HQ3.out; omega]
  rintro e w2 ⟨rfl, rfl⟩
  go_wp2_with fail
  refine (heldIntS_c am cm N.mtch.length Q3 _ (K4.out.slrX fun _ => rfl) (by have := HQ4.out; omega)).mono ?_
  rw [show Q3 + N.mtch.length = Q4 by have := HQ4.out; omega]
  rintro e w2 ⟨rfl, rfl⟩
  go_wp2_with fail
  go_ret
  exact ⟨rfl, HB1.out⟩
end Go.Proofs.Ytcakldgbhjkkfaa
