/- Marks on rows: markNodeS, heldNodeS of the laws. No conditions but sizes. -/
import Derived.Test.YtcakldgbhjkkfaaRw
import Derived.Test.YtcakldgbhjkkfaaClu
namespace Go.Proofs.Ytcakldgbhjkkfaa
set_option linter.unusedVariables false
set_option linter.unusedSimpArgs false
open Go.RowKit
def nodeBlk (r : NodeA) : List Nat := blkOf r.al ++ blkOf r.av ++ blkOf r.an ++ blkOf r.am
def nodeOwn (B : Nat) (w : World) (r : NodeA) : Prop := FreshIn entE 48 2 B w.heap.size (.slice r.al r.N.log.length r.cl) r.N.log w ∧ FreshIn intE 3 1 B w.heap.size (.slice r.av r.N.votes.length r.cv) r.N.votes w ∧ FreshIn intE 3 1 B w.heap.size (.slice r.an r.N.next.length r.cn) r.N.next w ∧ FreshIn intE 3 1 B w.heap.size (.slice r.am r.N.mtch.length r.cm) r.N.mtch w
def nodeCnt (r : NodeA) : Nat := 6 + 2 * r.N.log.length + 3 + 1 * r.N.votes.length + 1 * r.N.next.length + 1 * r.N.mtch.length
def nodeNum (K : Nat) : List NodeA → Nat
  | [] => K
  | r :: rs => nodeNum (K + nodeCnt r) rs
def nodeMk (r : NodeA) (K : Nat) : NodeA := ⟨⟨((K : Nat) : Int), ((K + 1 : Nat) : Int), ((K + 2 : Nat) : Int), ((K + 3 : Nat) : Int), ((K + 4 : Nat) : Int), (((K + 5 : Nat) : Int) % 3 == 0), (List.range r.N.log.length).map (markE (K + 6)), ((K + 6 + 2 * r.N.log.length : Nat) : Int), ((K + 6 + 2 * r.N.log.length + 1 : Nat) : Int), ((K + 6 + 2 * r.N.log.length + 2 : Nat) : Int), (List.range r.N.votes.length).map (markI (K + 6 + 2 * r.N.log.length + 3)), (List.range r.N.next.length).map (markI (K + 6 + 2 * r.N.log.length + 3 + 1 * r.N.votes.length)), (List.range r.N.mtch.length).map (markI (K + 6 + 2 * r.N.log.length + 3 + 1 * r.N.votes.length + 1 * r.N.next.length))⟩, r.al, r.cl, r.av, r.cv, r.an, r.cn, r.am, r.cm⟩
def nodeF (rs : List NodeA) (K j : Nat) : NodeA := nodeMk (rs.getD j nodeZ) (nodeNum K (rs.take j))
theorem nodeNum_step (K : Nat) (rs : List NodeA) (q : Nat) (hq : q < rs.length) : nodeNum K (rs.take (q + 1)) = nodeNum K (rs.take q) + nodeCnt rs[q] := by
  induction rs generalizing K q with
  | nil => simp at hq
  | cons r rs ih =>
    cases q with
    | zero => simp [nodeNum]
    | succ q => simp only [List.take_succ_cons, nodeNum, List.getElem_cons_succ]; exact ih _ q (by simpa using hq)
theorem nodeNum_mono (K : Nat) (rs : List NodeA) : K ≤ nodeNum K rs := by
  induction rs generalizing K with
  | nil => exact Nat.le_refl _
  | cons r rs ih => exact Nat.le_trans (Nat.le_add_right _ _) (ih _)
theorem nodeNum_le (K : Nat) (rs : List NodeA) (q : Nat) (hq : q < rs.length) : nodeNum K (rs.take q) + nodeCnt rs[q] ≤ nodeNum K rs := by
  rw [← nodeNum_step K rs q hq]
  conv => rhs; rw [← List.take_append_drop (q + 1) rs]
  generalize rs.take (q + 1) = a
  generalize rs.drop (q + 1) = b
  clear hq
  induction a generalizing K with
  | nil => exact nodeNum_mono _ _
  | cons r a ih => exact ih _
theorem nodeNum_len (K : Nat) (rs : List NodeA) : K + rs.length ≤ nodeNum K rs := by
  induction rs generalizing K with
  | nil => exact Nat.le_refl _
  | cons r rs ih =>
    have := ih (K + nodeCnt r)
    have h1 : 1 ≤ nodeCnt r := by unfold nodeCnt; omega
    simp only [List.length_cons, nodeNum]
    omega
theorem nodeF_at (rs : List NodeA) (K q : Nat) (hq : q < rs.length) : nodeF rs K q = nodeMk rs[q] (nodeNum K (rs.take q)) := by
  unfold nodeF
  rw [List.getD_eq_getElem?_getD, List.getElem?_eq_getElem hq]
  rfl
theorem nodeOwn.upd {B g lo hi : Nat} {S : Nat → Prop} {w w' : World} {r : NodeA} (h : nodeOwn B w r) (hu : Upd g lo hi S w w') (hd : ∀ k ∈ nodeBlk r, k ≠ g ∧ ¬ S k) : nodeOwn B w' r :=
  ⟨h.1.upd hu (fun k hk => hd k (by simp [nodeBlk, hk])), h.2.1.upd hu (fun k hk => hd k (by simp [nodeBlk, hk])), h.2.2.1.upd hu (fun k hk => hd k (by simp [nodeBlk, hk])), h.2.2.2.upd hu (fun k hk => hd k (by simp [nodeBlk, hk]))⟩
end Go.Proofs.Ytcakldgbhjkkfaa
