/- Marks on rows: markStoreS, heldStoreS of the laws. No conditions but sizes. -/
import Derived.Test.YtcakldgbhjkkfaaRw
import Derived.Test.YtcakldgbhjkkfaaClu
namespace Go.Proofs.Ytcakldgbhjkkfaa
set_option linter.unusedVariables false
set_option linter.unusedSimpArgs false
open Go.RowKit
def storeBlk (r : Sto) : List Nat := []
def storeOwn (B : Nat) (w : World) (r : Sto) : Prop := True
def storeCnt (r : Sto) : Nat := 2
def storeNum (K : Nat) : List Sto → Nat
  | [] => K
  | r :: rs => storeNum (K + storeCnt r) rs
def storeMk (r : Sto) (K : Nat) : Sto := (mt (K), ((K + 1 : Nat) : Int))
def storeF (rs : List Sto) (K j : Nat) : Sto := storeMk (rs.getD j ((⟨#[]⟩, 0) : Sto)) (storeNum K (rs.take j))
theorem storeNum_step (K : Nat) (rs : List Sto) (q : Nat) (hq : q < rs.length) : storeNum K (rs.take (q + 1)) = storeNum K (rs.take q) + storeCnt rs[q] := by
  induction rs generalizing K q with
  | nil => simp at hq
  | cons r rs ih =>
    cases q with
    | zero => simp [storeNum]
    | succ q => simp only [List.take_succ_cons, storeNum, List.getElem_cons_succ]; exact ih _ q (by simpa using hq)
theorem storeNum_mono (K : Nat) (rs : List Sto) : K ≤ storeNum K rs := by
  induction rs generalizing K with
  | nil => exact Nat.le_refl _
  | cons r rs ih => exact Nat.le_trans (Nat.le_add_right _ _) (ih _)
theorem storeNum_le (K : Nat) (rs : List Sto) (q : Nat) (hq : q < rs.length) : storeNum K (rs.take q) + storeCnt rs[q] ≤ storeNum K rs := by
  rw [← storeNum_step K rs q hq]
  conv => rhs; rw [← List.take_append_drop (q + 1) rs]
  generalize rs.take (q + 1) = a
  generalize rs.drop (q + 1) = b
  clear hq
  induction a generalizing K with
  | nil => exact storeNum_mono _ _
  | cons r a ih => exact ih _
theorem storeNum_len (K : Nat) (rs : List Sto) : K + rs.length ≤ storeNum K rs := by
  induction rs generalizing K with
  | nil => exact Nat.le_refl _
  | cons r rs ih =>
    have := ih (K + storeCnt r)
    have h1 : 1 ≤ storeCnt r := by unfold storeCnt; omega
    simp only [List.length_cons, storeNum]
    omega
theorem storeF_at (rs : List Sto) (K q : Nat) (hq : q < rs.length) : storeF rs K q = storeMk rs[q] (storeNum K (rs.take q)) := by
  unfold storeF
  rw [List.getD_eq_getElem?_getD, List.getElem?_eq_getElem hq]
  rfl
end Go.Proofs.Ytcakldgbhjkkfaa
