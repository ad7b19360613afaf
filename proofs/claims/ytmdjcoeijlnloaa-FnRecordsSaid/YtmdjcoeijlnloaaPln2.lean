/- The records between two states lead from the first to the second, and each is taken. Plain lemmas, no program. -/
import Derived.Test.YtmdjcoeijlnloaaPln
import Derived.Test.YtmdjcoeijlnloaaApRec
namespace Go.Proofs.Ytmdjcoeijlnloaa
set_option linter.unusedVariables false
set_option linter.unusedSimpArgs false
open Go.RowKit
theorem common_take : ∀ (xs ys : List Ent), xs.take (commonN xs ys) = ys.take (commonN xs ys)
  | [], ys => by simp [commonN]
  | x :: xs, [] => by simp [commonN]
  | x :: xs, y :: ys => by
    simp only [commonN]
    split
    · next h =>
      subst h
      simp [common_take xs ys]
    · simp
theorem rcL_append (s : Int × Int × List Ent) (F G : List ByteArray) : rcL s (F ++ G) = (rcL s F).bind (fun x => rcL x G) := by
  induction F generalizing s with
  | nil => rfl
  | cons r rs ih =>
    cases h : apV s.1 s.2.1 s.2.2 (rdAll r.data.toList) with
    | none => rw [List.cons_append, rcL_none h, rcL_none h]; rfl
    | some x => rw [List.cons_append, rcL_some h, rcL_some h, ih]
theorem rcL_entries (t v : Int) : ∀ (zs pre : List Ent), stOK t v (pre ++ zs) = true → rcL (t, v, pre) (zs.map recE) = some (t, v, pre ++ zs)
  | [], pre, _ => by simp [rcL_nil]
  | z :: zs, pre, h => by
    have hf := stOK_facts h
    have h1 := hf.2.2.2.2.2 z (by simp)
    have h2 : stOK t v (pre ++ [z]) = true := by
      have := stOK_take h (pre.length + 1)
      rwa [show pre ++ z :: zs = (pre ++ [z]) ++ zs by simp, List.take_left' (by simp)] at this
    have h3 : apV t v pre (rdAll (recE z).data.toList) = some (t, v, pre ++ [z]) := by
      rw [ap_E t v pre z h1.1 h1.2.1 h1.2.2, chkS_pos h2]
    rw [List.map_cons, rcL_some (s := (t, v, pre)) h3, rcL_entries t v zs (pre ++ [z]) (by simpa using h)]
    simp
theorem recs_lead (t v t' v' : Int) (xs ys : List Ent) (h : stOK t v xs = true) (h' : stOK t' v' ys = true) (hle : t ≤ t') : rcL (t, v, xs) (recsL t v xs t' v' ys) = some (t', v', ys) := by
  have hf := stOK_facts h
  have hf' := stOK_facts h'
  have h1 : rcL (t, v, xs) (rec1 t v t' v') = some (t', v', xs) := by
    unfold rec1
    by_cases hc : chg t v t' v' = true
    · rw [if_pos hc]
      have ha : apV t v xs (rdAll (recT t' v').data.toList) = some (t', v', xs) := by
        rw [ap_T t v t' v' xs (by omega) (by omega) (by omega) (by omega) hle, chkS_pos (stOK_raise h hle (by omega) (by omega) (by omega))]
      rw [rcL_some (s := (t, v, xs)) ha, rcL_nil]
    · rw [if_neg hc, rcL_nil]
      simp [chg] at hc
      rw [hc.1, hc.2]
  have h2 : rcL (t', v', xs) (rec2 xs ys) = some (t', v', ys.take (commonN xs ys)) := by
    unfold rec2
    have hk := commonN_le xs ys
    by_cases hc : commonN xs ys < xs.length
    · rw [if_pos hc]
      have ha : apV t' v' xs (rdAll (recC (commonN xs ys)).data.toList) = some (t', v', xs.take (commonN xs ys)) := by
        rw [ap_C t' v' xs _ hc hf.2.2.2.2.1, chkS_pos (stOK_take (stOK_raise h hle (by omega) (by omega) (by omega)) _)]
      rw [rcL_some (s := (t', v', xs)) ha, rcL_nil, common_take]
    · rw [if_neg hc, rcL_nil, ← common_take, List.take_of_length_le (by omega)]
  have h3 : rcL (t', v', ys.take (commonN xs ys)) (rec3 xs ys) = some (t', v', ys) := by
    unfold rec3
    rw [rcL_entries t' v' _ _ (by rw [List.take_append_drop]; exact h'), List.take_append_drop]
  unfold recsL
  rw [rcL_append, rcL_append, h1]
  simp only [Option.bind_some]
  rw [h2]
  simp only [Option.bind_some]
  exact h3
theorem rec_size (t v t' v' : Int) (xs ys : List Ent) (h' : stOK t' v' ys = true) : ∀ r ∈ recsL t v xs t' v' ys, r.size ≤ 1000 := by
  have hf := stOK_facts h'
  intro r hr
  unfold recsL at hr
  have hl : ∀ fs : List ByteArray, (strOf (fldL fs)).size = 1 + (fldB fs).length := fun fs => by rw [strOf_size, fldL_length]
  have hs : ∀ s : ByteArray, (fieldL s).length = 2 + s.size := fieldL_length
  have hn : ∀ ns : List Int, (strOf (numL ns)).size = 3 * ns.length := fun ns => by rw [strOf_size, numL_length]
  have h1 : ∀ c, (str1 c).size = 1 := fun c => rfl
  rcases List.mem_append.1 hr with hr | hr
  · rcases List.mem_append.1 hr with hr | hr
    · unfold rec1 at hr
      split at hr
      · simp at hr
        subst hr
        rw [recT, hl]
        simp [fldB, hs, hn, h1]
      · cases hr
    · unfold rec2 at hr
      split at hr
      · simp at hr
        subst hr
        rw [recC, hl]
        simp [fldB, hs, hn, h1]
      · cases hr
  · unfold rec3 at hr
    obtain ⟨e, he, rfl⟩ := List.mem_map.1 hr
    have := hf.2.2.2.2.2 e (List.mem_of_mem_drop he)
    rw [recE, hl]
    simp [fldB, hs, hn, h1]
    omega
/-- ApplyRecord on a record that is taken. -/
theorem ar_step {s x : Int × Int × List Ent} {r : ByteArray} (hs : stOK s.1 s.2.1 s.2.2 = true) (hr : r.size ≤ 1000) (ha : apV s.1 s.2.1 s.2.2 (rdAll r.data.toList) = some x) : arS s.1 s.2.1 s.2.2 r.data.toList = x ∧ arC s.1 s.2.1 s.2.2 r.data.toList = 0 := by
  have hl : longP (strOf r.data.toList).size = false := by
    have h1 : (strOf r.data.toList).size = r.size := rfl
    rw [h1]
    simp [longP]
    omega
  constructor
  · simp [arS, hl, hs, ha]
  · simp [arC, hl, hs, ha]
theorem rcL_step {s y : Int × Int × List Ent} {r : ByteArray} {rs : List ByteArray} (h : rcL s (r :: rs) = some y) : ∃ x, apV s.1 s.2.1 s.2.2 (rdAll r.data.toList) = some x ∧ rcL x rs = some y := by
  cases ha : apV s.1 s.2.1 s.2.2 (rdAll r.data.toList) with
  | none => rw [rcL_none ha] at h; cases h
  | some x => exact ⟨x, rfl, by rw [← rcL_some ha]; exact h⟩
end Go.Proofs.Ytmdjcoeijlnloaa
