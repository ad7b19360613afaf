/- The records between two states lead from the first to the second: plain lemmas on lists of bytes, no program. -/
import Derived.Test.YtmdjcoeijlnloaaRcvAll
namespace Go.Proofs.Ytmdjcoeijlnloaa
set_option linter.unusedVariables false
set_option linter.unusedSimpArgs false
open Go.RowKit
theorem bn_append (l m : List UInt8) : bn (l ++ m) = bn l * 256 ^ m.length + bn m := by
  induction m generalizing l with
  | nil => simp [bn]
  | cons c m ih =>
    rw [show l ++ c :: m = (l ++ [c]) ++ m by simp, ih, bn_snoc, show (c :: m) = [c] ++ m by rfl, ih, show bn [c] = c.toNat by simp [bn]]
    simp [Nat.pow_succ]
    rw [Nat.add_mul, Nat.mul_assoc, Nat.mul_comm 256, Nat.add_assoc]
theorem be_two (n : Nat) : be n 2 = [beB n 2 0, beB n 2 1] := rfl
theorem be_three (n : Nat) : be n 3 = [beB n 3 0, beB n 3 1, beB n 3 2] := rfl
theorem bn_be2 (n : Nat) (h : n < 65536) : bn (be n 2) = n := by
  rw [be_two]
  simp only [bn, List.foldl_cons, List.foldl_nil, beB_toNat]
  simp
  omega
theorem bn_be3 (n : Nat) (h : n < 16777216) : bn (be n 3) = n := by
  rw [be_three]
  simp only [bn, List.foldl_cons, List.foldl_nil, beB_toNat]
  simp
  omega
theorem rdF_fields : ∀ (fs : List ByteArray), (∀ s ∈ fs, s.size ≤ 20000) → rdF fs.length (fldB fs) = some fs
  | [], _ => by
    show rdF 0 (fldB []) = _
    rw [rdF]
    rfl
  | f :: fs, h => by
    have h1 : f.size ≤ 20000 := h f (by simp)
    have ih := rdF_fields fs (fun s hs => h s (by simp [hs]))
    have hl : fldB (f :: fs) = be f.size 2 ++ (f.data.toList ++ fldB fs) := by simp [fldB, fieldL]
    have ht : (fldB (f :: fs)).take 2 = be f.size 2 := by rw [hl]; exact List.take_left' (be_length _ _)
    have hd : (fldB (f :: fs)).drop 2 = f.data.toList ++ fldB fs := by rw [hl]; exact List.drop_left' (be_length _ _)
    have hb : bn ((fldB (f :: fs)).take 2) = f.size := by rw [ht]; exact bn_be2 _ (by omega)
    have hs : f.data.toList.length = f.size := rfl
    have hlen : (fldB (f :: fs)).length = 2 + (f.size + (fldB fs).length) := by rw [hl]; simp [be_length]
    show rdF (fs.length + 1) _ = _
    rw [rdF_succ (by omega) (by rw [hb]; omega) (by rw [hb]; omega), hb, ← List.drop_drop, hd, List.drop_left' hs, List.take_left' hs, ih]
    rfl
theorem rdAll_fldL (fs : List ByteArray) (h : ∀ s ∈ fs, s.size ≤ 20000) (hl : fs.length ≤ 60) : rdAll (fldL fs) = some fs := by
  have h1 : (UInt8.ofNat fs.length).toNat = fs.length := by simp; omega
  show rdAll (UInt8.ofNat fs.length :: fldB fs) = _
  rw [rdAll, h1, if_neg (by omega)]
  exact rdF_fields fs h
theorem num_first (n : Int) (r : List Int) (h0 : 0 ≤ n + 1) (h1 : n < 16777215) : n0F (strOf (numL (n :: r))) = n := by
  have hl : numL (n :: r) = be (n + 1).toNat 3 ++ numL r := by simp [numL]
  show (bn ((numL (n :: r)).take 3) : Int) - 1 = n
  rw [hl, List.take_left' (be_length _ _), bn_be3 _ (by omega)]
  omega
theorem num_second (n m : Int) (r : List Int) (h0 : 0 ≤ m + 1) (h1 : m < 16777215) : n1F (strOf (numL (n :: m :: r))) = m := by
  have hl : numL (n :: m :: r) = be (n + 1).toNat 3 ++ (be (m + 1).toNat 3 ++ numL r) := by simp [numL]
  show (bn (((numL (n :: m :: r)).drop 3).take 3) : Int) - 1 = m
  rw [hl, List.drop_left' (be_length _ _), List.take_left' (be_length _ _), bn_be3 _ (by omega)]
  omega
theorem str1_inj {c d : UInt8} (h : str1 c = str1 d) : c = d := by
  have h1 : (str1 c).data.toList = (str1 d).data.toList := by rw [h]
  simpa [str1, strOf] using h1
theorem strOf_data' (l : List UInt8) : (strOf l).data.toList = l := by simp [strOf]
theorem ap_T (t v t' v' : Int) (xs : List Ent) (h0 : 0 ≤ t') (h1 : t' ≤ 1000) (h2 : -1 ≤ v') (h3 : v' ≤ 1000) (hle : t ≤ t') : apV t v xs (rdAll (recT t' v').data.toList) = chkS t' v' xs := by
  have hsz : (strOf (numL [t', v'])).size = 6 := by rw [strOf_size, numL_length]; rfl
  rw [recT, strOf_data', rdAll_fldL _ (by intro s hs; simp at hs; rcases hs with rfl | rfl <;> first | (rw [hsz]; omega) | decide | omega) (by simp)]
  show apC t v xs (str1 116) (strOf (numL [t', v'])) [] = _
  unfold apC
  rw [if_pos rfl, num_first _ _ (by omega) (by omega), num_second _ _ _ (by omega) (by omega), if_pos ⟨hsz, rfl, hle⟩]
theorem ap_C (t v : Int) (xs : List Ent) (k : Nat) (hk : k < xs.length) (hx : xs.length ≤ 60) : apV t v xs (rdAll (recC k).data.toList) = chkS t v (xs.take k) := by
  have hsz : (strOf (numL [(k : Int)])).size = 3 := by rw [strOf_size, numL_length]; rfl
  rw [recC, strOf_data', rdAll_fldL _ (by intro s hs; simp at hs; rcases hs with rfl | rfl <;> first | (rw [hsz]; omega) | decide | omega) (by simp)]
  show apC t v xs (str1 99) (strOf (numL [(k : Int)])) [] = _
  unfold apC
  rw [if_neg (fun h => absurd (str1_inj h) (by decide)), if_pos hsz, num_first _ _ (by omega) (by omega), if_pos ⟨rfl, rfl, by simp [inB]; omega⟩]
  simp
theorem ap_E (t v : Int) (xs : List Ent) (e : Ent) (h1 : 1 ≤ e.1) (h2 : e.1 ≤ 1000) (hs : e.2.size ≤ 400) : apV t v xs (rdAll (recE e).data.toList) = chkS t v (xs ++ [e]) := by
  have hsz : (strOf (numL [e.1])).size = 3 := by rw [strOf_size, numL_length]; rfl
  rw [recE, strOf_data', rdAll_fldL _ (by intro s hs; simp at hs; rcases hs with rfl | rfl | rfl <;> first | (rw [hsz]; omega) | decide | omega) (by simp)]
  show apC t v xs (str1 101) (strOf (numL [e.1])) [e.2] = _
  unfold apC
  rw [if_neg (fun h => absurd (str1_inj h) (by decide)), if_pos hsz, num_first _ _ (by omega) (by omega), if_neg (fun h => absurd (str1_inj h.1) (by decide)), if_pos ⟨rfl, rfl⟩]
  rfl
theorem chkS_pos {t v : Int} {xs : List Ent} (h : stOK t v xs = true) : chkS t v xs = some (t, v, xs) := by
  unfold chkS
  rw [if_pos h]
theorem stOK_take {t v : Int} {xs : List Ent} (h : stOK t v xs = true) (k : Nat) : stOK t v (xs.take k) = true := by
  have h1 : StOK t v xs := by simpa [stOK] using h
  obtain ⟨h2, h3, h4, h5⟩ := h1
  refine stOK_true ⟨h2, h3, by simp; omega, fun j hj => ?_⟩
  have hj' : j < xs.length := by simp at hj; omega
  obtain ⟨_, k1, k2, k3, k4⟩ := h5 j hj'
  refine ⟨hj, by simpa using k1, by simpa using k2, by simpa using k3, fun h0 => ?_⟩
  simpa using k4 h0
theorem stOK_raise {t v t' v' : Int} {xs : List Ent} (h : stOK t v xs = true) (ht : t ≤ t') (ht2 : t' ≤ 1000) (hv : -1 ≤ v') (hv2 : v' ≤ 4) : stOK t' v' xs = true := by
  have h1 : StOK t v xs := by simpa [stOK] using h
  obtain ⟨h2, h3, h4, h5⟩ := h1
  simp [inB] at h2 h3
  refine stOK_true ⟨by simp [inB]; omega, by simp [inB]; omega, h4, fun j hj => ?_⟩
  obtain ⟨_, k1, k2, k3, k4⟩ := h5 j hj
  exact ⟨hj, k1, k2, by omega, k4⟩
end Go.Proofs.Ytmdjcoeijlnloaa
