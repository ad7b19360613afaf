/- The law FnTorn: its plain lemmas and its walk. -/
import Derived.Test.YtmdjcoeijlnloaaRcvAll
import Derived.Test.YtmdjcoeijlnloaaApRec
import Derived.Test.YtmdjcoeijlnloaaFrm
import Derived.Test.YtmdjcoeijlnloaaWr3
import Derived.Test.YtmdjcoeijlnloaaStore2
import Derived.Test.YtmdjcoeijlnloaaSame2
import Derived.Test.YtmdjcoeijlnloaaSrcAll
import Derived.Test.YtmdjcoeijlnloaaScalar
import Derived.Test.YtmdjcoeijlnloaaSl
import Derived.Lib.Hide
import Derived.BigQuiet
import Derived.Deep.RegionHeld3
import Derived.Deep.DeepCutAuto
namespace Go.Proofs.Ytmdjcoeijlnloaa
set_option linter.unusedVariables false
set_option linter.unusedSimpArgs false
section
open Go.RowKit
theorem bn_append (l m : List UInt8) : bn (l ++ m) = bn l * 256 ^ m.length + bn m := by
  induction m generalizing l with
  | nil => simp [bn]
  | cons c m ih =>
    rw [show l ++ c :: m = (l ++ [c]) ++ m by simp, ih, bn_snoc, show (c :: m) = [c] ++ m by rfl, ih, show bn [c] = c.toNat by simp [bn]]
    simp [Nat.pow_succ]
    rw [Nat.add_mul, Nat.mul_assoc, Nat.mul_comm 256, Nat.add_assoc]
theorem be_two (n : Nat) : be n 2 = [beB n 2 0, beB n 2 1] := rfl
theorem be_three (n : Nat) : be n 3 = [beB n 3 0, beB n 3 1, beB n 3 2] := rfl
theorem bn_be2 (n : Nat) (h : n < 65536) : bn (be n 2) = n := by
  rw [be_two]
  simp only [bn, List.foldl_cons, List.foldl_nil, beB_toNat]
  simp
  omega
theorem bn_be3 (n : Nat) (h : n < 16777216) : bn (be n 3) = n := by
  rw [be_three]
  simp only [bn, List.foldl_cons, List.foldl_nil, beB_toNat]
  simp
  omega
theorem rdF_fields : ∀ (fs : List ByteArray), (∀ s ∈ fs, s.size ≤ 20000) → rdF fs.length (fldB fs) = some fs
  | [], _ => by
    show rdF 0 (fldB []) = _
    rw [rdF]
    rfl
  | f :: fs, h => by
    have h1 : f.size ≤ 20000 := h f (by simp)
    have ih := rdF_fields fs (fun s hs => h s (by simp [hs]))
    have hl : fldB (f :: fs) = be f.size 2 ++ (f.data.toList ++ fldB fs) := by simp [fldB, fieldL]
    have ht : (fldB (f :: fs)).take 2 = be f.size 2 := by rw [hl]; exact List.take_left' (be_length _ _)
    have hd : (fldB (f :: fs)).drop 2 = f.data.toList ++ fldB fs := by rw [hl]; exact List.drop_left' (be_length _ _)
    have hb : bn ((fldB (f :: fs)).take 2) = f.size := by rw [ht]; exact bn_be2 _ (by omega)
    have hs : f.data.toList.length = f.size := rfl
    have hlen : (fldB (f :: fs)).length = 2 + (f.size + (fldB fs).length) := by rw [hl]; simp [be_length]
    show rdF (fs.length + 1) _ = _
    rw [rdF_succ (by omega) (by rw [hb]; omega) (by rw [hb]; omega), hb, ← List.drop_drop, hd, List.drop_left' hs, List.take_left' hs, ih]
    rfl
theorem rdAll_fldL (fs : List ByteArray) (h : ∀ s ∈ fs, s.size ≤ 20000) (hl : fs.length ≤ 60) : rdAll (fldL fs) = some fs := by
  have h1 : (UInt8.ofNat fs.length).toNat = fs.length := by simp; omega
  show rdAll (UInt8.ofNat fs.length :: fldB fs) = _
  rw [rdAll, h1, if_neg (by omega)]
  exact rdF_fields fs h
theorem num_first (n : Int) (r : List Int) (h0 : 0 ≤ n + 1) (h1 : n < 16777215) : n0F (strOf (numL (n :: r))) = n := by
  have hl : numL (n :: r) = be (n + 1).toNat 3 ++ numL r := by simp [numL]
  show (bn ((numL (n :: r)).take 3) : Int) - 1 = n
  rw [hl, List.take_left' (be_length _ _), bn_be3 _ (by omega)]
  omega
theorem num_second (n m : Int) (r : List Int) (h0 : 0 ≤ m + 1) (h1 : m < 16777215) : n1F (strOf (numL (n :: m :: r))) = m := by
  have hl : numL (n :: m :: r) = be (n + 1).toNat 3 ++ (be (m + 1).toNat 3 ++ numL r) := by simp [numL]
  show (bn (((numL (n :: m :: r)).drop 3).take 3) : Int) - 1 = m
  rw [hl, List.drop_left' (be_length _ _), List.take_left' (be_length _ _), bn_be3 _ (by omega)]
  omega
theorem str1_inj {c d : UInt8} (h : str1 c = str1 d) : c = d := by
  have h1 : (str1 c).data.toList = (str1 d).data.toList := by rw [h]
  simpa [str1, strOf] using h1
theorem strOf_data' (l : List UInt8) : (strOf l).data.toList = l := by simp [strOf]
theorem ap_T (t v t' v' : Int) (xs : List Ent) (h0 : 0 ≤ t') (h1 : t' ≤ 1000) (h2 : -1 ≤ v') (h3 : v' ≤ 1000) (hle : t ≤ t') : apV t v xs (rdAll (recT t' v').data.toList) = chkS t' v' xs := by
  have hsz : (strOf (numL [t', v'])).size = 6 := by rw [strOf_size, numL_length]; rfl
  rw [recT, strOf_data', rdAll_fldL _ (by intro s hs; simp at hs; rcases hs with rfl | rfl <;> first | (rw [hsz]; omega) | decide | omega) (by simp)]
  show apC t v xs (str1 116) (strOf (numL [t', v'])) [] = _
  unfold apC
  rw [if_pos rfl, num_first _ _ (by omega) (by omega), num_second _ _ _ (by omega) (by omega), if_pos ⟨hsz, rfl, hle⟩]
theorem ap_C (t v : Int) (xs : List Ent) (k : Nat) (hk : k < xs.length) (hx : xs.length ≤ 60) : apV t v xs (rdAll (recC k).data.toList) = chkS t v (xs.take k) := by
  have hsz : (strOf (numL [(k : Int)])).size = 3 := by rw [strOf_size, numL_length]; rfl
  rw [recC, strOf_data', rdAll_fldL _ (by intro s hs; simp at hs; rcases hs with rfl | rfl <;> first | (rw [hsz]; omega) | decide | omega) (by simp)]
  show apC t v xs (str1 99) (strOf (numL [(k : Int)])) [] = _
  unfold apC
  rw [if_neg (fun h => absurd (str1_inj h) (by decide)), if_pos hsz, num_first _ _ (by omega) (by omega), if_pos ⟨rfl, rfl, by simp [inB]; omega⟩]
  simp
theorem ap_E (t v : Int) (xs : List Ent) (e : Ent) (h1 : 1 ≤ e.1) (h2 : e.1 ≤ 1000) (hs : e.2.size ≤ 400) : apV t v xs (rdAll (recE e).data.toList) = chkS t v (xs ++ [e]) := by
  have hsz : (strOf (numL [e.1])).size = 3 := by rw [strOf_size, numL_length]; rfl
  rw [recE, strOf_data', rdAll_fldL _ (by intro s hs; simp at hs; rcases hs with rfl | rfl | rfl <;> first | (rw [hsz]; omega) | decide | omega) (by simp)]
  show apC t v xs (str1 101) (strOf (numL [e.1])) [e.2] = _
  unfold apC
  rw [if_neg (fun h => absurd (str1_inj h) (by decide)), if_pos hsz, num_first _ _ (by omega) (by omega), if_neg (fun h => absurd (str1_inj h.1) (by decide)), if_pos ⟨rfl, rfl⟩]
  rfl
theorem chkS_pos {t v : Int} {xs : List Ent} (h : stOK t v xs = true) : chkS t v xs = some (t, v, xs) := by
  unfold chkS
  rw [if_pos h]
theorem stOK_take {t v : Int} {xs : List Ent} (h : stOK t v xs = true) (k : Nat) : stOK t v (xs.take k) = true := by
  have h1 : StOK t v xs := by simpa [stOK] using h
  obtain ⟨h2, h3, h4, h5⟩ := h1
  refine stOK_true ⟨h2, h3, by simp; omega, fun j hj => ?_⟩
  have hj' : j < xs.length := by simp at hj; omega
  obtain ⟨_, k1, k2, k3, k4⟩ := h5 j hj'
  refine ⟨hj, by simpa using k1, by simpa using k2, by simpa using k3, fun h0 => ?_⟩
  simpa using k4 h0
theorem stOK_raise {t v t' v' : Int} {xs : List Ent} (h : stOK t v xs = true) (ht : t ≤ t') (ht2 : t' ≤ 1000) (hv : -1 ≤ v') (hv2 : v' ≤ 4) : stOK t' v' xs = true := by
  have h1 : StOK t v xs := by simpa [stOK] using h
  obtain ⟨h2, h3, h4, h5⟩ := h1
  simp [inB] at h2 h3
  refine stOK_true ⟨by simp [inB]; omega, by simp [inB]; omega, h4, fun j hj => ?_⟩
  obtain ⟨_, k1, k2, k3, k4⟩ := h5 j hj
  exact ⟨hj, k1, k2, by omega, k4⟩
end
section
open Go.RowKit
theorem common_take : ∀ (xs ys : List Ent), xs.take (commonN xs ys) = ys.take (commonN xs ys)
  | [], ys => by simp [commonN]
  | x :: xs, [] => by simp [commonN]
  | x :: xs, y :: ys => by
    simp only [commonN]
    split
    · next h =>
      subst h
      simp [common_take xs ys]
    · simp
theorem rcL_append (s : Int × Int × List Ent) (F G : List ByteArray) : rcL s (F ++ G) = (rcL s F).bind (fun x => rcL x G) := by
  induction F generalizing s with
  | nil => rfl
  | cons r rs ih =>
    cases h : apV s.1 s.2.1 s.2.2 (rdAll r.data.toList) with
    | none => rw [List.cons_append, rcL_none h, rcL_none h]; rfl
    | some x => rw [List.cons_append, rcL_some h, rcL_some h, ih]
theorem rcL_entries (t v : Int) : ∀ (zs pre : List Ent), stOK t v (pre ++ zs) = true → rcL (t, v, pre) (zs.map recE) = some (t, v, pre ++ zs)
  | [], pre, _ => by simp [rcL_nil]
  | z :: zs, pre, h => by
    have hf := stOK_facts h
    have h1 := hf.2.2.2.2.2 z (by simp)
    have h2 : stOK t v (pre ++ [z]) = true := by
      have := stOK_take h (pre.length + 1)
      rwa [show pre ++ z :: zs = (pre ++ [z]) ++ zs by simp, List.take_left' (by simp)] at this
    have h3 : apV t v pre (rdAll (recE z).data.toList) = some (t, v, pre ++ [z]) := by
      rw [ap_E t v pre z h1.1 h1.2.1 h1.2.2, chkS_pos h2]
    rw [List.map_cons, rcL_some (s := (t, v, pre)) h3, rcL_entries t v zs (pre ++ [z]) (by simpa using h)]
    simp
theorem recs_lead (t v t' v' : Int) (xs ys : List Ent) (h : stOK t v xs = true) (h' : stOK t' v' ys = true) (hle : t ≤ t') : rcL (t, v, xs) (recsL t v xs t' v' ys) = some (t', v', ys) := by
  have hf := stOK_facts h
  have hf' := stOK_facts h'
  have h1 : rcL (t, v, xs) (rec1 t v t' v') = some (t', v', xs) := by
    unfold rec1
    by_cases hc : chg t v t' v' = true
    · rw [if_pos hc]
      have ha : apV t v xs (rdAll (recT t' v').data.toList) = some (t', v', xs) := by
        rw [ap_T t v t' v' xs (by omega) (by omega) (by omega) (by omega) hle, chkS_pos (stOK_raise h hle (by omega) (by omega) (by omega))]
      rw [rcL_some (s := (t, v, xs)) ha, rcL_nil]
    · rw [if_neg hc, rcL_nil]
      simp [chg] at hc
      rw [hc.1, hc.2]
  have h2 : rcL (t', v', xs) (rec2 xs ys) = some (t', v', ys.take (commonN xs ys)) := by
    unfold rec2
    have hk := commonN_le xs ys
    by_cases hc : commonN xs ys < xs.length
    · rw [if_pos hc]
      have ha : apV t' v' xs (rdAll (recC (commonN xs ys)).data.toList) = some (t', v', xs.take (commonN xs ys)) := by
        rw [ap_C t' v' xs _ hc hf.2.2.2.2.1, chkS_pos (stOK_take (stOK_raise h hle (by omega) (by omega) (by omega)) _)]
      rw [rcL_some (s := (t', v', xs)) ha, rcL_nil, common_take]
    · rw [if_neg hc, rcL_nil, ← common_take, List.take_of_length_le (by omega)]
  have h3 : rcL (t', v', ys.take (commonN xs ys)) (rec3 xs ys) = some (t', v', ys) := by
    unfold rec3
    rw [rcL_entries t' v' _ _ (by rw [List.take_append_drop]; exact h'), List.take_append_drop]
  unfold recsL
  rw [rcL_append, rcL_append, h1]
  simp only [Option.bind_some]
  rw [h2]
  simp only [Option.bind_some]
  exact h3
theorem rec_size (t v t' v' : Int) (xs ys : List Ent) (h' : stOK t' v' ys = true) : ∀ r ∈ recsL t v xs t' v' ys, r.size ≤ 1000 := by
  have hf := stOK_facts h'
  intro r hr
  unfold recsL at hr
  have hl : ∀ fs : List ByteArray, (strOf (fldL fs)).size = 1 + (fldB fs).length := fun fs => by rw [strOf_size, fldL_length]
  have hs : ∀ s : ByteArray, (fieldL s).length = 2 + s.size := fieldL_length
  have hn : ∀ ns : List Int, (strOf (numL ns)).size = 3 * ns.length := fun ns => by rw [strOf_size, numL_length]
  have h1 : ∀ c, (str1 c).size = 1 := fun c => rfl
  rcases List.mem_append.1 hr with hr | hr
  · rcases List.mem_append.1 hr with hr | hr
    · unfold rec1 at hr
      split at hr
      · simp at hr
        subst hr
        rw [recT, hl]
        simp [fldB, hs, hn, h1]
      · cases hr
    · unfold rec2 at hr
      split at hr
      · simp at hr
        subst hr
        rw [recC, hl]
        simp [fldB, hs, hn, h1]
      · cases hr
  · unfold rec3 at hr
    obtain ⟨e, he, rfl⟩ := List.mem_map.1 hr
    have := hf.2.2.2.2.2 e (List.mem_of_mem_drop he)
    rw [recE, hl]
    simp [fldB, hs, hn, h1]
    omega
/-- ApplyRecord on a record that is taken. -/
theorem ar_step {s x : Int × Int × List Ent} {r : ByteArray} (hs : stOK s.1 s.2.1 s.2.2 = true) (hr : r.size ≤ 1000) (ha : apV s.1 s.2.1 s.2.2 (rdAll r.data.toList) = some x) : arS s.1 s.2.1 s.2.2 r.data.toList = x ∧ arC s.1 s.2.1 s.2.2 r.data.toList = 0 := by
  have hl : longP (strOf r.data.toList).size = false := by
    have h1 : (strOf r.data.toList).size = r.size := rfl
    rw [h1]
    simp [longP]
    omega
  constructor
  · simp [arS, hl, hs, ha]
  · simp [arC, hl, hs, ha]
theorem rcL_step {s y : Int × Int × List Ent} {r : ByteArray} {rs : List ByteArray} (h : rcL s (r :: rs) = some y) : ∃ x, apV s.1 s.2.1 s.2.2 (rdAll r.data.toList) = some x ∧ rcL x rs = some y := by
  cases ha : apV s.1 s.2.1 s.2.2 (rdAll r.data.toList) with
  | none => rw [rcL_none ha] at h; cases h
  | some x => exact ⟨x, rfl, by rw [← rcL_some ha]; exact h⟩
end
section
open Go.RowKit
theorem be_four (n : Nat) : be n 4 = [beB n 4 0, beB n 4 1, beB n 4 2, beB n 4 3] := rfl
theorem bn_be4 (n : Nat) (h : n < 4294967296) : bn (be n 4) = n := by
  rw [be_four]
  simp only [bn, List.foldl_cons, List.foldl_nil, beB_toNat]
  simp
  omega
theorem frF_frame (n : Nat) (s : ByteArray) (rest : List UInt8) (h1 : 1 ≤ s.size) (h2 : s.size ≤ 65536) :
    frF (n + 1) (frmL s ++ rest) = (s :: (frF n rest).1, 7 + s.size + (frF n rest).2.1, (frF n rest).2.2) := by
  have e : frmL s ++ rest = hdr s ++ (be (crc (hdr s ++ s.data.toList)) 4 ++ (s.data.toList ++ rest)) := by simp [frmL]
  have hh : (hdr s).length = 3 := hdr_length s
  have hs : s.data.toList.length = s.size := rfl
  have ht3 : (frmL s ++ rest).take 3 = hdr s := by rw [e]; exact List.take_left' hh
  have hd3 : (frmL s ++ rest).drop 3 = be (crc (hdr s ++ s.data.toList)) 4 ++ (s.data.toList ++ rest) := by rw [e]; exact List.drop_left' hh
  have hd7 : (frmL s ++ rest).drop 7 = s.data.toList ++ rest := by
    rw [show 7 = 3 + 4 by rfl, ← List.drop_drop, hd3]
    exact List.drop_left' (be_length _ _)
  have hb : bn ((frmL s ++ rest).take 3) = s.size := by rw [ht3]; exact bn_be3 _ (by omega)
  have hl : (frmL s ++ rest).length = s.size + 7 + rest.length := by rw [List.length_append, frmL_length]
  have hd : (frmL s ++ rest).drop (7 + s.size) = rest := by
    rw [← List.drop_drop, hd7]
    exact List.drop_left' hs
  have hk : (s.data.toList ++ rest).take s.size = s.data.toList := List.take_left' hs
  have hc : bn (((frmL s ++ rest).drop 3).take 4) = crc (hdr s ++ s.data.toList) := by
    rw [hd3, List.take_left' (be_length _ _)]
    exact bn_be4 _ (crc_lt _)
  have h := frF_ok (n := n) (l := frmL s ++ rest) (by omega) (by rw [hb]; omega) (by rw [hb]; omega) (by rw [hb, hc, ht3, hd7, hk])
  rw [h, hb, hd, hd7, hk]
  rfl
/-- The bytes of a list of frames. -/
def frmsL (L : List ByteArray) : List UInt8 := L.flatMap frmL
theorem frF_frames : ∀ (L : List ByteArray) (n : Nat), L.length ≤ n → (∀ s ∈ L, 1 ≤ s.size ∧ s.size ≤ 65536) → frF n (frmsL L) = (L, (frmsL L).length, 0)
  | [], n, _, _ => by simp [frmsL, frF_nil]
  | s :: L, 0, h, _ => by simp at h
  | s :: L, n + 1, h, hs => by
    have h1 := hs s (by simp)
    have ih := frF_frames L n (by simpa using h) (fun x hx => hs x (by simp [hx]))
    rw [show frmsL (s :: L) = frmL s ++ frmsL L by rfl, frF_frame n s _ h1.1 h1.2, ih]
    simp [frmL_length]
    omega
end
section
open Go.RowKit
/-- A piece of one frame, short of it: nothing is read, and more is asked for (or nothing is there). -/
theorem frF_piece (n : Nat) (s : ByteArray) (h1 : 1 ≤ s.size) (h2 : s.size ≤ 65536) (k : Nat) (hk : k < s.size + 7) : (frF n ((frmL s).take k)).1 = [] ∧ (frF n ((frmL s).take k)).2.1 = 0 ∧ (frF n ((frmL s).take k)).2.2 ≠ 8 := by
  cases n with
  | zero => simp [frF]
  | succ n =>
    have hl : ((frmL s).take k).length = k := by rw [List.length_take, frmL_length]; omega
    by_cases h0 : k = 0
    · subst h0
      rw [List.take_zero, frF_nil]
      simp
    by_cases h7 : k < 7
    · rw [frF_short (by omega) (by omega)]
      simp
    · have e : frmL s = hdr s ++ (be (crc (hdr s ++ s.data.toList)) 4 ++ s.data.toList) := by simp [frmL]
      have hh : (hdr s).length = 3 := hdr_length s
      have ht : ((frmL s).take k).take 3 = hdr s := by
        rw [List.take_take, Nat.min_eq_left (by omega), e]
        exact List.take_left' hh
      have hb : bn (((frmL s).take k).take 3) = s.size := by rw [ht]; exact bn_be3 _ (by omega)
      rw [frF_cut (by omega) (by rw [hb]; omega) (by rw [hb]; omega)]
      simp
/-- Frames cut at byte k: the whole ones ahead of it are read. -/
theorem frF_torn : ∀ (L : List ByteArray) (n k : Nat), L.length ≤ n → (∀ s ∈ L, 1 ≤ s.size ∧ s.size ≤ 65536) → k ≤ (frmsL L).length →
    ∃ j, j ≤ L.length ∧ (frF n ((frmsL L).take k)).1 = L.take j ∧ (frF n ((frmsL L).take k)).2.1 = (frmsL (L.take j)).length ∧ (frF n ((frmsL L).take k)).2.2 ≠ 8
  | [], n, k, _, _, _ => ⟨0, Nat.le_refl _, by simp [frmsL, frF_nil], by simp [frmsL, frF_nil], by simp [frmsL, frF_nil]⟩
  | s :: L, 0, k, h, _, _ => by simp at h
  | s :: L, n + 1, k, h, hs, hk => by
    have h1 := hs s (by simp)
    have e : frmsL (s :: L) = frmL s ++ frmsL L := rfl
    by_cases hc : k < s.size + 7
    · have ht : (frmsL (s :: L)).take k = (frmL s).take k := by
        rw [e, List.take_append_of_le_length (by rw [frmL_length]; omega)]
      obtain ⟨p1, p2, p3⟩ := frF_piece (n + 1) s h1.1 h1.2 k hc
      exact ⟨0, Nat.zero_le _, by rw [ht, p1]; rfl, by rw [ht, p2]; rfl, by rw [ht]; exact p3⟩
    · obtain ⟨m, rfl⟩ : ∃ m, k = (s.size + 7) + m := ⟨k - (s.size + 7), by omega⟩
      have ht : (frmsL (s :: L)).take (s.size + 7 + m) = frmL s ++ (frmsL L).take m := by
        rw [e, List.take_append, List.take_of_length_le (by rw [frmL_length]; omega), frmL_length, Nat.add_sub_cancel_left]
      have hm : m ≤ (frmsL L).length := by
        rw [e, List.length_append, frmL_length] at hk
        omega
      obtain ⟨j, hj, q1, q2, q3⟩ := frF_torn L n m (by simpa using h) (fun x hx => hs x (by simp [hx])) hm
      refine ⟨j + 1, by simpa using hj, ?_, ?_, ?_⟩
      · rw [ht, frF_frame n s _ h1.1 h1.2, q1]
        rfl
      · rw [ht, frF_frame n s _ h1.1 h1.2]
        show 7 + s.size + _ = _
        rw [q2, List.take_succ_cons, show frmsL (s :: L.take j) = frmL s ++ frmsL (L.take j) by rfl, List.length_append, frmL_length]
        omega
      · rw [ht, frF_frame n s _ h1.1 h1.2]
        exact q3
end
section
open Go.RowKit
theorem frmsL_append (A B : List ByteArray) : frmsL (A ++ B) = frmsL A ++ frmsL B := by simp [frmsL]
theorem frmsL_cons (s : ByteArray) (B : List ByteArray) : frmsL (s :: B) = frmL s ++ frmsL B := rfl
theorem frmsL_ge : ∀ (A : List ByteArray), A.length ≤ (frmsL A).length
  | [] => Nat.zero_le _
  | s :: A => by
    have := frmsL_ge A
    rw [frmsL_cons, List.length_append, frmL_length, List.length_cons]
    omega
theorem frmsL_le (c : Nat) : ∀ (A : List ByteArray), (∀ s ∈ A, s.size ≤ c) → (frmsL A).length ≤ A.length * (c + 7)
  | [], _ => by simp [frmsL]
  | s :: A, h => by
    have h1 := frmsL_le c A (fun x hx => h x (by simp [hx]))
    have h2 := h s (by simp)
    rw [frmsL_cons, List.length_append, frmL_length, List.length_cons, Nat.succ_mul]
    omega
/-- Whole frames ahead are read first. -/
theorem frF_pre : ∀ (A : List ByteArray) (n : Nat) (r : List UInt8), A.length ≤ n → (∀ s ∈ A, 1 ≤ s.size ∧ s.size ≤ 65536) →
    frF n (frmsL A ++ r) = (A ++ (frF (n - A.length) r).1, (frmsL A).length + (frF (n - A.length) r).2.1, (frF (n - A.length) r).2.2)
  | [], n, r, _, _ => by simp [frmsL]
  | s :: A, 0, r, h, _ => by simp at h
  | s :: A, n + 1, r, h, hs => by
    have h1 := hs s (by simp)
    have ih := frF_pre A n r (by simpa using h) (fun x hx => hs x (by simp [hx]))
    rw [frmsL_cons, List.append_assoc, frF_frame n s _ h1.1 h1.2, ih]
    simp [frmL_length]
    omega
/-- Frames cut at byte k, with k rounds to read them. -/
theorem frF_torn2 : ∀ (L : List ByteArray) (n k : Nat), k ≤ n → (∀ s ∈ L, 1 ≤ s.size ∧ s.size ≤ 65536) → k ≤ (frmsL L).length →
    ∃ j, j ≤ L.length ∧ (frF n ((frmsL L).take k)).1 = L.take j ∧ (frF n ((frmsL L).take k)).2.1 = (frmsL (L.take j)).length ∧ (frF n ((frmsL L).take k)).2.2 ≠ 8
  | [], n, k, _, _, _ => ⟨0, Nat.le_refl _, by simp [frmsL, frF_nil], by simp [frmsL, frF_nil], by simp [frmsL, frF_nil]⟩
  | s :: L, n, k, h, hs, hk => by
    have h1 := hs s (by simp)
    by_cases hc : k < s.size + 7
    · have ht : (frmsL (s :: L)).take k = (frmL s).take k := by
        rw [frmsL_cons, List.take_append_of_le_length (by rw [frmL_length]; omega)]
      obtain ⟨p1, p2, p3⟩ := frF_piece n s h1.1 h1.2 k hc
      exact ⟨0, Nat.zero_le _, by rw [ht, p1]; rfl, by rw [ht, p2]; rfl, by rw [ht]; exact p3⟩
    · obtain ⟨m, rfl⟩ : ∃ m, k = (s.size + 7) + m := ⟨k - (s.size + 7), by omega⟩
      obtain ⟨n', rfl⟩ : ∃ n', n = n' + 1 := ⟨n - 1, by omega⟩
      have ht : (frmsL (s :: L)).take (s.size + 7 + m) = frmL s ++ (frmsL L).take m := by
        rw [frmsL_cons, List.take_append, List.take_of_length_le (by rw [frmL_length]; omega), frmL_length, Nat.add_sub_cancel_left]
      have hm : m ≤ (frmsL L).length := by
        rw [frmsL_cons, List.length_append, frmL_length] at hk
        omega
      obtain ⟨j, hj, q1, q2, q3⟩ := frF_torn2 L n' m (by omega) (fun x hx => hs x (by simp [hx])) hm
      refine ⟨j + 1, by simpa using hj, ?_, ?_, ?_⟩
      · rw [ht, frF_frame n' s _ h1.1 h1.2, q1]
        rfl
      · rw [ht, frF_frame n' s _ h1.1 h1.2]
        show 7 + s.size + _ = _
        rw [q2, List.take_succ_cons, frmsL_cons, List.length_append, frmL_length]
        omega
      · rw [ht, frF_frame n' s _ h1.1 h1.2]
        exact q3
theorem wrF_frms : ∀ (xs : List ByteArray) (d : List UInt8), d.length + (frmsL xs).length ≤ 60000 → wrF d xs = some (d ++ frmsL xs)
  | [], d, _ => by simp [wrF, frmsL]
  | r :: l, d, h => by
    rw [frmsL_cons, List.length_append] at h
    rw [wrF, if_neg (by rw [List.length_append]; omega), wrF_frms l _ (by rw [List.length_append]; omega), frmsL_cons, List.append_assoc]
theorem short_no {xs : List ByteArray} (h : ∀ r ∈ xs, 1 ≤ r.size ∧ r.size ≤ 1000) : xs.any shortP = false := by
  simp only [List.any_eq_false]
  intro r hr
  have := h r hr
  simp [shortP, inB]
  omega
theorem wV_frms (d : List UInt8) (s : Int) (xs : List ByteArray) (hs : storeOK (strOf d) s = true) (h : ∀ r ∈ xs, 1 ≤ r.size ∧ r.size ≤ 1000) (hl : xs.length ≤ 4096) (hr : d.length + (frmsL xs).length ≤ 60000) : wV (strOf d) s xs = (strOf (d ++ frmsL xs), s, 0) := by
  unfold wV
  rw [if_neg (by omega), if_pos hs, short_no h, strOf_data', wrF_frms xs d hr]
  rfl
theorem rec_pos (t v t' v' : Int) (xs ys : List Ent) : ∀ r ∈ recsL t v xs t' v' ys, 1 ≤ r.size := by
  intro r hr
  unfold recsL at hr
  have hl : ∀ fs : List ByteArray, 1 ≤ (strOf (fldL fs)).size := fun fs => by rw [strOf_size, fldL_length]; omega
  rcases List.mem_append.1 hr with hr | hr
  · rcases List.mem_append.1 hr with hr | hr
    · unfold rec1 at hr
      split at hr
      · simp at hr
        subst hr
        exact hl _
      · cases hr
    · unfold rec2 at hr
      split at hr
      · simp at hr
        subst hr
        exact hl _
      · cases hr
  · unfold rec3 at hr
    obtain ⟨e, he, rfl⟩ := List.mem_map.1 hr
    exact hl _
theorem recsL_length2 (t v t' v' : Int) (xs ys : List Ent) : (recsL t v xs t' v' ys).length ≤ 2 + ys.length := by
  have h1 : (rec1 t v t' v').length ≤ 1 := by unfold rec1; split <;> simp
  have h2 : (rec2 xs ys).length ≤ 1 := by unfold rec2; split <;> simp
  have h3 : (rec3 xs ys).length ≤ ys.length := by simp [rec3]
  simp only [recsL, List.length_append]
  omega
theorem strOf_take (l : List UInt8) (k : Nat) : (strOf l).extract 0 k = strOf (l.take k) := by
  apply ByteArray.ext
  simp [strOf]
theorem storeOK_true {l : List UInt8} {s : Int} (h : l.length ≤ 60000) (h1 : 0 ≤ s) (h2 : s ≤ l.length) : storeOK (strOf l) s = true := by
  simp only [storeOK, strOf_size, inB, Bool.and_eq_true, decide_eq_true_eq]
  simp [h, h1, h2]
theorem rcL_stOK : ∀ (F : List ByteArray) (s x : Int × Int × List Ent), stOK s.1 s.2.1 s.2.2 = true → rcL s F = some x → stOK x.1 x.2.1 x.2.2 = true
  | [], s, x, h, he => by
    rw [rcL_nil] at he
    cases he
    exact h
  | r :: rs, s, x, h, he => by
    obtain ⟨y, ha, hy⟩ := rcL_step he
    exact rcL_stOK rs y x (apV_ok ha) hy
theorem rcL_take {s y : Int × Int × List Ent} {F : List ByteArray} (h : rcL s F = some y) (j : Nat) : ∃ x, rcL s (F.take j) = some x := by
  rw [← List.take_append_drop j F, rcL_append] at h
  cases hx : rcL s (F.take j) with
  | none => rw [hx] at h; cases h
  | some x => exact ⟨x, rfl⟩
theorem rcL_next {s x y : Int × Int × List Ent} {F : List ByteArray} (h : rcL s F = some y) {i : Nat} (hi : i < F.length) (hx : rcL s (F.take i) = some x) : ∃ z, apV x.1 x.2.1 x.2.2 (rdAll F[i].data.toList) = some z ∧ rcL s (F.take (i + 1)) = some z := by
  obtain ⟨z, hz⟩ := rcL_take h (i + 1)
  refine ⟨z, ?_, hz⟩
  rw [List.take_succ_eq_append_getElem hi, rcL_append, hx] at hz
  obtain ⟨z', ha, hz'⟩ := rcL_step (show rcL x (F[i] :: []) = some z from hz)
  rw [rcL_nil] at hz'
  cases hz'
  exact ha
/-- What the recoveries of a crashed store answer. -/
def TornC (B : List ByteArray) (t v : Int) (S : List Ent) (D3 : ByteArray) (s3 : Int) : Prop :=
  ∃ (D4 D5 : ByteArray) (n5 : Int) (j : Nat) (T V : Int) (G : List Ent),
    rcO D3 s3 = ((T, V, G), (D4, (D4.size : Int)), 0) ∧ storeOK D4 D4.size = true ∧ rcO D4 D4.size = ((T, V, G), (D5, n5), 0) ∧
    j ≤ B.length ∧ rcL (t, v, S) (B.take j) = some (T, V, G) ∧ stOK T V G = true
/-- What the two writes, the sync and the crash answer. -/
theorem torn_plain (A B : List ByteArray) (t v : Int) (S : List Ent) (y : Int × Int × List Ent)
    (hA : ∀ r ∈ A, 1 ≤ r.size ∧ r.size ≤ 1000) (hB : ∀ r ∈ B, 1 ≤ r.size ∧ r.size ≤ 1000) (lA : A.length ≤ 20) (lB : B.length ≤ 20)
    (hs : stOK t v S = true) (h1 : rcL (0, -1, []) A = some (t, v, S)) (h2 : rcL (t, v, S) B = some y) :
    ∃ D1 D2 : ByteArray, wVal (wV ⟨#[]⟩ 0 A) = .tuple #[.agg #[.string D1, .int .i64 0], .int .i64 0] ∧ syncV D1 0 = .tuple #[.agg #[.string D1, .int .i64 D1.size], .int .i64 0] ∧
      wVal (wV D1 D1.size B) = .tuple #[.agg #[.string D2, .int .i64 D1.size], .int .i64 0] ∧
      ∀ m : Nat, ∃ (D3 : ByteArray) (s3 : Int), crashV D2 D1.size m = .tuple #[.agg #[.string D3, .int .i64 s3], .int .i64 0] ∧ TornC B t v S D3 s3 := by
  have zA := frmsL_le 1000 A (fun r hr => (hA r hr).2)
  have zB := frmsL_le 1000 B (fun r hr => (hB r hr).2)
  have gA := frmsL_ge A
  have wA : ∀ s ∈ A, 1 ≤ s.size ∧ s.size ≤ 65536 := fun s hs => by have := hA s hs; omega
  have wB : ∀ s ∈ B, 1 ≤ s.size ∧ s.size ≤ 65536 := fun s hs => by have := hB s hs; omega
  have eA : frmsL A = [] ++ frmsL A := rfl
  have s1 : storeOK (strOf (frmsL A)) 0 = true := storeOK_true (by omega) (by omega) (by omega)
  have s1' : storeOK (strOf (frmsL A)) ((frmsL A).length : Int) = true := storeOK_true (by omega) (by omega) (by omega)
  have s2 : storeOK (strOf (frmsL (A ++ B))) ((frmsL A).length : Int) = true := storeOK_true (by rw [frmsL_append, List.length_append]; omega) (by omega) (by rw [frmsL_append, List.length_append]; omega)
  refine ⟨strOf (frmsL A), strOf (frmsL (A ++ B)), ?_, ?_, ?_, ?_⟩
  · have := wV_frms [] 0 A (storeOK_true (by simp) (by omega) (by simp)) hA (by omega) (by simp; omega)
    rw [show (⟨#[]⟩ : ByteArray) = strOf [] by rfl, this]
    rfl
  · rw [syncV, if_pos s1]
  · have := wV_frms (frmsL A) _ B s1' hB (by omega) (by omega)
    rw [show ((strOf (frmsL A)).size : Int) = ((frmsL A).length : Int) by rfl, this, frmsL_append]
    rfl
  intro m
  generalize hk : min m (frmsL B).length = k
  have hkB : k ≤ (frmsL B).length := by omega
  have hcut : (cutEnd (strOf (frmsL (A ++ B))) ((frmsL A).length : Int) m).toNat = (frmsL A).length + k := by
    simp only [cutEnd, strOf_size, frmsL_append, List.length_append]
    omega
  have hcutI : cutEnd (strOf (frmsL (A ++ B))) ((frmsL A).length : Int) m = (((frmsL A).length + k : Nat) : Int) := by
    simp only [cutEnd, strOf_size, frmsL_append, List.length_append]
    omega
  have hl3 : (frmsL (A ++ B)).take ((frmsL A).length + k) = frmsL A ++ (frmsL B).take k := by
    rw [frmsL_append, List.take_append, List.take_of_length_le (by omega), Nat.add_sub_cancel_left]
  have hlen3 : (frmsL A ++ (frmsL B).take k).length = (frmsL A).length + k := by
    rw [List.length_append, List.length_take]
    omega
  obtain ⟨j, hj, q1, q2, q3⟩ := frF_torn2 B ((frmsL A).length + k - A.length) k (by omega) wB hkB
  have hfr : frs (frmsL A ++ (frmsL B).take k) = (A ++ B.take j, (frmsL (A ++ B.take j)).length, (frF ((frmsL A).length + k - A.length) ((frmsL B).take k)).2.2) := by
    rw [frs, hlen3, frF_pre A _ _ (by omega) wA, q1, q2, frmsL_append, List.length_append]
  obtain ⟨⟨T, V, G⟩, hG⟩ := rcL_take h2 j
  have hAll : rcL (0, -1, []) (A ++ B.take j) = some (T, V, G) := by
    rw [rcL_append, h1]
    exact hG
  have hOK : stOK T V G = true := rcL_stOK (B.take j) (t, v, S) (T, V, G) hs hG
  have hle4 : (frmsL (A ++ B.take j)).length ≤ (frmsL A).length + k := by
    have := (frF_facts (frmsL A ++ (frmsL B).take k).length (frmsL A ++ (frmsL B).take k)).2.1
    rw [show frF _ _ = frs (frmsL A ++ (frmsL B).take k) by rfl, hfr, hlen3] at this
    exact this
  have hBB : frmsL (A ++ B) = frmsL (A ++ B.take j) ++ frmsL (B.drop j) := by
    rw [← frmsL_append, List.append_assoc, List.take_append_drop]
  have hl4 : (frmsL A ++ (frmsL B).take k).take (frmsL (A ++ B.take j)).length = frmsL (A ++ B.take j) := by
    rw [← hl3, List.take_take, Nat.min_eq_left hle4, hBB]
    exact List.take_left' rfl
  have wAB : ∀ s ∈ A ++ B.take j, 1 ≤ s.size ∧ s.size ≤ 65536 := fun s hs => by
    rcases List.mem_append.1 hs with h | h
    · exact wA s h
    · exact wB s (List.mem_of_mem_take h)
  have hfr4 : frs (frmsL (A ++ B.take j)) = (A ++ B.take j, (frmsL (A ++ B.take j)).length, 0) := frF_frames _ _ (frmsL_ge _) wAB
  have h4z : (frmsL (A ++ B.take j)).length ≤ 60000 := by omega
  have s3 : storeOK (strOf (frmsL A ++ (frmsL B).take k)) (((frmsL A).length + k : Nat) : Int) = true := storeOK_true (by omega) (by omega) (by omega)
  have s4 : storeOK (strOf (frmsL (A ++ B.take j))) ((frmsL (A ++ B.take j)).length : Int) = true := storeOK_true h4z (by omega) (by omega)
  refine ⟨strOf (frmsL A ++ (frmsL B).take k), (((frmsL A).length + k : Nat) : Int), ?_, strOf (frmsL (A ++ B.take j)), strOf (frmsL (A ++ B.take j)), ((frmsL (A ++ B.take j)).length : Int), j, T, V, G, ?_, s4, ?_, hj, hG, hOK⟩
  · rw [show ((strOf (frmsL A)).size : Int) = ((frmsL A).length : Int) by rfl, crashV, if_pos s2, hcut, hcutI, strOf_take, hl3]
  · rw [rcO, if_pos s3, rvAll, strOf_data', hfr, rvX_ok _ q3 hAll, strOf_take, hl4]
    rfl
  · rw [show ((strOf (frmsL (A ++ B.take j))).size : Int) = ((frmsL (A ++ B.take j)).length : Int) by rfl, rcO, if_pos s4, rvAll, strOf_data', hfr4, rvX_ok _ (by decide) hAll, strOf_take, List.take_of_length_le (Nat.le_refl _)]
end
section
open Go.RowKit
set_option maxRecDepth 100000 in
set_option maxHeartbeats 4000000 in
theorem lawAt_c (a : Option Addr) (ca : Nat) (xs : List UInt8) (i n : Nat) (w : World) (ha : Sl byteE 1 w a xs) (la : xs.length ≤ 1048576) (hi : i ≤ 1000) (hn : n ≤ 1000000) :
    Calls Try.prog 34 #[.slice a xs.length ca, .int .i64 i, .int .i64 n] w fun e w' => (∃ m : Nat, e = .returned (.int .i64 m)) ∧ Below w.heap.size w w' := by
  have HA := Lib.hid ha
  clear ha
  by_cases h1 : n ≤ 1
  · have h1' : (n : Int) ≤ 1 := by omega
    go_enter Try.func34, Try.ntmps34
    go_wp2_with fail
    go_ret
    exact ⟨⟨0, rfl⟩, Below.refl _ _⟩
  · have h1' : (1 : Int) < (n : Int) := by omega
    have h0 : ¬ n = 0 := by omega
    by_cases hx : xs = []
    · subst hx
      go_enter Try.func34, Try.ntmps34
      go_wp2_with fail
      go_ret
      exact ⟨⟨i * 7 % n, congrArg (fun z => Ending.returned (.int .i64 z)) (by simp)⟩, Below.refl _ _⟩
    · have hl0 : 0 < xs.length := List.length_pos_iff.2 hx
      have g1 : decide ((xs.length : Int) = 0) = false := decide_eq_false (by omega)
      have g2 : ((xs.length : Int) == 0) = false := by simp; omega
      have g3 : ¬ xs.length = 0 := by omega
      have hp := Nat.mod_lt i hl0
      have hq := Nat.mod_lt (i + 1) hl0
      obtain ⟨b1, o1, rfl, hb1, hc⟩ := HA.out.at hl0
      have d1 := hc _ hp 0 (by omega)
      have d2 := hc _ hq 0 (by omega)
      simp only [byteE, Nat.mul_one, Nat.add_zero, List.getElem?_cons_zero] at d1 d2
      have hn1 := xs[i % xs.length].toNat_lt
      have hn2 := xs[(i + 1) % xs.length].toNat_lt
      clear hc
      generalize xs[i % xs.length].toNat = n1 at *
      generalize xs[(i + 1) % xs.length].toNat = n2 at *
      have e1 : (i : Int) % (xs.length : Int) = ((i % xs.length : Nat) : Int) := by simp
      have e2 : ((i : Int) + 1) % (xs.length : Int) = (((i + 1) % xs.length : Nat) : Int) := by simp
      generalize hP : i % xs.length = p1 at *
      generalize hQ : (i + 1) % xs.length = p2 at *
      have k1 : (0 : Int) ≤ (p1 : Int) := by omega
      have k2 : (p1 : Int) < (xs.length : Int) := by omega
      have k3 : (0 : Int) ≤ (p2 : Int) := by omega
      have k4 : (p2 : Int) < (xs.length : Int) := by omega
      clear hP hQ
      go_enter Try.func34, Try.ntmps34
      go_wp2_with fail
      go_quiet (fail)
      go_wp2_with fail
      go_ret
      have hd : i / xs.length ≤ 1000 := Nat.le_trans (Nat.div_le_self _ _) hi
      have hdv : (i : Int) / (xs.length : Int) = ((i / xs.length : Nat) : Int) := by simp
      generalize i / xs.length = q at hd hdv
      refine ⟨⟨(n1 * 31 + n2 + q) % n, congrArg (fun z => Ending.returned (.int .i64 z)) ?_⟩, below_drewN _ _ _⟩
      rw [hdv, IntWalk.wrap64_in (q : Int) ⟨by omega, by omega⟩, IntWalk.wrap64_in _ ⟨by omega, by omega⟩, Int.tmod_eq_emod_of_nonneg (by omega)]
      simp
end
section
open Go.RowKit
set_option maxRecDepth 100000 in
set_option maxHeartbeats 16000000 in
theorem lawTorn_c (a b : Option Addr) (ca cb : Nat) (xs ys : List UInt8) (w : World) (ha : Sl byteE 1 w a xs) (hb : Sl byteE 1 w b ys) (la : xs.length ≤ 9223372036854775807) (lb : ys.length ≤ 9223372036854775807) :
    Calls Try.prog 8 #[.slice a xs.length ca, .slice b ys.length cb] w fun e w' => e = .returned (.bool true) ∧ Below w.heap.size w w' := by
  by_cases hx : 1048576 < xs.length
  · have hx' : (1048576 : Int) < (xs.length : Int) := by omega
    go_enter Try.func8, Try.ntmps8
    go_wp2_with fail
    go_ret
    exact ⟨rfl, Below.refl _ _⟩
  have hx' : (xs.length : Int) ≤ 1048576 := by omega
  by_cases hy : 1048576 < ys.length
  · have hy' : (1048576 : Int) < (ys.length : Int) := by omega
    go_enter Try.func8, Try.ntmps8
    go_wp2_with fail
    go_ret
    exact ⟨rfl, Below.refl _ _⟩
  have hy' : (ys.length : Int) ≤ 1048576 := by omega
  have lx : xs.length ≤ 1048576 := by omega
  have ly : ys.length ≤ 1048576 := by omega
  clear hx hy
  go_enter Try.func8, Try.ntmps8
  go_wp2_with fail
  refine (laterOf_c a ca xs 0 (-1) [] none 0 0 0 _ (ha.alloc _) lx ⟨by omega, by omega, by omega, by omega, Nat.le_refl _, LogUp.nil 0⟩ (by omega) (by omega) (.inl rfl)).mono ?_
  rintro e w1 ⟨t, v, S, a1, c1, rfl, hd, _, hf1, hb1⟩
  have hz1 := hb1.size
  simp only [World.size_alloc] at hz1
  have HS11 := Lib.hid (show FreshIn entE 109 2 (w.heap.size + 1) w1.heap.size (.slice a1 S.length c1) S w1 from (by simpa using hf1.here))
  clear hf1
  have q1_0_0 : w1.cell? ⟨w.heap.size, 0, none⟩ = some (.int .i64 0) := by
    rw [hb1.cell (p := ⟨w.heap.size, 0, none⟩) (show w.heap.size < _ by (try simp) <;> (try omega))]
    first | assumption | (simp [go_sem, *])
  have q1_0_1 : w1.cell? ⟨w.heap.size, 1, none⟩ = some (.int .i64 (-1)) := by
    rw [hb1.cell (p := ⟨w.heap.size, 1, none⟩) (show w.heap.size < _ by (try simp) <;> (try omega))]
    first | assumption | (simp [go_sem, *])
  have q1_0_2 : w1.cell? ⟨w.heap.size, 2, none⟩ = some (.slice none 0 0) := by
    rw [hb1.cell (p := ⟨w.heap.size, 2, none⟩) (show w.heap.size < _ by (try simp) <;> (try omega))]
    first | assumption | (simp [go_sem, *])
  have hl1_0 : w.heap.size < w1.heap.size := by omega
  have HB1 : Hid (Below w.heap.size w w1) := ((Below.refl w.heap.size w).alloc (by (try simp) <;> (try omega)) _).trans (hb1.mono (by (try simp) <;> (try omega)))
  clear hb1
  go_wp2_with fail
  refine (laterOf_c b cb ys t v S a1 c1 1 2 _ ((hb.keep HB1.out).alloc _) ly hd (by omega) (by omega) ((HS11.out.alloc _).sl fun _ => rfl)).mono ?_
  rintro e w2 ⟨t', v', S', a2, c2, rfl, hd', hle, hf2, hb2⟩
  have hz2 := hb2.size
  simp only [World.size_alloc] at hz2
  have HS22 := Lib.hid (show FreshIn entE 109 2 (w1.heap.size + 1) w2.heap.size (.slice a2 S'.length c2) S' w2 from (by simpa using hf2.here))
  clear hf2
  have HS12 := Lib.hid ((HS11.out.alloc _).below hb2)
  clear HS11
  have q2_0_0 : w2.cell? ⟨w.heap.size, 0, none⟩ = some (.int .i64 0) := by
    rw [hb2.cell (p := ⟨w.heap.size, 0, none⟩) (show w.heap.size < _ by (try simp) <;> (try omega))]
    first | assumption | (simp [go_sem, *])
  have q2_0_1 : w2.cell? ⟨w.heap.size, 1, none⟩ = some (.int .i64 (-1)) := by
    rw [hb2.cell (p := ⟨w.heap.size, 1, none⟩) (show w.heap.size < _ by (try simp) <;> (try omega))]
    first | assumption | (simp [go_sem, *])
  have q2_0_2 : w2.cell? ⟨w.heap.size, 2, none⟩ = some (.slice none 0 0) := by
    rw [hb2.cell (p := ⟨w.heap.size, 2, none⟩) (show w.heap.size < _ by (try simp) <;> (try omega))]
    first | assumption | (simp [go_sem, *])
  have hl2_0 : w.heap.size < w2.heap.size := by omega
  clear q1_0_0 q1_0_1 q1_0_2
  have q2_1_0 : w2.cell? ⟨w1.heap.size, 0, none⟩ = some (.int .i64 t) := by
    rw [hb2.cell (p := ⟨w1.heap.size, 0, none⟩) (show w1.heap.size < _ by (try simp) <;> (try omega))]
    first | assumption | (simp [go_sem, *])
  have q2_1_1 : w2.cell? ⟨w1.heap.size, 1, none⟩ = some (.int .i64 v) := by
    rw [hb2.cell (p := ⟨w1.heap.size, 1, none⟩) (show w1.heap.size < _ by (try simp) <;> (try omega))]
    first | assumption | (simp [go_sem, *])
  have q2_1_2 : w2.cell? ⟨w1.heap.size, 2, none⟩ = some (.slice a1 S.length c1) := by
    rw [hb2.cell (p := ⟨w1.heap.size, 2, none⟩) (show w1.heap.size < _ by (try simp) <;> (try omega))]
    first | assumption | (simp [go_sem, *])
  have hl2_1 : w1.heap.size < w2.heap.size := by omega
  have HB2 : Hid (Below w.heap.size w w2) := (HB1.out.alloc (by (try simp) <;> (try omega)) _).trans (hb2.mono (by (try simp) <;> (try omega)))
  clear hb2
  obtain ⟨ht0, ht3, hv0, hv2, hSl, hSu⟩ := hd
  obtain ⟨ht0', ht3', hv0', hv2', hSl', hSu'⟩ := hd'
  have HOK : Hid (stOK t v S = true) := hSu.ok ht0 (by omega) hv0 (by omega) (by omega)
  have HOK' : Hid (stOK t' v' S' = true) := hSu'.ok ht0' (by omega) hv0' (by omega) (by omega)
  have HN0 : Hid (stOK 0 (-1) [] = true) := (LogUp.nil 0).ok (by omega) (by omega) (by omega) (by omega) (Nat.zero_le _)
  have HL1 := Lib.hid (recs_lead 0 (-1) t v [] S HN0.out HOK.out ht0)
  have HL2 := Lib.hid (recs_lead t v t' v' S S' HOK.out HOK'.out hle)
  have HR1 := Lib.hid (rec_size 0 (-1) t v [] S HOK.out)
  have HR2 := Lib.hid (rec_size t v t' v' S S' HOK'.out)
  have HP1 := Lib.hid (rec_pos 0 (-1) t v [] S)
  have HP2 := Lib.hid (rec_pos t v t' v' S S')
  have hA20 : (recsL 0 (-1) [] t v S).length ≤ 20 := Nat.le_trans (recsL_length2 0 (-1) t v [] S) (by omega)
  have hB20 : (recsL t v S t' v' S').length ≤ 20 := Nat.le_trans (recsL_length2 t v t' v' S S') (by omega)
  have SP1 : Hid (∀ (b : Option Addr) (cb : Nat) (w : World), Sl entE 2 w b S → Calls Try.prog 12 #[.agg #[.int .i64 0, .int .i64 (-1), .slice none 0 0], .agg #[.int .i64 t, .int .i64 v, .slice b S.length cb]] w (TupR (recsL 0 (-1) [] t v S) 0 w)) := Lib.hid (fun b cb w hb => by
    have h1 := specRecords_c none b 0 cb 0 (-1) t v [] S w (.inl rfl) hb (Nat.zero_le _) (by omega) (fun e he => by cases he) (fun e he => by have := (hSu.1 e he).2.2; omega)
    rw [show recOL 0 (-1) [] t v S = recsL 0 (-1) [] t v S by simp [recOL, HN0.out, HOK.out], show recOC 0 (-1) [] t v S = 0 by simp [recOC, HN0.out, HOK.out]] at h1
    exact h1)
  have SP2 : Hid (∀ (a b : Option Addr) (ca cb : Nat) (w : World), Sl entE 2 w a S → Sl entE 2 w b S' → Calls Try.prog 12 #[.agg #[.int .i64 t, .int .i64 v, .slice a S.length ca], .agg #[.int .i64 t', .int .i64 v', .slice b S'.length cb]] w (TupR (recsL t v S t' v' S') 0 w)) := Lib.hid (fun a b ca cb w ha hb => by
    have h1 := specRecords_c a b ca cb t v t' v' S S' w ha hb (by omega) (by omega) (fun e he => by have := (hSu.1 e he).2.2; omega) (fun e he => by have := (hSu'.1 e he).2.2; omega)
    rw [show recOL t v S t' v' S' = recsL t v S t' v' S' by simp [recOL, HOK.out, HOK'.out], show recOC t v S t' v' S' = 0 by simp [recOC, HOK.out, HOK'.out]] at h1
    exact h1)
  clear hSu hSu' HN0
  generalize recsL 0 (-1) [] t v S = R1 at *
  generalize recsL t v S t' v' S' = R at *
  obtain ⟨D1, D2, hq1, hq2, hq3, hTM⟩ := torn_plain R1 R t v S (t', v', S') (fun r hr => ⟨HP1.out r hr, HR1.out r hr⟩) (fun r hr => ⟨HP2.out r hr, HR2.out r hr⟩) hA20 hB20 HOK.out HL1.out HL2.out
  have HQ1 := Lib.hid hq1
  have HQ2 := Lib.hid hq2
  have HQ3 := Lib.hid hq3
  have HTM := Lib.hid hTM
  clear hq1 hq2 hq3 hTM HP1 HP2 HR1 HL1
  go_wp2_with fail
  refine (SP1.out a1 c1 _ ((HS12.out.alloc _).sl fun _ => rfl)).mono ?_
  rintro e w3 ⟨a3, c3, rfl, hf3, hb3⟩
  have hz3 := hb3.size
  simp only [World.size_alloc] at hz3
  have HR33 := Lib.hid (show FreshIn strE 9 1 (w2.heap.size + 1) w3.heap.size (.slice a3 R1.length c3) R1 w3 from (by simpa using hf3.here))
  clear hf3
  have HS13 := Lib.hid ((HS12.out.alloc _).below hb3)
  clear HS12
  have HS23 := Lib.hid ((HS22.out.alloc _).below hb3)
  clear HS22
  have q3_0_0 : w3.cell? ⟨w.heap.size, 0, none⟩ = some (.int .i64 0) := by
    rw [hb3.cell (p := ⟨w.heap.size, 0, none⟩) (show w.heap.size < _ by (try simp) <;> (try omega))]
    first | assumption | (simp [go_sem, *])
  have q3_0_1 : w3.cell? ⟨w.heap.size, 1, none⟩ = some (.int .i64 (-1)) := by
    rw [hb3.cell (p := ⟨w.heap.size, 1, none⟩) (show w.heap.size < _ by (try simp) <;> (try omega))]
    first | assumption | (simp [go_sem, *])
  have q3_0_2 : w3.cell? ⟨w.heap.size, 2, none⟩ = some (.slice none 0 0) := by
    rw [hb3.cell (p := ⟨w.heap.size, 2, none⟩) (show w.heap.size < _ by (try simp) <;> (try omega))]
    first | assumption | (simp [go_sem, *])
  have hl3_0 : w.heap.size < w3.heap.size := by omega
  clear q2_0_0 q2_0_1 q2_0_2
  have q3_1_0 : w3.cell? ⟨w1.heap.size, 0, none⟩ = some (.int .i64 t) := by
    rw [hb3.cell (p := ⟨w1.heap.size, 0, none⟩) (show w1.heap.size < _ by (try simp) <;> (try omega))]
    first | assumption | (simp [go_sem, *])
  have q3_1_1 : w3.cell? ⟨w1.heap.size, 1, none⟩ = some (.int .i64 v) := by
    rw [hb3.cell (p := ⟨w1.heap.size, 1, none⟩) (show w1.heap.size < _ by (try simp) <;> (try omega))]
    first | assumption | (simp [go_sem, *])
  have q3_1_2 : w3.cell? ⟨w1.heap.size, 2, none⟩ = some (.slice a1 S.length c1) := by
    rw [hb3.cell (p := ⟨w1.heap.size, 2, none⟩) (show w1.heap.size < _ by (try simp) <;> (try omega))]
    first | assumption | (simp [go_sem, *])
  have hl3_1 : w1.heap.size < w3.heap.size := by omega
  clear q2_1_0 q2_1_1 q2_1_2
  have q3_2_0 : w3.cell? ⟨w2.heap.size, 0, none⟩ = some (.int .i64 t') := by
    rw [hb3.cell (p := ⟨w2.heap.size, 0, none⟩) (show w2.heap.size < _ by (try simp) <;> (try omega))]
    first | assumption | (simp [go_sem, *])
  have q3_2_1 : w3.cell? ⟨w2.heap.size, 1, none⟩ = some (.int .i64 v') := by
    rw [hb3.cell (p := ⟨w2.heap.size, 1, none⟩) (show w2.heap.size < _ by (try simp) <;> (try omega))]
    first | assumption | (simp [go_sem, *])
  have q3_2_2 : w3.cell? ⟨w2.heap.size, 2, none⟩ = some (.slice a2 S'.length c2) := by
    rw [hb3.cell (p := ⟨w2.heap.size, 2, none⟩) (show w2.heap.size < _ by (try simp) <;> (try omega))]
    first | assumption | (simp [go_sem, *])
  have hl3_2 : w2.heap.size < w3.heap.size := by omega
  have HB3 : Hid (Below w.heap.size w w3) := (HB2.out.alloc (by (try simp) <;> (try omega)) _).trans (hb3.mono (by (try simp) <;> (try omega)))
  clear hb3
  clear q3_0_0 q3_0_1 q3_0_2 hl3_0
  go_wp2_with fail
  refine (SP2.out a1 a2 c1 c2 _ (HS13.out.sl fun _ => rfl) (HS23.out.sl fun _ => rfl)).mono ?_
  rintro e w4 ⟨a4, c4, rfl, hf4, hb4⟩
  have hz4 := hb4.size
  have HR44 := Lib.hid (show FreshIn strE 9 1 (w3.heap.size) w4.heap.size (.slice a4 R.length c4) R w4 from (by simpa using hf4.here))
  clear hf4
  have HS14 := Lib.hid (HS13.out.below hb4)
  clear HS13
  have HS24 := Lib.hid (HS23.out.below hb4)
  clear HS23
  have HR34 := Lib.hid (HR33.out.below hb4)
  clear HR33
  have q4_0_0 : w4.cell? ⟨w1.heap.size, 0, none⟩ = some (.int .i64 t) := by
    rw [hb4.cell (p := ⟨w1.heap.size, 0, none⟩) (show w1.heap.size < _ by (try simp) <;> (try omega))]
    exact q3_1_0
  have q4_0_1 : w4.cell? ⟨w1.heap.size, 1, none⟩ = some (.int .i64 v) := by
    rw [hb4.cell (p := ⟨w1.heap.size, 1, none⟩) (show w1.heap.size < _ by (try simp) <;> (try omega))]
    exact q3_1_1
  have q4_0_2 : w4.cell? ⟨w1.heap.size, 2, none⟩ = some (.slice a1 S.length c1) := by
    rw [hb4.cell (p := ⟨w1.heap.size, 2, none⟩) (show w1.heap.size < _ by (try simp) <;> (try omega))]
    exact q3_1_2
  have hl4_0 : w1.heap.size < w4.heap.size := by omega
  clear q3_1_0 q3_1_1 q3_1_2
  have q4_1_0 : w4.cell? ⟨w2.heap.size, 0, none⟩ = some (.int .i64 t') := by
    rw [hb4.cell (p := ⟨w2.heap.size, 0, none⟩) (show w2.heap.size < _ by (try simp) <;> (try omega))]
    exact q3_2_0
  have q4_1_1 : w4.cell? ⟨w2.heap.size, 1, none⟩ = some (.int .i64 v') := by
    rw [hb4.cell (p := ⟨w2.heap.size, 1, none⟩) (show w2.heap.size < _ by (try simp) <;> (try omega))]
    exact q3_2_1
  have q4_1_2 : w4.cell? ⟨w2.heap.size, 2, none⟩ = some (.slice a2 S'.length c2) := by
    rw [hb4.cell (p := ⟨w2.heap.size, 2, none⟩) (show w2.heap.size < _ by (try simp) <;> (try omega))]
    exact q3_2_2
  have hl4_1 : w2.heap.size < w4.heap.size := by omega
  clear q3_2_0 q3_2_1 q3_2_2
  have HB4 : Hid (Below w.heap.size w w4) := HB3.out.trans (hb4.mono (by (try simp) <;> (try omega)))
  clear hb4
  clear q4_1_0 q4_1_1 q4_1_2 hl4_1
  clear HS24
  go_wp2_with fail
  refine (implWrite_c ⟨#[]⟩ 0 a3 c3 R1 _ (HR34.out.sl fun _ => rfl) (by omega)).mono ?_
  rw [HQ1.out]
  rintro e w5 ⟨rfl, hb5⟩
  have hz5 := hb5.size
  have HS15 := Lib.hid (HS14.out.below hb5)
  clear HS14
  have HR35 := Lib.hid (HR34.out.below hb5)
  clear HR34
  have HR45 := Lib.hid (HR44.out.below hb5)
  clear HR44
  have q5_0_0 : w5.cell? ⟨w1.heap.size, 0, none⟩ = some (.int .i64 t) := by
    rw [hb5.cell (p := ⟨w1.heap.size, 0, none⟩) (show w1.heap.size < _ by (try simp) <;> (try omega))]
    exact q4_0_0
  have q5_0_1 : w5.cell? ⟨w1.heap.size, 1, none⟩ = some (.int .i64 v) := by
    rw [hb5.cell (p := ⟨w1.heap.size, 1, none⟩) (show w1.heap.size < _ by (try simp) <;> (try omega))]
    exact q4_0_1
  have q5_0_2 : w5.cell? ⟨w1.heap.size, 2, none⟩ = some (.slice a1 S.length c1) := by
    rw [hb5.cell (p := ⟨w1.heap.size, 2, none⟩) (show w1.heap.size < _ by (try simp) <;> (try omega))]
    exact q4_0_2
  have hl5_0 : w1.heap.size < w5.heap.size := by omega
  clear q4_0_0 q4_0_1 q4_0_2
  have HB5 : Hid (Below w.heap.size w w5) := HB4.out.trans (hb5.mono (by (try simp) <;> (try omega)))
  clear hb5
  clear HR35
  have hn1 : ¬ w1.heap.size = w5.heap.size := by omega
  have hn2 : ¬ w5.heap.size = w1.heap.size := by omega
  have hsz5 : w.heap.size ≤ w5.heap.size := by omega
  have hn3 : w1.heap.size < w5.heap.size := by omega
  go_upto_region 9 with fail
  go_cut [14] (fun s wx => s = .int .i64 0 ∧ wx.cell? ⟨w1.heap.size, 0, none⟩ = some (.int .i64 t) ∧ wx.cell? ⟨w1.heap.size, 1, none⟩ = some (.int .i64 v) ∧ wx.cell? ⟨w1.heap.size, 2, none⟩ = some (.slice a1 S.length c1) ∧ wx.cell? ⟨w5.heap.size, 0, none⟩ = some (.string D1) ∧ wx.cell? ⟨w5.heap.size, 1, none⟩ = some (.int .i64 D1.size) ∧ FreshIn entE 109 2 (w.heap.size + 1) (w1.heap.size) (.slice a1 S.length c1) S wx ∧ FreshIn strE 9 1 (w3.heap.size) (w4.heap.size) (.slice a4 R.length c4) R wx ∧ Below w.heap.size w wx ∧ w5.heap.size < wx.heap.size)
  case first =>
    go_wp2_with fail
    refine (implSync_c D1 0 _).mono ?_
    rw [HQ2.out]
    rintro e w6 ⟨rfl, hb6⟩
    have hz6 := hb6.size
    simp only [World.size_alloc] at hz6
    have q6f : ∀ o, w6.frozen? ⟨w5.heap.size, o, none⟩ = false := fun o => by
      rw [hb6.frozen (p := ⟨w5.heap.size, o, none⟩) (show w5.heap.size < _ by (try simp) <;> (try omega))]
      simp [go_sem]
    have HS16 := Lib.hid ((HS15.out.alloc _).below hb6)
    clear HS15
    have HR46 := Lib.hid ((HR45.out.alloc _).below hb6)
    clear HR45
    have q6_0_0 : w6.cell? ⟨w1.heap.size, 0, none⟩ = some (.int .i64 t) := by
      rw [hb6.cell (p := ⟨w1.heap.size, 0, none⟩) (show w1.heap.size < _ by (try simp) <;> (try omega))]
      first | assumption | (simp [go_sem, *])
    have q6_0_1 : w6.cell? ⟨w1.heap.size, 1, none⟩ = some (.int .i64 v) := by
      rw [hb6.cell (p := ⟨w1.heap.size, 1, none⟩) (show w1.heap.size < _ by (try simp) <;> (try omega))]
      first | assumption | (simp [go_sem, *])
    have q6_0_2 : w6.cell? ⟨w1.heap.size, 2, none⟩ = some (.slice a1 S.length c1) := by
      rw [hb6.cell (p := ⟨w1.heap.size, 2, none⟩) (show w1.heap.size < _ by (try simp) <;> (try omega))]
      first | assumption | (simp [go_sem, *])
    have hl6_0 : w1.heap.size < w6.heap.size := by omega
    clear q5_0_0 q5_0_1 q5_0_2
    have q6_1_0 : w6.cell? ⟨w5.heap.size, 0, none⟩ = some (.string D1) := by
      rw [hb6.cell (p := ⟨w5.heap.size, 0, none⟩) (show w5.heap.size < _ by (try simp) <;> (try omega))]
      first | assumption | (simp [go_sem, *])
    have q6_1_1 : w6.cell? ⟨w5.heap.size, 1, none⟩ = some (.int .i64 0) := by
      rw [hb6.cell (p := ⟨w5.heap.size, 1, none⟩) (show w5.heap.size < _ by (try simp) <;> (try omega))]
      first | assumption | (simp [go_sem, *])
    have hl6_1 : w5.heap.size < w6.heap.size := by omega
    have HB6 : Hid (Below w.heap.size w w6) := (HB5.out.alloc (by (try simp) <;> (try omega)) _).trans (hb6.mono (by (try simp) <;> (try omega)))
    clear hb6
    go_wp2_with fail
    go_meet
    refine ⟨rfl, ?_, ?_, ?_, ?_, ?_, ?_, ?_, ?_, ?_⟩
    any_goals (first | assumption | (simp [go_sem, q6_0_0, q6_0_1, q6_0_2, q6_1_0, q6_1_1, hn1, hn2]; done))
    · repeat (first | (with_reducible exact HS16.out) | (with_reducible refine FreshIn.setHi ?_ ?_ _; rotate_left; (show _ ≤ w5.heap.size; omega)))
    · repeat (first | (with_reducible exact HR46.out) | (with_reducible refine FreshIn.setHi ?_ ?_ _; rotate_left; (show _ ≤ w5.heap.size; omega)))
    · repeat (first | (with_reducible exact HB6.out) | (with_reducible refine Below.setCell ?_ ?_ _; rotate_left; (show w.heap.size ≤ w5.heap.size; omega)))
    · (try simp); omega
  case rest =>
    obtain ⟨rfl, m_0, m_1, m_2, s_0, s_1, hfS, hfR, hbel, hBw⟩ := hcut
    have HSc := Lib.hid hfS
    have HRc := Lib.hid hfR
    have HBc := Lib.hid hbel
    have hzc := hbel.size
    clear hfS hfR hbel
    obtain ⟨wd, hwd⟩ : ∃ x, x = wc := ⟨_, rfl⟩
    subst hwd
    go_wp2_with fail
    refine (implWrite_c D1 D1.size a4 c4 R _ (HRc.out.sl fun _ => rfl) (by omega)).mono ?_
    rw [HQ3.out]
    rintro e w7 ⟨rfl, hb7⟩
    have hz7 := hb7.size
    have HS17 := Lib.hid (HSc.out.below hb7)
    clear HSc
    have HR47 := Lib.hid (HRc.out.below hb7)
    clear HRc
    have q7_0_0 : w7.cell? ⟨w1.heap.size, 0, none⟩ = some (.int .i64 t) := by
      rw [hb7.cell (p := ⟨w1.heap.size, 0, none⟩) (show w1.heap.size < _ by (try simp) <;> (try omega))]
      exact m_0
    have q7_0_1 : w7.cell? ⟨w1.heap.size, 1, none⟩ = some (.int .i64 v) := by
      rw [hb7.cell (p := ⟨w1.heap.size, 1, none⟩) (show w1.heap.size < _ by (try simp) <;> (try omega))]
      exact m_1
    have q7_0_2 : w7.cell? ⟨w1.heap.size, 2, none⟩ = some (.slice a1 S.length c1) := by
      rw [hb7.cell (p := ⟨w1.heap.size, 2, none⟩) (show w1.heap.size < _ by (try simp) <;> (try omega))]
      exact m_2
    have hl7_0 : w1.heap.size < w7.heap.size := by omega
    clear m_0 m_1 m_2
    have q7_1_0 : w7.cell? ⟨w5.heap.size, 0, none⟩ = some (.string D1) := by
      rw [hb7.cell (p := ⟨w5.heap.size, 0, none⟩) (show w5.heap.size < _ by (try simp) <;> (try omega))]
      exact s_0
    have q7_1_1 : w7.cell? ⟨w5.heap.size, 1, none⟩ = some (.int .i64 D1.size) := by
      rw [hb7.cell (p := ⟨w5.heap.size, 1, none⟩) (show w5.heap.size < _ by (try simp) <;> (try omega))]
      exact s_1
    have hl7_1 : w5.heap.size < w7.heap.size := by omega
    clear s_0 s_1
    have HB7 : Hid (Below w.heap.size w w7) := HBc.out.trans (hb7.mono (by (try simp) <;> (try omega)))
    clear hb7
    clear q7_1_0 q7_1_1 hl7_1
    have hm0 : ∀ x, (w7.alloc x).cell? ⟨w1.heap.size, 0, none⟩ = some (.int .i64 t) := fun x => by
      rw [World.cell?_alloc_lt _ _ _ (by show w1.heap.size < _; omega)]
      exact q7_0_0
    have hm1 : ∀ x, (w7.alloc x).cell? ⟨w1.heap.size, 1, none⟩ = some (.int .i64 v) := fun x => by
      rw [World.cell?_alloc_lt _ _ _ (by show w1.heap.size < _; omega)]
      exact q7_0_1
    have hm2 : ∀ x, (w7.alloc x).cell? ⟨w1.heap.size, 2, none⟩ = some (.slice a1 S.length c1) := fun x => by
      rw [World.cell?_alloc_lt _ _ _ (by show w1.heap.size < _; omega)]
      exact q7_0_2
    have m_0 := hm0 (.cells #[.string D2, .int .i64 D1.size] 51)
    have m_1 := hm1 (.cells #[.string D2, .int .i64 D1.size] 51)
    have m_2 := hm2 (.cells #[.string D2, .int .i64 D1.size] 51)
    have t_0 : (w7.alloc (.cells #[.string D2, .int .i64 D1.size] 51)).cell? ⟨w7.heap.size, 0, none⟩ = some (.string D2) := by simp [go_sem]
    have t_1 : (w7.alloc (.cells #[.string D2, .int .i64 D1.size] 51)).cell? ⟨w7.heap.size, 1, none⟩ = some (.int .i64 D1.size) := by simp [go_sem]
    have HSb := Lib.hid (HS17.out.alloc (.cells #[.string D2, .int .i64 D1.size] 51))
    have HRb := Lib.hid (HR47.out.alloc (.cells #[.string D2, .int .i64 D1.size] 51))
    have HBb := Lib.hid (HB7.out.alloc (by omega) (.cells #[.string D2, .int .i64 D1.size] 51))
    have hzb : w7.heap.size + 1 ≤ (w7.alloc (.cells #[.string D2, .int .i64 D1.size] 51)).heap.size := by simp
    have hz67 : w5.heap.size < w7.heap.size := by omega
    have HBYb : Hid (Sl byteE 1 (w7.alloc (.cells #[.string D2, .int .i64 D1.size] 51)) b ys) := hb.keep HBb.out
    go_upto_region 11 with fail
    clear hm0 hm1 hm2 q7_0_0 q7_0_1 q7_0_2
    generalize w7.alloc (.cells #[.string D2, .int .i64 D1.size] 51) = wb at *
    go_cut [17, 18] (fun s s' wx => ∃ (B17 : Nat) (D3 : ByteArray) (s3 : Int), s = .pointer (some ⟨B17, 0, none⟩) ∧ s' = .int .i64 0 ∧ Hid (TornC R t v S D3 s3) ∧ wx.cell? ⟨w1.heap.size, 0, none⟩ = some (.int .i64 t) ∧ wx.cell? ⟨w1.heap.size, 1, none⟩ = some (.int .i64 v) ∧ wx.cell? ⟨w1.heap.size, 2, none⟩ = some (.slice a1 S.length c1) ∧ wx.cell? ⟨B17, 0, none⟩ = some (.string D3) ∧ wx.cell? ⟨B17, 1, none⟩ = some (.int .i64 s3) ∧ FreshIn entE 109 2 (w.heap.size + 1) (w1.heap.size) (.slice a1 S.length c1) S wx ∧ FreshIn strE 9 1 (w3.heap.size) (w4.heap.size) (.slice a4 R.length c4) R wx ∧ Below w.heap.size w wx ∧ w7.heap.size < wx.heap.size ∧ B17 < wx.heap.size)
    case first =>
      have HAT : Hid (∀ w', Below wb.heap.size wb w' → Calls Try.prog 34 #[.slice b ys.length cb, .int .i64 0, .int .i64 150] w' (fun e w'' => (∃ m : Nat, e = .returned (.int .i64 m)) ∧ Below w'.heap.size w' w'')) := Lib.hid (fun w' h => lawAt_c b cb ys 0 150 w' (HBYb.out.keep h) ly (by omega) (by omega))
      have rt_0 : ∀ x, (wb.alloc x).cell? ⟨w7.heap.size, 0, none⟩ = some (.string D2) := fun x => by
        rw [World.cell?_alloc_lt _ _ _ (by show w7.heap.size < _; omega)]
        exact t_0
      have rt_1 : ∀ x, (wb.alloc x).cell? ⟨w7.heap.size, 1, none⟩ = some (.int .i64 D1.size) := fun x => by
        rw [World.cell?_alloc_lt _ _ _ (by show w7.heap.size < _; omega)]
        exact t_1
      have hwbm : ¬ wb.heap.size = w1.heap.size := by omega
      have hmb : ¬ w1.heap.size = wb.heap.size := by omega
      have hwn : ¬ wb.heap.size = w7.heap.size := by omega
      have hwm : ¬ w7.heap.size = wb.heap.size := by omega
      go_region_held3 (fun w' => w'.cell? ⟨w7.heap.size, 0, none⟩ = some (.string D2) ∧ w'.cell? ⟨w7.heap.size, 1, none⟩ = some (.int .i64 D1.size))
        (first | ((repeat' apply And.intro) <;> (first | (simp [go_sem, t_0, t_1, rt_0, rt_1, hwn, hwm]; done) | (simp [go_sem, nt_0, nt_1, hw8]; done) | (simp [go_sem, pt_0, pt_1, hw9]; done) | (simp [go_sem, pt_0, pt_1, hw9, x_0, x_1, xf, hxa, hxb]; done))) | go_keep)
        (first
          | (go_at_call 34
             refine (HAT.out ((wb.alloc (.cells #[.string ⟨#[]⟩, .int .i64 0] 51)).drew) (((Below.refl _ _).alloc (Nat.le_refl _) _).drew)).mono ?_
             rintro e w8 ⟨⟨m, rfl⟩, hb8⟩
             have hz8 := hb8.size
             simp only [World.size_drew, World.size_alloc] at hz8
             have hw8 : w7.heap.size < w8.heap.size := by omega
             have nt_0 : w8.cell? ⟨w7.heap.size, 0, none⟩ = some (.string D2) := (hb8.cell (p := ⟨w7.heap.size, 0, none⟩) (by show w7.heap.size < (World.drew (World.alloc wb _)).heap.size; rw [World.size_drew, World.size_alloc]; omega)).trans (rt_0 _)
             have nt_1 : w8.cell? ⟨w7.heap.size, 1, none⟩ = some (.int .i64 D1.size) := (hb8.cell (p := ⟨w7.heap.size, 1, none⟩) (by show w7.heap.size < (World.drew (World.alloc wb _)).heap.size; rw [World.size_drew, World.size_alloc]; omega)).trans (rt_1 _)
             have u_0 : w8.cell? ⟨wb.heap.size, 0, none⟩ = some (.string ⟨#[]⟩) := (hb8.cell (p := ⟨wb.heap.size, 0, none⟩) (by show wb.heap.size < (World.drew (World.alloc wb _)).heap.size; rw [World.size_drew, World.size_alloc]; omega)).trans (World.cell?_alloc_new wb _ _ _)
             have u_1 : w8.cell? ⟨wb.heap.size, 1, none⟩ = some (.int .i64 0) := (hb8.cell (p := ⟨wb.heap.size, 1, none⟩) (by show wb.heap.size < (World.drew (World.alloc wb _)).heap.size; rw [World.size_drew, World.size_alloc]; omega)).trans (World.cell?_alloc_new wb _ _ _)
             have uf : ∀ o, w8.frozen? ⟨wb.heap.size, o, none⟩ = false := fun o => (hb8.frozen (p := ⟨wb.heap.size, o, none⟩) (by show wb.heap.size < (World.drew (World.alloc wb _)).heap.size; rw [World.size_drew, World.size_alloc]; omega)).trans (by simp [go_sem])
             have HK8 : Hid (Below wb.heap.size wb w8) := ((Below.refl _ _).alloc (Nat.le_refl _) _).drew.trans (hb8.mono (by rw [World.size_drew, World.size_alloc]; omega)))
          | (go_at_call 34
             refine (HAT.out wb.drew ((Below.refl _ _).drew)).mono ?_
             rintro e w8 ⟨⟨m, rfl⟩, hb8⟩
             have hz8 := hb8.size
             simp only [World.size_drew] at hz8
             have hw8 : w7.heap.size < w8.heap.size := by omega
             have nt_0 : w8.cell? ⟨w7.heap.size, 0, none⟩ = some (.string D2) := (hb8.cell (p := ⟨w7.heap.size, 0, none⟩) (by show w7.heap.size < wb.heap.size; omega)).trans (t_0)
             have nt_1 : w8.cell? ⟨w7.heap.size, 1, none⟩ = some (.int .i64 D1.size) := (hb8.cell (p := ⟨w7.heap.size, 1, none⟩) (by show w7.heap.size < wb.heap.size; omega)).trans (t_1)
             have HK8 : Hid (Below wb.heap.size wb w8) := (Below.refl _ _).drew.trans (hb8.mono (by rw [World.size_drew]; omega)))
          | (go_at_call 42
             obtain ⟨D3, s3, hcr, hTC⟩ := HTM.out m
             have HTC := Lib.hid hTC
             clear hTC
             refine (implCrash_c D2 D1.size m (w8.alloc (.cells #[.string ⟨#[]⟩, .int .i64 0] 51))).mono ?_
             rw [hcr]
             clear hcr
             rintro e w9 ⟨rfl, hb9⟩
             have hz9 := hb9.size
             try simp only [World.size_alloc] at hz9
             have hw9 : w7.heap.size < w9.heap.size := by omega
             have pt_0 : w9.cell? ⟨w7.heap.size, 0, none⟩ = some (.string D2) := (hb9.cell (p := ⟨w7.heap.size, 0, none⟩) (by show w7.heap.size < (World.alloc w8 _).heap.size; rw [World.size_alloc]; omega)).trans ((World.cell?_alloc_lt _ _ _ (by show w7.heap.size < _; omega)).trans nt_0)
             have pt_1 : w9.cell? ⟨w7.heap.size, 1, none⟩ = some (.int .i64 D1.size) := (hb9.cell (p := ⟨w7.heap.size, 1, none⟩) (by show w7.heap.size < (World.alloc w8 _).heap.size; rw [World.size_alloc]; omega)).trans ((World.cell?_alloc_lt _ _ _ (by show w7.heap.size < _; omega)).trans nt_1)
             have x_0 : w9.cell? ⟨w8.heap.size, 0, none⟩ = some (.string ⟨#[]⟩) := (hb9.cell (p := ⟨w8.heap.size, 0, none⟩) (by show w8.heap.size < (World.alloc w8 _).heap.size; rw [World.size_alloc]; omega)).trans (World.cell?_alloc_new w8 _ _ _)
             have x_1 : w9.cell? ⟨w8.heap.size, 1, none⟩ = some (.int .i64 0) := (hb9.cell (p := ⟨w8.heap.size, 1, none⟩) (by show w8.heap.size < (World.alloc w8 _).heap.size; rw [World.size_alloc]; omega)).trans (World.cell?_alloc_new w8 _ _ _)
             have xf : ∀ o, w9.frozen? ⟨w8.heap.size, o, none⟩ = false := fun o => (hb9.frozen (p := ⟨w8.heap.size, o, none⟩) (by show w8.heap.size < (World.alloc w8 _).heap.size; rw [World.size_alloc]; omega)).trans (by simp [go_sem])
             have hxa : ¬ w8.heap.size = w7.heap.size := by omega
             have hxb : ¬ w7.heap.size = w8.heap.size := by omega
             have HK9 : Hid (Below wb.heap.size wb w9) := (HK8.out.alloc (by omega) _).trans (hb9.mono (by rw [World.size_alloc]; omega)))
          | (go_at_call 42
             fail_if_success (have hu := u_0)
             obtain ⟨D3, s3, hcr, hTC⟩ := HTM.out m
             have HTC := Lib.hid hTC
             clear hTC
             refine (implCrash_c D2 D1.size m w8).mono ?_
             rw [hcr]
             clear hcr
             rintro e w9 ⟨rfl, hb9⟩
             have hz9 := hb9.size
             try simp only [World.size_alloc] at hz9
             have hw9 : w7.heap.size < w9.heap.size := by omega
             have pt_0 : w9.cell? ⟨w7.heap.size, 0, none⟩ = some (.string D2) := (hb9.cell (p := ⟨w7.heap.size, 0, none⟩) (by show w7.heap.size < w8.heap.size; omega)).trans nt_0
             have pt_1 : w9.cell? ⟨w7.heap.size, 1, none⟩ = some (.int .i64 D1.size) := (hb9.cell (p := ⟨w7.heap.size, 1, none⟩) (by show w7.heap.size < w8.heap.size; omega)).trans nt_1
             have HK9 : Hid (Below wb.heap.size wb w9) := HK8.out.trans (hb9.mono (by omega)))
          | (go_at_call 42
             obtain ⟨D3, s3, hcr, hTC⟩ := HTM.out m
             have HTC := Lib.hid hTC
             clear hTC
             refine (implCrash_c D2 D1.size m w8).mono ?_
             rw [hcr]
             clear hcr
             rintro e w9 ⟨rfl, hb9⟩
             have hz9 := hb9.size
             try simp only [World.size_alloc] at hz9
             have hw9 : w7.heap.size < w9.heap.size := by omega
             have pt_0 : w9.cell? ⟨w7.heap.size, 0, none⟩ = some (.string D2) := (hb9.cell (p := ⟨w7.heap.size, 0, none⟩) (by show w7.heap.size < w8.heap.size; omega)).trans nt_0
             have pt_1 : w9.cell? ⟨w7.heap.size, 1, none⟩ = some (.int .i64 D1.size) := (hb9.cell (p := ⟨w7.heap.size, 1, none⟩) (by show w7.heap.size < w8.heap.size; omega)).trans nt_1
             have x_0 : w9.cell? ⟨wb.heap.size, 0, none⟩ = some (.string ⟨#[]⟩) := (hb9.cell (p := ⟨wb.heap.size, 0, none⟩) (by show wb.heap.size < w8.heap.size; omega)).trans u_0
             have x_1 : w9.cell? ⟨wb.heap.size, 1, none⟩ = some (.int .i64 0) := (hb9.cell (p := ⟨wb.heap.size, 1, none⟩) (by show wb.heap.size < w8.heap.size; omega)).trans u_1
             have xf : ∀ o, w9.frozen? ⟨wb.heap.size, o, none⟩ = false := fun o => (hb9.frozen (p := ⟨wb.heap.size, o, none⟩) (by show wb.heap.size < w8.heap.size; omega)).trans (uf o)
             have hxa : ¬ wb.heap.size = w7.heap.size := by omega
             have hxb : ¬ w7.heap.size = wb.heap.size := by omega
             have HK9 : Hid (Below wb.heap.size wb w9) := HK8.out.trans (hb9.mono (by omega))))
      all_goals
        have hlow : w1.heap.size < wb.heap.size := by omega
        have hlow9 : w1.heap.size < w9.heap.size := by omega
        have pm_0 : w9.cell? ⟨w1.heap.size, 0, none⟩ = some (.int .i64 t) := (HK9.out.cell (p := ⟨w1.heap.size, 0, none⟩) hlow).trans m_0
        have pm_1 : w9.cell? ⟨w1.heap.size, 1, none⟩ = some (.int .i64 v) := (HK9.out.cell (p := ⟨w1.heap.size, 1, none⟩) hlow).trans m_1
        have pm_2 : w9.cell? ⟨w1.heap.size, 2, none⟩ = some (.slice a1 S.length c1) := (HK9.out.cell (p := ⟨w1.heap.size, 2, none⟩) hlow).trans m_2
        have pa_0 : ∀ x, (w9.alloc x).cell? ⟨w1.heap.size, 0, none⟩ = some (.int .i64 t) := fun x => by
          rw [World.cell?_alloc_lt _ _ _ hlow9]
          exact pm_0
        have pa_1 : ∀ x, (w9.alloc x).cell? ⟨w1.heap.size, 1, none⟩ = some (.int .i64 v) := fun x => by
          rw [World.cell?_alloc_lt _ _ _ hlow9]
          exact pm_1
        have pa_2 : ∀ x, (w9.alloc x).cell? ⟨w1.heap.size, 2, none⟩ = some (.slice a1 S.length c1) := fun x => by
          rw [World.cell?_alloc_lt _ _ _ hlow9]
          exact pm_2
        have HS9 := Lib.hid (HSb.out.below HK9.out)
        have HR9 := Lib.hid (HRb.out.below HK9.out)
        have HBW9 : Hid (Below w.heap.size w w9) := HBb.out.trans (HK9.out.mono (by omega))
        have hw8m : ¬ w8.heap.size = w1.heap.size := by omega
        have hw8n : ¬ w1.heap.size = w8.heap.size := by omega
        go_wp2_with fail
        go_meet
        refine ⟨_, D3, s3, rfl, rfl, HTC, ?_, ?_, ?_, ?_, ?_, ?_, ?_, ?_, ?_, ?_⟩
        · simp [go_sem, pm_0, pa_0, hwbm, hmb, hw8m, hw8n]
        · simp [go_sem, pm_1, pa_1, hwbm, hmb, hw8m, hw8n]
        · simp [go_sem, pm_2, pa_2, hwbm, hmb, hw8m, hw8n]
        · first | (simp [go_sem, x_0, x_1, xf]; done) | (simp [go_sem]; done)
        · first | (simp [go_sem, x_0, x_1, xf]; done) | (simp [go_sem]; done)
        · repeat (first | (with_reducible exact HS9.out) | (with_reducible refine FreshIn.setHi ?_ ?_ _; rotate_left; (first | (show _ ≤ w8.heap.size; omega) | (show _ ≤ wb.heap.size; omega))) | (with_reducible refine FreshIn.alloc ?_ _))
        · repeat (first | (with_reducible exact HR9.out) | (with_reducible refine FreshIn.setHi ?_ ?_ _; rotate_left; (first | (show _ ≤ w8.heap.size; omega) | (show _ ≤ wb.heap.size; omega))) | (with_reducible refine FreshIn.alloc ?_ _))
        · repeat (first | (with_reducible exact HBW9.out) | (with_reducible refine Below.setCell ?_ ?_ _; rotate_left; (first | (show _ ≤ w8.heap.size; omega) | (show _ ≤ wb.heap.size; omega))) | (with_reducible refine Below.alloc ?_ ?_ _; rotate_left; (try omega)))
        · (try simp) <;> omega
        · (try simp) <;> omega
    case rest =>
      obtain ⟨B17, D3, s3, rfl, rfl, HTC, m_0, m_1, m_2, x_0, x_1, hfS, hfR, hbel, hB7, hB17⟩ := hcut
      have HSe := Lib.hid hfS
      have HRe := Lib.hid hfR
      have HBe := Lib.hid hbel
      have hze := hbel.size
      clear hfS hfR hbel
      obtain ⟨we, hwe⟩ : ∃ x, x = wc := ⟨_, rfl⟩
      subst hwe
      obtain ⟨D4, D5, n5, j, T, V, G, h1, h2, h3, hj, hG, hOKG⟩ := HTC.out
      have HG := Lib.hid hG
      have HOKG := Lib.hid hOKG
      have HS4 := Lib.hid h2
      have HJ := Lib.hid hj
      have HRV1 : Hid (∀ w', Calls Try.prog 31 #[.agg #[.string D3, .int .i64 s3]] w' (fun e w'' => ∃ a ca, e = .returned (.tuple #[.agg #[.int .i64 T, .int .i64 V, .slice a G.length ca], .agg #[.string D4, .int .i64 D4.size], .int .i64 0]) ∧ Fresh entE 109 2 w'.heap.size (.slice a G.length ca) G w'' ∧ Below w'.heap.size w' w'')) := Lib.hid (fun w' => by have h := implRecover_c D3 s3 w'; rw [h1] at h; exact h)
      have HRV2 : Hid (∀ w', Calls Try.prog 31 #[.agg #[.string D4, .int .i64 D4.size]] w' (fun e w'' => ∃ a ca, e = .returned (.tuple #[.agg #[.int .i64 T, .int .i64 V, .slice a G.length ca], .agg #[.string D5, .int .i64 n5], .int .i64 0]) ∧ Fresh entE 109 2 w'.heap.size (.slice a G.length ca) G w'' ∧ Below w'.heap.size w' w'')) := Lib.hid (fun w' => by have h := implRecover_c D4 D4.size w'; rw [h3] at h; exact h)
      have hokG := stOK_facts hOKG
      have hG60 := hokG.2.2.2.2.1
      have HGs : Hid (∀ e ∈ G, e.2.size ≤ 1048576) := Lib.hid fun e he => by have := hokG.2.2.2.2.2 e he; omega
      clear h1 h2 h3 hj hG hOKG hokG HTC
      go_wp2_with fail
      refine (HRV1.out _).mono ?_
      rintro e w10 ⟨a10, c10, rfl, hf10, hb10⟩
      have hz10 := hb10.size
      have HG10 := Lib.hid (show FreshIn entE 109 2 (we.heap.size) w10.heap.size (.slice a10 G.length c10) G w10 from (by simpa using hf10.here))
      clear hf10
      have HS110 := Lib.hid (HSe.out.below hb10)
      clear HSe
      have HR410 := Lib.hid (HRe.out.below hb10)
      clear HRe
      have q10_0_0 : w10.cell? ⟨w1.heap.size, 0, none⟩ = some (.int .i64 t) := by
        rw [hb10.cell (p := ⟨w1.heap.size, 0, none⟩) (show w1.heap.size < _ by (try simp) <;> (try omega))]
        exact m_0
      have q10_0_1 : w10.cell? ⟨w1.heap.size, 1, none⟩ = some (.int .i64 v) := by
        rw [hb10.cell (p := ⟨w1.heap.size, 1, none⟩) (show w1.heap.size < _ by (try simp) <;> (try omega))]
        exact m_1
      have q10_0_2 : w10.cell? ⟨w1.heap.size, 2, none⟩ = some (.slice a1 S.length c1) := by
        rw [hb10.cell (p := ⟨w1.heap.size, 2, none⟩) (show w1.heap.size < _ by (try simp) <;> (try omega))]
        exact m_2
      have hl10_0 : w1.heap.size < w10.heap.size := by omega
      clear m_0 m_1 m_2
      have q10_1_0 : w10.cell? ⟨B17, 0, none⟩ = some (.string D3) := by
        rw [hb10.cell (p := ⟨B17, 0, none⟩) (show B17 < _ by (try simp) <;> (try omega))]
        exact x_0
      have q10_1_1 : w10.cell? ⟨B17, 1, none⟩ = some (.int .i64 s3) := by
        rw [hb10.cell (p := ⟨B17, 1, none⟩) (show B17 < _ by (try simp) <;> (try omega))]
        exact x_1
      have hl10_1 : B17 < w10.heap.size := by omega
      clear x_0 x_1
      have HB10 : Hid (Below w.heap.size w w10) := HBe.out.trans (hb10.mono (by (try simp) <;> (try omega)))
      clear hb10
      clear q10_1_0 q10_1_1 hl10_1
      go_wp2_with fail
      refine (implStoreOK_c D4 D4.size _).mono ?_
      rw [HS4.out]
      rintro e w11 ⟨rfl, hb11⟩
      have hz11 := hb11.size
      simp only [World.size_alloc] at hz11
      have HS111 := Lib.hid (((HS110.out.alloc _).alloc _).below hb11)
      clear HS110
      have HR411 := Lib.hid (((HR410.out.alloc _).alloc _).below hb11)
      clear HR410
      have HG11 := Lib.hid (((HG10.out.alloc _).alloc _).below hb11)
      clear HG10
      have q11_0_0 : w11.cell? ⟨w1.heap.size, 0, none⟩ = some (.int .i64 t) := by
        rw [hb11.cell (p := ⟨w1.heap.size, 0, none⟩) (show w1.heap.size < _ by (try simp) <;> (try omega))]
        first | assumption | (simp [go_sem, *])
      have q11_0_1 : w11.cell? ⟨w1.heap.size, 1, none⟩ = some (.int .i64 v) := by
        rw [hb11.cell (p := ⟨w1.heap.size, 1, none⟩) (show w1.heap.size < _ by (try simp) <;> (try omega))]
        first | assumption | (simp [go_sem, *])
      have q11_0_2 : w11.cell? ⟨w1.heap.size, 2, none⟩ = some (.slice a1 S.length c1) := by
        rw [hb11.cell (p := ⟨w1.heap.size, 2, none⟩) (show w1.heap.size < _ by (try simp) <;> (try omega))]
        first | assumption | (simp [go_sem, *])
      have hl11_0 : w1.heap.size < w11.heap.size := by omega
      clear q10_0_0 q10_0_1 q10_0_2
      have q11_1_0 : w11.cell? ⟨w10.heap.size, 0, none⟩ = some (.int .i64 T) := by
        rw [hb11.cell (p := ⟨w10.heap.size, 0, none⟩) (show w10.heap.size < _ by (try simp) <;> (try omega))]
        first | assumption | (simp [go_sem, *])
      have q11_1_1 : w11.cell? ⟨w10.heap.size, 1, none⟩ = some (.int .i64 V) := by
        rw [hb11.cell (p := ⟨w10.heap.size, 1, none⟩) (show w10.heap.size < _ by (try simp) <;> (try omega))]
        first | assumption | (simp [go_sem, *])
      have q11_1_2 : w11.cell? ⟨w10.heap.size, 2, none⟩ = some (.slice a10 G.length c10) := by
        rw [hb11.cell (p := ⟨w10.heap.size, 2, none⟩) (show w10.heap.size < _ by (try simp) <;> (try omega))]
        first | assumption | (simp [go_sem, *])
      have hl11_1 : w10.heap.size < w11.heap.size := by omega
      have q11_2_0 : w11.cell? ⟨w10.heap.size + 1, 0, none⟩ = some (.string D4) := by
        rw [hb11.cell (p := ⟨w10.heap.size + 1, 0, none⟩) (show w10.heap.size + 1 < _ by (try simp) <;> (try omega))]
        first | assumption | (simp [go_sem, *])
      have q11_2_1 : w11.cell? ⟨w10.heap.size + 1, 1, none⟩ = some (.int .i64 D4.size) := by
        rw [hb11.cell (p := ⟨w10.heap.size + 1, 1, none⟩) (show w10.heap.size + 1 < _ by (try simp) <;> (try omega))]
        first | assumption | (simp [go_sem, *])
      have hl11_2 : w10.heap.size + 1 < w11.heap.size := by omega
      have HB11 : Hid (Below w.heap.size w w11) := ((HB10.out.alloc (by (try simp) <;> (try omega)) _).alloc (by (try simp) <;> (try omega)) _).trans (hb11.mono (by (try simp) <;> (try omega)))
      clear hb11
      have y0_0 : ∀ x, (w11.alloc x).cell? ⟨w10.heap.size, 0, none⟩ = some (.int .i64 T) := fun x => by
        rw [World.cell?_alloc_lt _ _ _ (by show w10.heap.size < _; omega)]
        exact q11_1_0
      have y0_1 : ∀ x, (w11.alloc x).cell? ⟨w10.heap.size, 1, none⟩ = some (.int .i64 V) := fun x => by
        rw [World.cell?_alloc_lt _ _ _ (by show w10.heap.size < _; omega)]
        exact q11_1_1
      have y0_2 : ∀ x, (w11.alloc x).cell? ⟨w10.heap.size, 2, none⟩ = some (.slice a10 G.length c10) := fun x => by
        rw [World.cell?_alloc_lt _ _ _ (by show w10.heap.size < _; omega)]
        exact q11_1_2
      have y1_0 : ∀ x, (w11.alloc x).cell? ⟨w10.heap.size + 1, 0, none⟩ = some (.string D4) := fun x => by
        rw [World.cell?_alloc_lt _ _ _ (by show w10.heap.size + 1 < _; omega)]
        exact q11_2_0
      have y1_1 : ∀ x, (w11.alloc x).cell? ⟨w10.heap.size + 1, 1, none⟩ = some (.int .i64 D4.size) := fun x => by
        rw [World.cell?_alloc_lt _ _ _ (by show w10.heap.size + 1 < _; omega)]
        exact q11_2_1
      go_wp2_with fail
      go_loopw [22, 24] (fun fv iv wr => ∃ (f : Bool) (i : Nat) (t1 v1 : Int) (L1 : List Ent) (aL : Option Addr) (cL : Nat), fv = .bool f ∧ iv = .int .i64 i ∧ i ≤ R.length + 1 ∧ Hid (rcL (t, v, S) (R.take i) = some (t1, v1, L1)) ∧ Hid (j < i → f = true) ∧ Hid (stOK t1 v1 L1 = true) ∧ wr.cell? ⟨w10.heap.size, 0, none⟩ = some (.int .i64 T) ∧ wr.cell? ⟨w10.heap.size, 1, none⟩ = some (.int .i64 V) ∧ wr.cell? ⟨w10.heap.size, 2, none⟩ = some (.slice a10 G.length c10) ∧ wr.cell? ⟨w10.heap.size + 1, 0, none⟩ = some (.string D4) ∧ wr.cell? ⟨w10.heap.size + 1, 1, none⟩ = some (.int .i64 D4.size) ∧ wr.cell? ⟨w11.heap.size, 0, none⟩ = some (.int .i64 t1) ∧ wr.cell? ⟨w11.heap.size, 1, none⟩ = some (.int .i64 v1) ∧ wr.cell? ⟨w11.heap.size, 2, none⟩ = some (.slice aL L1.length cL) ∧ (∀ o, wr.frozen? ⟨w11.heap.size, o, none⟩ = false) ∧ Fresh entE 109 2 w.heap.size (.slice aL L1.length cL) L1 wr ∧ (Value.slice aL L1.length cL).ownBlock ≠ some w11.heap.size ∧ FreshIn entE 109 2 (we.heap.size) (w10.heap.size) (.slice a10 G.length c10) G wr ∧ FreshIn strE 9 1 (w3.heap.size) (w4.heap.size) (.slice a4 R.length c4) R wr ∧ Below w.heap.size w wr ∧ w11.heap.size < wr.heap.size) (fun _ iv _ => R.length + 1 - (intOf iv).toNat)
      case atStart => exact ⟨false, 0, t, v, S, a1, c1, rfl, rfl, Nat.zero_le _, (by show _ = _; rw [List.take_zero, rcL_nil]), Lib.hid (fun h => absurd h (Nat.not_lt_zero _)), HOK, y0_0 _, y0_1 _, y0_2 _, y1_0 _, y1_1 _, (by simp [go_sem]), (by simp [go_sem]), (by simp [go_sem]), (fun o => by simp [go_sem]), (HS111.out.1.alloc _).mono (by omega), (fun e => by have := HS111.out.2 _ e; omega), HG11.out.alloc _, HR411.out.alloc _, HB11.out.alloc (by omega) _, by simp⟩
      case round =>
        obtain ⟨f, i, t1, v1, L1, aL, cL, rfl, rfl, hiR, hT, hF, hOK1, g_0, g_1, g_2, d_0, d_1, s_0, s_1, s_2, sf, hfL, hneL, hfG, hfR, hbel, hBw⟩ := hrel
        have HL := Lib.hid hfL
        have HNE := Lib.hid hneL
        have HGw := Lib.hid hfG
        have HRw := Lib.hid hfR
        have HBW := Lib.hid hbel
        have hz := hbel.size
        have hok := stOK_facts hOK1.out
        have hL60 := hok.2.2.2.2.1
        have HLs : Hid (∀ e ∈ L1, e.2.size ≤ 1048576) := Lib.hid fun e he => by have := hok.2.2.2.2.2 e he; omega
        have hwB : w.heap.size ≤ w11.heap.size := by omega
        clear hok hfL hneL hfG hfR hbel
        by_cases hle : i ≤ R.length
        · skip
          have hle' : (i : Int) ≤ (R.length : Int) := by omega
          obtain ⟨sm, hsm⟩ : ∃ sm : Bool, sm = (decide (T = t1) && (decide (V = v1) && decide (G = L1))) := ⟨_, rfl⟩
          have HSV : Hid (sameV T V G t1 v1 L1 = .tuple #[.bool sm, .int .i64 0]) := by
            show _ = _
            rw [hsm, sameV, if_pos ⟨HOKG.out, hOK1.out⟩]
          have HF1 : Hid (j < i + 1 → (f || sm) = true) := Lib.hid (fun h => by
            by_cases hji : j < i
            · rw [hF.out hji]
              rfl
            · obtain rfl : j = i := by omega
              have e := HG.out.symm.trans hT.out
              simp only [Option.some.injEq, Prod.mk.injEq] at e
              obtain ⟨rfl, rfl, rfl⟩ := e
              rw [hsm]
              simp)
          clear hsm hF
          go_wp2_with fail
          refine (implSame_c a10 aL c10 cL G L1 T V t1 v1 _ (HGw.out.sl fun _ => rfl) (HL.out.sl fun _ => rfl) (by omega) (by omega) HGs.out HLs.out).mono ?_
          rw [HSV.out]
          rintro e w12 ⟨rfl, hb12⟩
          have hz12 := hb12.size
          have kg_0 : w12.cell? ⟨w10.heap.size, 0, none⟩ = some (.int .i64 T) := (hb12.cell (p := ⟨w10.heap.size, 0, none⟩) (by show w10.heap.size < wr.heap.size; omega)).trans g_0
          have kg_1 : w12.cell? ⟨w10.heap.size, 1, none⟩ = some (.int .i64 V) := (hb12.cell (p := ⟨w10.heap.size, 1, none⟩) (by show w10.heap.size < wr.heap.size; omega)).trans g_1
          have kg_2 : w12.cell? ⟨w10.heap.size, 2, none⟩ = some (.slice a10 G.length c10) := (hb12.cell (p := ⟨w10.heap.size, 2, none⟩) (by show w10.heap.size < wr.heap.size; omega)).trans g_2
          have kd_0 : w12.cell? ⟨w10.heap.size + 1, 0, none⟩ = some (.string D4) := (hb12.cell (p := ⟨w10.heap.size + 1, 0, none⟩) (by show w10.heap.size + 1 < wr.heap.size; omega)).trans d_0
          have kd_1 : w12.cell? ⟨w10.heap.size + 1, 1, none⟩ = some (.int .i64 D4.size) := (hb12.cell (p := ⟨w10.heap.size + 1, 1, none⟩) (by show w10.heap.size + 1 < wr.heap.size; omega)).trans d_1
          have ks_0 : w12.cell? ⟨w11.heap.size, 0, none⟩ = some (.int .i64 t1) := (hb12.cell (p := ⟨w11.heap.size, 0, none⟩) (by show w11.heap.size < wr.heap.size; omega)).trans s_0
          have ks_1 : w12.cell? ⟨w11.heap.size, 1, none⟩ = some (.int .i64 v1) := (hb12.cell (p := ⟨w11.heap.size, 1, none⟩) (by show w11.heap.size < wr.heap.size; omega)).trans s_1
          have ks_2 : w12.cell? ⟨w11.heap.size, 2, none⟩ = some (.slice aL L1.length cL) := (hb12.cell (p := ⟨w11.heap.size, 2, none⟩) (by show w11.heap.size < wr.heap.size; omega)).trans s_2
          have ksf : ∀ o, w12.frozen? ⟨w11.heap.size, o, none⟩ = false := fun o => (hb12.frozen (p := ⟨w11.heap.size, o, none⟩) (by show w11.heap.size < wr.heap.size; omega)).trans (sf o)
          have HL12 := Lib.hid (HL.out.below hb12)
          have HG12 := Lib.hid (HGw.out.below hb12)
          have HR12 := Lib.hid (HRw.out.below hb12)
          have HB12 : Hid (Below w.heap.size w w12) := HBW.out.trans (hb12.mono hz)
          have hBw12 : w11.heap.size < w12.heap.size := by omega
          clear hb12 g_0 g_1 g_2 d_0 d_1 s_0 s_1 s_2 sf HL HGw HRw HBW
          cases f
          all_goals
            by_cases hlt : i < R.length
            · have hlt' : (i : Int) < (R.length : Int) := by omega
              obtain ⟨bF, oF, rfl, hbF, hcF⟩ := (HR12.out.sl (enc := strE) (sz := 1) (fun _ => rfl)).at hlt
              have hbF1 := HR12.out.2 bF rfl
              have hbF0 := (HR12.out.1.lt (k := bF) rfl).1
              have c1' := hcF i hlt 0 (by omega)
              simp only [strE, Nat.mul_one, Nat.add_zero, List.getElem?_cons_zero] at c1'
              have hrs := HR2.out R[i] (List.getElem_mem hlt)
              have hi0 : (0 : Int) ≤ (i : Int) := by omega
              obtain ⟨⟨t9, v9, L9⟩, hap, hT9⟩ := rcL_next HL2.out hlt hT.out
              clear hcF
              generalize R[i] = r at *
              have hst := ar_step (s := (t1, v1, L1)) hOK1.out hrs hap
              have HOK9 : Hid (stOK t9 v9 L9 = true) := apV_ok hap
              have HT9 : Hid (rcL (t, v, S) (R.take (i + 1)) = some (t9, v9, L9)) := hT9
              have HAP : Hid (∀ w', Below w12.heap.size w12 w' → Calls Try.prog 20 #[.agg #[.int .i64 t1, .int .i64 v1, .slice aL L1.length cL], .string r] w' (ArR t9 v9 L9 0 w')) := Lib.hid (fun w' h => by
                have h1 := specARec_c aL cL L1 t1 v1 r.data.toList w' ((HL12.out.sl (enc := entE) (sz := 2) (xs := L1) (fun _ => rfl)).keep h) (by omega) HLs.out (by show r.size ≤ _; omega)
                rw [hst.1, hst.2] at h1
                exact h1)
              clear hap hT9 hst hrs
              have hnF : ¬ w11.heap.size = bF := by omega
              have hnF' : ¬ bF = w11.heap.size := by omega
              go_upto_region 25 with fail
              refine wp_region_G (fun w' => w'.cell? ⟨w11.heap.size, 0, none⟩ = some (.int .i64 t1) ∧ w'.cell? ⟨w11.heap.size, 1, none⟩ = some (.int .i64 v1) ∧ w'.cell? ⟨w11.heap.size, 2, none⟩ = some (.slice aL L1.length cL) ∧ w'.cell? ⟨bF, oF + i, none⟩ = some (.string r)) (fun i => i == 9) (by kernel_rfl) ⟨ks_0, ks_1, ks_2, c1'⟩ ?_
              refine wpAnyG_take (i := 0) (v := ?_) rfl (by kernel_rfl) (by kernel_rfl) (by kernel_rfl) (by kernel_rfl) (fun _ _ _ h => h) ⟨ks_0, ks_1, ks_2, c1'⟩ (Or.inl ⟨by rfl, ?_⟩) ?_
              rotate_left
              · intro w' hSw
                obtain ⟨h1, h2, h3, h4⟩ := hSw
                go_simp
                try (with_reducible rfl)
              try simp only [Act.put, List.getElem_toArray, List.getElem_cons_zero, List.getElem_cons_succ, List.setIfInBounds_toArray, List.set_cons_zero, List.set_cons_succ]
              refine wpAnyG_takeW (i := 1) (v := ?_) rfl (by kernel_rfl) (by kernel_rfl) (by kernel_rfl) (fun _ _ _ h => h) (Or.inl ⟨by rfl, ?_⟩) ?_
              rotate_left
              · intro w' hSw
                go_simp
                try (with_reducible rfl)
              try simp only [Act.put, List.getElem_toArray, List.getElem_cons_zero, List.getElem_cons_succ, List.setIfInBounds_toArray, List.set_cons_zero, List.set_cons_succ]
              refine wpAnyG_takeW (i := 2) (v := ?_) rfl (by kernel_rfl) (by kernel_rfl) (by kernel_rfl) (fun _ _ _ h => h) (Or.inl ⟨by rfl, ?_⟩) ?_
              rotate_left
              · intro w' hSw
                go_simp
                try (with_reducible rfl)
              try simp only [Act.put, List.getElem_toArray, List.getElem_cons_zero, List.getElem_cons_succ, List.setIfInBounds_toArray, List.set_cons_zero, List.set_cons_succ]
              refine wpAnyG_takeW (i := 3) (v := ?_) rfl (by kernel_rfl) (by kernel_rfl) (by kernel_rfl) (fun _ _ _ h => h) (Or.inl ⟨by rfl, ?_⟩) ?_
              rotate_left
              · intro w' hSw
                go_simp
                try (with_reducible rfl)
              try simp only [Act.put, List.getElem_toArray, List.getElem_cons_zero, List.getElem_cons_succ, List.setIfInBounds_toArray, List.set_cons_zero, List.set_cons_succ]
              refine wpAnyG_take (i := 4) (v := ?_) rfl (by kernel_rfl) (by kernel_rfl) (by kernel_rfl) (by kernel_rfl) (fun _ _ _ h => h) ⟨ks_0, ks_1, ks_2, c1'⟩ (Or.inl ⟨by rfl, ?_⟩) ?_
              rotate_left
              · intro w' hSw
                obtain ⟨h1, h2, h3, h4⟩ := hSw
                go_simp
                try (with_reducible rfl)
              try simp only [Act.put, List.getElem_toArray, List.getElem_cons_zero, List.getElem_cons_succ, List.setIfInBounds_toArray, List.set_cons_zero, List.set_cons_succ]
              refine wpAnyG_one (i := 5) (by kernel_rfl) rfl ⟨ks_0, ks_1, ks_2, c1'⟩ (fun K' hK => ?_)
              simp only [List.getElem_toArray, List.getElem_cons_zero, List.getElem_cons_succ]
              go_simp
              go_at_call 20
              refine (HAP.out w12.drew ((Below.refl _ _).drew)).mono ?_
              rintro e w13 ⟨a7, c7, rfl, hf7, hb7⟩
              have hz13 := hb7.size
              simp only [World.size_drew] at hz13
              have ng_0 : w13.cell? ⟨w10.heap.size, 0, none⟩ = some (.int .i64 T) := (hb7.cell (p := ⟨w10.heap.size, 0, none⟩) (by show w10.heap.size < w12.heap.size; omega)).trans kg_0
              have ng_1 : w13.cell? ⟨w10.heap.size, 1, none⟩ = some (.int .i64 V) := (hb7.cell (p := ⟨w10.heap.size, 1, none⟩) (by show w10.heap.size < w12.heap.size; omega)).trans kg_1
              have ng_2 : w13.cell? ⟨w10.heap.size, 2, none⟩ = some (.slice a10 G.length c10) := (hb7.cell (p := ⟨w10.heap.size, 2, none⟩) (by show w10.heap.size < w12.heap.size; omega)).trans kg_2
              have nd_0 : w13.cell? ⟨w10.heap.size + 1, 0, none⟩ = some (.string D4) := (hb7.cell (p := ⟨w10.heap.size + 1, 0, none⟩) (by show w10.heap.size + 1 < w12.heap.size; omega)).trans kd_0
              have nd_1 : w13.cell? ⟨w10.heap.size + 1, 1, none⟩ = some (.int .i64 D4.size) := (hb7.cell (p := ⟨w10.heap.size + 1, 1, none⟩) (by show w10.heap.size + 1 < w12.heap.size; omega)).trans kd_1
              have ns_0 : w13.cell? ⟨w11.heap.size, 0, none⟩ = some (.int .i64 t1) := (hb7.cell (p := ⟨w11.heap.size, 0, none⟩) (by show w11.heap.size < w12.heap.size; omega)).trans ks_0
              have ns_1 : w13.cell? ⟨w11.heap.size, 1, none⟩ = some (.int .i64 v1) := (hb7.cell (p := ⟨w11.heap.size, 1, none⟩) (by show w11.heap.size < w12.heap.size; omega)).trans ks_1
              have ns_2 : w13.cell? ⟨w11.heap.size, 2, none⟩ = some (.slice aL L1.length cL) := (hb7.cell (p := ⟨w11.heap.size, 2, none⟩) (by show w11.heap.size < w12.heap.size; omega)).trans ks_2
              have nc1 : w13.cell? ⟨bF, oF + i, none⟩ = some (.string r) := (hb7.cell (p := ⟨bF, oF + i, none⟩) (by show bF < w12.heap.size; omega)).trans c1'
              have nsf : ∀ o, w13.frozen? ⟨w11.heap.size, o, none⟩ = false := fun o => (hb7.frozen (p := ⟨w11.heap.size, o, none⟩) (by show w11.heap.size < w12.heap.size; omega)).trans (ksf o)
              have HL13 := Lib.hid hf7
              have HG13 := Lib.hid (HG12.out.drew.below hb7)
              have HR13 := Lib.hid (HR12.out.drew.below hb7)
              have HB13 : Hid (Below w.heap.size w w13) := HB12.out.drew.trans (hb7.mono (by rw [World.size_drew]; omega))
              clear hf7 hb7
              simp only []
              refine hK.out _ _ (Or.inr ⟨ns_0, ns_1, ns_2, nc1⟩) ?_
              clear hK K'
              try simp only [Act.put, List.getElem_toArray, List.getElem_cons_zero, List.getElem_cons_succ, List.setIfInBounds_toArray, List.set_cons_zero, List.set_cons_succ]
              refine wpAnyG_takeW (i := 6) (v := ?_) rfl (by kernel_rfl) (by kernel_rfl) (by kernel_rfl) (fun _ _ _ h => h) (Or.inl ⟨by rfl, ?_⟩) ?_
              rotate_left
              · intro w' hSw
                go_simp
                try (with_reducible rfl)
              try simp only [Act.put, List.getElem_toArray, List.getElem_cons_zero, List.getElem_cons_succ, List.setIfInBounds_toArray, List.set_cons_zero, List.set_cons_succ]
              refine wpAnyG_takeW (i := 7) (v := ?_) rfl (by kernel_rfl) (by kernel_rfl) (by kernel_rfl) (fun _ _ _ h => h) (Or.inl ⟨by rfl, ?_⟩) ?_
              rotate_left
              · intro w' hSw
                go_simp
                try (with_reducible rfl)
              try simp only [Act.put, List.getElem_toArray, List.getElem_cons_zero, List.getElem_cons_succ, List.setIfInBounds_toArray, List.set_cons_zero, List.set_cons_succ]
              refine wpAnyG_takeW (i := 8) (v := ?_) rfl (by kernel_rfl) (by kernel_rfl) (by kernel_rfl) (fun _ _ _ h => h) (Or.inl ⟨by rfl, ?_⟩) ?_
              rotate_left
              · intro w' hSw
                go_simp
                try (with_reducible rfl)
              try simp only [Act.put, List.getElem_toArray, List.getElem_cons_zero, List.getElem_cons_succ, List.setIfInBounds_toArray, List.set_cons_zero, List.set_cons_succ]
              refine wpAnyG_one (i := 9) (by kernel_rfl) rfl ⟨ns_0, ns_1, ns_2, nc1⟩ (fun K' hK => ?_)
              simp only [List.getElem_toArray, List.getElem_cons_zero, List.getElem_cons_succ]
              go_simp
              refine hK.out _ _ (Or.inl rfl) ?_
              clear hK K'
              try simp only [Act.put, List.getElem_toArray, List.getElem_cons_zero, List.getElem_cons_succ, List.setIfInBounds_toArray, List.set_cons_zero, List.set_cons_succ]
              refine wpAnyG_done (by kernel_rfl) ?_ _
              go_wp2_with fail
              go_roundw
              case rel =>
                have hN9 : (Value.slice a7 L9.length c7).ownBlock ≠ some w11.heap.size := fun e => by
                  have := (HL13.out.lt e).1
                  rw [World.size_drew] at this
                  omega
                have hm1 : ¬ w10.heap.size = w11.heap.size := by omega
                have hm2 : ¬ w10.heap.size + 1 = w11.heap.size := by omega
                refine ⟨_, i + 1, t9, v9, L9, a7, c7, rfl, by go_num, by omega, HT9, HF1, HOK9, ?_, ?_, ?_, ?_, ?_, ?_, ?_, ?_, ?_, ?_, hN9, ?_, ?_, ?_, ?_⟩
                any_goals (first | (simp [go_sem, ng_0, ng_1, ng_2, nd_0, nd_1, ns_0, ns_1, ns_2, nsf, hm1, hm2]; done) | (intro o; simp [go_sem, nsf]; done))
                · refine Fresh.mono (B := w12.drew.heap.size) ?_ (by rw [World.size_drew]; omega)
                  repeat (first | (with_reducible exact HL13.out) | (with_reducible refine Fresh.setNe ?_ hN9 _ _))
                · repeat (first | (with_reducible exact HG13.out) | (with_reducible refine FreshIn.setHi ?_ ?_ _; rotate_left; (show _ ≤ w11.heap.size; omega)))
                · repeat (first | (with_reducible exact HR13.out) | (with_reducible refine FreshIn.setHi ?_ ?_ _; rotate_left; (show _ ≤ w11.heap.size; omega)))
                · repeat (first | (with_reducible exact HB13.out) | (with_reducible refine Below.setCell ?_ ?_ _; rotate_left; (show _ ≤ w11.heap.size; omega)))
                · (try simp) <;> omega
              case measure => simp [intOf]; omega
            · have hlt' : ¬ (i : Int) < (R.length : Int) := by omega
              have HT9 : Hid (rcL (t, v, S) (R.take (i + 1)) = some (t1, v1, L1)) := by
                show _ = _
                rw [List.take_of_length_le (by omega), ← List.take_of_length_le (show R.length ≤ i by omega)]
                exact hT.out
              go_wp2_with fail
              go_roundw
              case rel => exact ⟨_, i + 1, t1, v1, L1, aL, cL, rfl, by go_num, by omega, HT9, HF1, hOK1, kg_0, kg_1, kg_2, kd_0, kd_1, ks_0, ks_1, ks_2, ksf, HL12.out, HNE.out, HG12.out, HR12.out, HB12.out, by omega⟩
              case measure => simp [intOf]; omega
        · have hle' : ¬ (i : Int) ≤ (R.length : Int) := by omega
          obtain rfl : f = true := hF.out (by have := HJ.out; omega)
          have HSV : Hid (sameV T V G T V G = .tuple #[.bool true, .int .i64 0]) := Lib.hid (by simp [sameV, HOKG.out])
          go_wp2_with fail
          refine (HRV2.out _).mono ?_
          rintro e w13 ⟨a13, c13, rfl, hf13, hb13⟩
          have hz13 := hb13.size
          have ng_0 : w13.cell? ⟨w10.heap.size, 0, none⟩ = some (.int .i64 T) := (hb13.cell (p := ⟨w10.heap.size, 0, none⟩) (by show w10.heap.size < wr.heap.size; omega)).trans g_0
          have ng_1 : w13.cell? ⟨w10.heap.size, 1, none⟩ = some (.int .i64 V) := (hb13.cell (p := ⟨w10.heap.size, 1, none⟩) (by show w10.heap.size < wr.heap.size; omega)).trans g_1
          have ng_2 : w13.cell? ⟨w10.heap.size, 2, none⟩ = some (.slice a10 G.length c10) := (hb13.cell (p := ⟨w10.heap.size, 2, none⟩) (by show w10.heap.size < wr.heap.size; omega)).trans g_2
          have yg_0 : ∀ x, (w13.alloc x).cell? ⟨w10.heap.size, 0, none⟩ = some (.int .i64 T) := fun x => by
            rw [World.cell?_alloc_lt _ _ _ (by show w10.heap.size < _; omega)]
            exact ng_0
          have yg_1 : ∀ x, (w13.alloc x).cell? ⟨w10.heap.size, 1, none⟩ = some (.int .i64 V) := fun x => by
            rw [World.cell?_alloc_lt _ _ _ (by show w10.heap.size < _; omega)]
            exact ng_1
          have yg_2 : ∀ x, (w13.alloc x).cell? ⟨w10.heap.size, 2, none⟩ = some (.slice a10 G.length c10) := fun x => by
            rw [World.cell?_alloc_lt _ _ _ (by show w10.heap.size < _; omega)]
            exact ng_2
          have HF13 := Lib.hid hf13.here
          have HG13 := Lib.hid (HGw.out.below hb13)
          have HB13 : Hid (Below w.heap.size w w13) := HBW.out.trans (hb13.mono hz)
          clear hf13 hb13 g_0 g_1 g_2 d_0 d_1 s_0 s_1 s_2
          have hz13a : ∀ x : Obj, w10.heap.size < (w13.alloc x).heap.size := fun x => by
            rw [World.size_alloc]
            omega
          have zg_0 : ∀ x y, ((w13.alloc x).alloc y).cell? ⟨w10.heap.size, 0, none⟩ = some (.int .i64 T) := fun x y => by
            rw [World.cell?_alloc_lt _ _ _ (hz13a x)]
            exact yg_0 x
          have zg_1 : ∀ x y, ((w13.alloc x).alloc y).cell? ⟨w10.heap.size, 1, none⟩ = some (.int .i64 V) := fun x y => by
            rw [World.cell?_alloc_lt _ _ _ (hz13a x)]
            exact yg_1 x
          have zg_2 : ∀ x y, ((w13.alloc x).alloc y).cell? ⟨w10.heap.size, 2, none⟩ = some (.slice a10 G.length c10) := fun x y => by
            rw [World.cell?_alloc_lt _ _ _ (hz13a x)]
            exact yg_2 x
          go_wp2_with fail
          refine (implSame_c a13 a10 c13 c10 G G T V T V _ (((HF13.out.alloc _).alloc _).sl fun _ => rfl) (((HG13.out.alloc _).alloc _).sl fun _ => rfl) (by omega) (by omega) HGs.out HGs.out).mono ?_
          rw [HSV.out]
          rintro e w14 ⟨rfl, hb14⟩
          have HB14 : Hid (Below w.heap.size w w14) := ((HB13.out.alloc (by omega) _).alloc (by rw [World.size_alloc]; omega) _).trans (hb14.mono (by rw [World.size_alloc, World.size_alloc]; omega))
          clear hb14
          go_wp2_with fail
          go_ret
          exact ⟨rfl, HB14.out⟩
end
end Go.Proofs.Ytmdjcoeijlnloaa
