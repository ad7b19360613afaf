/- Numbers in bytes, the most significant one first: impl.bigBytes, spec.l02Number, impl.bigNumber, spec.l02Of. No conditions but sizes. -/
import Derived.Test.YtmdjcoeijlnloaaOwn
import Derived.Test.YtmdjcoeijlnloaaTo
import Derived.Test.YtmdjcoeijlnloaaCrc
import Derived.OwnWalk
import Derived.Laws.IdiomStrings
import Derived.Laws.ShiftsVar
namespace Go.Proofs.Ytmdjcoeijlnloaa
set_option linter.unusedVariables false
set_option linter.unusedSimpArgs false
open Go.RowKit
def beB (n c j : Nat) : UInt8 := UInt8.ofNat (n / 256 ^ (c - 1 - j))
def be (n c : Nat) : List UInt8 := (List.range c).map (beB n c)
theorem be_length (n c : Nat) : (be n c).length = c := by simp [be]
theorem beB_toNat (n c j : Nat) : (beB n c j).toNat = n / 256 ^ (c - 1 - j) % 256 := by
  unfold beB
  rw [UInt8.toNat_ofNat']
theorem be_snoc (n c d : Nat) : (List.range (d + 1)).map (beB n c) = (List.range d).map (beB n c) ++ [beB n c d] := by simp [List.range_succ]
theorem sh8 (n q : Nat) : (n : Int) / 2 ^ (8 * q) % 256 = ((n / 256 ^ q % 256 : Nat) : Int) := by
  rw [show (2 : Int) ^ (8 * q) = ((256 ^ q : Nat) : Int) by rw [Int.natCast_pow, Int.pow_mul]; rfl]
  simp
def strOf (l : List UInt8) : ByteArray := ⟨l.toArray⟩
set_option maxRecDepth 100000 in
set_option maxHeartbeats 1000000 in
theorem l02Number_c (n c : Nat) (w : World) (hn : n ≤ 1099511627776) (hc : 1 ≤ c ∧ c ≤ 8) :
    Calls Try.prog 162 #[.int .i64 n, .int .i64 c] w (FreshR byteE 5 1 w (be n c)) := by
  obtain ⟨i0, hi, hz0, hz1, hz2⟩ := info_parts Try.infoByte
  obtain ⟨hc1, hc2⟩ := hc
  go_enter Try.func162, Try.ntmps162
  go_wp2_with fail
  go_loopw [5, 6] (fun v i wr => ∃ d : Nat, d ≤ c ∧ i = .int .i64 ((c : Int) - 1 - d) ∧ Fresh byteE 5 1 w.heap.size v ((List.range d).map (beB n c)) wr ∧ Below w.heap.size w wr) (fun _ i _ => (intOf i + 1).toNat)
  case atStart => exact ⟨0, Nat.zero_le _, by go_num, Fresh.of_own (World.ownsRow_made _ #[] 0 (Nat.le_refl _) (by decide) rfl) rfl rfl, (by repeat (first | exact Below.refl _ _ | (refine Below.alloc ?_ (by (try simp) <;> (try omega)) _) | (refine Below.setCell ?_ (by (try simp) <;> (try omega)) _) | (refine Below.drew ?_) | (refine Below.trans ?_ (Below.mono (by assumption) (by (try simp) <;> (try omega))))))⟩
  case round =>
    obtain ⟨d, hd, rfl, ⟨av, cv, rfl, hcv, ho⟩, hbel⟩ := hrel
    have hLl : ((List.range d).map (beB n c)).length ≤ d := by simp
    have hL := Lib.hid (be_snoc n c d)
    generalize hL0 : (List.range d).map (beB n c) = L at *
    have HL0 := Lib.hid hL0
    clear hL0
    by_cases hlt : d < c
    · obtain ⟨q, hq⟩ : ∃ q, d + q + 1 = c := ⟨c - (d + 1), by omega⟩
      have hq8 : q ≤ 7 := by omega
      have e1 : (c : Int) - 1 - (d : Int) = (q : Int) := by omega
      rw [e1]
      have HQ := Lib.hid hq
      clear e1 hq
      have HO := Lib.hid ho
      go_wp2_with (at_builtin; refine wpList_append_own _ rfl _ _ 41 rfl w.heap.size 5 i0 (.int .u8 0) 1 1 Try.underlying41 hi hz0 hz1 hz2 rfl (by decide) _ _ _ rfl (ho.alloc _) ⟨wr.heap.size, 0, none⟩ 1 1 [.int .u8 ((n : Int) / 2 ^ (8 * q) % 256)] rfl rfl ?c1 ?c2 ?c3 ?c4 ?c5 ?_)
      case c1 => intro j u hu; match j, hu with | 0, hu => simp at hu; subst hu; simp [Addr.add]
      case c2 => simp [Value.oneCell']
      case c3 => unfold maxLen; omega
      case c4 => omega
      case c5 => have := hbel.size; simp; omega
      intro v' w1 hown1 hgrow _
      have hb1' : Below w.heap.size w w1 := (hbel.alloc hbel.size _).grown hgrow (by have := hbel.size; simp; omega) (fun k hk => (HO.out.lt k hk).1)
      have hf : Fresh byteE 5 1 w.heap.size v' ((List.range (d + 1)).map (beB n c)) w1 := by
        rw [hL.out]
        refine Fresh.of_own hown1 (by simp) ?_
        simp only [List.flatMap_append, List.flatMap_cons, List.flatMap_nil, List.append_nil, byteE, beB_toNat]
        rw [show c - 1 - d = q by have := HQ.out; omega, sh8]
      clear hown1 hgrow ho
      have HF := Lib.hid hf
      clear hf
      go_wp2_with fail
      go_roundw
      case rel => exact ⟨d + 1, by omega, by congr 1; have := HQ.out; omega, HF.out, hb1'⟩
      case measure => simp [intOf]
    · obtain rfl : d = c := by omega
      have HO := Lib.hid ho
      have e1 : (d : Int) - 1 - (d : Int) = -1 := by omega
      rw [e1]
      clear ho e1
      go_wp2_with fail
      go_ret
      exact ⟨_, rfl, Fresh.of_own HO.out (by rw [← HL0.out]; rfl) (by rw [← HL0.out]; rfl), hbel⟩
theorem be_len_le (n c d : Nat) : ((List.range c).map fun j => if c ≤ j + d then beB n c j else (0 : UInt8)).length = c := by simp
theorem be_set (n c d q : Nat) (h : d + q + 1 = c) : ((List.range c).map fun j => if c ≤ j + d then beB n c j else (0 : UInt8)).set q (beB n c q) = (List.range c).map fun j => if c ≤ j + (d + 1) then beB n c j else (0 : UInt8) := by
  apply List.ext_getElem
  · simp
  · intro j h1 h2
    simp only [List.length_set, List.length_map, List.length_range] at h1
    rw [List.getElem_set]
    by_cases e : q = j
    · subst e
      simp
      omega
    · rw [if_neg e]
      simp only [List.getElem_map, List.getElem_range]
      by_cases h3 : c ≤ j + d
      · rw [if_pos h3, if_pos (by omega)]
      · rw [if_neg h3, if_neg (by omega)]
theorem be_done (n c : Nat) : ((List.range c).map fun j => if c ≤ j + c then beB n c j else (0 : UInt8)) = be n c := by
  unfold be
  apply List.map_congr_left
  intro j _
  rw [if_pos (by omega)]
theorem be_zero (n c : Nat) : ((List.range c).map fun j => if c ≤ j + 0 then beB n c j else (0 : UInt8)) = List.replicate c 0 := by
  apply List.ext_getElem
  · simp
  · intro j h1 h2
    simp only [List.length_map, List.length_range] at h1
    simp
    omega
set_option maxRecDepth 100000 in
set_option maxHeartbeats 1000000 in
theorem bigBytes_c (n c : Nat) (w : World) (hn : n ≤ 1099511627776) (hc : 1 ≤ c ∧ c ≤ 8) :
    Calls Try.prog 164 #[.int .i64 n, .int .i64 c] w fun e w' => e = .returned (.string (strOf (be n c))) ∧ Below w.heap.size w w' := by
  obtain ⟨i0, hi, hz0, hz1, hz2⟩ := info_parts Try.infoByte
  obtain ⟨hc1, hc2⟩ := hc
  go_enter Try.func164, Try.ntmps164
  go_wp2_with (at_make; refine wpList_make_full _ rfl _ _ 41 rfl w.heap.size 5 i0 (.int .u8 0) 1 Try.underlying41 hi hz0 hz1 .i64 .i64 _ _ c rfl rfl rfl rfl ?c1 ?c2 ?c3 ?_)
  case c1 => rw [hz2]; omega
  case c2 => unfold maxLen; omega
  case c3 => exact Nat.le_refl _
  intro w1 hown hg
  have hm := madeCells_flat byteE 1 (0 : UInt8) #[.int .u8 0] rfl (fun _ => rfl) c
  have hown2 : w1.ownsRow w.heap.size 5 1 (.slice (some ⟨w.heap.size, 0, none⟩) c c) c ((List.replicate c (0 : UInt8)).flatMap byteE) := by rw [← hm, Nat.mul_one]; exact hown
  have HOW := Lib.hid hown2
  clear hm hown hown2
  go_wp2_with fail
  go_loopw [0, 6] (fun m i wr => ∃ d : Nat, d ≤ c ∧ i = .int .i64 ((c : Int) - 1 - d) ∧ m = .int .i64 ((n / 256 ^ d : Nat)) ∧ wr.ownsRow w.heap.size 5 1 (.slice (some ⟨w.heap.size, 0, none⟩) c c) c (((List.range c).map fun j => if c ≤ j + d then beB n c j else (0 : UInt8)).flatMap byteE) ∧ Below w.heap.size w wr) (fun _ i _ => (intOf i + 1).toNat)
  case atStart => exact ⟨0, Nat.zero_le _, by go_num, by simp, by rw [be_zero]; exact HOW.out, (Below.refl _ _).grown hg (Nat.le_refl _) (by simp)⟩
  case round =>
    obtain ⟨d, hd, rfl, rfl, ho, hbel⟩ := hrel
    have hnd : n / 256 ^ d ≤ n := Nat.div_le_self _ _
    have hst := fun q h => Lib.hid (be_set n c d q h)
    have hne : Hid (n / 256 ^ (d + 1) = n / 256 ^ d / 256) := by rw [Nat.pow_succ, Nat.div_div_eq_div_mul]; rfl
    by_cases hlt : d < c
    · obtain ⟨q, hq⟩ : ∃ q, d + q + 1 = c := ⟨c - (d + 1), by omega⟩
      have HST := hst q hq
      have hbv : Hid (.int .u8 (((n / 256 ^ d : Nat) : Int) % 256) = Value.int .u8 ((beB n c q).toNat : Int)) := by
        show _ = _
        rw [beB_toNat, show c - 1 - q = d by omega]
        simp
      have hq8 : q ≤ 7 := by omega
      have hqc : q < c := by omega
      have e1 : (c : Int) - 1 - (d : Int) = (q : Int) := by omega
      rw [e1]
      have f1 := ho.frozenAt q
      have c2 := ho.cellAt q (by omega)
      have hL : (((List.range c).map fun j => if c ≤ j + d then beB n c j else (0 : UInt8)).flatMap byteE).length = c := by rw [flat_length byteE 1 (fun _ => rfl)]; simp
      have HL := Lib.hid (be_len_le n c d)
      have HO := Lib.hid ho
      have c3 : ∃ v, w = w ∧ wr.cell? ⟨w.heap.size, q, none⟩ = some v := by
        rw [c2]
        exact ⟨_, rfl, List.getElem?_eq_getElem (by rw [hL]; exact hqc)⟩
      obtain ⟨v, _, c3⟩ := c3
      have HQ := Lib.hid hq
      clear hL c2 ho e1 hq hst
      generalize n / 256 ^ d = m at *
      go_wp2_with fail
      go_roundw
      case rel =>
        have hs := HO.out.stored q (.int .u8 ((m : Int) % 256))
        rw [hbv.out, flat_set1 byteE (fun _ => rfl) _ q (by rw [HL.out]; exact hqc) (beB n c q) _ rfl, HST.out] at hs
        exact ⟨d + 1, by omega, by congr 1; have := HQ.out; omega, by rw [hne.out]; go_num, by first | exact hs.1 | (rw [hbv.out]; exact hs.1), hbel.setCell (Nat.le_refl _) _⟩
      case measure => simp [intOf]
    · obtain rfl : d = c := by omega
      have HO := Lib.hid ho
      have e1 : (d : Int) - 1 - (d : Int) = -1 := by omega
      have hsl : Sl byteE 1 wr (some ⟨w.heap.size, 0, none⟩) (be n d) := by
        rw [be_done] at ho
        refine Sl.of_own (n := d) (fun _ => rfl) (e := 5) (base := w.heap.size) (cap := d) ?_
        rw [be_length]
        exact ho
      rw [e1]
      have hconv : (convert 41 9 (.slice (some ⟨w.heap.size, 0, none⟩) d d)).run Try.prog wr = .ok (.string (strOf (be n d))) wr := by
        have := run_convert_bytes_back (P := Try.prog) wr 41 9 5 ⟨w.heap.size, 0, none⟩ d (be n d) Try.underlying41 Try.underlying5 Try.underlying9 (fun j hj => ?_)
        · rw [be_length] at this
          exact this
        · obtain ⟨b, off, hb, _, h2⟩ := hsl.at hj
          cases hb
          have := h2 j hj 0 (by omega)
          simpa [byteE, Addr.add_lit] using this
      clear ho e1 hst hsl hne
      go_wp2_with fail
      go_ret
      exact ⟨rfl, hbel⟩
def bn (l : List UInt8) : Nat := l.foldl (fun n b => n * 256 + b.toNat) 0
theorem bn_snoc (l : List UInt8) (b : UInt8) : bn (l ++ [b]) = bn l * 256 + b.toNat := by simp [bn]
theorem bn_lt' (l : List UInt8) : ∀ n, l.foldl (fun n b => n * 256 + b.toNat) n < (n + 1) * 256 ^ l.length := by
  induction l with
  | nil => intro n; simp
  | cons b l ih =>
    intro n
    have h1 := ih (n * 256 + b.toNat)
    have h2 := b.toNat_lt
    refine Nat.lt_of_lt_of_le h1 ?_
    rw [List.length_cons, Nat.pow_succ, Nat.mul_comm (256 ^ l.length) 256, ← Nat.mul_assoc]
    exact Nat.mul_le_mul_right _ (by omega)
theorem bn_lt (l : List UInt8) : bn l < 256 ^ l.length := by have := bn_lt' l 0; rw [Nat.zero_add, Nat.one_mul] at this; exact this
theorem bn_lt6 (l : List UInt8) (h : l.length ≤ 5) : bn l < 1099511627776 := Nat.lt_of_lt_of_le (bn_lt l) (Nat.le_trans (Nat.pow_le_pow_right (by omega) h) (by decide))
set_option maxHeartbeats 1000000 in
theorem l02Of_c (s : ByteArray) (w : World) (hs : s.size ≤ 5) :
    Calls Try.prog 165 #[.string s] w fun e w' => e = .returned (.int .i64 (bn s.data.toList)) ∧ w = w' := by
  go_enter Try.func165, Try.ntmps165
  go_wp2_with fail
  go_loop [3, 4] (fun n i => ∃ k : Nat, k ≤ s.size ∧ i = .int .i64 k ∧ n = .int .i64 (bn (s.data.toList.take k))) (fun _ i => s.size - (intOf i).toNat)
  case atStart => exact ⟨0, Nat.zero_le _, rfl, rfl⟩
  case round =>
    obtain ⟨k, hk, rfl, rfl⟩ := hrel
    have hl := bn_lt6 (s.data.toList.take k) (by simp; omega)
    by_cases hlt : k < s.size
    · have hb := s[k].toNat_lt
      have hsn : bn (s.data.toList.take (k + 1)) = bn (s.data.toList.take k) * 256 + s[k].toNat := by rw [take_snocB _ _ (by simpa using hlt), bn_snoc]; rfl
      have HS := Lib.hid hsn
      clear hsn
      generalize bn (s.data.toList.take k) = R at *
      go_wp2_with fail
      go_round
      case rel => exact ⟨k + 1, by omega, by go_num, by rw [HS.out]; go_num⟩
      case measure => simp [intOf]; omega
    · obtain rfl : k = s.size := by omega
      have ht : s.data.toList.take s.size = s.data.toList := List.take_of_length_le (by simp)
      rw [ht] at hl ⊢
      clear ht
      go_wp2_with fail
      go_ret
      exact ⟨rfl, rfl⟩
theorem i64_or8 (n b : Nat) (hn : n < 1099511627776) (hb : b < 256) : bits .or .i64 ((n : Int) * 256) (b : Int) = ((n * 256 + b : Nat) : Int) := by
  have h1 : (BitVec.ofInt 64 ((n : Int) * 256)).toNat = n * 256 := by
    rw [show ((n : Int) * 256) = ((n * 256 : Nat) : Int) by omega, BitVec.ofInt_natCast, BitVec.toNat_ofNat]; exact Nat.mod_eq_of_lt (by omega)
  have h2 : (BitVec.ofInt 64 (b : Int)).toNat = b := by rw [BitVec.ofInt_natCast, BitVec.toNat_ofNat]; exact Nat.mod_eq_of_lt (by omega)
  show IntKind.i64.wrap ((BitVec.ofInt 64 ((n : Int) * 256) ||| BitVec.ofInt 64 (b : Int)).toNat : Int) = _
  rw [BitVec.toNat_or, h1, h2, show n * 256 ||| b = n * 256 + b from nat_join 8 _ _ (by omega) (by omega)]
  exact IntWalk.i64_in _ (by omega)
set_option maxHeartbeats 1000000 in
theorem bigNumber_c (s : ByteArray) (w : World) (hs : s.size ≤ 5) :
    Calls Try.prog 167 #[.string s] w fun e w' => e = .returned (.int .i64 (bn s.data.toList)) ∧ w = w' := by
  go_enter Try.func167, Try.ntmps167
  go_wp2_with fail
  go_loop [3, 4, 7] (fun n _ i => ∃ k : Nat, k ≤ s.size ∧ i = .int .i64 k ∧ n = .int .i64 (bn (s.data.toList.take k))) (fun _ _ i => s.size - (intOf i).toNat)
  case atStart => exact ⟨0, Nat.zero_le _, rfl, rfl⟩
  case round =>
    obtain ⟨k, hk, rfl, rfl⟩ := hrel
    have hl := bn_lt6 (s.data.toList.take k) (by simp; omega)
    by_cases hlt : k < s.size
    · have hb := s[k].toNat_lt
      have hsn : bn (s.data.toList.take (k + 1)) = bn (s.data.toList.take k) * 256 + s[k].toNat := by rw [take_snocB _ _ (by simpa using hlt), bn_snoc]; rfl
      have HS := Lib.hid hsn
      clear hsn
      generalize bn (s.data.toList.take k) = R at *
      have hor : bits .or .i64 ((R : Int) * 256) (s[k].toNat : Int) = ((R * 256 + s[k].toNat : Nat) : Int) := i64_or8 R _ hl (by omega)
      go_wp2_with fail
      go_round
      case rel => exact ⟨k + 1, by omega, by go_num, by rw [HS.out]; try go_num⟩
      case measure => simp [intOf]; omega
    · obtain rfl : k = s.size := by omega
      have ht : s.data.toList.take s.size = s.data.toList := List.take_of_length_le (by simp)
      rw [ht] at hl ⊢
      clear ht
      go_wp2_with fail
      go_ret
      exact ⟨rfl, rfl⟩
end Go.Proofs.Ytmdjcoeijlnloaa
