/- Numbers in bytes, the most significant one first: impl.bigBytes, spec.l02Number, impl.bigNumber, spec.l02Of. No conditions but sizes. -/
import Derived.Test.YtckaccadgbcohaaOwn
import Derived.Test.YtckaccadgbcohaaTo
import Derived.Test.YtckaccadgbcohaaCrc
import Derived.OwnWalk
import Derived.Laws.IdiomStrings
import Derived.Laws.ShiftsVar
namespace Go.Proofs.Ytckaccadgbcohaa
set_option linter.unusedVariables false
set_option linter.unusedSimpArgs false
open Go.RowKit
def beB (n c j : Nat) : UInt8 := UInt8.ofNat (n / 256 ^ (c - 1 - j))
def be (n c : Nat) : List UInt8 := (List.range c).map (beB n c)
theorem be_length (n c : Nat) : (be n c).length = c := by simp [be]
theorem beB_toNat (n c j : Nat) : (beB n c j).toNat = n / 256 ^ (c - 1 - j) % 256 := by
  unfold beB
  rw [UInt8.toNat_ofNat']
theorem be_snoc (n c d : Nat) : (List.range (d + 1)).map (beB n c) = (List.range d).map (beB n c) ++ [beB n c d] := by simp [List.range_succ]
theorem sh8 (n q : Nat) : (n : Int) / 2 ^ (8 * q) % 256 = ((n / 256 ^ q % 256 : Nat) : Int) := by
  rw [show (2 : Int) ^ (8 * q) = ((256 ^ q : Nat) : Int) by rw [Int.natCast_pow, Int.pow_mul]; rfl]
  simp
def strOf (l : List UInt8) : ByteArray := ⟨l.toArray⟩
theorem be_len_le (n c d : Nat) : ((List.range c).map fun j => if c ≤ j + d then beB n c j else (0 : UInt8)).length = c := by simp
theorem be_set (n c d q : Nat) (h : d + q + 1 = c) : ((List.range c).map fun j => if c ≤ j + d then beB n c j else (0 : UInt8)).set q (beB n c q) = (List.range c).map fun j => if c ≤ j + (d + 1) then beB n c j else (0 : UInt8) := by
  apply List.ext_getElem
  · simp
  · intro j h1 h2
    simp only [List.length_set, List.length_map, List.length_range] at h1
    rw [List.getElem_set]
    by_cases e : q = j
    · subst e
      simp
      omega
    · rw [if_neg e]
      simp only [List.getElem_map, List.getElem_range]
      by_cases h3 : c ≤ j + d
      · rw [if_pos h3, if_pos (by omega)]
      · rw [if_neg h3, if_neg (by omega)]
theorem be_done (n c : Nat) : ((List.range c).map fun j => if c ≤ j + c then beB n c j else (0 : UInt8)) = be n c := by
  unfold be
  apply List.map_congr_left
  intro j _
  rw [if_pos (by omega)]
theorem be_zero (n c : Nat) : ((List.range c).map fun j => if c ≤ j + 0 then beB n c j else (0 : UInt8)) = List.replicate c 0 := by
  apply List.ext_getElem
  · simp
  · intro j h1 h2
    simp only [List.length_map, List.length_range] at h1
    simp
    omega
def bn (l : List UInt8) : Nat := l.foldl (fun n b => n * 256 + b.toNat) 0
theorem bn_snoc (l : List UInt8) (b : UInt8) : bn (l ++ [b]) = bn l * 256 + b.toNat := by simp [bn]
theorem bn_lt' (l : List UInt8) : ∀ n, l.foldl (fun n b => n * 256 + b.toNat) n < (n + 1) * 256 ^ l.length := by
  induction l with
  | nil => intro n; simp
  | cons b l ih =>
    intro n
    have h1 := ih (n * 256 + b.toNat)
    have h2 := b.toNat_lt
    refine Nat.lt_of_lt_of_le h1 ?_
    rw [List.length_cons, Nat.pow_succ, Nat.mul_comm (256 ^ l.length) 256, ← Nat.mul_assoc]
    exact Nat.mul_le_mul_right _ (by omega)
theorem bn_lt (l : List UInt8) : bn l < 256 ^ l.length := by have := bn_lt' l 0; rw [Nat.zero_add, Nat.one_mul] at this; exact this
theorem bn_lt6 (l : List UInt8) (h : l.length ≤ 5) : bn l < 1099511627776 := Nat.lt_of_lt_of_le (bn_lt l) (Nat.le_trans (Nat.pow_le_pow_right (by omega) h) (by decide))
set_option maxHeartbeats 1000000 in
theorem l02Of_c (s : ByteArray) (w : World) (hs : s.size ≤ 5) :
    Calls Try.prog 93 #[.string s] w fun e w' => e = .returned (.int .i64 (bn s.data.toList)) ∧ w = w' := by
  go_enter Try.func93, Try.ntmps93
  go_wp2_with fail
  go_loop [3, 4] (fun n i => ∃ k : Nat, k ≤ s.size ∧ i = .int .i64 k ∧ n = .int .i64 (bn (s.data.toList.take k))) (fun _ i => s.size - (intOf i).toNat)
  case atStart => exact ⟨0, Nat.zero_le _, rfl, rfl⟩
  case round =>
    obtain ⟨k, hk, rfl, rfl⟩ := hrel
    have hl := bn_lt6 (s.data.toList.take k) (by simp; omega)
    by_cases hlt : k < s.size
    · have hb := s[k].toNat_lt
      have hsn : bn (s.data.toList.take (k + 1)) = bn (s.data.toList.take k) * 256 + s[k].toNat := by rw [take_snocB _ _ (by simpa using hlt), bn_snoc]; rfl
      have HS := Lib.hid hsn
      clear hsn
      generalize bn (s.data.toList.take k) = R at *
      go_wp2_with fail
      go_round
      case rel => exact ⟨k + 1, by omega, by go_num, by rw [HS.out]; go_num⟩
      case measure => simp [intOf]; omega
    · obtain rfl : k = s.size := by omega
      have ht : s.data.toList.take s.size = s.data.toList := List.take_of_length_le (by simp)
      rw [ht] at hl ⊢
      clear ht
      go_wp2_with fail
      go_ret
      exact ⟨rfl, rfl⟩
theorem i64_or8 (n b : Nat) (hn : n < 1099511627776) (hb : b < 256) : bits .or .i64 ((n : Int) * 256) (b : Int) = ((n * 256 + b : Nat) : Int) := by
  have h1 : (BitVec.ofInt 64 ((n : Int) * 256)).toNat = n * 256 := by
    rw [show ((n : Int) * 256) = ((n * 256 : Nat) : Int) by omega, BitVec.ofInt_natCast, BitVec.toNat_ofNat]; exact Nat.mod_eq_of_lt (by omega)
  have h2 : (BitVec.ofInt 64 (b : Int)).toNat = b := by rw [BitVec.ofInt_natCast, BitVec.toNat_ofNat]; exact Nat.mod_eq_of_lt (by omega)
  show IntKind.i64.wrap ((BitVec.ofInt 64 ((n : Int) * 256) ||| BitVec.ofInt 64 (b : Int)).toNat : Int) = _
  rw [BitVec.toNat_or, h1, h2, show n * 256 ||| b = n * 256 + b from nat_join 8 _ _ (by omega) (by omega)]
  exact IntWalk.i64_in _ (by omega)
set_option maxHeartbeats 1000000 in
theorem bigNumber_c (s : ByteArray) (w : World) (hs : s.size ≤ 5) :
    Calls Try.prog 111 #[.string s] w fun e w' => e = .returned (.int .i64 (bn s.data.toList)) ∧ w = w' := by
  go_enter Try.func111, Try.ntmps111
  go_wp2_with fail
  go_loop [3, 4, 7] (fun n _ i => ∃ k : Nat, k ≤ s.size ∧ i = .int .i64 k ∧ n = .int .i64 (bn (s.data.toList.take k))) (fun _ _ i => s.size - (intOf i).toNat)
  case atStart => exact ⟨0, Nat.zero_le _, rfl, rfl⟩
  case round =>
    obtain ⟨k, hk, rfl, rfl⟩ := hrel
    have hl := bn_lt6 (s.data.toList.take k) (by simp; omega)
    by_cases hlt : k < s.size
    · have hb := s[k].toNat_lt
      have hsn : bn (s.data.toList.take (k + 1)) = bn (s.data.toList.take k) * 256 + s[k].toNat := by rw [take_snocB _ _ (by simpa using hlt), bn_snoc]; rfl
      have HS := Lib.hid hsn
      clear hsn
      generalize bn (s.data.toList.take k) = R at *
      have hor : bits .or .i64 ((R : Int) * 256) (s[k].toNat : Int) = ((R * 256 + s[k].toNat : Nat) : Int) := i64_or8 R _ hl (by omega)
      go_wp2_with fail
      go_round
      case rel => exact ⟨k + 1, by omega, by go_num, by rw [HS.out]; try go_num⟩
      case measure => simp [intOf]; omega
    · obtain rfl : k = s.size := by omega
      have ht : s.data.toList.take s.size = s.data.toList := List.take_of_length_le (by simp)
      rw [ht] at hl ⊢
      clear ht
      go_wp2_with fail
      go_ret
      exact ⟨rfl, rfl⟩
end Go.Proofs.Ytckaccadgbcohaa
