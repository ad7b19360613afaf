/- The check sum of 32 bits: impl.check32 and spec.l01Check compute the same number of the same bytes. No conditions. -/
import Derived.Test.YtckaccadgbcohaaScalar
import Derived.Test.YtckaccadgbcohaaSl
import Derived.Lib.Hide
import Derived.Laws.BitsAllLaws
import Derived.Laws.Bits64
namespace Go.Proofs.Ytckaccadgbcohaa
set_option linter.unusedVariables false
set_option linter.unusedSimpArgs false
open Go.RowKit
def crcStep (n : Nat) : Nat := if n % 2 = 1 then (n / 2) ^^^ 3988292384 else n / 2
def crcIt : Nat → Nat → Nat
  | 0, n => n
  | k + 1, n => crcIt k (crcStep n)
def crcByte (n : Nat) (b : UInt8) : Nat := crcIt 8 (n ^^^ b.toNat)
def crcRaw (l : List UInt8) : Nat := l.foldl crcByte 4294967295
def crc (l : List UInt8) : Nat := crcRaw l ^^^ 4294967295
theorem xor_lt32 {a b : Nat} (ha : a < 4294967296) (hb : b < 4294967296) : a ^^^ b < 4294967296 := Nat.xor_lt_two_pow (n := 32) (by omega) (by omega)
theorem crcStep_lt {n : Nat} (h : n < 4294967296) : crcStep n < 4294967296 := by
  unfold crcStep
  split
  · exact xor_lt32 (by omega) (by omega)
  · omega
theorem crcIt_lt : ∀ (k n : Nat), n < 4294967296 → crcIt k n < 4294967296
  | 0, _, h => h
  | k + 1, _, h => crcIt_lt k _ (crcStep_lt h)
theorem crcByte_lt {n : Nat} (b : UInt8) (h : n < 4294967296) : crcByte n b < 4294967296 := crcIt_lt 8 _ (xor_lt32 h (by have := b.toNat_lt; omega))
theorem crcRaw_snoc (l : List UInt8) (b : UInt8) : crcRaw (l ++ [b]) = crcByte (crcRaw l) b := by simp [crcRaw]
theorem crcFold_lt (l : List UInt8) : ∀ n, n < 4294967296 → l.foldl crcByte n < 4294967296 := by
  induction l with
  | nil => exact fun n h => h
  | cons b l ih => exact fun n h => ih _ (crcByte_lt b h)
theorem crcRaw_lt (l : List UInt8) : crcRaw l < 4294967296 := crcFold_lt l _ (by omega)
theorem crc_lt (l : List UInt8) : crc l < 4294967296 := xor_lt32 (crcRaw_lt l) (by omega)
theorem take_snocB (l : List UInt8) (k : Nat) (h : k < l.length) : l.take (k + 1) = l.take k ++ [l[k]] := List.take_succ_eq_append_getElem h
theorem i64_xor_nat (a b : Nat) (ha : a < 4294967296) (hb : b < 4294967296) : bits .xor .i64 (a : Int) (b : Int) = ((a ^^^ b : Nat) : Int) := by
  have hx : a ^^^ b < 4294967296 := xor_lt32 ha hb
  have h1 : (BitVec.ofInt 64 (a : Int)).toNat = a := by rw [BitVec.ofInt_natCast, BitVec.toNat_ofNat]; exact Nat.mod_eq_of_lt (by omega)
  have h2 : (BitVec.ofInt 64 (b : Int)).toNat = b := by rw [BitVec.ofInt_natCast, BitVec.toNat_ofNat]; exact Nat.mod_eq_of_lt (by omega)
  show IntKind.i64.wrap ((BitVec.ofInt 64 (a : Int) ^^^ BitVec.ofInt 64 (b : Int)).toNat : Int) = _
  rw [BitVec.toNat_xor, h1, h2]
  exact IntWalk.i64_in _ (by omega)
theorem ret_in {n : Int} (h : -9223372036854775808 ≤ n ∧ n ≤ 9223372036854775807) : Ending.returned (.int .i64 (wrap64 n)) = .returned (.int .i64 n) := by
  rw [IntWalk.wrap64_in n ⟨by omega, by omega⟩]
set_option maxHeartbeats 1000000 in
theorem check32_c (s : ByteArray) (w : World) (hs : s.size ≤ 1099511627776) :
    Calls Try.prog 112 #[.string s] w fun e w' => e = .returned (.int .i64 (crc s.data.toList)) ∧ w = w' := by
  go_enter Try.func112, Try.ntmps112
  go_wp2_with fail
  go_loop [3, 5, 8] (fun r _ i => ∃ k : Nat, k ≤ s.size ∧ i = .int .i64 k ∧ r = .int .u32 (crcRaw (s.data.toList.take k))) (fun _ _ i => s.size - (intOf i).toNat)
  case atStart => exact ⟨0, Nat.zero_le _, rfl, rfl⟩
  case round =>
    obtain ⟨k, hk, rfl, rfl⟩ := hrel
    have hl := crcRaw_lt (s.data.toList.take k)
    by_cases hlt : k < s.size
    · have hb := s[k].toNat_lt
      have hsn : crcRaw (s.data.toList.take (k + 1)) = crcByte (crcRaw (s.data.toList.take k)) s[k] := by rw [take_snocB _ _ (by simpa using hlt), crcRaw_snoc]; rfl
      have HS := Lib.hid hsn
      clear hsn
      generalize crcRaw (s.data.toList.take k) = R at *
      have hx : bits .xor .u32 (R : Int) (s[k].toNat : Int) = ((R ^^^ s[k].toNat : Nat) : Int) := u32_xor_nat _ _ hl (by omega)
      have hx1 : R ^^^ s[k].toNat < 4294967296 := xor_lt32 hl (by omega)
      have HT : Hid (crcRaw (s.data.toList.take (k + 1)) = crcIt 8 (R ^^^ s[k].toNat)) := HS.out
      clear HS
      go_wp2_with fail
      generalize R ^^^ s[k].toNat = X at *
      clear hx
      go_loop [3, 5, 17] (fun r _ j => ∃ j' n : Nat, j' ≤ 8 ∧ n < 4294967296 ∧ j = .int .i64 j' ∧ r = .int .u32 n ∧ Hid (crcRaw (s.data.toList.take (k + 1)) = crcIt (8 - j') n)) (fun _ _ j => 8 - (intOf j).toNat)
      case atStart => exact ⟨0, X, by omega, hx1, rfl, rfl, HT⟩
      case round =>
        obtain ⟨j, n, hj, hn, rfl, rfl, HN⟩ := hrel
        by_cases hj8 : j < 8
        · have hx : bits .xor .u32 ((n : Int) / 2) (3988292384 : Int) = (((n / 2) ^^^ 3988292384 : Nat) : Int) := u32_xor_nat (n / 2) 3988292384 (by omega) (by omega)
          have ha : bits .and .u32 (n : Int) (1 : Int) = ((n % 2 : Nat) : Int) := by rw [← nat_mask1]; exact u32_and_nat n 1 hn (by omega)
          have hnext : crcIt (8 - j) n = crcIt (8 - (j + 1)) (crcStep n) := by
            rw [show 8 - j = (8 - (j + 1)) + 1 by omega]; rfl
          have HN2 : Hid (crcRaw (s.data.toList.take (k + 1)) = crcIt (8 - (j + 1)) (crcStep n)) := HN.out.trans hnext
          have HX : Hid (crcStep n = if n % 2 = 1 then (n / 2) ^^^ 3988292384 else n / 2) := rfl
          have hlt2 := crcStep_lt hn
          clear hnext
          generalize crcStep n = m at *
          go_wp2_with fail
          all_goals
            go_round
            case rel =>
              have hm := HX.out
              by_cases ho : n % 2 = 1
              · rw [if_pos ho] at hm
                exact ⟨j + 1, m, by omega, hlt2, by go_num, by first | (rw [hm]; done) | (exfalso; simp at *; omega), HN2⟩
              · rw [if_neg ho] at hm
                exact ⟨j + 1, m, by omega, hlt2, by go_num, by first | (rw [hm]; rfl) | (exfalso; simp at *; omega), HN2⟩
            case measure => simp [intOf]; omega
        · obtain rfl : j = 8 := by omega
          go_wp2_with fail
          go_round
          case rel => exact ⟨k + 1, by omega, by go_num, by rw [HN.out]; rfl⟩
          case measure => simp [intOf]; omega
    · obtain rfl : k = s.size := by omega
      have ht : s.data.toList.take s.size = s.data.toList := List.take_of_length_le (by simp)
      rw [ht] at hl ⊢
      clear ht
      have hx2 : bits .xor .u32 IntKind.u32.max (crcRaw s.data.toList : Int) = ((crc s.data.toList : Nat) : Int) := by
        rw [show IntKind.u32.max = ((4294967295 : Nat) : Int) from rfl, u32_xor_nat _ _ (by omega) hl, Nat.xor_comm]; rfl
      have hl2 := crc_lt s.data.toList
      go_wp2_with fail
      go_ret
      exact ⟨ret_in (by omega), rfl⟩
set_option maxHeartbeats 1000000 in
theorem l01Check_c (a : Option Addr) (ca : Nat) (xs : List UInt8) (w : World) (ha : Sl byteE 1 w a xs) (la : xs.length ≤ 1099511627776) :
    Calls Try.prog 94 #[.slice a xs.length ca] w fun e w' => e = .returned (.int .i64 (crc xs)) ∧ w = w' := by
  go_enter Try.func94, Try.ntmps94
  go_wp2_with fail
  go_loop [3, 4, 5] (fun r i _ => ∃ k : Nat, k ≤ xs.length ∧ i = .int .i64 k ∧ r = .int .i64 (crcRaw (xs.take k))) (fun _ i _ => xs.length - (intOf i).toNat)
  case atStart => exact ⟨0, Nat.zero_le _, rfl, rfl⟩
  case round =>
    obtain ⟨k, hk, rfl, rfl⟩ := hrel
    have hl := crcRaw_lt (xs.take k)
    by_cases hlt : k < xs.length
    · have hb := xs[k].toNat_lt
      obtain ⟨b1, o1, rfl, hb1, hc1⟩ := ha.at hlt
      have c1 := hc1 k hlt 0 (by omega)
      simp only [byteE, Nat.mul_one, Nat.add_zero, List.getElem?_cons_zero] at c1
      clear hc1
      have hsn : crcRaw (xs.take (k + 1)) = crcByte (crcRaw (xs.take k)) xs[k] := by rw [take_snocB _ _ hlt, crcRaw_snoc]
      have HS := Lib.hid hsn
      clear hsn
      generalize crcRaw (xs.take k) = R at *
      have hx : bits .xor .i64 (R : Int) (xs[k].toNat : Int) = ((R ^^^ xs[k].toNat : Nat) : Int) := i64_xor_nat _ _ hl (by omega)
      have hx1 : R ^^^ xs[k].toNat < 4294967296 := xor_lt32 hl (by omega)
      have HT : Hid (crcRaw (xs.take (k + 1)) = crcIt 8 (R ^^^ xs[k].toNat)) := HS.out
      clear HS
      go_wp2_with fail
      generalize R ^^^ xs[k].toNat = X at *
      clear hx
      go_loop [3, 5] (fun r j => ∃ j' n : Nat, j' ≤ 8 ∧ n < 4294967296 ∧ j = .int .i64 j' ∧ r = .int .i64 n ∧ Hid (crcRaw (xs.take (k + 1)) = crcIt (8 - j') n)) (fun _ j => 8 - (intOf j).toNat)
      case atStart => exact ⟨0, X, by omega, hx1, rfl, rfl, HT⟩
      case round =>
        obtain ⟨j, n, hj, hn, rfl, rfl, HN⟩ := hrel
        by_cases hj8 : j < 8
        · have hx : bits .xor .i64 ((n : Int) / 2) (3988292384 : Int) = (((n / 2) ^^^ 3988292384 : Nat) : Int) := i64_xor_nat (n / 2) 3988292384 (by omega) (by omega)
          have hnext : crcIt (8 - j) n = crcIt (8 - (j + 1)) (crcStep n) := by
            rw [show 8 - j = (8 - (j + 1)) + 1 by omega]; rfl
          have HN2 : Hid (crcRaw (xs.take (k + 1)) = crcIt (8 - (j + 1)) (crcStep n)) := HN.out.trans hnext
          have HX : Hid (crcStep n = if n % 2 = 1 then (n / 2) ^^^ 3988292384 else n / 2) := rfl
          have hlt2 := crcStep_lt hn
          clear hnext
          generalize crcStep n = m at *
          go_wp2_with fail
          all_goals
            go_round
            case rel =>
              have hm := HX.out
              by_cases ho : n % 2 = 1
              · rw [if_pos ho] at hm
                exact ⟨j + 1, m, by omega, hlt2, by go_num, by first | (rw [hm]; done) | (exfalso; simp at *; omega), HN2⟩
              · rw [if_neg ho] at hm
                exact ⟨j + 1, m, by omega, hlt2, by go_num, by first | (rw [hm]; rfl) | (exfalso; simp at *; omega), HN2⟩
            case measure => simp [intOf]; omega
        · obtain rfl : j = 8 := by omega
          go_wp2_with fail
          go_round
          case rel => exact ⟨k + 1, by omega, by go_num, by rw [HN.out]; rfl⟩
          case measure => simp [intOf]; omega
    · obtain rfl : k = xs.length := by omega
      rw [List.take_length] at hl ⊢
      have hx2 : bits .xor .i64 (crcRaw xs : Int) (4294967295 : Int) = ((crc xs : Nat) : Int) := i64_xor_nat (crcRaw xs) 4294967295 hl (by omega)
      have hl2 := crc_lt xs
      go_wp2_with fail
      go_ret
      exact ⟨rfl, rfl⟩
end Go.Proofs.Ytckaccadgbcohaa
