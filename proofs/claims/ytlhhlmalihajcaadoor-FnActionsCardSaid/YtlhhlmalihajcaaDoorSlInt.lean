/- The laws' helper functions on slices of ints and strings. -/
import Derived.Test.YtlhhlmalihajcaaDoorRows
import Derived.Test.YtlhhlmalihajcaaDoorSl
import Derived.WalkLawsBesides
import Derived.LoopTactic
import Derived.Deep.LoopGhost
import Derived.Deep.QuietTactic
import Derived.BigQuiet
import Derived.Lib.Hide
namespace Go.Proofs.YtlhhlmalihajcaaDoor
set_option linter.unusedVariables false
set_option linter.unusedSimpArgs false
open Go.RowKit
theorem toList_eq (a b : ByteArray) : a.toList = b.toList ↔ a = b := by
  rw [ByteArray.toList_eq, ByteArray.toList_eq]
  constructor
  · intro h
    exact ByteArray.ext (Array.toList_inj.1 h)
  · rintro rfl; rfl
set_option maxHeartbeats 400000 in
theorem eqIntS_c (a b : Option Addr) (ca cb : Nat) (xs ys : List Int) (w : World) (ha : Sl intE 1 w a xs) (hb : Sl intE 1 w b ys) (la : xs.length ≤ 1048576) (lb : ys.length ≤ 1048576) :
    Calls Tryd.prog 46 #[.slice a xs.length ca, .slice b ys.length cb] w fun e w' => e = .returned (.bool (decide (xs = ys))) ∧ Below w.heap.size w w' := by
  by_cases hl : xs.length = ys.length
  · go_enter Tryd.func46, Tryd.ntmps46
    go_wp2_with fail
    go_loopw [5] (fun i wr => ∃ k : Nat, k ≤ xs.length ∧ i = .int .i64 k ∧ xs.take k = ys.take k ∧ Below w.heap.size w wr) (fun i _ => xs.length - (intOf i).toNat)
    case atStart => exact ⟨0, Nat.zero_le _, rfl, rfl, Below.refl _ _⟩
    case round =>
      obtain ⟨k, hk, rfl, ht, hbel⟩ := hrel
      have HT := Lib.hid ht
      clear ht
      by_cases hlt : k < xs.length
      · have hlt2 : k < ys.length := by omega
        obtain ⟨b1, o1, rfl, hb1, hc1⟩ := (ha.keep hbel).at hlt
        obtain ⟨b2, o2, rfl, hb2, hc2⟩ := (hb.keep hbel).at hlt2
        have c1 := hc1 k hlt 0 (by omega)
        have c2 := hc2 k hlt2 0 (by omega)
        simp only [intE, Nat.mul_one, Nat.add_zero, List.getElem?_cons_zero] at c1 c2
        clear hc1 hc2
        have HL := Lib.hid hl
        clear hl
        by_cases he : xs[k] = ys[k]
        · have he' : (xs[k] == ys[k]) = true := by rw [he]; simp
          have HE := Lib.hid he
          clear he
          go_wp2_with fail
          go_quiet (fail)
          go_wp2_with fail
          go_roundw
          case rel =>
            refine ⟨k + 1, by omega, by go_num, ?_, hbel.trans (below_drewN _ _ _)⟩
            rw [List.take_succ_eq_append_getElem hlt, List.take_succ_eq_append_getElem hlt2, HT.out, HE.out]
          case measure => simp [intOf]; omega
        · have he' : (xs[k] == ys[k]) = false := by simp [he]
          have HE := Lib.hid he
          clear he
          go_wp2_with fail
          go_quiet (fail)
          go_wp2_with fail
          go_ret
          refine ⟨?_, hbel.trans (below_drewN _ _ _)⟩
          have hne : xs ≠ ys := by rintro rfl; exact HE.out rfl
          simp [hne]
      · have hkn : k = xs.length := by omega
        go_wp2_with fail
        go_ret
        refine ⟨?_, hbel⟩
        have h1 := HT.out
        rw [List.take_of_length_le (by omega), List.take_of_length_le (by omega)] at h1
        simp [h1]
  · have hl' : ((xs.length : Int) == (ys.length : Int)) = false := by simp; omega
    have hd : decide (xs = ys) = false := by simp; intro h; exact hl (by rw [h])
    rw [hd]
    clear hd
    go_enter Tryd.func46, Tryd.ntmps46
    go_wp2_with fail
    go_ret
    exact ⟨rfl, (by repeat (first | exact Below.refl _ _ | (refine Below.alloc ?_ (by (try simp) <;> (try omega)) _) | (refine Below.setCell ?_ (by (try simp) <;> (try omega)) _) | (refine Below.drew ?_) | (refine Below.trans ?_ (Below.mono (by assumption) (by (try simp) <;> (try omega))))))⟩
set_option maxHeartbeats 400000 in
theorem eqByteS_c (a b : Option Addr) (ca cb : Nat) (xs ys : List UInt8) (w : World) (ha : Sl byteE 1 w a xs) (hb : Sl byteE 1 w b ys) (la : xs.length ≤ 1048576) (lb : ys.length ≤ 1048576) :
    Calls Tryd.prog 20 #[.slice a xs.length ca, .slice b ys.length cb] w fun e w' => e = .returned (.bool (decide (xs = ys))) ∧ Below w.heap.size w w' := by
  by_cases hl : xs.length = ys.length
  · go_enter Tryd.func20, Tryd.ntmps20
    go_wp2_with fail
    go_loopw [5] (fun i wr => ∃ k : Nat, k ≤ xs.length ∧ i = .int .i64 k ∧ xs.take k = ys.take k ∧ Below w.heap.size w wr) (fun i _ => xs.length - (intOf i).toNat)
    case atStart => exact ⟨0, Nat.zero_le _, rfl, rfl, Below.refl _ _⟩
    case round =>
      obtain ⟨k, hk, rfl, ht, hbel⟩ := hrel
      have HT := Lib.hid ht
      clear ht
      by_cases hlt : k < xs.length
      · have hlt2 : k < ys.length := by omega
        obtain ⟨b1, o1, rfl, hb1, hc1⟩ := (ha.keep hbel).at hlt
        obtain ⟨b2, o2, rfl, hb2, hc2⟩ := (hb.keep hbel).at hlt2
        have c1 := hc1 k hlt 0 (by omega)
        have c2 := hc2 k hlt2 0 (by omega)
        simp only [byteE, Nat.mul_one, Nat.add_zero, List.getElem?_cons_zero] at c1 c2
        clear hc1 hc2
        have HL := Lib.hid hl
        clear hl
        by_cases he : xs[k] = ys[k]
        · have he' : ((xs[k].toNat : Int) == (ys[k].toNat : Int)) = true := by rw [he]; simp
          have HE := Lib.hid he
          clear he
          go_wp2_with fail
          go_quiet (fail)
          go_wp2_with fail
          go_roundw
          case rel =>
            refine ⟨k + 1, by omega, by go_num, ?_, hbel.trans (below_drewN _ _ _)⟩
            rw [List.take_succ_eq_append_getElem hlt, List.take_succ_eq_append_getElem hlt2, HT.out, HE.out]
          case measure => simp [intOf]; omega
        · have he' : ((xs[k].toNat : Int) == (ys[k].toNat : Int)) = false := by simp; intro h; exact he (UInt8.toNat_inj.1 (by omega))
          have HE := Lib.hid he
          clear he
          go_wp2_with fail
          go_quiet (fail)
          go_wp2_with fail
          go_ret
          refine ⟨?_, hbel.trans (below_drewN _ _ _)⟩
          have hne : xs ≠ ys := by rintro rfl; exact HE.out rfl
          simp [hne]
      · have hkn : k = xs.length := by omega
        go_wp2_with fail
        go_ret
        refine ⟨?_, hbel⟩
        have h1 := HT.out
        rw [List.take_of_length_le (by omega), List.take_of_length_le (by omega)] at h1
        simp [h1]
  · have hl' : ((xs.length : Int) == (ys.length : Int)) = false := by simp; omega
    have hd : decide (xs = ys) = false := by simp; intro h; exact hl (by rw [h])
    rw [hd]
    clear hd
    go_enter Tryd.func20, Tryd.ntmps20
    go_wp2_with fail
    go_ret
    exact ⟨rfl, (by repeat (first | exact Below.refl _ _ | (refine Below.alloc ?_ (by (try simp) <;> (try omega)) _) | (refine Below.setCell ?_ (by (try simp) <;> (try omega)) _) | (refine Below.drew ?_) | (refine Below.trans ?_ (Below.mono (by assumption) (by (try simp) <;> (try omega))))))⟩
end Go.Proofs.YtlhhlmalihajcaaDoor
