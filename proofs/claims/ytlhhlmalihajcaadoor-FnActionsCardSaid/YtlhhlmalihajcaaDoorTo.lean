/- The laws' functions toIntS, toStringS, toByteS: copies in new memory. -/
import Derived.Test.YtlhhlmalihajcaaDoorSlInt
import Derived.RegionTactic
import Derived.BigRegion
namespace Go.Proofs.YtlhhlmalihajcaaDoor
set_option linter.unusedVariables false
set_option linter.unusedSimpArgs false
open Go.RowKit
theorem Tryd.infoString : (Tryd.prog.info? 9).map (fun i => (i.zero, i.size, i.bytes)) = some (some (.string ⟨#[]⟩), 1, 16) := by kernel_rfl
def FreshR {α : Type} (enc : α → List Value) (e : TypeId) (sz : Nat) (w : World) (xs : List α) (en : Ending) (w' : World) : Prop :=
  ∃ v, en = .returned v ∧ Fresh enc e sz w.heap.size v xs w' ∧ Below w.heap.size w w'
theorem Tryd.infoInt : (Tryd.prog.info? 3).map (fun i => (i.zero, i.size, i.bytes)) = some (some (.int .i64 0), 1, 8) := by kernel_rfl
theorem Tryd.infoByte : (Tryd.prog.info? 5).map (fun i => (i.zero, i.size, i.bytes)) = some (some (.int .u8 0), 1, 1) := by kernel_rfl
set_option maxHeartbeats 400000 in
theorem toIntS_c (a : Option Addr) (ca : Nat) (xs : List Int) (w : World) (ha : Sl intE 1 w a xs) (la : xs.length ≤ 1048576) :
    Calls Tryd.prog 45 #[.slice a xs.length ca] w (FreshR intE 3 1 w xs) := by
  obtain ⟨i0, hi, hz0, hz1, hz2⟩ := info_parts Tryd.infoInt
  go_enter Tryd.func45, Tryd.ntmps45
  go_wp2_with (at_make; refine wpList_make_full _ rfl _ _ 23 rfl w.heap.size 3 i0 (.int .i64 0) 1 Tryd.underlying23 hi hz0 hz1 .i64 .i64 _ _ xs.length rfl rfl rfl rfl ?c1 ?c2 ?c3 ?_)
  case c1 => rw [hz2]; omega
  case c2 => unfold maxLen; omega
  case c3 => exact Nat.le_refl _
  intro w1 hown hg
  have hm := madeCells_flat intE 1 (0 : Int) #[.int .i64 0] rfl (fun _ => rfl) xs.length
  have hown2 : w1.ownsRow w.heap.size 3 1 (.slice (some ⟨w.heap.size, 0, none⟩) xs.length xs.length) xs.length ((List.replicate xs.length (0 : Int)).flatMap intE) := by rw [← hm, Nat.mul_one]; exact hown
  clear hm hown
  go_wp2_with fail
  go_loopw [4] (fun i wr => ∃ k : Nat, k ≤ xs.length ∧ i = .int .i64 k ∧ wr.ownsRow w.heap.size 3 1 (.slice (some ⟨w.heap.size, 0, none⟩) xs.length xs.length) xs.length ((xs.take k ++ List.replicate (xs.length - k) (0 : Int)).flatMap intE) ∧ Below w.heap.size w wr) (fun i _ => xs.length - (intOf i).toNat)
  case atStart => exact ⟨0, Nat.zero_le _, rfl, by simpa using hown2, (Below.refl _ _).grown hg (Nat.le_refl _) (by simp)⟩
  case round =>
    obtain ⟨k, hk, rfl, ho, hbel⟩ := hrel
    by_cases hlt : k < xs.length
    · obtain ⟨b1, o1, rfl, hb1, hc1⟩ := (ha.keep hbel).at hlt
      have c1 := hc1 k hlt 0 (by omega)
      simp only [intE, Nat.mul_one, Nat.add_zero, List.getElem?_cons_zero] at c1
      clear hc1
      have f1 := ho.frozenAt k
      have c2 := ho.cellAt k (by omega)
      have c3 : ∃ v, ((xs.take k ++ List.replicate (xs.length - k) (0 : Int)).flatMap intE)[k]? = some v := ⟨_, List.getElem?_eq_getElem (by rw [flat_length intE 1 (fun _ => rfl), take_set_length _ _ _ hk]; omega)⟩
      obtain ⟨v, c3⟩ := c3
      rw [c3] at c2
      clear c3
      have HO := Lib.hid ho
      clear ho hown2
      go_wp2_with fail
      go_roundw
      case rel =>
        have ho := HO.out
        have hs := ho.stored k (.int .i64 xs[k])
        rw [flat_set1 intE (fun _ => rfl) _ k (by rw [take_set_length _ _ _ hk]; exact hlt) xs[k] _ rfl, take_set_next _ _ _ hlt] at hs
        exact ⟨k + 1, by omega, by go_num, hs.1, hbel.setCell (Nat.le_refl _) _⟩
      case measure => simp [intOf]; omega
    · obtain rfl : k = xs.length := by omega
      rw [take_set_done] at ho
      have HO := Lib.hid ho
      clear ho hown2
      go_wp2_with fail
      go_ret
      exact ⟨_, rfl, ⟨_, _, rfl, Nat.le_refl _, HO.out⟩, hbel⟩
set_option maxHeartbeats 400000 in
theorem toByteS_c (a : Option Addr) (ca : Nat) (xs : List UInt8) (w : World) (ha : Sl byteE 1 w a xs) (la : xs.length ≤ 1048576) :
    Calls Tryd.prog 17 #[.slice a xs.length ca] w (FreshR byteE 5 1 w xs) := by
  obtain ⟨i0, hi, hz0, hz1, hz2⟩ := info_parts Tryd.infoByte
  go_enter Tryd.func17, Tryd.ntmps17
  go_wp2_with (at_make; refine wpList_make_full _ rfl _ _ 22 rfl w.heap.size 5 i0 (.int .u8 0) 1 Tryd.underlying22 hi hz0 hz1 .i64 .i64 _ _ xs.length rfl rfl rfl rfl ?c1 ?c2 ?c3 ?_)
  case c1 => rw [hz2]; omega
  case c2 => unfold maxLen; omega
  case c3 => exact Nat.le_refl _
  intro w1 hown hg
  have hm := madeCells_flat byteE 1 (0 : UInt8) #[.int .u8 0] rfl (fun _ => rfl) xs.length
  have hown2 : w1.ownsRow w.heap.size 5 1 (.slice (some ⟨w.heap.size, 0, none⟩) xs.length xs.length) xs.length ((List.replicate xs.length (0 : UInt8)).flatMap byteE) := by rw [← hm, Nat.mul_one]; exact hown
  clear hm hown
  go_wp2_with fail
  go_loopw [4] (fun i wr => ∃ k : Nat, k ≤ xs.length ∧ i = .int .i64 k ∧ wr.ownsRow w.heap.size 5 1 (.slice (some ⟨w.heap.size, 0, none⟩) xs.length xs.length) xs.length ((xs.take k ++ List.replicate (xs.length - k) (0 : UInt8)).flatMap byteE) ∧ Below w.heap.size w wr) (fun i _ => xs.length - (intOf i).toNat)
  case atStart => exact ⟨0, Nat.zero_le _, rfl, by simpa using hown2, (Below.refl _ _).grown hg (Nat.le_refl _) (by simp)⟩
  case round =>
    obtain ⟨k, hk, rfl, ho, hbel⟩ := hrel
    by_cases hlt : k < xs.length
    · obtain ⟨b1, o1, rfl, hb1, hc1⟩ := (ha.keep hbel).at hlt
      have c1 := hc1 k hlt 0 (by omega)
      simp only [byteE, Nat.mul_one, Nat.add_zero, List.getElem?_cons_zero] at c1
      clear hc1
      have f1 := ho.frozenAt k
      have c2 := ho.cellAt k (by omega)
      have c3 : ∃ v, ((xs.take k ++ List.replicate (xs.length - k) (0 : UInt8)).flatMap byteE)[k]? = some v := ⟨_, List.getElem?_eq_getElem (by rw [flat_length byteE 1 (fun _ => rfl), take_set_length _ _ _ hk]; omega)⟩
      obtain ⟨v, c3⟩ := c3
      rw [c3] at c2
      clear c3
      have HO := Lib.hid ho
      clear ho hown2
      go_wp2_with fail
      go_roundw
      case rel =>
        have ho := HO.out
        have hs := ho.stored k (.int .u8 xs[k].toNat)
        rw [flat_set1 byteE (fun _ => rfl) _ k (by rw [take_set_length _ _ _ hk]; exact hlt) xs[k] _ rfl, take_set_next _ _ _ hlt] at hs
        exact ⟨k + 1, by omega, by go_num, hs.1, hbel.setCell (Nat.le_refl _) _⟩
      case measure => simp [intOf]; omega
    · obtain rfl : k = xs.length := by omega
      rw [take_set_done] at ho
      have HO := Lib.hid ho
      clear ho hown2
      go_wp2_with fail
      go_ret
      exact ⟨_, rfl, ⟨_, _, rfl, Nat.le_refl _, HO.out⟩, hbel⟩
end Go.Proofs.YtlhhlmalihajcaaDoor
