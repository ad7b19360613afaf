/- The laws' marks on bytes, numbers and entries: they write their own values into a slice of the caller's own, and find them there. -/
import Derived.Test.YtlhhlmalihajcaaDoorMark2
import Derived.Test.YtlhhlmalihajcaaDoorEntry
namespace Go.Proofs.YtlhhlmalihajcaaDoor
set_option linter.unusedVariables false
set_option linter.unusedSimpArgs false
open Go.RowKit
/-- A list whose first k elements have been replaced by f's. -/
def over {α : Type} (f : Nat → α) (xs : List α) (k : Nat) : List α := (List.range k).map f ++ xs.drop k
theorem over_zero {α : Type} (f : Nat → α) (xs : List α) : over f xs 0 = xs := by simp [over]
theorem over_length {α : Type} (f : Nat → α) (xs : List α) (k : Nat) (hk : k ≤ xs.length) : (over f xs k).length = xs.length := by simp [over]; omega
theorem over_step {α : Type} (f : Nat → α) (xs : List α) (k : Nat) (hk : k < xs.length) : (over f xs k).set k (f k) = over f xs (k + 1) := by
  unfold over
  rw [List.set_append, if_neg (by simp)]
  simp only [List.length_map, List.length_range, Nat.sub_self]
  rw [List.drop_eq_getElem_cons hk, List.set_cons_zero]
  simp [List.range_succ]
theorem over_all {α : Type} (f : Nat → α) (xs : List α) : over f xs xs.length = (List.range xs.length).map f := by simp [over]
theorem range_get {α : Type} (f : Nat → α) (n i : Nat) (h : i < ((List.range n).map f).length) : ((List.range n).map f)[i] = f i := by simp
def MarkRF {α : Type} (enc : α → List Value) (e : TypeId) (sz lo hi n K d : Nat) (f : Nat → α) (a : Option Addr) (ca : Nat) (w : World) (en : Ending) (w' : World) : Prop :=
  en = .returned (.int .i64 ((K + d * n : Nat))) ∧ FreshIn enc e sz lo hi (.slice a n ca) ((List.range n).map f) w' ∧ Mid lo hi w w'
def markB (K i : Nat) : UInt8 := UInt8.ofNat (K + i)
theorem markB_val (K i : Nat) : ((markB K i).toNat : Int) = ((K : Int) + i) % 256 := by
  unfold markB
  rw [UInt8.toNat_ofNat']
  omega
def markI (K i : Nat) : Int := ((K + i : Nat) : Int)
def markE (K i : Nat) : Ent := (((K + 2 * i : Nat) : Int), mt (K + 2 * i + 1))
set_option maxRecDepth 100000 in
set_option maxHeartbeats 1000000 in
theorem markByteS_c (a : Option Addr) (ca : Nat) (xs : List UInt8) (K lo hi : Nat) (w : World) (h : FreshIn byteE 5 1 lo hi (.slice a xs.length ca) xs w) (hlo : lo ≤ w.heap.size) (hK : K + xs.length ≤ 1099511627776) :
    Calls Tryd.prog 22 #[.slice a xs.length ca, .int .i64 K] w (MarkRF byteE 5 1 lo hi xs.length K 1 (markB K) a ca w) := by
  go_enter Tryd.func22, Tryd.ntmps22
  go_wp2_with fail
  go_loopw [1, 5] (fun m i wr => ∃ k : Nat, k ≤ xs.length ∧ i = .int .i64 k ∧ m = .int .i64 ((K + k : Nat)) ∧ FreshIn byteE 5 1 lo hi (.slice a xs.length ca) (over (markB K) xs k) wr ∧ Mid lo hi w wr) (fun _ i _ => xs.length - (intOf i).toNat)
  case atStart => exact ⟨0, Nat.zero_le _, rfl, rfl, by rw [over_zero]; exact h, Mid.refl _ _ _⟩
  case round =>
    obtain ⟨k, hk, rfl, rfl, hf, hm⟩ := hrel
    have HLL := Lib.hid (over_length (markB K) xs k hk)
    have HS : Hid (k < xs.length → (over (markB K) xs k).set k (markB K k) = over (markB K) xs (k + 1)) := over_step (markB K) xs k
    by_cases hlt : k < xs.length
    · generalize over (markB K) xs k = L at *
      obtain ⟨g, rfl, hg1, hg2, hg3, ho⟩ := hf.block (by rw [HLL.out]; omega)
      have HO := Lib.hid ho
      have HM := Lib.hid hm
      have f1 := ho.frozenAt k
      have c3 : ∃ v, w = w ∧ wr.cell? ⟨g, k, none⟩ = some v := ⟨_, rfl, (ho.cellAt k (by rw [HLL.out]; omega)).trans (List.getElem?_eq_getElem (by rw [flat_length byteE 1 (fun _ => rfl), HLL.out]; omega))⟩
      obtain ⟨v, _, c3⟩ := c3
      clear ho hf hm h
      go_wp2_with fail
      go_roundw
      case rel =>
        have hs := HO.out.stored k (.int .u8 (((K : Int) + k) % 256))
        rw [← markB_val, flat_set1 byteE (fun _ => rfl) L k (by rw [HLL.out]; exact hlt) (markB K k) _ rfl, HS.out hlt] at hs
        refine ⟨k + 1, by omega, by go_num, by go_num, FreshIn.of_owns (n := xs.length) ?_ (by rw [over_length _ _ _ (by omega)]) rfl hg2, ?_⟩
        · have := hs.1
          rw [HLL.out] at this
          first | exact this | (rw [← markB_val, ] ; exact this)
        · exact HM.out.setCell hg1 hg2 _
      case measure => simp [intOf]; omega
    · obtain rfl : k = xs.length := by omega
      have HF := Lib.hid hf
      have HM := Lib.hid hm
      clear hf hm h HS
      go_wp2_with fail
      go_ret
      refine ⟨by rw [Nat.one_mul]; first | rfl | go_num, ?_, HM.out⟩
      have := HF.out
      rw [over_all] at this
      exact this
set_option maxRecDepth 100000 in
set_option maxHeartbeats 1000000 in
theorem markIntS_c (a : Option Addr) (ca : Nat) (xs : List Int) (K lo hi : Nat) (w : World) (h : FreshIn intE 3 1 lo hi (.slice a xs.length ca) xs w) (hlo : lo ≤ w.heap.size) (hK : K + xs.length ≤ 1099511627776) :
    Calls Tryd.prog 48 #[.slice a xs.length ca, .int .i64 K] w (MarkRF intE 3 1 lo hi xs.length K 1 (markI K) a ca w) := by
  go_enter Tryd.func48, Tryd.ntmps48
  go_wp2_with fail
  go_loopw [1, 5] (fun m i wr => ∃ k : Nat, k ≤ xs.length ∧ i = .int .i64 k ∧ m = .int .i64 ((K + k : Nat)) ∧ FreshIn intE 3 1 lo hi (.slice a xs.length ca) (over (markI K) xs k) wr ∧ Mid lo hi w wr) (fun _ i _ => xs.length - (intOf i).toNat)
  case atStart => exact ⟨0, Nat.zero_le _, rfl, rfl, by rw [over_zero]; exact h, Mid.refl _ _ _⟩
  case round =>
    obtain ⟨k, hk, rfl, rfl, hf, hm⟩ := hrel
    have HLL := Lib.hid (over_length (markI K) xs k hk)
    have HS : Hid (k < xs.length → (over (markI K) xs k).set k (markI K k) = over (markI K) xs (k + 1)) := over_step (markI K) xs k
    by_cases hlt : k < xs.length
    · generalize over (markI K) xs k = L at *
      obtain ⟨g, rfl, hg1, hg2, hg3, ho⟩ := hf.block (by rw [HLL.out]; omega)
      have HO := Lib.hid ho
      have HM := Lib.hid hm
      have f1 := ho.frozenAt k
      have c3 : ∃ v, w = w ∧ wr.cell? ⟨g, k, none⟩ = some v := ⟨_, rfl, (ho.cellAt k (by rw [HLL.out]; omega)).trans (List.getElem?_eq_getElem (by rw [flat_length intE 1 (fun _ => rfl), HLL.out]; omega))⟩
      obtain ⟨v, _, c3⟩ := c3
      clear ho hf hm h
      go_wp2_with fail
      go_roundw
      case rel =>
        have hs := HO.out.stored k (.int .i64 ((K : Int) + k))
        rw [show (K : Int) + k = markI K k from rfl, flat_set1 intE (fun _ => rfl) L k (by rw [HLL.out]; exact hlt) (markI K k) _ rfl, HS.out hlt] at hs
        refine ⟨k + 1, by omega, by go_num, by go_num, FreshIn.of_owns (n := xs.length) ?_ (by rw [over_length _ _ _ (by omega)]) rfl hg2, ?_⟩
        · have := hs.1
          rw [HLL.out] at this
          first | exact this | (rw [show (K : Int) + k = markI K k from rfl, ] ; exact this)
        · exact HM.out.setCell hg1 hg2 _
      case measure => simp [intOf]; omega
    · obtain rfl : k = xs.length := by omega
      have HF := Lib.hid hf
      have HM := Lib.hid hm
      clear hf hm h HS
      go_wp2_with fail
      go_ret
      refine ⟨by rw [Nat.one_mul]; first | rfl | go_num, ?_, HM.out⟩
      have := HF.out
      rw [over_all] at this
      exact this
set_option maxHeartbeats 1000000 in
theorem heldIntS_c (a : Option Addr) (ca n K : Nat) (w : World) (h : Sl intE 1 w a ((List.range n).map (markI K))) (hK : K + n ≤ 1099511627776) :
    Calls Tryd.prog 50 #[.slice a n ca, .int .i64 K] w fun e w' => e = .returned (.int .i64 ((K + n : Nat))) ∧ w = w' := by
  go_enter Tryd.func50, Tryd.ntmps50
  go_wp2_with fail
  go_loop [1, 5] (fun m i => ∃ k : Nat, k ≤ n ∧ i = .int .i64 k ∧ m = .int .i64 ((K + k : Nat))) (fun _ i => n - (intOf i).toNat)
  case atStart => exact ⟨0, Nat.zero_le _, rfl, rfl⟩
  case round =>
    obtain ⟨k, hk, rfl, rfl⟩ := hrel
    by_cases hlt : k < n
    · obtain ⟨b1, o1, rfl, hb1, hc1⟩ := h.at (i := k) (by simpa using hlt)
      have c1 := hc1 k (by simpa using hlt) 0 (by omega)
      rw [range_get] at c1
      simp only [intE, markI, Nat.mul_one, Nat.add_zero, List.getElem?_cons_zero] at c1
      have c1' : w.cell? ⟨b1, o1 + k, none⟩ = some (.int .i64 ((K : Int) + k)) := by rw [c1]; simp
      clear hc1 h c1
      go_wp2_with fail
      go_round
      case rel => exact ⟨k + 1, by omega, by go_num, by go_num⟩
      case measure => simp [intOf]; omega
    · obtain rfl : k = n := by omega
      clear h
      go_wp2_with fail
      go_ret
      exact ⟨by go_num, rfl⟩
end Go.Proofs.YtlhhlmalihajcaaDoor
