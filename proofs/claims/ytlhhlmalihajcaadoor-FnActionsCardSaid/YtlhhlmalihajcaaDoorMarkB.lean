/- Marks on flat slices, for numbers up to 2^44. No conditions but sizes. -/
import Derived.Test.YtlhhlmalihajcaaDoorMark3
namespace Go.Proofs.YtlhhlmalihajcaaDoor
set_option linter.unusedVariables false
set_option linter.unusedSimpArgs false
open Go.RowKit
set_option maxRecDepth 100000 in
set_option maxHeartbeats 1000000 in
theorem markTextB_c (K : Nat) (w : World) (hK : K ≤ 17592186044416) :
    Calls Tryd.prog 49 #[.int .i64 K] w fun e w' => e = .returned (.string (mt K)) ∧ Below w.heap.size w w' := by
  by_cases h0 : K = 0
  · subst h0
    go_enter Tryd.func49, Tryd.ntmps49
    go_wp2_with fail
    go_ret
    exact ⟨rfl, Below.refl _ _⟩
  · have g1 : decide ((K : Int) ≤ 0) = false := by simp; omega
    go_enter Tryd.func49, Tryd.ntmps49
    go_wp2_with fail
    go_loopw [0, 3] (fun i o wr => ∃ (f k : Nat) (out : ByteArray), k ≤ f ∧ k ≤ 17592186044416 ∧ out.size + f ≤ K ∧ i = .int .i64 k ∧ o = .string out ∧ mtF f k out = mtF K K ByteArray.empty ∧ Below w.heap.size w wr) (fun i _ _ => (intOf i).toNat)
    case atStart => exact ⟨K, K, ByteArray.empty, Nat.le_refl _, hK, by simp, rfl, rfl, rfl, Below.refl _ _⟩
    case round =>
      obtain ⟨f, k, out, hkf, hk, hos, rfl, rfl, hm, hbel⟩ := hrel
      by_cases hk0 : k = 0
      · have g2 : decide (0 < k) = false := by simp; omega
        have hm' : out = mtF K K ByteArray.empty := by rw [← hm, hk0, mtF_zero]
        have hsz : (mtF K K ByteArray.empty).size ≤ 17592186044416 := by rw [← hm']; omega
        clear hm hk0
        go_wp2_with fail
        go_ret
        exact ⟨by rw [hm']; simp [mt, h0], hbel⟩
      · have g2 : decide (0 < k) = true := by simp; omega
        have hosz : out.size ≤ 17592186044416 := by omega
        have hconv : (convert 22 9 (.slice (some ⟨wr.heap.size, 0, none⟩) 1 1)).run Tryd.prog (wr.alloc (.cells #[.int .u8 (48 + (k : Int) % 10)] 5)) = .ok (.string ⟨#[dig k]⟩) (wr.alloc (.cells #[.int .u8 (48 + (k : Int) % 10)] 5)) := by
          refine run_convert_bytes_back (P := Tryd.prog) _ _ _ 5 ⟨wr.heap.size, 0, none⟩ 1 [dig k] Tryd.underlying22 Tryd.underlying5 Tryd.underlying9 (fun j hj => ?_)
          obtain rfl : j = 0 := by simp at hj; omega
          have hb : (dig k).toNat = 48 + k % 10 :=  dig_toNat k
          simp [go_sem, Addr.add, hb]
        have HM := Lib.hid hm
        have HO := Lib.hid hos
        have HF := Lib.hid hkf
        clear hm g1 h0 hos hkf
        go_wp2_with fail
        go_roundw
        case rel =>
          obtain ⟨f, rfl⟩ : ∃ g, f = g + 1 := ⟨f - 1, by have := HF.out; omega⟩
          have h1 := HM.out
          have h2 := HO.out
          have h3 := HF.out
          simp only [mtF, hk0, if_false] at h1
          refine ⟨f, k / 10, _, by omega, by omega, ?_, by go_num, rfl, h1, (hbel.alloc hbel.size _)⟩
          simp [ByteArray.size_append]
          have : (⟨#[dig k]⟩ : ByteArray).size = 1 := rfl
          omega
        case measure => simp [intOf]; omega
set_option maxRecDepth 100000 in
set_option maxHeartbeats 1000000 in
theorem markIntSB_c (a : Option Addr) (ca : Nat) (xs : List Int) (K lo hi : Nat) (w : World) (h : FreshIn intE 3 1 lo hi (.slice a xs.length ca) xs w) (hlo : lo ≤ w.heap.size) (hK : K + xs.length ≤ 17592186044416) :
    Calls Tryd.prog 48 #[.slice a xs.length ca, .int .i64 K] w (MarkRF intE 3 1 lo hi xs.length K 1 (markI K) a ca w) := by
  go_enter Tryd.func48, Tryd.ntmps48
  go_wp2_with fail
  go_loopw [1, 5] (fun m i wr => ∃ k : Nat, k ≤ xs.length ∧ i = .int .i64 k ∧ m = .int .i64 ((K + k : Nat)) ∧ FreshIn intE 3 1 lo hi (.slice a xs.length ca) (over (markI K) xs k) wr ∧ Mid lo hi w wr) (fun _ i _ => xs.length - (intOf i).toNat)
  case atStart => exact ⟨0, Nat.zero_le _, rfl, rfl, by rw [over_zero]; exact h, Mid.refl _ _ _⟩
  case round =>
    obtain ⟨k, hk, rfl, rfl, hf, hm⟩ := hrel
    have HLL := Lib.hid (over_length (markI K) xs k hk)
    have HS : Hid (k < xs.length → (over (markI K) xs k).set k (markI K k) = over (markI K) xs (k + 1)) := over_step (markI K) xs k
    by_cases hlt : k < xs.length
    · generalize over (markI K) xs k = L at *
      obtain ⟨g, rfl, hg1, hg2, hg3, ho⟩ := hf.block (by rw [HLL.out]; omega)
      have HO := Lib.hid ho
      have HM := Lib.hid hm
      have f1 := ho.frozenAt k
      have c3 : ∃ v, w = w ∧ wr.cell? ⟨g, k, none⟩ = some v := ⟨_, rfl, (ho.cellAt k (by rw [HLL.out]; omega)).trans (List.getElem?_eq_getElem (by rw [flat_length intE 1 (fun _ => rfl), HLL.out]; omega))⟩
      obtain ⟨v, _, c3⟩ := c3
      clear ho hf hm h
      go_wp2_with fail
      go_roundw
      case rel =>
        have hs := HO.out.stored k (.int .i64 ((K : Int) + k))
        rw [show (K : Int) + k = markI K k from rfl, flat_set1 intE (fun _ => rfl) L k (by rw [HLL.out]; exact hlt) (markI K k) _ rfl, HS.out hlt] at hs
        refine ⟨k + 1, by omega, by go_num, by go_num, FreshIn.of_owns (n := xs.length) ?_ (by rw [over_length _ _ _ (by omega)]) rfl hg2, ?_⟩
        · have := hs.1
          rw [HLL.out] at this
          first | exact this | (rw [show (K : Int) + k = markI K k from rfl, ] ; exact this)
        · exact HM.out.setCell hg1 hg2 _
      case measure => simp [intOf]; omega
    · obtain rfl : k = xs.length := by omega
      have HF := Lib.hid hf
      have HM := Lib.hid hm
      clear hf hm h HS
      go_wp2_with fail
      go_ret
      refine ⟨by rw [Nat.one_mul]; first | rfl | go_num, ?_, HM.out⟩
      have := HF.out
      rw [over_all] at this
      exact this
set_option maxHeartbeats 1000000 in
theorem heldIntSB_c (a : Option Addr) (ca n K : Nat) (w : World) (h : Sl intE 1 w a ((List.range n).map (markI K))) (hK : K + n ≤ 17592186044416) :
    Calls Tryd.prog 50 #[.slice a n ca, .int .i64 K] w fun e w' => e = .returned (.int .i64 ((K + n : Nat))) ∧ w = w' := by
  go_enter Tryd.func50, Tryd.ntmps50
  go_wp2_with fail
  go_loop [1, 5] (fun m i => ∃ k : Nat, k ≤ n ∧ i = .int .i64 k ∧ m = .int .i64 ((K + k : Nat))) (fun _ i => n - (intOf i).toNat)
  case atStart => exact ⟨0, Nat.zero_le _, rfl, rfl⟩
  case round =>
    obtain ⟨k, hk, rfl, rfl⟩ := hrel
    by_cases hlt : k < n
    · obtain ⟨b1, o1, rfl, hb1, hc1⟩ := h.at (i := k) (by simpa using hlt)
      have c1 := hc1 k (by simpa using hlt) 0 (by omega)
      rw [range_get] at c1
      simp only [intE, markI, Nat.mul_one, Nat.add_zero, List.getElem?_cons_zero] at c1
      have c1' : w.cell? ⟨b1, o1 + k, none⟩ = some (.int .i64 ((K : Int) + k)) := by rw [c1]; simp
      clear hc1 h c1
      go_wp2_with fail
      go_round
      case rel => exact ⟨k + 1, by omega, by go_num, by go_num⟩
      case measure => simp [intOf]; omega
    · obtain rfl : k = n := by omega
      clear h
      go_wp2_with fail
      go_ret
      exact ⟨by go_num, rfl⟩
end Go.Proofs.YtlhhlmalihajcaaDoor
