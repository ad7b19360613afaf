/- Marks on rows and on clusters in memory of their own. No conditions but sizes. -/
import Derived.Test.YtckaccadgbcohaaMark3
import Derived.Test.YtckaccadgbcohaaMid
import Derived.Test.YtckaccadgbcohaaOwn
import Derived.Test.YtckaccadgbcohaaCluX
namespace Go.Proofs.Ytckaccadgbcohaa
set_option linter.unusedVariables false
set_option linter.unusedSimpArgs false
section
open Go.RowKit
set_option maxRecDepth 100000 in
set_option maxHeartbeats 1000000 in
theorem markTextB_c (K : Nat) (w : World) (hK : K ≤ 17592186044416) :
    Calls Try.prog 53 #[.int .i64 K] w fun e w' => e = .returned (.string (mt K)) ∧ Below w.heap.size w w' := by
  by_cases h0 : K = 0
  · subst h0
    go_enter Try.func53, Try.ntmps53
    go_wp2_with fail
    go_ret
    exact ⟨rfl, Below.refl _ _⟩
  · have g1 : decide ((K : Int) ≤ 0) = false := by simp; omega
    go_enter Try.func53, Try.ntmps53
    go_wp2_with fail
    go_loopw [0, 3] (fun i o wr => ∃ (f k : Nat) (out : ByteArray), k ≤ f ∧ k ≤ 17592186044416 ∧ out.size + f ≤ K ∧ i = .int .i64 k ∧ o = .string out ∧ mtF f k out = mtF K K ByteArray.empty ∧ Below w.heap.size w wr) (fun i _ _ => (intOf i).toNat)
    case atStart => exact ⟨K, K, ByteArray.empty, Nat.le_refl _, hK, by simp, rfl, rfl, rfl, Below.refl _ _⟩
    case round =>
      obtain ⟨f, k, out, hkf, hk, hos, rfl, rfl, hm, hbel⟩ := hrel
      by_cases hk0 : k = 0
      · have g2 : decide (0 < k) = false := by simp; omega
        have hm' : out = mtF K K ByteArray.empty := by rw [← hm, hk0, mtF_zero]
        have hsz : (mtF K K ByteArray.empty).size ≤ 17592186044416 := by rw [← hm']; omega
        clear hm hk0
        go_wp2_with fail
        go_ret
        exact ⟨by rw [hm']; simp [mt, h0], hbel⟩
      · have g2 : decide (0 < k) = true := by simp; omega
        have hosz : out.size ≤ 17592186044416 := by omega
        have hconv : (convert 112 9 (.slice (some ⟨wr.heap.size, 0, none⟩) 1 1)).run Try.prog (wr.alloc (.cells #[.int .u8 (48 + (k : Int) % 10)] 5)) = .ok (.string ⟨#[dig k]⟩) (wr.alloc (.cells #[.int .u8 (48 + (k : Int) % 10)] 5)) := by
          refine run_convert_bytes_back (P := Try.prog) _ _ _ 5 ⟨wr.heap.size, 0, none⟩ 1 [dig k] Try.underlying112 Try.underlying5 Try.underlying9 (fun j hj => ?_)
          obtain rfl : j = 0 := by simp at hj; omega
          have hb : (dig k).toNat = 48 + k % 10 :=  dig_toNat k
          simp [go_sem, Addr.add, hb]
        have HM := Lib.hid hm
        have HO := Lib.hid hos
        have HF := Lib.hid hkf
        clear hm g1 h0 hos hkf
        go_wp2_with fail
        go_roundw
        case rel =>
          obtain ⟨f, rfl⟩ : ∃ g, f = g + 1 := ⟨f - 1, by have := HF.out; omega⟩
          have h1 := HM.out
          have h2 := HO.out
          have h3 := HF.out
          simp only [mtF, hk0, if_false] at h1
          refine ⟨f, k / 10, _, by omega, by omega, ?_, by go_num, rfl, h1, (hbel.alloc hbel.size _)⟩
          simp [ByteArray.size_append]
          have : (⟨#[dig k]⟩ : ByteArray).size = 1 := rfl
          omega
        case measure => simp [intOf]; omega
set_option maxRecDepth 100000 in
set_option maxHeartbeats 1000000 in
theorem markStringSB_c (a : Option Addr) (ca : Nat) (xs : List ByteArray) (K lo hi : Nat) (w : World) (h : FreshIn strE 9 1 lo hi (.slice a xs.length ca) xs w) (hlo : lo ≤ w.heap.size) (hK : K + xs.length ≤ 17592186044416) :
    Calls Try.prog 21 #[.slice a xs.length ca, .int .i64 K] w (MarkR lo hi xs.length K a ca w) := by
  go_enter Try.func21, Try.ntmps21
  go_wp2_with fail
  go_loopw [1, 5] (fun m i wr => ∃ k : Nat, k ≤ xs.length ∧ i = .int .i64 k ∧ m = .int .i64 ((K + k : Nat)) ∧ FreshIn strE 9 1 lo hi (.slice a xs.length ca) (marks K k ++ xs.drop k) wr ∧ Mid lo hi w wr) (fun _ i _ => xs.length - (intOf i).toNat)
  case atStart => exact ⟨0, Nat.zero_le _, rfl, rfl, by simpa [marks] using h, Mid.refl _ _ _⟩
  case round =>
    obtain ⟨k, hk, rfl, rfl, hf, hm⟩ := hrel
    have hll := marks_mid_length K xs k hk
    have HS : Hid (k < xs.length → (marks K k ++ xs.drop k).set k (mt (K + k)) = marks K (k + 1) ++ xs.drop (k + 1)) := marks_step K xs k
    by_cases hlt : k < xs.length
    · generalize hL : marks K k ++ xs.drop k = L at *
      clear hL
      have HF := Lib.hid hf
      obtain ⟨g, rfl, hg1, hg2, hg3, ho⟩ := hf.block (by omega)
      have HO := Lib.hid ho
      have HM := Lib.hid hm
      have HL := Lib.hid hll
      have hsz := hm.size
      have HH := Lib.hid h
      clear ho hf hm hll h
      go_wp2_with (go_at_call 53
                   refine (markTextB_c (K + k) _ (by omega)).mono ?_
                   rintro e w1 ⟨rfl, hb1⟩
                   have HB1 := Lib.hid hb1
                   clear hb1
                   have f1 := ((own_below HO.out HB1.out).frozenAt k)
                   have c3 : ∃ v, w1 = w1 ∧ w1.cell? ⟨g, k, none⟩ = some v := ⟨_, rfl, ((own_below HO.out HB1.out).cellAt k (by rw [HL.out]; omega)).trans (List.getElem?_eq_getElem (by rw [flat_length strE 1 (fun _ => rfl), HL.out]; omega))⟩
                   obtain ⟨v, _, c3⟩ := c3)
      go_roundw
      case rel =>
        have hs := (own_below HO.out HB1.out).stored k (.string (mt (K + k)))
        rw [flat_set1 strE (fun _ => rfl) L k (by rw [HL.out]; exact hlt) (mt (K + k)) _ rfl, HS.out hlt] at hs
        refine ⟨k + 1, by omega, by go_num, by go_num, FreshIn.of_owns (n := xs.length) ?_ (by rw [marks_mid_length _ _ _ (by omega)]) rfl hg2, (HM.out.trans (Mid.of_below _ _ HB1.out)).setCell hg1 hg2 _⟩
        have := hs.1
        rw [HL.out] at this
        exact this
      case measure => simp [intOf]; omega
    · obtain rfl : k = xs.length := by omega
      have HF := Lib.hid hf
      have HM := Lib.hid hm
      clear hf hm hll h HS
      go_wp2_with fail
      go_ret
      refine ⟨by go_num, ?_, HM.out⟩
      have := HF.out
      rw [List.drop_length, List.append_nil] at this
      exact this
set_option maxRecDepth 100000 in
set_option maxHeartbeats 1000000 in
theorem heldStringSB_c (a : Option Addr) (ca n K : Nat) (w : World) (h : Sl strE 1 w a (marks K n)) (hK : K + n ≤ 17592186044416) :
    Calls Try.prog 22 #[.slice a n ca, .int .i64 K] w fun e w' => e = .returned (.int .i64 ((K + n : Nat))) ∧ Below w.heap.size w w' := by
  go_enter Try.func22, Try.ntmps22
  go_wp2_with fail
  go_loopw [1, 5] (fun m i wr => ∃ k : Nat, k ≤ n ∧ i = .int .i64 k ∧ m = .int .i64 ((K + k : Nat)) ∧ Below w.heap.size w wr) (fun _ i _ => n - (intOf i).toNat)
  case atStart => exact ⟨0, Nat.zero_le _, rfl, rfl, Below.refl _ _⟩
  case round =>
    obtain ⟨k, hk, rfl, rfl, hbel⟩ := hrel
    by_cases hlt : k < n
    · obtain ⟨b1, o1, rfl, hb1, hc1⟩ := (h.keep hbel).at (i := k) (by rw [marks_length]; exact hlt)
      have c1 := hc1 k (by rw [marks_length]; exact hlt) 0 (by omega)
      rw [marks_get] at c1
      simp only [strE, Nat.mul_one, Nat.add_zero, List.getElem?_cons_zero] at c1
      have hz := hbel.size
      clear hc1 h
      go_wp2_with fail
      have xq0 := extW_cell (w := wr) (b := b1) (by (try simp) <;> (try omega))
      refine wp_region_quietx (wr) rfl (by kernel_rfl) (by kernel_rfl) ?_
      repeat (go_big_quiet_step ((go_at_call 53; exact Calls.quietx (markTextB_c (K + k) _ (by omega)))))
      refine wpQuiet_nil ?_
      intro _ hw'
      obtain ⟨xq, hw''⟩ := hw'
      subst hw''
      have hbq := extW_below (wr) xq
      generalize extW (wr) xq = wq at hbq ⊢
      clear xq0
      go_wp2_with fail
      go_roundw
      case rel => exact ⟨k + 1, by omega, by go_num, by go_num, hbel.trans (hbq.mono hz)⟩
      case measure => simp [intOf]; omega
    · obtain rfl : k = n := by omega
      clear h
      go_wp2_with fail
      go_ret
      exact ⟨by go_num, hbel⟩
set_option maxRecDepth 100000 in
set_option maxHeartbeats 1000000 in
theorem markIntSB_c (a : Option Addr) (ca : Nat) (xs : List Int) (K lo hi : Nat) (w : World) (h : FreshIn intE 3 1 lo hi (.slice a xs.length ca) xs w) (hlo : lo ≤ w.heap.size) (hK : K + xs.length ≤ 17592186044416) :
    Calls Try.prog 85 #[.slice a xs.length ca, .int .i64 K] w (MarkRF intE 3 1 lo hi xs.length K 1 (markI K) a ca w) := by
  go_enter Try.func85, Try.ntmps85
  go_wp2_with fail
  go_loopw [1, 5] (fun m i wr => ∃ k : Nat, k ≤ xs.length ∧ i = .int .i64 k ∧ m = .int .i64 ((K + k : Nat)) ∧ FreshIn intE 3 1 lo hi (.slice a xs.length ca) (over (markI K) xs k) wr ∧ Mid lo hi w wr) (fun _ i _ => xs.length - (intOf i).toNat)
  case atStart => exact ⟨0, Nat.zero_le _, rfl, rfl, by rw [over_zero]; exact h, Mid.refl _ _ _⟩
  case round =>
    obtain ⟨k, hk, rfl, rfl, hf, hm⟩ := hrel
    have HLL := Lib.hid (over_length (markI K) xs k hk)
    have HS : Hid (k < xs.length → (over (markI K) xs k).set k (markI K k) = over (markI K) xs (k + 1)) := over_step (markI K) xs k
    by_cases hlt : k < xs.length
    · generalize over (markI K) xs k = L at *
      obtain ⟨g, rfl, hg1, hg2, hg3, ho⟩ := hf.block (by rw [HLL.out]; omega)
      have HO := Lib.hid ho
      have HM := Lib.hid hm
      have f1 := ho.frozenAt k
      have c3 : ∃ v, w = w ∧ wr.cell? ⟨g, k, none⟩ = some v := ⟨_, rfl, (ho.cellAt k (by rw [HLL.out]; omega)).trans (List.getElem?_eq_getElem (by rw [flat_length intE 1 (fun _ => rfl), HLL.out]; omega))⟩
      obtain ⟨v, _, c3⟩ := c3
      clear ho hf hm h
      go_wp2_with fail
      go_roundw
      case rel =>
        have hs := HO.out.stored k (.int .i64 ((K : Int) + k))
        rw [show (K : Int) + k = markI K k from rfl, flat_set1 intE (fun _ => rfl) L k (by rw [HLL.out]; exact hlt) (markI K k) _ rfl, HS.out hlt] at hs
        refine ⟨k + 1, by omega, by go_num, by go_num, FreshIn.of_owns (n := xs.length) ?_ (by rw [over_length _ _ _ (by omega)]) rfl hg2, ?_⟩
        · have := hs.1
          rw [HLL.out] at this
          first | exact this | (rw [show (K : Int) + k = markI K k from rfl, ] ; exact this)
        · exact HM.out.setCell hg1 hg2 _
      case measure => simp [intOf]; omega
    · obtain rfl : k = xs.length := by omega
      have HF := Lib.hid hf
      have HM := Lib.hid hm
      clear hf hm h HS
      go_wp2_with fail
      go_ret
      refine ⟨by rw [Nat.one_mul]; first | rfl | go_num, ?_, HM.out⟩
      have := HF.out
      rw [over_all] at this
      exact this
set_option maxHeartbeats 1000000 in
theorem heldIntSB_c (a : Option Addr) (ca n K : Nat) (w : World) (h : Sl intE 1 w a ((List.range n).map (markI K))) (hK : K + n ≤ 17592186044416) :
    Calls Try.prog 89 #[.slice a n ca, .int .i64 K] w fun e w' => e = .returned (.int .i64 ((K + n : Nat))) ∧ w = w' := by
  go_enter Try.func89, Try.ntmps89
  go_wp2_with fail
  go_loop [1, 5] (fun m i => ∃ k : Nat, k ≤ n ∧ i = .int .i64 k ∧ m = .int .i64 ((K + k : Nat))) (fun _ i => n - (intOf i).toNat)
  case atStart => exact ⟨0, Nat.zero_le _, rfl, rfl⟩
  case round =>
    obtain ⟨k, hk, rfl, rfl⟩ := hrel
    by_cases hlt : k < n
    · obtain ⟨b1, o1, rfl, hb1, hc1⟩ := h.at (i := k) (by simpa using hlt)
      have c1 := hc1 k (by simpa using hlt) 0 (by omega)
      rw [range_get] at c1
      simp only [intE, markI, Nat.mul_one, Nat.add_zero, List.getElem?_cons_zero] at c1
      have c1' : w.cell? ⟨b1, o1 + k, none⟩ = some (.int .i64 ((K : Int) + k)) := by rw [c1]; simp
      clear hc1 h c1
      go_wp2_with fail
      go_round
      case rel => exact ⟨k + 1, by omega, by go_num, by go_num⟩
      case measure => simp [intOf]; omega
    · obtain rfl : k = n := by omega
      clear h
      go_wp2_with fail
      go_ret
      exact ⟨by go_num, rfl⟩
set_option maxRecDepth 100000 in
set_option maxHeartbeats 2000000 in
theorem markEntrySB_c (a : Option Addr) (ca : Nat) (xs : List Ent) (K lo hi : Nat) (w : World) (h : FreshIn entE 76 2 lo hi (.slice a xs.length ca) xs w) (hlo : lo ≤ w.heap.size) (hK : K + 2 * xs.length ≤ 17592186044416) :
    Calls Try.prog 84 #[.slice a xs.length ca, .int .i64 K] w (MarkRF entE 76 2 lo hi xs.length K 2 (markE K) a ca w) := by
  go_enter Try.func84, Try.ntmps84
  go_wp2_with fail
  go_loopw [1, 5] (fun m i wr => ∃ k : Nat, k ≤ xs.length ∧ i = .int .i64 k ∧ m = .int .i64 ((K + 2 * k : Nat)) ∧ FreshIn entE 76 2 lo hi (.slice a xs.length ca) (over (markE K) xs k) wr ∧ Mid lo hi w wr) (fun _ i _ => xs.length - (intOf i).toNat)
  case atStart => exact ⟨0, Nat.zero_le _, rfl, rfl, by rw [over_zero]; exact h, Mid.refl _ _ _⟩
  case round =>
    obtain ⟨k, hk, rfl, rfl, hf, hm⟩ := hrel
    have HLL := Lib.hid (over_length (markE K) xs k hk)
    have HS : Hid (k < xs.length → (over (markE K) xs k).set k (markE K k) = over (markE K) xs (k + 1)) := over_step (markE K) xs k
    by_cases hlt : k < xs.length
    · generalize over (markE K) xs k = L at *
      obtain ⟨g, rfl, hg1, hg2, hg3, ho⟩ := hf.block (by rw [HLL.out]; omega)
      have HO := Lib.hid ho
      have HM := Lib.hid hm
      have f1 := ho.frozenAt (k * 2)
      have c3 : ∃ v, w = w ∧ wr.cell? ⟨g, k * 2, none⟩ = some v := ⟨_, rfl, (ho.cellAt (k * 2) (by rw [HLL.out]; omega)).trans (List.getElem?_eq_getElem (by rw [flat_length entE 2 (fun _ => rfl), HLL.out]; omega))⟩
      obtain ⟨v, _, c3⟩ := c3
      have hs1 := (ho.stored (k * 2) (.int .i64 ((K : Int) + 2 * k))).1
      have HO1 := Lib.hid hs1
      have hmz := hm.size
      clear ho hf hm h hs1
      go_wp2_with (go_at_call 53
                   refine (markTextB_c (K + 2 * k + 1) _ (by omega)).mono ?_
                   rintro e w1 ⟨rfl, hb1⟩
                   have HO2 := Lib.hid (own_below HO1.out hb1)
                   have HB1 := Lib.hid hb1
                   clear hb1
                   have f2 := HO2.out.frozenAt (k * 2 + 1)
                   have c4 : ∃ v, w1 = w1 ∧ w1.cell? ⟨g, k * 2 + 1, none⟩ = some v := ⟨_, rfl, (HO2.out.cellAt (k * 2 + 1) (by rw [HLL.out]; omega)).trans (List.getElem?_eq_getElem (by rw [List.length_set, flat_length entE 2 (fun _ => rfl), HLL.out]; omega))⟩
                   obtain ⟨v4, _, c4⟩ := c4)
      go_roundw
      case rel =>
        have hs := HO2.out.stored (k * 2 + 1) (.string (mt (K + 2 * k + 1)))
        have he : entE (markE K k) = [.int .i64 ((K : Int) + 2 * k), .string (mt (K + 2 * k + 1))] := by
          simp [entE, markE]
        rw [flat_set2 entE (fun _ => rfl) L k (by rw [HLL.out]; exact hlt) (markE K k) _ _ he, HS.out hlt] at hs
        refine ⟨k + 1, by omega, by go_num, by go_num, FreshIn.of_owns (n := xs.length) ?_ (by rw [over_length _ _ _ (by omega)]) rfl hg2, ?_⟩
        · have := hs.1
          rw [HLL.out] at this
          exact this
        · exact ((HM.out.setCell hg1 hg2 _).trans (Mid.of_below _ _ HB1.out)).setCell hg1 hg2 _
      case measure => simp [intOf]; omega
    · obtain rfl : k = xs.length := by omega
      have HF := Lib.hid hf
      have HM := Lib.hid hm
      clear hf hm h HS
      go_wp2_with fail
      go_ret
      refine ⟨by go_num, ?_, HM.out⟩
      have := HF.out
      rw [over_all] at this
      exact this
set_option maxRecDepth 100000 in
set_option maxHeartbeats 2000000 in
theorem heldEntrySB_c (a : Option Addr) (ca n K : Nat) (w : World) (h : Sl entE 2 w a ((List.range n).map (markE K))) (hK : K + 2 * n ≤ 17592186044416) :
    Calls Try.prog 88 #[.slice a n ca, .int .i64 K] w fun e w' => e = .returned (.int .i64 ((K + 2 * n : Nat))) ∧ Below w.heap.size w w' := by
  go_enter Try.func88, Try.ntmps88
  go_wp2_with fail
  go_loopw [1, 5] (fun m i wr => ∃ k : Nat, k ≤ n ∧ i = .int .i64 k ∧ m = .int .i64 ((K + 2 * k : Nat)) ∧ Below w.heap.size w wr) (fun _ i _ => n - (intOf i).toNat)
  case atStart => exact ⟨0, Nat.zero_le _, rfl, rfl, Below.refl _ _⟩
  case round =>
    obtain ⟨k, hk, rfl, rfl, hbel⟩ := hrel
    by_cases hlt : k < n
    · obtain ⟨b1, o1, rfl, hb1, hc1⟩ := (h.keep hbel).at (i := k) (by simpa using hlt)
      have c1 := hc1 k (by simpa using hlt) 0 (by omega)
      have c2 := hc1 k (by simpa using hlt) 1 (by omega)
      rw [range_get] at c1 c2
      simp only [entE, markE, Nat.add_zero, List.getElem?_cons_zero, List.getElem?_cons_succ] at c1 c2
      have c1' : wr.cell? ⟨b1, o1 + k * 2, none⟩ = some (.int .i64 ((K : Int) + 2 * k)) := by rw [c1]; simp
      have hz := hbel.size
      clear hc1 h c1
      go_wp2_with fail
      have xq0 := extW_cell (w := wr) (b := b1) (by (try simp) <;> (try omega))
      refine wp_region_quietx (wr) rfl (by kernel_rfl) (by kernel_rfl) ?_
      repeat (go_big_quiet_step ((go_at_call 53; exact Calls.quietx (markTextB_c (K + 2 * k + 1) _ (by omega)))))
      refine wpQuiet_nil ?_
      intro _ hw'
      obtain ⟨xq, hw''⟩ := hw'
      subst hw''
      have hbq := extW_below (wr) xq
      generalize extW (wr) xq = wq at hbq ⊢
      clear xq0
      go_wp2_with fail
      go_roundw
      case rel => exact ⟨k + 1, by omega, by go_num, by go_num, hbel.trans (hbq.mono hz)⟩
      case measure => simp [intOf]; omega
    · obtain rfl : k = n := by omega
      clear h
      go_wp2_with fail
      go_ret
      exact ⟨by go_num, hbel⟩
end
section
open Go.RowKit
/-- Only the cells of block g from lo on and below hi, the blocks of S, and new blocks differ. -/
structure Upd (g lo hi : Nat) (S : Nat → Prop) (w w' : World) : Prop where
  os : w'.os = w.os
  tape : w'.tape = w.tape
  output : w'.output = w.output
  size : w.heap.size ≤ w'.heap.size
  block : ∀ k, k < w.heap.size → k ≠ g → ¬ S k → w'.heap[k]? = w.heap[k]?
  cell : ∀ o, (o < lo ∨ hi ≤ o) → w'.cell? ⟨g, o, none⟩ = w.cell? ⟨g, o, none⟩
  fz : ∀ o, w'.frozen? ⟨g, o, none⟩ = w.frozen? ⟨g, o, none⟩
section
variable {g lo hi : Nat} {S : Nat → Prop} {a w w' : World}
theorem Upd.refl : Upd g lo hi S w w := ⟨rfl, rfl, rfl, Nat.le_refl _, fun _ _ _ _ => rfl, fun _ _ => rfl, fun _ => rfl⟩
theorem Upd.trans (h : Upd g lo hi S a w) (k : Upd g lo hi S w w') : Upd g lo hi S a w' :=
  ⟨k.os.trans h.os, k.tape.trans h.tape, k.output.trans h.output, Nat.le_trans h.size k.size, fun i h1 h2 h3 => (k.block i (Nat.lt_of_lt_of_le h1 h.size) h2 h3).trans (h.block i h1 h2 h3), fun o ho => (k.cell o ho).trans (h.cell o ho), fun o => (k.fz o).trans (h.fz o)⟩
theorem Upd.setCell (h : Upd g lo hi S a w) (o : Nat) (h1 : lo ≤ o) (h2 : o < hi) (u : Value) : Upd g lo hi S a (w.setCell ⟨g, o, none⟩ u) :=
  h.trans ⟨rfl, rfl, rfl, by simp [World.setCell], fun k _ hk _ => Below.heap_setCell _ _ _ _ hk, fun o' ho => World.cell?_setCell_other _ _ _ _ (fun e => by cases e; omega), fun o' => World.frozen?_setCell _ _ _ _⟩
theorem Upd.mid {l r : Nat} (h : Upd g lo hi S a w) (hm : Mid l r w w') (hg : g < w.heap.size) (hd : g < l ∨ r ≤ g) (hS : ∀ k, l ≤ k → k < r → k < w.heap.size → S k) : Upd g lo hi S a w' :=
  h.trans ⟨hm.os, hm.tape, hm.output, hm.size, fun k h1 _ h3 => hm.block k h1 (by
    rcases Nat.lt_or_ge k l with hl | hl
    · exact .inl hl
    · rcases Nat.lt_or_ge k r with hr | hr
      · exact absurd (hS k hl hr h1) h3
      · exact .inr hr), fun o _ => hm.cell (p := ⟨g, o, none⟩) hg hd, fun o => hm.frozen (p := ⟨g, o, none⟩) hg hd⟩
theorem Upd.below (h : Upd g lo hi S a w) (hb : Below w.heap.size w w') (hg : g < w.heap.size) : Upd g lo hi S a w' :=
  h.trans ⟨hb.os, hb.tape, hb.output, hb.size, fun k h1 _ _ => hb.block k h1, fun o _ => hb.cell (p := ⟨g, o, none⟩) hg, fun o => hb.frozen (p := ⟨g, o, none⟩) hg⟩
theorem Upd.mono {lo' hi' : Nat} {T : Nat → Prop} (h : Upd g lo hi S w w') (h1 : lo' ≤ lo) (h2 : hi ≤ hi') (hS : ∀ k, S k → T k) : Upd g lo' hi' T w w' :=
  ⟨h.os, h.tape, h.output, h.size, fun k a b c => h.block k a b (fun hs => c (hS k hs)), fun o ho => h.cell o (by omega), h.fz⟩
theorem Upd.toMid {l r : Nat} (h : Upd g lo hi S w w') (h1 : l ≤ g) (h2 : g < r) (hS : ∀ k, S k → l ≤ k ∧ k < r) : Mid l r w w' :=
  ⟨h.os, h.tape, h.output, h.size, fun k hk hd => h.block k hk (by omega) (fun hs => by have := hS k hs; omega)⟩
theorem Upd.toBelow {B : Nat} (h : Upd g lo hi S w w') (hB : B ≤ w.heap.size) (h1 : B ≤ g) (hS : ∀ k, S k → B ≤ k) : Below B w w' :=
  ⟨h.os, h.tape, h.output, h.size, fun k hk => h.block k (by omega) (by omega) (fun hs => by have := hS k hs; omega)⟩
variable {α : Type} {enc : α → List Value} {sz : Nat} {ad : Option Addr} {xs : List α}
/-- One row of a list of rows is written anew. -/
theorem Sl.row (h : Sl enc sz w (some ⟨g, 0, none⟩) xs) (hg : g < w.heap.size) {q : Nat} (hq : q < xs.length) (hu : Upd g (q * sz) (q * sz + sz) S w w') (x : α) (hx : ∀ j, j < sz → w'.cell? ⟨g, q * sz + j, none⟩ = (enc x)[j]?) : Sl enc sz w' (some ⟨g, 0, none⟩) (xs.set q x) := by
  obtain ⟨b, off, he, hlt, hc⟩ := h.at hq
  simp only [Option.some.injEq, Addr.mk.injEq] at he
  obtain ⟨rfl, rfl, _⟩ := he
  refine .inr ⟨g, 0, rfl, Nat.lt_of_lt_of_le hg hu.size, fun i hi j hj => ?_⟩
  have hi' : i < xs.length := by simpa using hi
  rw [Nat.zero_add]
  by_cases hiq : i = q
  · subst hiq
    rw [hx j hj]
    simp
  · have h1 := hc i hi' j hj
    rw [Nat.zero_add] at h1
    rw [hu.cell _ (by
      rcases Nat.lt_or_gt_of_ne hiq with h | h
      · left
        have : (i + 1) * sz ≤ q * sz := Nat.mul_le_mul_right _ h
        rw [Nat.add_mul] at this
        omega
      · right
        have : (q + 1) * sz ≤ i * sz := Nat.mul_le_mul_right _ h
        rw [Nat.add_mul] at this
        omega), h1]
    rw [List.getElem_set_ne (fun e => hiq e.symm)]
/-- The blocks of a slice. -/
def blkOf : Option Addr → List Nat
  | some p => [p.block]
  | none => []
theorem FreshIn.upd {e : TypeId} {B n c : Nat} (h : FreshIn enc e sz B w.heap.size (.slice ad n c) xs w) (hu : Upd g lo hi S w w') (hd : ∀ k ∈ blkOf ad, k ≠ g ∧ ¬ S k) : FreshIn enc e sz B w'.heap.size (.slice ad n c) xs w' := by
  obtain ⟨⟨a', cap', hv, h1, h2, h3⟩, h4⟩ := h
  refine ⟨⟨a', cap', hv, h1, h2, ?_⟩, fun k hk => Nat.lt_of_lt_of_le (h4 k hk) hu.size⟩
  cases hv
  rcases h3 with h3 | ⟨b, cap, cur, hv, hg, hb, r'⟩
  · exact .inl h3
  · refine .inr ⟨b, cap, cur, hv, hg, ?_, r'⟩
    cases hv
    have hk := hd b (by simp [blkOf])
    rw [hu.block b (Array.getElem?_eq_some_iff.1 hb).1 hk.1 hk.2]
    exact hb
/-- A slice of one's own, in its block alone. -/
theorem FreshIn.tight {e : TypeId} {B n c : Nat} (h : FreshIn enc e sz B w.heap.size (.slice ad n c) xs w) : ∃ b, FreshIn enc e sz b (b + 1) (.slice ad n c) xs w ∧ b ≤ w.heap.size ∧ (∀ k, b ≤ k → k < b + 1 → k < w.heap.size → k ∈ blkOf ad) ∧ (b < w.heap.size → b ∈ blkOf ad ∧ B ≤ b) := by
  obtain ⟨⟨a', cap', hv, h1, h2, h3⟩, h4⟩ := h
  cases hv
  rcases h3 with ⟨h3, hn⟩ | ⟨b, cap, cur, hv, hg, hb, r'⟩
  · refine ⟨w.heap.size, ⟨⟨ad, c, rfl, h1, h2, .inl ⟨h3, hn⟩⟩, fun k hk => ?_⟩, Nat.le_refl _, fun k h5 _ h6 => by omega, fun h5 => by omega⟩
    rw [h3] at hk
    simp [Value.ownBlock] at hk
  · cases hv
    have hlt := (Array.getElem?_eq_some_iff.1 hb).1
    refine ⟨b, ⟨⟨_, _, rfl, h1, h2, .inr ⟨b, _, cur, rfl, Nat.le_refl _, hb, r'⟩⟩, fun k hk => ?_⟩, Nat.le_of_lt hlt, fun k h5 h6 _ => ?_, fun _ => ⟨by simp [blkOf], hg⟩⟩
    · simp [Value.ownBlock] at hk
      omega
    · have : k = b := by omega
      subst this
      simp [blkOf]
theorem FreshIn.grow {e : TypeId} {B n c b : Nat} (h : FreshIn enc e sz b (b + 1) (.slice ad n c) xs w) (hB : B ≤ b) (hb : b < w.heap.size) : FreshIn enc e sz B w.heap.size (.slice ad n c) xs w := h.mono hB hb
theorem FreshIn.nilB {e : TypeId} {B n c b : Nat} (h : FreshIn enc e sz b (b + 1) (.slice ad n c) xs w) (hk : ∀ k ∈ blkOf ad, B ≤ k) : FreshIn enc e sz B w.heap.size (.slice ad n c) xs w := by
  obtain ⟨⟨a', cap', hv, h1, h2, h3⟩, h4⟩ := h
  cases hv
  rcases h3 with ⟨h3, hn⟩ | ⟨b', cap, cur, hv, hg, hb, r'⟩
  · refine ⟨⟨ad, c, rfl, h1, h2, .inl ⟨h3, hn⟩⟩, fun k hk => ?_⟩
    rw [h3] at hk
    simp [Value.ownBlock] at hk
  · cases hv
    have hlt := (Array.getElem?_eq_some_iff.1 hb).1
    exact ⟨⟨_, _, rfl, h1, h2, .inr ⟨b', _, cur, rfl, hk b' (by simp [blkOf]), hb, r'⟩⟩, fun k hk' => by simp [Value.ownBlock] at hk'; omega⟩
end
end
section
open Go.RowKit
def Sep (g : Nat) (bs : List (List Nat)) : Prop :=
  (∀ i (h : i < bs.length), g ∉ bs[i] ∧ bs[i].Nodup) ∧ ∀ i j (hi : i < bs.length) (hj : j < bs.length), i ≠ j → ∀ b ∈ bs[i], b ∉ bs[j]
structure RowsR {R : Type} (enc : R → List Value) (sz : Nat) (ok : Nat → World → R → Prop) (blk : R → List Nat) (B : Nat) (w : World) (g : Nat) (rs : List R) : Prop where
  low : B ≤ g
  lt : g < w.heap.size
  sl : Sl enc sz w (some ⟨g, 0, none⟩) rs
  fz : ∀ o, w.frozen? ⟨g, o, none⟩ = false
  ok : ∀ i (h : i < rs.length), ok B w rs[i]
  sep : Sep g (rs.map blk)
section
variable {R : Type} {enc : R → List Value} {sz : Nat} {ok : Nat → World → R → Prop} {blk : R → List Nat} {B : Nat} {w w' : World} {g : Nat} {rs : List R}
/-- One row is written anew, its slices stay in their blocks. -/
theorem RowsR.step (h : RowsR enc sz ok blk B w g rs) {q : Nat} (hq : q < rs.length) {x : R} (hb : blk x = blk rs[q])
    (hu : Upd g (q * sz) (q * sz + sz) (· ∈ blk rs[q]) w w') (hx : ∀ j, j < sz → w'.cell? ⟨g, q * sz + j, none⟩ = (enc x)[j]?) (ho : ok B w' x)
    (hk : ∀ r, ok B w r → (∀ k ∈ blk r, k ≠ g ∧ k ∉ blk rs[q]) → ok B w' r) : RowsR enc sz ok blk B w' g (rs.set q x) where
  low := h.low
  lt := Nat.lt_of_lt_of_le h.lt hu.size
  sl := Sl.row h.sl h.lt hq hu x hx
  fz := fun o => (hu.fz o).trans (h.fz o)
  ok := fun i hi => by
    have hi' : i < rs.length := by simpa using hi
    by_cases hiq : i = q
    · subst hiq
      simpa using ho
    · rw [List.getElem_set_ne (fun e => hiq e.symm)]
      refine hk _ (h.ok i hi') (fun k hk' => ⟨fun e => ?_, ?_⟩)
      · subst e
        have := (h.sep.1 i (by simpa using hi')).1
        simp at this
        exact this hk'
      · have := h.sep.2 i q (by simpa using hi') (by simpa using hq) hiq k (by simpa using hk')
        simpa using this
  sep := by
    have : (rs.set q x).map blk = rs.map blk := by
      rw [List.map_set, hb]
      exact List.ext_getElem (by simp) (fun i h1 h2 => by
        by_cases hiq : q = i
        · subst hiq; simp
        · rw [List.getElem_set_ne hiq])
    rw [this]
    exact h.sep
theorem RowsR.in (h : RowsR enc sz ok blk B w g rs) {q : Nat} (hq : q < rs.length) : g ∉ blk rs[q] ∧ (blk rs[q]).Nodup := by
  have := h.sep.1 q (by simpa using hq)
  simpa using this
def allBlk (blk : R → List Nat) (rs : List R) (k : Nat) : Prop := ∃ r ∈ rs, k ∈ blk r
theorem Upd.wide {lo hi : Nat} {S : Nat → Prop} (h : Upd g lo hi S w w') (n : Nat) (h2 : hi ≤ n) {T : Nat → Prop} (hS : ∀ k, S k → T k) : Upd g 0 n T w w' := h.mono (Nat.zero_le _) h2 hS
theorem over_at {f : Nat → R} {xs : List R} {k : Nat} (hk : k < xs.length) (h : k < (over f xs k).length) : (over f xs k)[k] = xs[k] := by
  have h1 : (over f xs k)[k]? = xs[k]? := by
    unfold over
    rw [List.getElem?_append_right (by simp)]
    simp
  rw [List.getElem?_eq_getElem h, List.getElem?_eq_getElem hk] at h1
  exact Option.some.inj h1
theorem RowsR.below (h : RowsR enc sz ok blk B w g rs) (hb : Below w.heap.size w w') (hk : ∀ r, ok B w r → ok B w' r) : RowsR enc sz ok blk B w' g rs where
  low := h.low
  lt := Nat.lt_of_lt_of_le h.lt hb.size
  sl := h.sl.keep hb
  fz := fun o => (hb.frozen (p := ⟨g, o, none⟩) h.lt).trans (h.fz o)
  ok := fun i hi => hk _ (h.ok i hi)
  sep := h.sep
theorem FreshIn.ownB {α : Type} {enc : α → List Value} {sz : Nat} {e : TypeId} {B n c : Nat} {ad : Option Addr} {xs : List α} (h : FreshIn enc e sz B w.heap.size (.slice ad n c) xs w) : ∀ k ∈ blkOf ad, B ≤ k := by
  intro k hk
  cases ad with
  | none => simp [blkOf] at hk
  | some p =>
    simp only [blkOf, List.mem_singleton] at hk
    subst hk
    exact ((FreshIn.row h) p.block (by simp [Value.ownBlock])).1
/-- A call that writes a slice of one's own, seen from a row in another block. -/
theorem flat_upd {P : Program} {F : Nat} {args : Array Value} {V : Value} {α : Type} {en : α → List Value} {sf : Nat} {e : TypeId} {n c lo hi : Nat} {ad : Option Addr} {xs ys : List α}
    (hcall : ∀ b W, FreshIn en e sf b (b + 1) (.slice ad n c) xs W → b ≤ W.heap.size → Calls P F args W (fun x w' => x = .returned V ∧ FreshIn en e sf b (b + 1) (.slice ad n c) ys w' ∧ Mid b (b + 1) W w'))
    (h : FreshIn en e sf B w.heap.size (.slice ad n c) xs w) (hs : ∀ k ∈ blkOf ad, k ≠ g) (hg : g < w.heap.size) (W : World) (hW : Upd g lo hi (fun _ => False) w W) :
    Calls P F args W (fun x w' => x = .returned V ∧ FreshIn en e sf B w'.heap.size (.slice ad n c) ys w' ∧ Upd g lo hi (· ∈ blkOf ad) W w' ∧ ∀ o, w'.cell? ⟨g, o, none⟩ = W.cell? ⟨g, o, none⟩) := by
  have h1 := h.upd hW (fun k hk => ⟨hs k hk, fun e => e⟩)
  obtain ⟨b, h2, h3, h4, h5⟩ := h1.tight
  have hgW : g < W.heap.size := Nat.lt_of_lt_of_le hg hW.size
  have hbg : b ≠ g := fun e => hs b (h5 (by omega)).1 e
  have hd : g < b ∨ b + 1 ≤ g := by omega
  refine Calls.mono (P := P) (hcall b W h2 h3) ?_
  rintro x w' ⟨rfl, h6, h7⟩
  exact ⟨rfl, FreshIn.nilB h6 (FreshIn.ownB h1), Upd.mid Upd.refl h7 hgW hd h4, fun o => h7.cell (p := ⟨g, o, none⟩) hgW hd⟩
theorem FreshIn.slr2 {α : Type} {enc : α → List Value} {sz lo hi n ca : Nat} {f : Nat → α} {a : Option Addr} {e : TypeId} {w : World} (hs : ∀ x, (enc x).length = sz) (h : FreshIn enc e sz lo hi (.slice a n ca) ((List.range n).map f) w) : Sl enc sz w a ((List.range n).map f) := by
  have h' : FreshIn enc e sz lo hi (.slice a ((List.range n).map f).length ca) ((List.range n).map f) w := by simpa using h
  exact h'.sl hs
end
end
section
open Go.RowKit
def storeBlk (r : Sto) : List Nat := []
def storeOwn (B : Nat) (w : World) (r : Sto) : Prop := True
def storeCnt (r : Sto) : Nat := 2
def storeNum (K : Nat) : List Sto → Nat
  | [] => K
  | r :: rs => storeNum (K + storeCnt r) rs
def storeMk (r : Sto) (K : Nat) : Sto := (mt (K), ((K + 1 : Nat) : Int))
def storeF (rs : List Sto) (K j : Nat) : Sto := storeMk (rs.getD j ((⟨#[]⟩, 0) : Sto)) (storeNum K (rs.take j))
theorem storeNum_step (K : Nat) (rs : List Sto) (q : Nat) (hq : q < rs.length) : storeNum K (rs.take (q + 1)) = storeNum K (rs.take q) + storeCnt rs[q] := by
  induction rs generalizing K q with
  | nil => simp at hq
  | cons r rs ih =>
    cases q with
    | zero => simp [storeNum]
    | succ q => simp only [List.take_succ_cons, storeNum, List.getElem_cons_succ]; exact ih _ q (by simpa using hq)
theorem storeNum_mono (K : Nat) (rs : List Sto) : K ≤ storeNum K rs := by
  induction rs generalizing K with
  | nil => exact Nat.le_refl _
  | cons r rs ih => exact Nat.le_trans (Nat.le_add_right _ _) (ih _)
theorem storeNum_le (K : Nat) (rs : List Sto) (q : Nat) (hq : q < rs.length) : storeNum K (rs.take q) + storeCnt rs[q] ≤ storeNum K rs := by
  rw [← storeNum_step K rs q hq]
  conv => rhs; rw [← List.take_append_drop (q + 1) rs]
  generalize rs.take (q + 1) = a
  generalize rs.drop (q + 1) = b
  clear hq
  induction a generalizing K with
  | nil => exact storeNum_mono _ _
  | cons r a ih => exact ih _
theorem storeNum_len (K : Nat) (rs : List Sto) : K + rs.length ≤ storeNum K rs := by
  induction rs generalizing K with
  | nil => exact Nat.le_refl _
  | cons r rs ih =>
    have := ih (K + storeCnt r)
    have h1 : 1 ≤ storeCnt r := by unfold storeCnt; omega
    simp only [List.length_cons, storeNum]
    omega
theorem storeF_at (rs : List Sto) (K q : Nat) (hq : q < rs.length) : storeF rs K q = storeMk rs[q] (storeNum K (rs.take q)) := by
  unfold storeF
  rw [List.getD_eq_getElem?_getD, List.getElem?_eq_getElem hq]
  rfl
set_option maxRecDepth 100000 in
set_option maxHeartbeats 8000000 in
theorem markStoreS_c (g ca B : Nat) (rs : List Sto) (K : Nat) (w : World) (h : RowsR stoE 2 storeOwn storeBlk B w g rs) (hK : storeNum K rs ≤ 17592186044416) :
    Calls Try.prog 51 #[.slice (some ⟨g, 0, none⟩) rs.length ca, .int .i64 K] w fun e w' => e = .returned (.int .i64 ((storeNum K rs : Nat))) ∧ RowsR stoE 2 storeOwn storeBlk B w' g ((List.range rs.length).map (storeF rs K)) ∧ Upd g 0 (rs.length * 2) (allBlk storeBlk rs) w w' := by
  have hlen : rs.length ≤ 17592186044416 := by have := storeNum_len K rs; omega
  have HK := Lib.hid hK
  clear hK
  go_enter Try.func51, Try.ntmps51
  go_wp2_with fail
  go_loopw [1, 5] (fun m i wr => ∃ q : Nat, q ≤ rs.length ∧ i = .int .i64 q ∧ m = .int .i64 ((storeNum K (rs.take q) : Nat)) ∧ RowsR stoE 2 storeOwn storeBlk B wr g (over (storeF rs K) rs q) ∧ Upd g 0 (rs.length * 2) (allBlk storeBlk rs) w wr) (fun _ i _ => rs.length - (intOf i).toNat)
  case atStart => exact ⟨0, Nat.zero_le _, rfl, rfl, by rw [over_zero]; exact h, Upd.refl⟩
  case round =>
    obtain ⟨q, hq, rfl, rfl, hr, hw⟩ := hrel
    have HR := Lib.hid hr
    have HW := Lib.hid hw
    clear hw
    have hlt0 := hr.lt
    by_cases hlt : q < rs.length
    · have hol : q < (over (storeF rs K) rs q).length := by rw [over_length _ _ _ hq]; exact hlt
      have hoa := over_at (f := storeF rs K) hlt hol
      obtain ⟨b1, o1, he1, hb1, hc1⟩ := hr.sl.at hol
      simp only [Option.some.injEq, Addr.mk.injEq] at he1
      obtain ⟨rfl, rfl, _⟩ := he1
      have c0_0 := hc1 q hol 0 (by omega)
      have c0_1 := hc1 q hol 1 (by omega)
      rw [hoa] at c0_0 c0_1
      simp only [stoE, Nat.zero_add, Nat.add_zero, List.getElem?_cons_zero, List.getElem?_cons_succ] at c0_0 c0_1
      clear hc1
      have f0 := hr.fz
      have hin := hr.in hol
      have hok := hr.ok q hol
      have HF := Lib.hid (storeF_at rs K q hlt)
      have HNS := Lib.hid (storeNum_step K rs q hlt)
      have HKM : Hid (storeNum K (rs.take q) + storeCnt rs[q] ≤ 17592186044416) := Lib.hid (Nat.le_trans (storeNum_le K rs q hlt) HK.out)
      have HALL : Hid (∀ k ∈ storeBlk rs[q], allBlk storeBlk rs k) := Lib.hid (fun k hk => ⟨_, List.getElem_mem hlt, hk⟩)
      have HOS : Hid ((over (storeF rs K) rs q).set q (storeF rs K q) = over (storeF rs K) rs (q + 1)) := over_step _ rs q hlt
      have hbq : storeBlk (over (storeF rs K) rs q)[q] = storeBlk rs[q] := by rw [hoa]
      rw [hoa] at hin hok
      have HBQ := Lib.hid hbq
      clear hr hoa hbq
      generalize rs[q] = r at *
      generalize storeNum K (rs.take q) = K0 at *
      have HIN := Lib.hid hin
      clear hin
      have HU0 : Hid (Upd g (q * 2) (q * 2 + 2) (· ∈ storeBlk r) wr wr) := Lib.hid Upd.refl
      have hKM := HKM.out
      unfold storeCnt at hKM
      have HKM2 := Lib.hid hKM
      have hbK0 : K0 ≤ 17592186044416 := by omega
      clear hok hKM
      have hsz1 : g < wr.heap.size := by omega
      go_wp2_with fail
      refine (markTextB_c (K0) _ (by have h1 := HKM2.out; skip; omega)).mono ?_
      rintro e w1 ⟨rfl, hb1⟩
      have hz1 := hb1.size
      try simp at hz1
      have hu1 : Upd g (q * 2) (q * 2 + 2) (fun _ => False) wr w1 := Upd.below (by (repeat (first | (with_reducible exact Upd.refl) | (refine Upd.setCell ?_ _ (by omega) (by omega) _)))) hb1 (by (try simp) <;> omega)
      have c1_0 : w1.cell? ⟨g, q * 2, none⟩ = some (.string r.1) := (hb1.cell (p := ⟨g, q * 2, none⟩) (by show g < _; (try simp) <;> omega)).trans (by simp [go_sem, c0_0] <;> (first | omega | (congr 2 <;> omega)))
      have c1_1 : w1.cell? ⟨g, q * 2 + 1, none⟩ = some (.int .i64 r.2) := (hb1.cell (p := ⟨g, q * 2 + 1, none⟩) (by show g < _; (try simp) <;> omega)).trans (by simp [go_sem, c0_1] <;> (first | omega | (congr 2 <;> omega)))
      have f1 : ∀ o, w1.frozen? ⟨g, o, none⟩ = false := fun o => (hu1.fz o).trans (f0 o)
      have HU1 : Hid (Upd g (q * 2) (q * 2 + 2) (· ∈ storeBlk r) wr w1) := Lib.hid (HU0.out.trans (hu1.mono (Nat.le_refl _) (Nat.le_refl _) (fun k hk => by exact False.elim hk)))
      clear c0_0 c0_1 f0  HU0
      clear hb1 hu1
      have hszz : g < w1.heap.size := by omega
      go_wp2_with fail
      go_roundw
      case rel =>
        have hq2 : q * 2 + 2 ≤ rs.length * 2 := by have := Nat.mul_le_mul_right 2 (show q + 1 ≤ rs.length by omega); omega
        refine ⟨q + 1, by omega, by go_num, ?_, ?_, ?_⟩
        · rw [HNS.out]
          show Value.int .i64 _ = Value.int .i64 _
          congr 1 <;> (unfold storeCnt; omega)
        · rw [← HOS.out, HF.out]
          refine RowsR.step HR.out hol (x := storeMk r K0) ?_ ?_ ?_ ?_ ?_
          · rw [HBQ.out]; rfl
          · rw [HBQ.out]; (repeat (first | (with_reducible exact HU1.out) | (refine Upd.setCell ?_ _ (by omega) (by omega) _)))
          · intro j hj
            match j, hj with
            | 0, _ => simp [go_sem, c1_0, storeMk, stoE] <;> (first | omega | (congr 2 <;> omega) | (subst_vars; rfl))
            | 1, _ => simp [go_sem, c1_1, storeMk, stoE] <;> (first | omega | (congr 2 <;> omega) | (subst_vars; rfl))
          · trivial
          · intro r' h1 h2; trivial
        · refine HW.out.trans (Upd.mono (lo := q * 2) (hi := q * 2 + 2) (S := (· ∈ storeBlk r)) (by (repeat (first | (with_reducible exact HU1.out) | (refine Upd.setCell ?_ _ (by omega) (by omega) _)))) (Nat.zero_le _) hq2 (fun k hk => HALL.out k hk))
      case measure => simp [intOf]; omega
    · obtain rfl : q = rs.length := by omega
      go_wp2_with fail
      go_ret
      have h1 := HR.out
      rw [over_all] at h1
      refine ⟨by rw [List.take_length]; rfl, h1, HW.out⟩
set_option maxRecDepth 100000 in
set_option maxHeartbeats 8000000 in
theorem heldStoreS_c (g ca B : Nat) (rs : List Sto) (K : Nat) (w : World) (h : RowsR stoE 2 storeOwn storeBlk B w g ((List.range rs.length).map (storeF rs K))) (hK : storeNum K rs ≤ 17592186044416) :
    Calls Try.prog 58 #[.slice (some ⟨g, 0, none⟩) rs.length ca, .int .i64 K] w fun e w' => e = .returned (.int .i64 ((storeNum K rs : Nat))) ∧ Below w.heap.size w w' := by
  have hlen : rs.length ≤ 17592186044416 := by have := storeNum_len K rs; omega
  have HK := Lib.hid hK
  have H0 := Lib.hid h
  clear hK h
  go_enter Try.func58, Try.ntmps58
  go_wp2_with fail
  go_loopw [1, 5] (fun m i wr => ∃ q : Nat, q ≤ rs.length ∧ i = .int .i64 q ∧ m = .int .i64 ((storeNum K (rs.take q) : Nat)) ∧ Below w.heap.size w wr) (fun _ i _ => rs.length - (intOf i).toNat)
  case atStart => exact ⟨0, Nat.zero_le _, rfl, rfl, Below.refl _ _⟩
  case round =>
    obtain ⟨q, hq, rfl, rfl, hw⟩ := hrel
    have HW := Lib.hid hw
    have hwz := hw.size
    have hlt0 : g < wr.heap.size := by have := H0.out.lt; omega
    by_cases hlt : q < rs.length
    · have hol : q < ((List.range rs.length).map (storeF rs K)).length := by simpa using hlt
      obtain ⟨b1, o1, he1, hb1, hc1⟩ := (H0.out.sl.keep hw).at hol
      simp only [Option.some.injEq, Addr.mk.injEq] at he1
      obtain ⟨rfl, rfl, _⟩ := he1
      have hF : ((List.range rs.length).map (storeF rs K))[q] = storeMk rs[q] (storeNum K (rs.take q)) := by simpa using storeF_at rs K q hlt
      have HO := Lib.hid (H0.out.ok q hol)
      have HNS := Lib.hid (storeNum_step K rs q hlt)
      have HKM : Hid (storeNum K (rs.take q) + storeCnt rs[q] ≤ 17592186044416) := Lib.hid (Nat.le_trans (storeNum_le K rs q hlt) HK.out)
      rw [hF] at HO
      have e0_0 := hc1 q hol 0 (by omega)
      have e0_1 := hc1 q hol 1 (by omega)
      rw [hF] at e0_0 e0_1
      clear hF hc1
      generalize rs[q] = r at *
      generalize storeNum K (rs.take q) = K0 at *
      simp only [stoE, storeMk, Nat.zero_add, Nat.add_zero, List.length_map, List.length_range, List.getElem?_cons_zero, List.getElem?_cons_succ] at e0_0 e0_1
      have E0_0 := Lib.hid e0_0
      have E0_1 := Lib.hid e0_1
      clear e0_0 e0_1
      clear HO
      have hKM := HKM.out
      unfold storeCnt at hKM
      have HKM2 := Lib.hid hKM
      have hbK0 : K0 ≤ 17592186044416 := by omega
      clear hKM
      have c0_0 : wr.cell? ⟨g, q * 2, none⟩ = some (.string (mt (K0))) := E0_0.out.trans (by first | rfl | (congr 2; omega) | (simp; omega) | (simp) | (congr 2 <;> congr 1 <;> omega))
      have c0_1 : wr.cell? ⟨g, q * 2 + 1, none⟩ = some (.int .i64 ((K0 : Int) + 1)) := E0_1.out.trans (by first | rfl | (congr 2; omega) | (simp; omega) | (simp) | (congr 2 <;> congr 1 <;> omega))
      go_wp2_with fail
      have xq0 := extW_cell (w := wr) (b := g) (by (try simp) <;> (try omega))
      refine wp_region_quietx (wr) rfl (by kernel_rfl) (by kernel_rfl) ?_
      repeat (go_big_quiet_step ((go_at_call 53; exact Calls.quietx (markTextB_c (K0) _ (by have h1 := HKM2.out; skip; omega)))))
      refine wpQuiet_nil ?_
      intro _ hw'
      obtain ⟨xq, hw''⟩ := hw'
      subst hw''
      have hbq := extW_below (wr) xq
      generalize extW (wr) xq = wq at hbq ⊢
      clear xq0
      obtain ⟨w1, rfl⟩ : ∃ W : World, W = wq := ⟨_, rfl⟩
      have hzq1 := hbq.size
      have HW1 : Hid (Below w.heap.size w w1) := Lib.hid (HW.out.trans (hbq.mono (by omega)))
      have E1_1 := Lib.hid ((hbq.cell (p := ⟨g, q * 2 + 1, none⟩) (by show g < wr.heap.size; omega)).trans E0_1.out)
      have hlq1 : g < w1.heap.size := by omega
      clear hbq
      clear E0_1
      have c1_1 : w1.cell? ⟨g, q * 2 + 1, none⟩ = some (.int .i64 ((K0 : Int) + 1)) := E1_1.out.trans (by first | rfl | (congr 2; omega) | (simp; omega) | (simp) | (congr 2 <;> congr 1 <;> omega))
      go_wp2_with fail
      go_roundw
      case rel =>
        refine ⟨q + 1, by omega, by go_num, ?_, HW1.out⟩
        rw [HNS.out]
        show Value.int .i64 _ = Value.int .i64 _
        congr 1 <;> (unfold storeCnt; omega)
      case measure => simp [intOf]; omega
    · obtain rfl : q = rs.length := by omega
      go_wp2_with fail
      go_ret
      exact ⟨by rw [List.take_length]; rfl, HW.out⟩
end
section
open Go.RowKit
def messageBlk (r : MsgA) : List Nat := blkOf r.ae
def messageOwn (B : Nat) (w : World) (r : MsgA) : Prop := FreshIn entE 76 2 B w.heap.size (.slice r.ae r.M.ents.length r.ce) r.M.ents w
def messageCnt (r : MsgA) : Nat := 8 + 2 * r.M.ents.length
def messageNum (K : Nat) : List MsgA → Nat
  | [] => K
  | r :: rs => messageNum (K + messageCnt r) rs
def messageMk (r : MsgA) (K : Nat) : MsgA := ⟨⟨((K : Nat) : Int), ((K + 1 : Nat) : Int), ((K + 2 : Nat) : Int), ((K + 3 : Nat) : Int), ((K + 4 : Nat) : Int), ((K + 5 : Nat) : Int), ((K + 6 : Nat) : Int), (((K + 7 : Nat) : Int) % 3 == 0), (List.range r.M.ents.length).map (markE (K + 8))⟩, r.ae, r.ce⟩
def messageF (rs : List MsgA) (K j : Nat) : MsgA := messageMk (rs.getD j msgZ) (messageNum K (rs.take j))
theorem messageNum_step (K : Nat) (rs : List MsgA) (q : Nat) (hq : q < rs.length) : messageNum K (rs.take (q + 1)) = messageNum K (rs.take q) + messageCnt rs[q] := by
  induction rs generalizing K q with
  | nil => simp at hq
  | cons r rs ih =>
    cases q with
    | zero => simp [messageNum]
    | succ q => simp only [List.take_succ_cons, messageNum, List.getElem_cons_succ]; exact ih _ q (by simpa using hq)
theorem messageNum_mono (K : Nat) (rs : List MsgA) : K ≤ messageNum K rs := by
  induction rs generalizing K with
  | nil => exact Nat.le_refl _
  | cons r rs ih => exact Nat.le_trans (Nat.le_add_right _ _) (ih _)
theorem messageNum_le (K : Nat) (rs : List MsgA) (q : Nat) (hq : q < rs.length) : messageNum K (rs.take q) + messageCnt rs[q] ≤ messageNum K rs := by
  rw [← messageNum_step K rs q hq]
  conv => rhs; rw [← List.take_append_drop (q + 1) rs]
  generalize rs.take (q + 1) = a
  generalize rs.drop (q + 1) = b
  clear hq
  induction a generalizing K with
  | nil => exact messageNum_mono _ _
  | cons r a ih => exact ih _
theorem messageNum_len (K : Nat) (rs : List MsgA) : K + rs.length ≤ messageNum K rs := by
  induction rs generalizing K with
  | nil => exact Nat.le_refl _
  | cons r rs ih =>
    have := ih (K + messageCnt r)
    have h1 : 1 ≤ messageCnt r := by unfold messageCnt; omega
    simp only [List.length_cons, messageNum]
    omega
theorem messageF_at (rs : List MsgA) (K q : Nat) (hq : q < rs.length) : messageF rs K q = messageMk rs[q] (messageNum K (rs.take q)) := by
  unfold messageF
  rw [List.getD_eq_getElem?_getD, List.getElem?_eq_getElem hq]
  rfl
theorem messageOwn.upd {B g lo hi : Nat} {S : Nat → Prop} {w w' : World} {r : MsgA} (h : messageOwn B w r) (hu : Upd g lo hi S w w') (hd : ∀ k ∈ messageBlk r, k ≠ g ∧ ¬ S k) : messageOwn B w' r :=
  FreshIn.upd h hu (fun k hk => hd k (by simpa [messageBlk] using hk))
set_option maxRecDepth 100000 in
set_option maxHeartbeats 8000000 in
theorem markMessageS_c (g ca B : Nat) (rs : List MsgA) (K : Nat) (w : World) (h : RowsR msgE 9 messageOwn messageBlk B w g rs) (hK : messageNum K rs ≤ 17592186044416) :
    Calls Try.prog 52 #[.slice (some ⟨g, 0, none⟩) rs.length ca, .int .i64 K] w fun e w' => e = .returned (.int .i64 ((messageNum K rs : Nat))) ∧ RowsR msgE 9 messageOwn messageBlk B w' g ((List.range rs.length).map (messageF rs K)) ∧ Upd g 0 (rs.length * 9) (allBlk messageBlk rs) w w' := by
  have hlen : rs.length ≤ 17592186044416 := by have := messageNum_len K rs; omega
  have HK := Lib.hid hK
  clear hK
  go_enter Try.func52, Try.ntmps52
  go_wp2_with fail
  go_loopw [1, 5] (fun m i wr => ∃ q : Nat, q ≤ rs.length ∧ i = .int .i64 q ∧ m = .int .i64 ((messageNum K (rs.take q) : Nat)) ∧ RowsR msgE 9 messageOwn messageBlk B wr g (over (messageF rs K) rs q) ∧ Upd g 0 (rs.length * 9) (allBlk messageBlk rs) w wr) (fun _ i _ => rs.length - (intOf i).toNat)
  case atStart => exact ⟨0, Nat.zero_le _, rfl, rfl, by rw [over_zero]; exact h, Upd.refl⟩
  case round =>
    obtain ⟨q, hq, rfl, rfl, hr, hw⟩ := hrel
    have HR := Lib.hid hr
    have HW := Lib.hid hw
    clear hw
    have hlt0 := hr.lt
    by_cases hlt : q < rs.length
    · have hol : q < (over (messageF rs K) rs q).length := by rw [over_length _ _ _ hq]; exact hlt
      have hoa := over_at (f := messageF rs K) hlt hol
      obtain ⟨b1, o1, he1, hb1, hc1⟩ := hr.sl.at hol
      simp only [Option.some.injEq, Addr.mk.injEq] at he1
      obtain ⟨rfl, rfl, _⟩ := he1
      have c0_0 := hc1 q hol 0 (by omega)
      have c0_1 := hc1 q hol 1 (by omega)
      have c0_2 := hc1 q hol 2 (by omega)
      have c0_3 := hc1 q hol 3 (by omega)
      have c0_4 := hc1 q hol 4 (by omega)
      have c0_5 := hc1 q hol 5 (by omega)
      have c0_6 := hc1 q hol 6 (by omega)
      have c0_7 := hc1 q hol 7 (by omega)
      have c0_8 := hc1 q hol 8 (by omega)
      rw [hoa] at c0_0 c0_1 c0_2 c0_3 c0_4 c0_5 c0_6 c0_7 c0_8
      simp only [msgE, Nat.zero_add, Nat.add_zero, List.getElem?_cons_zero, List.getElem?_cons_succ] at c0_0 c0_1 c0_2 c0_3 c0_4 c0_5 c0_6 c0_7 c0_8
      clear hc1
      have f0 := hr.fz
      have hin := hr.in hol
      have hok := hr.ok q hol
      have HF := Lib.hid (messageF_at rs K q hlt)
      have HNS := Lib.hid (messageNum_step K rs q hlt)
      have HKM : Hid (messageNum K (rs.take q) + messageCnt rs[q] ≤ 17592186044416) := Lib.hid (Nat.le_trans (messageNum_le K rs q hlt) HK.out)
      have HALL : Hid (∀ k ∈ messageBlk rs[q], allBlk messageBlk rs k) := Lib.hid (fun k hk => ⟨_, List.getElem_mem hlt, hk⟩)
      have HOS : Hid ((over (messageF rs K) rs q).set q (messageF rs K q) = over (messageF rs K) rs (q + 1)) := over_step _ rs q hlt
      have hbq : messageBlk (over (messageF rs K) rs q)[q] = messageBlk rs[q] := by rw [hoa]
      rw [hoa] at hin hok
      have HBQ := Lib.hid hbq
      clear hr hoa hbq
      generalize rs[q] = r at *
      generalize messageNum K (rs.take q) = K0 at *
      have HIN := Lib.hid hin
      clear hin
      have sg_0 : Hid (∀ k ∈ blkOf r.ae, k ≠ g) := fun k hk e => HIN.out.1 (by subst e; simp [messageBlk, hk])
      unfold messageOwn at hok
      have HG0_0 := Lib.hid (hok)
      have HU0 : Hid (Upd g (q * 9) (q * 9 + 9) (· ∈ messageBlk r) wr wr) := Lib.hid Upd.refl
      have hKM := HKM.out
      unfold messageCnt at hKM
      have HKM2 := Lib.hid hKM
      have hbK0 : K0 ≤ 17592186044416 := by omega
      clear hok hKM
      have hsz1 : g < wr.heap.size := by omega
      go_wp2_with fail
      have hbd1 : K0 + 8 + 2 * r.M.ents.length ≤ 17592186044416 := (by have h1 := HKM2.out; skip; omega)
      have HC1 := Lib.hid (flat_upd (lo := q * 9) (hi := q * 9 + 9) (fun b W h2 h3 => markEntrySB_c r.ae r.ce r.M.ents (K0 + 8) b (b + 1) W h2 h3 (by omega)) HG0_0.out sg_0.out (show g < wr.heap.size by omega))
      clear hbd1
      refine (HC1.out _ (by (repeat (first | (with_reducible exact Upd.refl) | (refine Upd.setCell ?_ _ (by omega) (by omega) _))))).mono ?_
      clear HC1
      rintro e w1 ⟨rfl, hf1, hu1', hcg1⟩
      have hz1 := hu1'.size
      try simp at hz1
      have hu1 : Upd g (q * 9) (q * 9 + 9) (· ∈ blkOf r.ae) wr w1 := Upd.trans (by (repeat (first | (with_reducible exact Upd.refl) | (refine Upd.setCell ?_ _ (by omega) (by omega) _)))) hu1'
      have c1_0 : w1.cell? ⟨g, q * 9, none⟩ = some (.int .i64 ((K0 : Int))) := (hcg1 _).trans (by simp [go_sem, c0_0] <;> (first | omega | (congr 2 <;> omega)))
      have c1_1 : w1.cell? ⟨g, q * 9 + 1, none⟩ = some (.int .i64 ((K0 : Int) + 1)) := (hcg1 _).trans (by simp [go_sem, c0_1] <;> (first | omega | (congr 2 <;> omega)))
      have c1_2 : w1.cell? ⟨g, q * 9 + 2, none⟩ = some (.int .i64 ((K0 : Int) + 2)) := (hcg1 _).trans (by simp [go_sem, c0_2] <;> (first | omega | (congr 2 <;> omega)))
      have c1_3 : w1.cell? ⟨g, q * 9 + 3, none⟩ = some (.int .i64 ((K0 : Int) + 3)) := (hcg1 _).trans (by simp [go_sem, c0_3] <;> (first | omega | (congr 2 <;> omega)))
      have c1_4 : w1.cell? ⟨g, q * 9 + 4, none⟩ = some (.int .i64 ((K0 : Int) + 4)) := (hcg1 _).trans (by simp [go_sem, c0_4] <;> (first | omega | (congr 2 <;> omega)))
      have c1_5 : w1.cell? ⟨g, q * 9 + 5, none⟩ = some (.int .i64 ((K0 : Int) + 5)) := (hcg1 _).trans (by simp [go_sem, c0_5] <;> (first | omega | (congr 2 <;> omega)))
      have c1_6 : w1.cell? ⟨g, q * 9 + 6, none⟩ = some (.int .i64 ((K0 : Int) + 6)) := (hcg1 _).trans (by simp [go_sem, c0_6] <;> (first | omega | (congr 2 <;> omega)))
      have c1_7 : w1.cell? ⟨g, q * 9 + 7, none⟩ = some (.bool (((K0 : Int) + 7) % 3 == 0)) := (hcg1 _).trans (by simp [go_sem, c0_7] <;> (first | omega | (congr 2 <;> omega)))
      have c1_8 : w1.cell? ⟨g, q * 9 + 8, none⟩ = some (.slice r.ae r.M.ents.length r.ce) := (hcg1 _).trans (by simp [go_sem, c0_8] <;> (first | omega | (congr 2 <;> omega)))
      have f1 : ∀ o, w1.frozen? ⟨g, o, none⟩ = false := fun o => (hu1.fz o).trans (f0 o)
      have HG1_0 := Lib.hid hf1
      clear hf1
      have HU1 : Hid (Upd g (q * 9) (q * 9 + 9) (· ∈ messageBlk r) wr w1) := Lib.hid (HU0.out.trans (hu1.mono (Nat.le_refl _) (Nat.le_refl _) (fun k hk => by simp [messageBlk, hk])))
      clear c0_0 c0_1 c0_2 c0_3 c0_4 c0_5 c0_6 c0_7 c0_8 f0 HG0_0 HU0
      clear hu1 hu1' hcg1
      obtain ⟨K1, hk1⟩ : ∃ k, K0 + 8 + 2 * r.M.ents.length = k := ⟨_, rfl⟩
      have HE1 := Lib.hid hk1
      rw [hk1]
      clear hk1
      have hbK1 : K1 ≤ 17592186044416 := (by have h1 := HKM2.out; skip; have eHE1 := HE1.out; omega)
      have hszz : g < w1.heap.size := by omega
      go_wp2_with fail
      go_roundw
      case rel =>
        have hq2 : q * 9 + 9 ≤ rs.length * 9 := by have := Nat.mul_le_mul_right 9 (show q + 1 ≤ rs.length by omega); omega
        refine ⟨q + 1, by omega, by go_num, ?_, ?_, ?_⟩
        · rw [HNS.out]
          show Value.int .i64 _ = Value.int .i64 _
          congr 1 <;> (unfold messageCnt; have eHE1 := HE1.out; omega)
        · rw [← HOS.out, HF.out]
          refine RowsR.step HR.out hol (x := messageMk r K0) ?_ ?_ ?_ ?_ ?_
          · rw [HBQ.out]; rfl
          · rw [HBQ.out]; (repeat (first | (with_reducible exact HU1.out) | (refine Upd.setCell ?_ _ (by omega) (by omega) _)))
          · intro j hj
            match j, hj with
            | 0, _ => simp [go_sem, c1_0, messageMk, msgE] <;> (have eHE1 := HE1.out; first | omega | (congr 2 <;> omega) | (subst_vars; rfl))
            | 1, _ => simp [go_sem, c1_1, messageMk, msgE] <;> (have eHE1 := HE1.out; first | omega | (congr 2 <;> omega) | (subst_vars; rfl))
            | 2, _ => simp [go_sem, c1_2, messageMk, msgE] <;> (have eHE1 := HE1.out; first | omega | (congr 2 <;> omega) | (subst_vars; rfl))
            | 3, _ => simp [go_sem, c1_3, messageMk, msgE] <;> (have eHE1 := HE1.out; first | omega | (congr 2 <;> omega) | (subst_vars; rfl))
            | 4, _ => simp [go_sem, c1_4, messageMk, msgE] <;> (have eHE1 := HE1.out; first | omega | (congr 2 <;> omega) | (subst_vars; rfl))
            | 5, _ => simp [go_sem, c1_5, messageMk, msgE] <;> (have eHE1 := HE1.out; first | omega | (congr 2 <;> omega) | (subst_vars; rfl))
            | 6, _ => simp [go_sem, c1_6, messageMk, msgE] <;> (have eHE1 := HE1.out; first | omega | (congr 2 <;> omega) | (subst_vars; rfl))
            | 7, _ => simp [go_sem, c1_7, messageMk, msgE] <;> (have eHE1 := HE1.out; first | omega | (congr 2 <;> omega) | (subst_vars; rfl))
            | 8, _ => simp [go_sem, c1_8, messageMk, msgE] <;> (have eHE1 := HE1.out; first | omega | (congr 2 <;> omega) | (subst_vars; rfl))
          · unfold messageOwn messageMk
            exact by
              have hh := HG1_0.out.upd (by (repeat (first | (with_reducible exact Upd.refl) | (refine Upd.setCell ?_ _ (by omega) (by omega) _))) : Upd g (q * 9) (q * 9 + 9) (fun _ => False) w1 _) (fun k hk => ⟨sg_0.out k hk, fun e => e⟩)
              rw [show K0 + 8 = K0 + 8 from by have eHE1 := HE1.out; omega] at hh
              simpa using hh
          · intro r' h1 h2
            refine h1.upd (S := (· ∈ messageBlk r)) (g := g) (lo := q * 9) (hi := q * 9 + 9) (w := wr) (by (repeat (first | (with_reducible exact HU1.out) | (refine Upd.setCell ?_ _ (by omega) (by omega) _)))) (fun k hk => ⟨(h2 k hk).1, by have := (h2 k hk).2; rwa [HBQ.out] at this⟩)
        · refine HW.out.trans (Upd.mono (lo := q * 9) (hi := q * 9 + 9) (S := (· ∈ messageBlk r)) (by (repeat (first | (with_reducible exact HU1.out) | (refine Upd.setCell ?_ _ (by omega) (by omega) _)))) (Nat.zero_le _) hq2 (fun k hk => HALL.out k hk))
      case measure => simp [intOf]; omega
    · obtain rfl : q = rs.length := by omega
      go_wp2_with fail
      go_ret
      have h1 := HR.out
      rw [over_all] at h1
      refine ⟨by rw [List.take_length]; rfl, h1, HW.out⟩
set_option maxRecDepth 100000 in
set_option maxHeartbeats 8000000 in
theorem heldMessageS_c (g ca B : Nat) (rs : List MsgA) (K : Nat) (w : World) (h : RowsR msgE 9 messageOwn messageBlk B w g ((List.range rs.length).map (messageF rs K))) (hK : messageNum K rs ≤ 17592186044416) :
    Calls Try.prog 59 #[.slice (some ⟨g, 0, none⟩) rs.length ca, .int .i64 K] w fun e w' => e = .returned (.int .i64 ((messageNum K rs : Nat))) ∧ Below w.heap.size w w' := by
  have hlen : rs.length ≤ 17592186044416 := by have := messageNum_len K rs; omega
  have HK := Lib.hid hK
  have H0 := Lib.hid h
  clear hK h
  go_enter Try.func59, Try.ntmps59
  go_wp2_with fail
  go_loopw [1, 5] (fun m i wr => ∃ q : Nat, q ≤ rs.length ∧ i = .int .i64 q ∧ m = .int .i64 ((messageNum K (rs.take q) : Nat)) ∧ Below w.heap.size w wr) (fun _ i _ => rs.length - (intOf i).toNat)
  case atStart => exact ⟨0, Nat.zero_le _, rfl, rfl, Below.refl _ _⟩
  case round =>
    obtain ⟨q, hq, rfl, rfl, hw⟩ := hrel
    have HW := Lib.hid hw
    have hwz := hw.size
    have hlt0 : g < wr.heap.size := by have := H0.out.lt; omega
    by_cases hlt : q < rs.length
    · have hol : q < ((List.range rs.length).map (messageF rs K)).length := by simpa using hlt
      obtain ⟨b1, o1, he1, hb1, hc1⟩ := (H0.out.sl.keep hw).at hol
      simp only [Option.some.injEq, Addr.mk.injEq] at he1
      obtain ⟨rfl, rfl, _⟩ := he1
      have hF : ((List.range rs.length).map (messageF rs K))[q] = messageMk rs[q] (messageNum K (rs.take q)) := by simpa using messageF_at rs K q hlt
      have HO := Lib.hid (H0.out.ok q hol)
      have HNS := Lib.hid (messageNum_step K rs q hlt)
      have HKM : Hid (messageNum K (rs.take q) + messageCnt rs[q] ≤ 17592186044416) := Lib.hid (Nat.le_trans (messageNum_le K rs q hlt) HK.out)
      rw [hF] at HO
      have e0_0 := hc1 q hol 0 (by omega)
      have e0_1 := hc1 q hol 1 (by omega)
      have e0_2 := hc1 q hol 2 (by omega)
      have e0_3 := hc1 q hol 3 (by omega)
      have e0_4 := hc1 q hol 4 (by omega)
      have e0_5 := hc1 q hol 5 (by omega)
      have e0_6 := hc1 q hol 6 (by omega)
      have e0_7 := hc1 q hol 7 (by omega)
      have e0_8 := hc1 q hol 8 (by omega)
      rw [hF] at e0_0 e0_1 e0_2 e0_3 e0_4 e0_5 e0_6 e0_7 e0_8
      clear hF hc1
      generalize rs[q] = r at *
      generalize messageNum K (rs.take q) = K0 at *
      simp only [msgE, messageMk, Nat.zero_add, Nat.add_zero, List.length_map, List.length_range, List.getElem?_cons_zero, List.getElem?_cons_succ] at e0_0 e0_1 e0_2 e0_3 e0_4 e0_5 e0_6 e0_7 e0_8
      have E0_0 := Lib.hid e0_0
      have E0_1 := Lib.hid e0_1
      have E0_2 := Lib.hid e0_2
      have E0_3 := Lib.hid e0_3
      have E0_4 := Lib.hid e0_4
      have E0_5 := Lib.hid e0_5
      have E0_6 := Lib.hid e0_6
      have E0_7 := Lib.hid e0_7
      have E0_8 := Lib.hid e0_8
      clear e0_0 e0_1 e0_2 e0_3 e0_4 e0_5 e0_6 e0_7 e0_8
      have ho := HO.out
      unfold messageOwn messageMk at ho
      clear HO
      have HS_0 : Hid (Sl entE 2 w r.ae ((List.range r.M.ents.length).map (markE (K0 + 8)))) := Lib.hid (FreshIn.slr2 (fun _ => rfl) (show FreshIn entE 76 2 B w.heap.size (.slice r.ae r.M.ents.length r.ce) _ w from (by simpa using ho)))
      clear ho
      have hKM := HKM.out
      unfold messageCnt at hKM
      have HKM2 := Lib.hid hKM
      have hbK0 : K0 ≤ 17592186044416 := by omega
      clear hKM
      have c0_0 : wr.cell? ⟨g, q * 9, none⟩ = some (.int .i64 ((K0 : Int))) := E0_0.out.trans (by first | rfl | (congr 2; omega) | (simp; omega) | (simp) | (congr 2 <;> congr 1 <;> omega))
      have c0_1 : wr.cell? ⟨g, q * 9 + 1, none⟩ = some (.int .i64 ((K0 : Int) + 1)) := E0_1.out.trans (by first | rfl | (congr 2; omega) | (simp; omega) | (simp) | (congr 2 <;> congr 1 <;> omega))
      have c0_2 : wr.cell? ⟨g, q * 9 + 2, none⟩ = some (.int .i64 ((K0 : Int) + 1 + 1)) := E0_2.out.trans (by first | rfl | (congr 2; omega) | (simp; omega) | (simp) | (congr 2 <;> congr 1 <;> omega))
      have c0_3 : wr.cell? ⟨g, q * 9 + 3, none⟩ = some (.int .i64 ((K0 : Int) + 1 + 1 + 1)) := E0_3.out.trans (by first | rfl | (congr 2; omega) | (simp; omega) | (simp) | (congr 2 <;> congr 1 <;> omega))
      have c0_4 : wr.cell? ⟨g, q * 9 + 4, none⟩ = some (.int .i64 ((K0 : Int) + 1 + 1 + 1 + 1)) := E0_4.out.trans (by first | rfl | (congr 2; omega) | (simp; omega) | (simp) | (congr 2 <;> congr 1 <;> omega))
      have c0_5 : wr.cell? ⟨g, q * 9 + 5, none⟩ = some (.int .i64 ((K0 : Int) + 1 + 1 + 1 + 1 + 1)) := E0_5.out.trans (by first | rfl | (congr 2; omega) | (simp; omega) | (simp) | (congr 2 <;> congr 1 <;> omega))
      have c0_6 : wr.cell? ⟨g, q * 9 + 6, none⟩ = some (.int .i64 ((K0 : Int) + 1 + 1 + 1 + 1 + 1 + 1)) := E0_6.out.trans (by first | rfl | (congr 2; omega) | (simp; omega) | (simp) | (congr 2 <;> congr 1 <;> omega))
      obtain ⟨v_7, hv_7⟩ : ∃ v, (((K0 : Int) + 1 + 1 + 1 + 1 + 1 + 1 + 1) % 3 == 0) = v := ⟨_, rfl⟩
      have hw_7 : (((K0 : Int) + 7) % 3 == 0) = v_7 := by rw [← hv_7]; congr 2 <;> omega
      have c0_7 : wr.cell? ⟨g, q * 9 + 7, none⟩ = some (.bool v_7) := E0_7.out.trans (by rw [← hv_7]; first | rfl | (congr 2; omega) | (congr 3 <;> omega) | (simp; omega) | simp)
      have c0_8 : wr.cell? ⟨g, q * 9 + 8, none⟩ = some (.slice r.ae r.M.ents.length r.ce) := E0_8.out.trans (by first | rfl | (congr 2; omega) | (simp; omega) | (simp) | (congr 2 <;> congr 1 <;> omega))
      go_wp2_with fail
      have hS := HS_0.out.keep HW.out
      rw [show K0 + 8 = K0 + 8 from (by have h1 := HKM2.out; skip; omega)] at hS
      refine (heldEntrySB_c r.ae r.ce r.M.ents.length (K0 + 8) _ hS (by have h1 := HKM2.out; skip; omega)).mono ?_
      rintro e w1 ⟨rfl, hbq⟩
      clear hS
      have hzq1 := hbq.size
      have HW1 : Hid (Below w.heap.size w w1) := Lib.hid (HW.out.trans (hbq.mono (by omega)))
      have hlq1 : g < w1.heap.size := by omega
      clear hbq
      skip
      obtain ⟨K1, hk1⟩ : ∃ k, K0 + 8 + 2 * r.M.ents.length = k := ⟨_, rfl⟩
      have HE1 := Lib.hid hk1
      rw [hk1]
      clear hk1
      have hbK1 : K1 ≤ 17592186044416 := (by have h1 := HKM2.out; skip; have eHE1 := HE1.out; omega)
      have hnK1 : decide ((K1 : Int) < 0) = false := decide_eq_false (by omega)
      go_wp2_with fail
      go_roundw
      case rel =>
        refine ⟨q + 1, by omega, by go_num, ?_, HW1.out⟩
        rw [HNS.out]
        show Value.int .i64 _ = Value.int .i64 _
        congr 1 <;> (unfold messageCnt; have eHE1 := HE1.out; omega)
      case measure => simp [intOf]; omega
    · obtain rfl : q = rs.length := by omega
      go_wp2_with fail
      go_ret
      exact ⟨by rw [List.take_length]; rfl, HW.out⟩
end
section
open Go.RowKit
def nodeBlk (r : NodeA) : List Nat := blkOf r.al ++ blkOf r.av ++ blkOf r.an ++ blkOf r.am
def nodeOwn (B : Nat) (w : World) (r : NodeA) : Prop := FreshIn entE 76 2 B w.heap.size (.slice r.al r.N.log.length r.cl) r.N.log w ∧ FreshIn intE 3 1 B w.heap.size (.slice r.av r.N.votes.length r.cv) r.N.votes w ∧ FreshIn intE 3 1 B w.heap.size (.slice r.an r.N.next.length r.cn) r.N.next w ∧ FreshIn intE 3 1 B w.heap.size (.slice r.am r.N.mtch.length r.cm) r.N.mtch w
def nodeCnt (r : NodeA) : Nat := 6 + 2 * r.N.log.length + 3 + 1 * r.N.votes.length + 1 * r.N.next.length + 1 * r.N.mtch.length
def nodeNum (K : Nat) : List NodeA → Nat
  | [] => K
  | r :: rs => nodeNum (K + nodeCnt r) rs
def nodeMk (r : NodeA) (K : Nat) : NodeA := ⟨⟨((K : Nat) : Int), ((K + 1 : Nat) : Int), ((K + 2 : Nat) : Int), ((K + 3 : Nat) : Int), ((K + 4 : Nat) : Int), (((K + 5 : Nat) : Int) % 3 == 0), (List.range r.N.log.length).map (markE (K + 6)), ((K + 6 + 2 * r.N.log.length : Nat) : Int), ((K + 6 + 2 * r.N.log.length + 1 : Nat) : Int), ((K + 6 + 2 * r.N.log.length + 2 : Nat) : Int), (List.range r.N.votes.length).map (markI (K + 6 + 2 * r.N.log.length + 3)), (List.range r.N.next.length).map (markI (K + 6 + 2 * r.N.log.length + 3 + 1 * r.N.votes.length)), (List.range r.N.mtch.length).map (markI (K + 6 + 2 * r.N.log.length + 3 + 1 * r.N.votes.length + 1 * r.N.next.length))⟩, r.al, r.cl, r.av, r.cv, r.an, r.cn, r.am, r.cm⟩
def nodeF (rs : List NodeA) (K j : Nat) : NodeA := nodeMk (rs.getD j nodeZ) (nodeNum K (rs.take j))
theorem nodeNum_step (K : Nat) (rs : List NodeA) (q : Nat) (hq : q < rs.length) : nodeNum K (rs.take (q + 1)) = nodeNum K (rs.take q) + nodeCnt rs[q] := by
  induction rs generalizing K q with
  | nil => simp at hq
  | cons r rs ih =>
    cases q with
    | zero => simp [nodeNum]
    | succ q => simp only [List.take_succ_cons, nodeNum, List.getElem_cons_succ]; exact ih _ q (by simpa using hq)
theorem nodeNum_mono (K : Nat) (rs : List NodeA) : K ≤ nodeNum K rs := by
  induction rs generalizing K with
  | nil => exact Nat.le_refl _
  | cons r rs ih => exact Nat.le_trans (Nat.le_add_right _ _) (ih _)
theorem nodeNum_le (K : Nat) (rs : List NodeA) (q : Nat) (hq : q < rs.length) : nodeNum K (rs.take q) + nodeCnt rs[q] ≤ nodeNum K rs := by
  rw [← nodeNum_step K rs q hq]
  conv => rhs; rw [← List.take_append_drop (q + 1) rs]
  generalize rs.take (q + 1) = a
  generalize rs.drop (q + 1) = b
  clear hq
  induction a generalizing K with
  | nil => exact nodeNum_mono _ _
  | cons r a ih => exact ih _
theorem nodeNum_len (K : Nat) (rs : List NodeA) : K + rs.length ≤ nodeNum K rs := by
  induction rs generalizing K with
  | nil => exact Nat.le_refl _
  | cons r rs ih =>
    have := ih (K + nodeCnt r)
    have h1 : 1 ≤ nodeCnt r := by unfold nodeCnt; omega
    simp only [List.length_cons, nodeNum]
    omega
theorem nodeF_at (rs : List NodeA) (K q : Nat) (hq : q < rs.length) : nodeF rs K q = nodeMk rs[q] (nodeNum K (rs.take q)) := by
  unfold nodeF
  rw [List.getD_eq_getElem?_getD, List.getElem?_eq_getElem hq]
  rfl
theorem nodeOwn.upd {B g lo hi : Nat} {S : Nat → Prop} {w w' : World} {r : NodeA} (h : nodeOwn B w r) (hu : Upd g lo hi S w w') (hd : ∀ k ∈ nodeBlk r, k ≠ g ∧ ¬ S k) : nodeOwn B w' r :=
  ⟨h.1.upd hu (fun k hk => hd k (by simp [nodeBlk, hk])), h.2.1.upd hu (fun k hk => hd k (by simp [nodeBlk, hk])), h.2.2.1.upd hu (fun k hk => hd k (by simp [nodeBlk, hk])), h.2.2.2.upd hu (fun k hk => hd k (by simp [nodeBlk, hk]))⟩
set_option maxRecDepth 100000 in
set_option maxHeartbeats 8000000 in
theorem markNodeS_c (g ca B : Nat) (rs : List NodeA) (K : Nat) (w : World) (h : RowsR nodeE 13 nodeOwn nodeBlk B w g rs) (hK : nodeNum K rs ≤ 17592186044416) :
    Calls Try.prog 50 #[.slice (some ⟨g, 0, none⟩) rs.length ca, .int .i64 K] w fun e w' => e = .returned (.int .i64 ((nodeNum K rs : Nat))) ∧ RowsR nodeE 13 nodeOwn nodeBlk B w' g ((List.range rs.length).map (nodeF rs K)) ∧ Upd g 0 (rs.length * 13) (allBlk nodeBlk rs) w w' := by
  have hlen : rs.length ≤ 17592186044416 := by have := nodeNum_len K rs; omega
  have HK := Lib.hid hK
  clear hK
  go_enter Try.func50, Try.ntmps50
  go_wp2_with fail
  go_loopw [1, 5] (fun m i wr => ∃ q : Nat, q ≤ rs.length ∧ i = .int .i64 q ∧ m = .int .i64 ((nodeNum K (rs.take q) : Nat)) ∧ RowsR nodeE 13 nodeOwn nodeBlk B wr g (over (nodeF rs K) rs q) ∧ Upd g 0 (rs.length * 13) (allBlk nodeBlk rs) w wr) (fun _ i _ => rs.length - (intOf i).toNat)
  case atStart => exact ⟨0, Nat.zero_le _, rfl, rfl, by rw [over_zero]; exact h, Upd.refl⟩
  case round =>
    obtain ⟨q, hq, rfl, rfl, hr, hw⟩ := hrel
    have HR := Lib.hid hr
    have HW := Lib.hid hw
    clear hw
    have hlt0 := hr.lt
    by_cases hlt : q < rs.length
    · have hol : q < (over (nodeF rs K) rs q).length := by rw [over_length _ _ _ hq]; exact hlt
      have hoa := over_at (f := nodeF rs K) hlt hol
      obtain ⟨b1, o1, he1, hb1, hc1⟩ := hr.sl.at hol
      simp only [Option.some.injEq, Addr.mk.injEq] at he1
      obtain ⟨rfl, rfl, _⟩ := he1
      have c0_0 := hc1 q hol 0 (by omega)
      have c0_1 := hc1 q hol 1 (by omega)
      have c0_2 := hc1 q hol 2 (by omega)
      have c0_3 := hc1 q hol 3 (by omega)
      have c0_4 := hc1 q hol 4 (by omega)
      have c0_5 := hc1 q hol 5 (by omega)
      have c0_6 := hc1 q hol 6 (by omega)
      have c0_7 := hc1 q hol 7 (by omega)
      have c0_8 := hc1 q hol 8 (by omega)
      have c0_9 := hc1 q hol 9 (by omega)
      have c0_10 := hc1 q hol 10 (by omega)
      have c0_11 := hc1 q hol 11 (by omega)
      have c0_12 := hc1 q hol 12 (by omega)
      rw [hoa] at c0_0 c0_1 c0_2 c0_3 c0_4 c0_5 c0_6 c0_7 c0_8 c0_9 c0_10 c0_11 c0_12
      simp only [nodeE, Nat.zero_add, Nat.add_zero, List.getElem?_cons_zero, List.getElem?_cons_succ] at c0_0 c0_1 c0_2 c0_3 c0_4 c0_5 c0_6 c0_7 c0_8 c0_9 c0_10 c0_11 c0_12
      clear hc1
      have f0 := hr.fz
      have hin := hr.in hol
      have hok := hr.ok q hol
      have HF := Lib.hid (nodeF_at rs K q hlt)
      have HNS := Lib.hid (nodeNum_step K rs q hlt)
      have HKM : Hid (nodeNum K (rs.take q) + nodeCnt rs[q] ≤ 17592186044416) := Lib.hid (Nat.le_trans (nodeNum_le K rs q hlt) HK.out)
      have HALL : Hid (∀ k ∈ nodeBlk rs[q], allBlk nodeBlk rs k) := Lib.hid (fun k hk => ⟨_, List.getElem_mem hlt, hk⟩)
      have HOS : Hid ((over (nodeF rs K) rs q).set q (nodeF rs K q) = over (nodeF rs K) rs (q + 1)) := over_step _ rs q hlt
      have hbq : nodeBlk (over (nodeF rs K) rs q)[q] = nodeBlk rs[q] := by rw [hoa]
      rw [hoa] at hin hok
      have HBQ := Lib.hid hbq
      clear hr hoa hbq
      generalize rs[q] = r at *
      generalize nodeNum K (rs.take q) = K0 at *
      have HIN := Lib.hid hin
      clear hin
      have sg_0 : Hid (∀ k ∈ blkOf r.al, k ≠ g) := fun k hk e => HIN.out.1 (by subst e; simp [nodeBlk, hk])
      have sg_1 : Hid (∀ k ∈ blkOf r.av, k ≠ g) := fun k hk e => HIN.out.1 (by subst e; simp [nodeBlk, hk])
      have sg_2 : Hid (∀ k ∈ blkOf r.an, k ≠ g) := fun k hk e => HIN.out.1 (by subst e; simp [nodeBlk, hk])
      have sg_3 : Hid (∀ k ∈ blkOf r.am, k ≠ g) := fun k hk e => HIN.out.1 (by subst e; simp [nodeBlk, hk])
      have sd_0_1 : Hid (∀ k ∈ blkOf r.al, k ∉ blkOf r.av) := fun k h1 h2 => by
        have hnd := HIN.out.2
        simp only [nodeBlk, List.nodup_append] at hnd
        grind
      have sd_0_2 : Hid (∀ k ∈ blkOf r.al, k ∉ blkOf r.an) := fun k h1 h2 => by
        have hnd := HIN.out.2
        simp only [nodeBlk, List.nodup_append] at hnd
        grind
      have sd_0_3 : Hid (∀ k ∈ blkOf r.al, k ∉ blkOf r.am) := fun k h1 h2 => by
        have hnd := HIN.out.2
        simp only [nodeBlk, List.nodup_append] at hnd
        grind
      have sd_1_0 : Hid (∀ k ∈ blkOf r.av, k ∉ blkOf r.al) := fun k h1 h2 => by
        have hnd := HIN.out.2
        simp only [nodeBlk, List.nodup_append] at hnd
        grind
      have sd_1_2 : Hid (∀ k ∈ blkOf r.av, k ∉ blkOf r.an) := fun k h1 h2 => by
        have hnd := HIN.out.2
        simp only [nodeBlk, List.nodup_append] at hnd
        grind
      have sd_1_3 : Hid (∀ k ∈ blkOf r.av, k ∉ blkOf r.am) := fun k h1 h2 => by
        have hnd := HIN.out.2
        simp only [nodeBlk, List.nodup_append] at hnd
        grind
      have sd_2_0 : Hid (∀ k ∈ blkOf r.an, k ∉ blkOf r.al) := fun k h1 h2 => by
        have hnd := HIN.out.2
        simp only [nodeBlk, List.nodup_append] at hnd
        grind
      have sd_2_1 : Hid (∀ k ∈ blkOf r.an, k ∉ blkOf r.av) := fun k h1 h2 => by
        have hnd := HIN.out.2
        simp only [nodeBlk, List.nodup_append] at hnd
        grind
      have sd_2_3 : Hid (∀ k ∈ blkOf r.an, k ∉ blkOf r.am) := fun k h1 h2 => by
        have hnd := HIN.out.2
        simp only [nodeBlk, List.nodup_append] at hnd
        grind
      have sd_3_0 : Hid (∀ k ∈ blkOf r.am, k ∉ blkOf r.al) := fun k h1 h2 => by
        have hnd := HIN.out.2
        simp only [nodeBlk, List.nodup_append] at hnd
        grind
      have sd_3_1 : Hid (∀ k ∈ blkOf r.am, k ∉ blkOf r.av) := fun k h1 h2 => by
        have hnd := HIN.out.2
        simp only [nodeBlk, List.nodup_append] at hnd
        grind
      have sd_3_2 : Hid (∀ k ∈ blkOf r.am, k ∉ blkOf r.an) := fun k h1 h2 => by
        have hnd := HIN.out.2
        simp only [nodeBlk, List.nodup_append] at hnd
        grind
      unfold nodeOwn at hok
      have HG0_0 := Lib.hid (hok.1)
      have HG0_1 := Lib.hid (hok.2.1)
      have HG0_2 := Lib.hid (hok.2.2.1)
      have HG0_3 := Lib.hid (hok.2.2.2)
      have HU0 : Hid (Upd g (q * 13) (q * 13 + 13) (· ∈ nodeBlk r) wr wr) := Lib.hid Upd.refl
      have hKM := HKM.out
      unfold nodeCnt at hKM
      have HKM2 := Lib.hid hKM
      have hbK0 : K0 ≤ 17592186044416 := by omega
      clear hok hKM
      have hsz1 : g < wr.heap.size := by omega
      go_wp2_with fail
      have hbd1 : K0 + 6 + 2 * r.N.log.length ≤ 17592186044416 := (by have h1 := HKM2.out; skip; omega)
      have HC1 := Lib.hid (flat_upd (lo := q * 13) (hi := q * 13 + 13) (fun b W h2 h3 => markEntrySB_c r.al r.cl r.N.log (K0 + 6) b (b + 1) W h2 h3 (by omega)) HG0_0.out sg_0.out (show g < wr.heap.size by omega))
      clear hbd1
      refine (HC1.out _ (by (repeat (first | (with_reducible exact Upd.refl) | (refine Upd.setCell ?_ _ (by omega) (by omega) _))))).mono ?_
      clear HC1
      rintro e w1 ⟨rfl, hf1, hu1', hcg1⟩
      have hz1 := hu1'.size
      try simp at hz1
      have hu1 : Upd g (q * 13) (q * 13 + 13) (· ∈ blkOf r.al) wr w1 := Upd.trans (by (repeat (first | (with_reducible exact Upd.refl) | (refine Upd.setCell ?_ _ (by omega) (by omega) _)))) hu1'
      have c1_0 : w1.cell? ⟨g, q * 13, none⟩ = some (.int .i64 ((K0 : Int))) := (hcg1 _).trans (by simp [go_sem, c0_0] <;> (first | omega | (congr 2 <;> omega)))
      have c1_1 : w1.cell? ⟨g, q * 13 + 1, none⟩ = some (.int .i64 ((K0 : Int) + 1)) := (hcg1 _).trans (by simp [go_sem, c0_1] <;> (first | omega | (congr 2 <;> omega)))
      have c1_2 : w1.cell? ⟨g, q * 13 + 2, none⟩ = some (.int .i64 ((K0 : Int) + 2)) := (hcg1 _).trans (by simp [go_sem, c0_2] <;> (first | omega | (congr 2 <;> omega)))
      have c1_3 : w1.cell? ⟨g, q * 13 + 3, none⟩ = some (.int .i64 ((K0 : Int) + 3)) := (hcg1 _).trans (by simp [go_sem, c0_3] <;> (first | omega | (congr 2 <;> omega)))
      have c1_4 : w1.cell? ⟨g, q * 13 + 4, none⟩ = some (.int .i64 ((K0 : Int) + 4)) := (hcg1 _).trans (by simp [go_sem, c0_4] <;> (first | omega | (congr 2 <;> omega)))
      have c1_5 : w1.cell? ⟨g, q * 13 + 5, none⟩ = some (.bool (((K0 : Int) + 5) % 3 == 0)) := (hcg1 _).trans (by simp [go_sem, c0_5] <;> (first | omega | (congr 2 <;> omega)))
      have c1_6 : w1.cell? ⟨g, q * 13 + 6, none⟩ = some (.slice r.al r.N.log.length r.cl) := (hcg1 _).trans (by simp [go_sem, c0_6] <;> (first | omega | (congr 2 <;> omega)))
      have c1_7 : w1.cell? ⟨g, q * 13 + 7, none⟩ = some (.int .i64 r.N.commit) := (hcg1 _).trans (by simp [go_sem, c0_7] <;> (first | omega | (congr 2 <;> omega)))
      have c1_8 : w1.cell? ⟨g, q * 13 + 8, none⟩ = some (.int .i64 r.N.elapsed) := (hcg1 _).trans (by simp [go_sem, c0_8] <;> (first | omega | (congr 2 <;> omega)))
      have c1_9 : w1.cell? ⟨g, q * 13 + 9, none⟩ = some (.int .i64 r.N.wait) := (hcg1 _).trans (by simp [go_sem, c0_9] <;> (first | omega | (congr 2 <;> omega)))
      have c1_10 : w1.cell? ⟨g, q * 13 + 10, none⟩ = some (.slice r.av r.N.votes.length r.cv) := (hcg1 _).trans (by simp [go_sem, c0_10] <;> (first | omega | (congr 2 <;> omega)))
      have c1_11 : w1.cell? ⟨g, q * 13 + 11, none⟩ = some (.slice r.an r.N.next.length r.cn) := (hcg1 _).trans (by simp [go_sem, c0_11] <;> (first | omega | (congr 2 <;> omega)))
      have c1_12 : w1.cell? ⟨g, q * 13 + 12, none⟩ = some (.slice r.am r.N.mtch.length r.cm) := (hcg1 _).trans (by simp [go_sem, c0_12] <;> (first | omega | (congr 2 <;> omega)))
      have f1 : ∀ o, w1.frozen? ⟨g, o, none⟩ = false := fun o => (hu1.fz o).trans (f0 o)
      have HG1_0 := Lib.hid hf1
      clear hf1
      have HG1_1 := Lib.hid (HG0_1.out.upd hu1 (fun k hk => ⟨sg_1.out k hk, sd_1_0.out k hk⟩))
      have HG1_2 := Lib.hid (HG0_2.out.upd hu1 (fun k hk => ⟨sg_2.out k hk, sd_2_0.out k hk⟩))
      have HG1_3 := Lib.hid (HG0_3.out.upd hu1 (fun k hk => ⟨sg_3.out k hk, sd_3_0.out k hk⟩))
      have HU1 : Hid (Upd g (q * 13) (q * 13 + 13) (· ∈ nodeBlk r) wr w1) := Lib.hid (HU0.out.trans (hu1.mono (Nat.le_refl _) (Nat.le_refl _) (fun k hk => by simp [nodeBlk, hk])))
      clear c0_0 c0_1 c0_2 c0_3 c0_4 c0_5 c0_6 c0_7 c0_8 c0_9 c0_10 c0_11 c0_12 f0 HG0_0 HG0_1 HG0_2 HG0_3 HU0
      clear hu1 hu1' hcg1
      obtain ⟨K1, hk1⟩ : ∃ k, K0 + 6 + 2 * r.N.log.length = k := ⟨_, rfl⟩
      have HE1 := Lib.hid hk1
      rw [hk1]
      clear hk1
      have hbK1 : K1 ≤ 17592186044416 := (by have h1 := HKM2.out; skip; have eHE1 := HE1.out; omega)
      have hsz2 : g < w1.heap.size := by omega
      go_wp2_with fail
      have hbd2 : K1 + 3 + 1 * r.N.votes.length ≤ 17592186044416 := (by have h1 := HKM2.out; skip; have eHE1 := HE1.out; omega)
      have HC2 := Lib.hid (flat_upd (lo := q * 13) (hi := q * 13 + 13) (fun b W h2 h3 => markIntSB_c r.av r.cv r.N.votes (K1 + 3) b (b + 1) W h2 h3 (by omega)) HG1_1.out sg_1.out (show g < w1.heap.size by omega))
      clear hbd2
      refine (HC2.out _ (by (repeat (first | (with_reducible exact Upd.refl) | (refine Upd.setCell ?_ _ (by omega) (by omega) _))))).mono ?_
      clear HC2
      rintro e w2 ⟨rfl, hf2, hu2', hcg2⟩
      have hz2 := hu2'.size
      try simp at hz2
      have hu2 : Upd g (q * 13) (q * 13 + 13) (· ∈ blkOf r.av) w1 w2 := Upd.trans (by (repeat (first | (with_reducible exact Upd.refl) | (refine Upd.setCell ?_ _ (by omega) (by omega) _)))) hu2'
      have c2_0 : w2.cell? ⟨g, q * 13, none⟩ = some (.int .i64 ((K0 : Int))) := (hcg2 _).trans (by simp [go_sem, c1_0] <;> (first | omega | (congr 2 <;> omega)))
      have c2_1 : w2.cell? ⟨g, q * 13 + 1, none⟩ = some (.int .i64 ((K0 : Int) + 1)) := (hcg2 _).trans (by simp [go_sem, c1_1] <;> (first | omega | (congr 2 <;> omega)))
      have c2_2 : w2.cell? ⟨g, q * 13 + 2, none⟩ = some (.int .i64 ((K0 : Int) + 2)) := (hcg2 _).trans (by simp [go_sem, c1_2] <;> (first | omega | (congr 2 <;> omega)))
      have c2_3 : w2.cell? ⟨g, q * 13 + 3, none⟩ = some (.int .i64 ((K0 : Int) + 3)) := (hcg2 _).trans (by simp [go_sem, c1_3] <;> (first | omega | (congr 2 <;> omega)))
      have c2_4 : w2.cell? ⟨g, q * 13 + 4, none⟩ = some (.int .i64 ((K0 : Int) + 4)) := (hcg2 _).trans (by simp [go_sem, c1_4] <;> (first | omega | (congr 2 <;> omega)))
      have c2_5 : w2.cell? ⟨g, q * 13 + 5, none⟩ = some (.bool (((K0 : Int) + 5) % 3 == 0)) := (hcg2 _).trans (by simp [go_sem, c1_5] <;> (first | omega | (congr 2 <;> omega)))
      have c2_6 : w2.cell? ⟨g, q * 13 + 6, none⟩ = some (.slice r.al r.N.log.length r.cl) := (hcg2 _).trans (by simp [go_sem, c1_6] <;> (first | omega | (congr 2 <;> omega)))
      have c2_7 : w2.cell? ⟨g, q * 13 + 7, none⟩ = some (.int .i64 ((K1 : Int))) := (hcg2 _).trans (by simp [go_sem, c1_7] <;> (first | omega | (congr 2 <;> omega)))
      have c2_8 : w2.cell? ⟨g, q * 13 + 8, none⟩ = some (.int .i64 ((K1 : Int) + 1)) := (hcg2 _).trans (by simp [go_sem, c1_8] <;> (first | omega | (congr 2 <;> omega)))
      have c2_9 : w2.cell? ⟨g, q * 13 + 9, none⟩ = some (.int .i64 ((K1 : Int) + 2)) := (hcg2 _).trans (by simp [go_sem, c1_9] <;> (first | omega | (congr 2 <;> omega)))
      have c2_10 : w2.cell? ⟨g, q * 13 + 10, none⟩ = some (.slice r.av r.N.votes.length r.cv) := (hcg2 _).trans (by simp [go_sem, c1_10] <;> (first | omega | (congr 2 <;> omega)))
      have c2_11 : w2.cell? ⟨g, q * 13 + 11, none⟩ = some (.slice r.an r.N.next.length r.cn) := (hcg2 _).trans (by simp [go_sem, c1_11] <;> (first | omega | (congr 2 <;> omega)))
      have c2_12 : w2.cell? ⟨g, q * 13 + 12, none⟩ = some (.slice r.am r.N.mtch.length r.cm) := (hcg2 _).trans (by simp [go_sem, c1_12] <;> (first | omega | (congr 2 <;> omega)))
      have f2 : ∀ o, w2.frozen? ⟨g, o, none⟩ = false := fun o => (hu2.fz o).trans (f1 o)
      have HG2_0 := Lib.hid (HG1_0.out.upd hu2 (fun k hk => ⟨sg_0.out k hk, sd_0_1.out k hk⟩))
      have HG2_1 := Lib.hid hf2
      clear hf2
      have HG2_2 := Lib.hid (HG1_2.out.upd hu2 (fun k hk => ⟨sg_2.out k hk, sd_2_1.out k hk⟩))
      have HG2_3 := Lib.hid (HG1_3.out.upd hu2 (fun k hk => ⟨sg_3.out k hk, sd_3_1.out k hk⟩))
      have HU2 : Hid (Upd g (q * 13) (q * 13 + 13) (· ∈ nodeBlk r) wr w2) := Lib.hid (HU1.out.trans (hu2.mono (Nat.le_refl _) (Nat.le_refl _) (fun k hk => by simp [nodeBlk, hk])))
      clear c1_0 c1_1 c1_2 c1_3 c1_4 c1_5 c1_6 c1_7 c1_8 c1_9 c1_10 c1_11 c1_12 f1 HG1_0 HG1_1 HG1_2 HG1_3 HU1
      clear hu2 hu2' hcg2
      obtain ⟨K2, hk2⟩ : ∃ k, K1 + 3 + 1 * r.N.votes.length = k := ⟨_, rfl⟩
      have HE2 := Lib.hid hk2
      rw [hk2]
      clear hk2
      have hbK2 : K2 ≤ 17592186044416 := (by have h1 := HKM2.out; skip; have eHE1 := HE1.out; have eHE2 := HE2.out; omega)
      have hsz3 : g < w2.heap.size := by omega
      go_wp2_with fail
      have hbd3 : K2 + 1 * r.N.next.length ≤ 17592186044416 := (by have h1 := HKM2.out; skip; have eHE1 := HE1.out; have eHE2 := HE2.out; omega)
      have HC3 := Lib.hid (flat_upd (lo := q * 13) (hi := q * 13 + 13) (fun b W h2 h3 => markIntSB_c r.an r.cn r.N.next (K2) b (b + 1) W h2 h3 (by omega)) HG2_2.out sg_2.out (show g < w2.heap.size by omega))
      clear hbd3
      refine (HC3.out _ (by (repeat (first | (with_reducible exact Upd.refl) | (refine Upd.setCell ?_ _ (by omega) (by omega) _))))).mono ?_
      clear HC3
      rintro e w3 ⟨rfl, hf3, hu3', hcg3⟩
      have hz3 := hu3'.size
      try simp at hz3
      have hu3 : Upd g (q * 13) (q * 13 + 13) (· ∈ blkOf r.an) w2 w3 := Upd.trans (by (repeat (first | (with_reducible exact Upd.refl) | (refine Upd.setCell ?_ _ (by omega) (by omega) _)))) hu3'
      have c3_0 : w3.cell? ⟨g, q * 13, none⟩ = some (.int .i64 ((K0 : Int))) := (hcg3 _).trans (by simp [go_sem, c2_0] <;> (first | omega | (congr 2 <;> omega)))
      have c3_1 : w3.cell? ⟨g, q * 13 + 1, none⟩ = some (.int .i64 ((K0 : Int) + 1)) := (hcg3 _).trans (by simp [go_sem, c2_1] <;> (first | omega | (congr 2 <;> omega)))
      have c3_2 : w3.cell? ⟨g, q * 13 + 2, none⟩ = some (.int .i64 ((K0 : Int) + 2)) := (hcg3 _).trans (by simp [go_sem, c2_2] <;> (first | omega | (congr 2 <;> omega)))
      have c3_3 : w3.cell? ⟨g, q * 13 + 3, none⟩ = some (.int .i64 ((K0 : Int) + 3)) := (hcg3 _).trans (by simp [go_sem, c2_3] <;> (first | omega | (congr 2 <;> omega)))
      have c3_4 : w3.cell? ⟨g, q * 13 + 4, none⟩ = some (.int .i64 ((K0 : Int) + 4)) := (hcg3 _).trans (by simp [go_sem, c2_4] <;> (first | omega | (congr 2 <;> omega)))
      have c3_5 : w3.cell? ⟨g, q * 13 + 5, none⟩ = some (.bool (((K0 : Int) + 5) % 3 == 0)) := (hcg3 _).trans (by simp [go_sem, c2_5] <;> (first | omega | (congr 2 <;> omega)))
      have c3_6 : w3.cell? ⟨g, q * 13 + 6, none⟩ = some (.slice r.al r.N.log.length r.cl) := (hcg3 _).trans (by simp [go_sem, c2_6] <;> (first | omega | (congr 2 <;> omega)))
      have c3_7 : w3.cell? ⟨g, q * 13 + 7, none⟩ = some (.int .i64 ((K1 : Int))) := (hcg3 _).trans (by simp [go_sem, c2_7] <;> (first | omega | (congr 2 <;> omega)))
      have c3_8 : w3.cell? ⟨g, q * 13 + 8, none⟩ = some (.int .i64 ((K1 : Int) + 1)) := (hcg3 _).trans (by simp [go_sem, c2_8] <;> (first | omega | (congr 2 <;> omega)))
      have c3_9 : w3.cell? ⟨g, q * 13 + 9, none⟩ = some (.int .i64 ((K1 : Int) + 2)) := (hcg3 _).trans (by simp [go_sem, c2_9] <;> (first | omega | (congr 2 <;> omega)))
      have c3_10 : w3.cell? ⟨g, q * 13 + 10, none⟩ = some (.slice r.av r.N.votes.length r.cv) := (hcg3 _).trans (by simp [go_sem, c2_10] <;> (first | omega | (congr 2 <;> omega)))
      have c3_11 : w3.cell? ⟨g, q * 13 + 11, none⟩ = some (.slice r.an r.N.next.length r.cn) := (hcg3 _).trans (by simp [go_sem, c2_11] <;> (first | omega | (congr 2 <;> omega)))
      have c3_12 : w3.cell? ⟨g, q * 13 + 12, none⟩ = some (.slice r.am r.N.mtch.length r.cm) := (hcg3 _).trans (by simp [go_sem, c2_12] <;> (first | omega | (congr 2 <;> omega)))
      have f3 : ∀ o, w3.frozen? ⟨g, o, none⟩ = false := fun o => (hu3.fz o).trans (f2 o)
      have HG3_0 := Lib.hid (HG2_0.out.upd hu3 (fun k hk => ⟨sg_0.out k hk, sd_0_2.out k hk⟩))
      have HG3_1 := Lib.hid (HG2_1.out.upd hu3 (fun k hk => ⟨sg_1.out k hk, sd_1_2.out k hk⟩))
      have HG3_2 := Lib.hid hf3
      clear hf3
      have HG3_3 := Lib.hid (HG2_3.out.upd hu3 (fun k hk => ⟨sg_3.out k hk, sd_3_2.out k hk⟩))
      have HU3 : Hid (Upd g (q * 13) (q * 13 + 13) (· ∈ nodeBlk r) wr w3) := Lib.hid (HU2.out.trans (hu3.mono (Nat.le_refl _) (Nat.le_refl _) (fun k hk => by simp [nodeBlk, hk])))
      clear c2_0 c2_1 c2_2 c2_3 c2_4 c2_5 c2_6 c2_7 c2_8 c2_9 c2_10 c2_11 c2_12 f2 HG2_0 HG2_1 HG2_2 HG2_3 HU2
      clear hu3 hu3' hcg3
      obtain ⟨K3, hk3⟩ : ∃ k, K2 + 1 * r.N.next.length = k := ⟨_, rfl⟩
      have HE3 := Lib.hid hk3
      rw [hk3]
      clear hk3
      have hbK3 : K3 ≤ 17592186044416 := (by have h1 := HKM2.out; skip; have eHE1 := HE1.out; have eHE2 := HE2.out; have eHE3 := HE3.out; omega)
      have hsz4 : g < w3.heap.size := by omega
      go_wp2_with fail
      have hbd4 : K3 + 1 * r.N.mtch.length ≤ 17592186044416 := (by have h1 := HKM2.out; skip; have eHE1 := HE1.out; have eHE2 := HE2.out; have eHE3 := HE3.out; omega)
      have HC4 := Lib.hid (flat_upd (lo := q * 13) (hi := q * 13 + 13) (fun b W h2 h3 => markIntSB_c r.am r.cm r.N.mtch (K3) b (b + 1) W h2 h3 (by omega)) HG3_3.out sg_3.out (show g < w3.heap.size by omega))
      clear hbd4
      refine (HC4.out _ (by (repeat (first | (with_reducible exact Upd.refl) | (refine Upd.setCell ?_ _ (by omega) (by omega) _))))).mono ?_
      clear HC4
      rintro e w4 ⟨rfl, hf4, hu4', hcg4⟩
      have hz4 := hu4'.size
      try simp at hz4
      have hu4 : Upd g (q * 13) (q * 13 + 13) (· ∈ blkOf r.am) w3 w4 := Upd.trans (by (repeat (first | (with_reducible exact Upd.refl) | (refine Upd.setCell ?_ _ (by omega) (by omega) _)))) hu4'
      have c4_0 : w4.cell? ⟨g, q * 13, none⟩ = some (.int .i64 ((K0 : Int))) := (hcg4 _).trans (by simp [go_sem, c3_0] <;> (first | omega | (congr 2 <;> omega)))
      have c4_1 : w4.cell? ⟨g, q * 13 + 1, none⟩ = some (.int .i64 ((K0 : Int) + 1)) := (hcg4 _).trans (by simp [go_sem, c3_1] <;> (first | omega | (congr 2 <;> omega)))
      have c4_2 : w4.cell? ⟨g, q * 13 + 2, none⟩ = some (.int .i64 ((K0 : Int) + 2)) := (hcg4 _).trans (by simp [go_sem, c3_2] <;> (first | omega | (congr 2 <;> omega)))
      have c4_3 : w4.cell? ⟨g, q * 13 + 3, none⟩ = some (.int .i64 ((K0 : Int) + 3)) := (hcg4 _).trans (by simp [go_sem, c3_3] <;> (first | omega | (congr 2 <;> omega)))
      have c4_4 : w4.cell? ⟨g, q * 13 + 4, none⟩ = some (.int .i64 ((K0 : Int) + 4)) := (hcg4 _).trans (by simp [go_sem, c3_4] <;> (first | omega | (congr 2 <;> omega)))
      have c4_5 : w4.cell? ⟨g, q * 13 + 5, none⟩ = some (.bool (((K0 : Int) + 5) % 3 == 0)) := (hcg4 _).trans (by simp [go_sem, c3_5] <;> (first | omega | (congr 2 <;> omega)))
      have c4_6 : w4.cell? ⟨g, q * 13 + 6, none⟩ = some (.slice r.al r.N.log.length r.cl) := (hcg4 _).trans (by simp [go_sem, c3_6] <;> (first | omega | (congr 2 <;> omega)))
      have c4_7 : w4.cell? ⟨g, q * 13 + 7, none⟩ = some (.int .i64 ((K1 : Int))) := (hcg4 _).trans (by simp [go_sem, c3_7] <;> (first | omega | (congr 2 <;> omega)))
      have c4_8 : w4.cell? ⟨g, q * 13 + 8, none⟩ = some (.int .i64 ((K1 : Int) + 1)) := (hcg4 _).trans (by simp [go_sem, c3_8] <;> (first | omega | (congr 2 <;> omega)))
      have c4_9 : w4.cell? ⟨g, q * 13 + 9, none⟩ = some (.int .i64 ((K1 : Int) + 2)) := (hcg4 _).trans (by simp [go_sem, c3_9] <;> (first | omega | (congr 2 <;> omega)))
      have c4_10 : w4.cell? ⟨g, q * 13 + 10, none⟩ = some (.slice r.av r.N.votes.length r.cv) := (hcg4 _).trans (by simp [go_sem, c3_10] <;> (first | omega | (congr 2 <;> omega)))
      have c4_11 : w4.cell? ⟨g, q * 13 + 11, none⟩ = some (.slice r.an r.N.next.length r.cn) := (hcg4 _).trans (by simp [go_sem, c3_11] <;> (first | omega | (congr 2 <;> omega)))
      have c4_12 : w4.cell? ⟨g, q * 13 + 12, none⟩ = some (.slice r.am r.N.mtch.length r.cm) := (hcg4 _).trans (by simp [go_sem, c3_12] <;> (first | omega | (congr 2 <;> omega)))
      have f4 : ∀ o, w4.frozen? ⟨g, o, none⟩ = false := fun o => (hu4.fz o).trans (f3 o)
      have HG4_0 := Lib.hid (HG3_0.out.upd hu4 (fun k hk => ⟨sg_0.out k hk, sd_0_3.out k hk⟩))
      have HG4_1 := Lib.hid (HG3_1.out.upd hu4 (fun k hk => ⟨sg_1.out k hk, sd_1_3.out k hk⟩))
      have HG4_2 := Lib.hid (HG3_2.out.upd hu4 (fun k hk => ⟨sg_2.out k hk, sd_2_3.out k hk⟩))
      have HG4_3 := Lib.hid hf4
      clear hf4
      have HU4 : Hid (Upd g (q * 13) (q * 13 + 13) (· ∈ nodeBlk r) wr w4) := Lib.hid (HU3.out.trans (hu4.mono (Nat.le_refl _) (Nat.le_refl _) (fun k hk => by simp [nodeBlk, hk])))
      clear c3_0 c3_1 c3_2 c3_3 c3_4 c3_5 c3_6 c3_7 c3_8 c3_9 c3_10 c3_11 c3_12 f3 HG3_0 HG3_1 HG3_2 HG3_3 HU3
      clear hu4 hu4' hcg4
      obtain ⟨K4, hk4⟩ : ∃ k, K3 + 1 * r.N.mtch.length = k := ⟨_, rfl⟩
      have HE4 := Lib.hid hk4
      rw [hk4]
      clear hk4
      have hbK4 : K4 ≤ 17592186044416 := (by have h1 := HKM2.out; skip; have eHE1 := HE1.out; have eHE2 := HE2.out; have eHE3 := HE3.out; have eHE4 := HE4.out; omega)
      have hszz : g < w4.heap.size := by omega
      go_wp2_with fail
      go_roundw
      case rel =>
        have hq2 : q * 13 + 13 ≤ rs.length * 13 := by have := Nat.mul_le_mul_right 13 (show q + 1 ≤ rs.length by omega); omega
        refine ⟨q + 1, by omega, by go_num, ?_, ?_, ?_⟩
        · rw [HNS.out]
          show Value.int .i64 _ = Value.int .i64 _
          congr 1 <;> (unfold nodeCnt; have eHE1 := HE1.out; have eHE2 := HE2.out; have eHE3 := HE3.out; have eHE4 := HE4.out; omega)
        · rw [← HOS.out, HF.out]
          refine RowsR.step HR.out hol (x := nodeMk r K0) ?_ ?_ ?_ ?_ ?_
          · rw [HBQ.out]; rfl
          · rw [HBQ.out]; (repeat (first | (with_reducible exact HU4.out) | (refine Upd.setCell ?_ _ (by omega) (by omega) _)))
          · intro j hj
            match j, hj with
            | 0, _ => simp [go_sem, c4_0, nodeMk, nodeE] <;> (have eHE1 := HE1.out; have eHE2 := HE2.out; have eHE3 := HE3.out; have eHE4 := HE4.out; first | omega | (congr 2 <;> omega) | (subst_vars; rfl))
            | 1, _ => simp [go_sem, c4_1, nodeMk, nodeE] <;> (have eHE1 := HE1.out; have eHE2 := HE2.out; have eHE3 := HE3.out; have eHE4 := HE4.out; first | omega | (congr 2 <;> omega) | (subst_vars; rfl))
            | 2, _ => simp [go_sem, c4_2, nodeMk, nodeE] <;> (have eHE1 := HE1.out; have eHE2 := HE2.out; have eHE3 := HE3.out; have eHE4 := HE4.out; first | omega | (congr 2 <;> omega) | (subst_vars; rfl))
            | 3, _ => simp [go_sem, c4_3, nodeMk, nodeE] <;> (have eHE1 := HE1.out; have eHE2 := HE2.out; have eHE3 := HE3.out; have eHE4 := HE4.out; first | omega | (congr 2 <;> omega) | (subst_vars; rfl))
            | 4, _ => simp [go_sem, c4_4, nodeMk, nodeE] <;> (have eHE1 := HE1.out; have eHE2 := HE2.out; have eHE3 := HE3.out; have eHE4 := HE4.out; first | omega | (congr 2 <;> omega) | (subst_vars; rfl))
            | 5, _ => simp [go_sem, c4_5, nodeMk, nodeE] <;> (have eHE1 := HE1.out; have eHE2 := HE2.out; have eHE3 := HE3.out; have eHE4 := HE4.out; first | omega | (congr 2 <;> omega) | (subst_vars; rfl))
            | 6, _ => simp [go_sem, c4_6, nodeMk, nodeE] <;> (have eHE1 := HE1.out; have eHE2 := HE2.out; have eHE3 := HE3.out; have eHE4 := HE4.out; first | omega | (congr 2 <;> omega) | (subst_vars; rfl))
            | 7, _ => simp [go_sem, c4_7, nodeMk, nodeE] <;> (have eHE1 := HE1.out; have eHE2 := HE2.out; have eHE3 := HE3.out; have eHE4 := HE4.out; first | omega | (congr 2 <;> omega) | (subst_vars; rfl))
            | 8, _ => simp [go_sem, c4_8, nodeMk, nodeE] <;> (have eHE1 := HE1.out; have eHE2 := HE2.out; have eHE3 := HE3.out; have eHE4 := HE4.out; first | omega | (congr 2 <;> omega) | (subst_vars; rfl))
            | 9, _ => simp [go_sem, c4_9, nodeMk, nodeE] <;> (have eHE1 := HE1.out; have eHE2 := HE2.out; have eHE3 := HE3.out; have eHE4 := HE4.out; first | omega | (congr 2 <;> omega) | (subst_vars; rfl))
            | 10, _ => simp [go_sem, c4_10, nodeMk, nodeE] <;> (have eHE1 := HE1.out; have eHE2 := HE2.out; have eHE3 := HE3.out; have eHE4 := HE4.out; first | omega | (congr 2 <;> omega) | (subst_vars; rfl))
            | 11, _ => simp [go_sem, c4_11, nodeMk, nodeE] <;> (have eHE1 := HE1.out; have eHE2 := HE2.out; have eHE3 := HE3.out; have eHE4 := HE4.out; first | omega | (congr 2 <;> omega) | (subst_vars; rfl))
            | 12, _ => simp [go_sem, c4_12, nodeMk, nodeE] <;> (have eHE1 := HE1.out; have eHE2 := HE2.out; have eHE3 := HE3.out; have eHE4 := HE4.out; first | omega | (congr 2 <;> omega) | (subst_vars; rfl))
          · unfold nodeOwn nodeMk
            exact ⟨by
              have hh := HG4_0.out.upd (by (repeat (first | (with_reducible exact Upd.refl) | (refine Upd.setCell ?_ _ (by omega) (by omega) _))) : Upd g (q * 13) (q * 13 + 13) (fun _ => False) w4 _) (fun k hk => ⟨sg_0.out k hk, fun e => e⟩)
              rw [show K0 + 6 = K0 + 6 from by have eHE1 := HE1.out; have eHE2 := HE2.out; have eHE3 := HE3.out; have eHE4 := HE4.out; omega] at hh
              simpa using hh, by
              have hh := HG4_1.out.upd (by (repeat (first | (with_reducible exact Upd.refl) | (refine Upd.setCell ?_ _ (by omega) (by omega) _))) : Upd g (q * 13) (q * 13 + 13) (fun _ => False) w4 _) (fun k hk => ⟨sg_1.out k hk, fun e => e⟩)
              rw [show K1 + 3 = K0 + 6 + 2 * r.N.log.length + 3 from by have eHE1 := HE1.out; have eHE2 := HE2.out; have eHE3 := HE3.out; have eHE4 := HE4.out; omega] at hh
              simpa using hh, by
              have hh := HG4_2.out.upd (by (repeat (first | (with_reducible exact Upd.refl) | (refine Upd.setCell ?_ _ (by omega) (by omega) _))) : Upd g (q * 13) (q * 13 + 13) (fun _ => False) w4 _) (fun k hk => ⟨sg_2.out k hk, fun e => e⟩)
              rw [show K2 = K0 + 6 + 2 * r.N.log.length + 3 + 1 * r.N.votes.length from by have eHE1 := HE1.out; have eHE2 := HE2.out; have eHE3 := HE3.out; have eHE4 := HE4.out; omega] at hh
              simpa using hh, by
              have hh := HG4_3.out.upd (by (repeat (first | (with_reducible exact Upd.refl) | (refine Upd.setCell ?_ _ (by omega) (by omega) _))) : Upd g (q * 13) (q * 13 + 13) (fun _ => False) w4 _) (fun k hk => ⟨sg_3.out k hk, fun e => e⟩)
              rw [show K3 = K0 + 6 + 2 * r.N.log.length + 3 + 1 * r.N.votes.length + 1 * r.N.next.length from by have eHE1 := HE1.out; have eHE2 := HE2.out; have eHE3 := HE3.out; have eHE4 := HE4.out; omega] at hh
              simpa using hh⟩
          · intro r' h1 h2
            refine h1.upd (S := (· ∈ nodeBlk r)) (g := g) (lo := q * 13) (hi := q * 13 + 13) (w := wr) (by (repeat (first | (with_reducible exact HU4.out) | (refine Upd.setCell ?_ _ (by omega) (by omega) _)))) (fun k hk => ⟨(h2 k hk).1, by have := (h2 k hk).2; rwa [HBQ.out] at this⟩)
        · refine HW.out.trans (Upd.mono (lo := q * 13) (hi := q * 13 + 13) (S := (· ∈ nodeBlk r)) (by (repeat (first | (with_reducible exact HU4.out) | (refine Upd.setCell ?_ _ (by omega) (by omega) _)))) (Nat.zero_le _) hq2 (fun k hk => HALL.out k hk))
      case measure => simp [intOf]; omega
    · obtain rfl : q = rs.length := by omega
      go_wp2_with fail
      go_ret
      have h1 := HR.out
      rw [over_all] at h1
      refine ⟨by rw [List.take_length]; rfl, h1, HW.out⟩
set_option maxRecDepth 100000 in
set_option maxHeartbeats 8000000 in
theorem heldNodeS_c (g ca B : Nat) (rs : List NodeA) (K : Nat) (w : World) (h : RowsR nodeE 13 nodeOwn nodeBlk B w g ((List.range rs.length).map (nodeF rs K))) (hK : nodeNum K rs ≤ 17592186044416) :
    Calls Try.prog 57 #[.slice (some ⟨g, 0, none⟩) rs.length ca, .int .i64 K] w fun e w' => e = .returned (.int .i64 ((nodeNum K rs : Nat))) ∧ Below w.heap.size w w' := by
  have hlen : rs.length ≤ 17592186044416 := by have := nodeNum_len K rs; omega
  have HK := Lib.hid hK
  have H0 := Lib.hid h
  clear hK h
  go_enter Try.func57, Try.ntmps57
  go_wp2_with fail
  go_loopw [1, 5] (fun m i wr => ∃ q : Nat, q ≤ rs.length ∧ i = .int .i64 q ∧ m = .int .i64 ((nodeNum K (rs.take q) : Nat)) ∧ Below w.heap.size w wr) (fun _ i _ => rs.length - (intOf i).toNat)
  case atStart => exact ⟨0, Nat.zero_le _, rfl, rfl, Below.refl _ _⟩
  case round =>
    obtain ⟨q, hq, rfl, rfl, hw⟩ := hrel
    have HW := Lib.hid hw
    have hwz := hw.size
    have hlt0 : g < wr.heap.size := by have := H0.out.lt; omega
    by_cases hlt : q < rs.length
    · have hol : q < ((List.range rs.length).map (nodeF rs K)).length := by simpa using hlt
      obtain ⟨b1, o1, he1, hb1, hc1⟩ := (H0.out.sl.keep hw).at hol
      simp only [Option.some.injEq, Addr.mk.injEq] at he1
      obtain ⟨rfl, rfl, _⟩ := he1
      have hF : ((List.range rs.length).map (nodeF rs K))[q] = nodeMk rs[q] (nodeNum K (rs.take q)) := by simpa using nodeF_at rs K q hlt
      have HO := Lib.hid (H0.out.ok q hol)
      have HNS := Lib.hid (nodeNum_step K rs q hlt)
      have HKM : Hid (nodeNum K (rs.take q) + nodeCnt rs[q] ≤ 17592186044416) := Lib.hid (Nat.le_trans (nodeNum_le K rs q hlt) HK.out)
      rw [hF] at HO
      have e0_0 := hc1 q hol 0 (by omega)
      have e0_1 := hc1 q hol 1 (by omega)
      have e0_2 := hc1 q hol 2 (by omega)
      have e0_3 := hc1 q hol 3 (by omega)
      have e0_4 := hc1 q hol 4 (by omega)
      have e0_5 := hc1 q hol 5 (by omega)
      have e0_6 := hc1 q hol 6 (by omega)
      have e0_7 := hc1 q hol 7 (by omega)
      have e0_8 := hc1 q hol 8 (by omega)
      have e0_9 := hc1 q hol 9 (by omega)
      have e0_10 := hc1 q hol 10 (by omega)
      have e0_11 := hc1 q hol 11 (by omega)
      have e0_12 := hc1 q hol 12 (by omega)
      rw [hF] at e0_0 e0_1 e0_2 e0_3 e0_4 e0_5 e0_6 e0_7 e0_8 e0_9 e0_10 e0_11 e0_12
      clear hF hc1
      generalize rs[q] = r at *
      generalize nodeNum K (rs.take q) = K0 at *
      simp only [nodeE, nodeMk, Nat.zero_add, Nat.add_zero, List.length_map, List.length_range, List.getElem?_cons_zero, List.getElem?_cons_succ] at e0_0 e0_1 e0_2 e0_3 e0_4 e0_5 e0_6 e0_7 e0_8 e0_9 e0_10 e0_11 e0_12
      have E0_0 := Lib.hid e0_0
      have E0_1 := Lib.hid e0_1
      have E0_2 := Lib.hid e0_2
      have E0_3 := Lib.hid e0_3
      have E0_4 := Lib.hid e0_4
      have E0_5 := Lib.hid e0_5
      have E0_6 := Lib.hid e0_6
      have E0_7 := Lib.hid e0_7
      have E0_8 := Lib.hid e0_8
      have E0_9 := Lib.hid e0_9
      have E0_10 := Lib.hid e0_10
      have E0_11 := Lib.hid e0_11
      have E0_12 := Lib.hid e0_12
      clear e0_0 e0_1 e0_2 e0_3 e0_4 e0_5 e0_6 e0_7 e0_8 e0_9 e0_10 e0_11 e0_12
      have ho := HO.out
      unfold nodeOwn nodeMk at ho
      clear HO
      have HS_0 : Hid (Sl entE 2 w r.al ((List.range r.N.log.length).map (markE (K0 + 6)))) := Lib.hid (FreshIn.slr2 (fun _ => rfl) (show FreshIn entE 76 2 B w.heap.size (.slice r.al r.N.log.length r.cl) _ w from (by simpa using ho.1)))
      have HS_1 : Hid (Sl intE 1 w r.av ((List.range r.N.votes.length).map (markI (K0 + 6 + 2 * r.N.log.length + 3)))) := Lib.hid (FreshIn.slr2 (fun _ => rfl) (show FreshIn intE 3 1 B w.heap.size (.slice r.av r.N.votes.length r.cv) _ w from (by simpa using ho.2.1)))
      have HS_2 : Hid (Sl intE 1 w r.an ((List.range r.N.next.length).map (markI (K0 + 6 + 2 * r.N.log.length + 3 + 1 * r.N.votes.length)))) := Lib.hid (FreshIn.slr2 (fun _ => rfl) (show FreshIn intE 3 1 B w.heap.size (.slice r.an r.N.next.length r.cn) _ w from (by simpa using ho.2.2.1)))
      have HS_3 : Hid (Sl intE 1 w r.am ((List.range r.N.mtch.length).map (markI (K0 + 6 + 2 * r.N.log.length + 3 + 1 * r.N.votes.length + 1 * r.N.next.length)))) := Lib.hid (FreshIn.slr2 (fun _ => rfl) (show FreshIn intE 3 1 B w.heap.size (.slice r.am r.N.mtch.length r.cm) _ w from (by simpa using ho.2.2.2)))
      clear ho
      have hKM := HKM.out
      unfold nodeCnt at hKM
      have HKM2 := Lib.hid hKM
      have hbK0 : K0 ≤ 17592186044416 := by omega
      clear hKM
      have c0_0 : wr.cell? ⟨g, q * 13, none⟩ = some (.int .i64 ((K0 : Int))) := E0_0.out.trans (by first | rfl | (congr 2; omega) | (simp; omega) | (simp) | (congr 2 <;> congr 1 <;> omega))
      have c0_1 : wr.cell? ⟨g, q * 13 + 1, none⟩ = some (.int .i64 ((K0 : Int) + 1)) := E0_1.out.trans (by first | rfl | (congr 2; omega) | (simp; omega) | (simp) | (congr 2 <;> congr 1 <;> omega))
      have c0_2 : wr.cell? ⟨g, q * 13 + 2, none⟩ = some (.int .i64 ((K0 : Int) + 1 + 1)) := E0_2.out.trans (by first | rfl | (congr 2; omega) | (simp; omega) | (simp) | (congr 2 <;> congr 1 <;> omega))
      have c0_3 : wr.cell? ⟨g, q * 13 + 3, none⟩ = some (.int .i64 ((K0 : Int) + 1 + 1 + 1)) := E0_3.out.trans (by first | rfl | (congr 2; omega) | (simp; omega) | (simp) | (congr 2 <;> congr 1 <;> omega))
      have c0_4 : wr.cell? ⟨g, q * 13 + 4, none⟩ = some (.int .i64 ((K0 : Int) + 1 + 1 + 1 + 1)) := E0_4.out.trans (by first | rfl | (congr 2; omega) | (simp; omega) | (simp) | (congr 2 <;> congr 1 <;> omega))
      obtain ⟨v_5, hv_5⟩ : ∃ v, (((K0 : Int) + 1 + 1 + 1 + 1 + 1) % 3 == 0) = v := ⟨_, rfl⟩
      have hw_5 : (((K0 : Int) + 5) % 3 == 0) = v_5 := by rw [← hv_5]; congr 2 <;> omega
      have c0_5 : wr.cell? ⟨g, q * 13 + 5, none⟩ = some (.bool v_5) := E0_5.out.trans (by rw [← hv_5]; first | rfl | (congr 2; omega) | (congr 3 <;> omega) | (simp; omega) | simp)
      have c0_6 : wr.cell? ⟨g, q * 13 + 6, none⟩ = some (.slice r.al r.N.log.length r.cl) := E0_6.out.trans (by first | rfl | (congr 2; omega) | (simp; omega) | (simp) | (congr 2 <;> congr 1 <;> omega))
      go_wp2_with fail
      have hS := HS_0.out.keep HW.out
      rw [show K0 + 6 = K0 + 6 from (by have h1 := HKM2.out; skip; omega)] at hS
      refine (heldEntrySB_c r.al r.cl r.N.log.length (K0 + 6) _ hS (by have h1 := HKM2.out; skip; omega)).mono ?_
      rintro e w1 ⟨rfl, hbq⟩
      clear hS
      have hzq1 := hbq.size
      have HW1 : Hid (Below w.heap.size w w1) := Lib.hid (HW.out.trans (hbq.mono (by omega)))
      have E1_7 := Lib.hid ((hbq.cell (p := ⟨g, q * 13 + 7, none⟩) (by show g < wr.heap.size; omega)).trans E0_7.out)
      have E1_8 := Lib.hid ((hbq.cell (p := ⟨g, q * 13 + 8, none⟩) (by show g < wr.heap.size; omega)).trans E0_8.out)
      have E1_9 := Lib.hid ((hbq.cell (p := ⟨g, q * 13 + 9, none⟩) (by show g < wr.heap.size; omega)).trans E0_9.out)
      have E1_10 := Lib.hid ((hbq.cell (p := ⟨g, q * 13 + 10, none⟩) (by show g < wr.heap.size; omega)).trans E0_10.out)
      have E1_11 := Lib.hid ((hbq.cell (p := ⟨g, q * 13 + 11, none⟩) (by show g < wr.heap.size; omega)).trans E0_11.out)
      have E1_12 := Lib.hid ((hbq.cell (p := ⟨g, q * 13 + 12, none⟩) (by show g < wr.heap.size; omega)).trans E0_12.out)
      have hlq1 : g < w1.heap.size := by omega
      clear hbq
      clear E0_7 E0_8 E0_9 E0_10 E0_11 E0_12
      obtain ⟨K1, hk1⟩ : ∃ k, K0 + 6 + 2 * r.N.log.length = k := ⟨_, rfl⟩
      have HE1 := Lib.hid hk1
      rw [hk1]
      clear hk1
      have hbK1 : K1 ≤ 17592186044416 := (by have h1 := HKM2.out; skip; have eHE1 := HE1.out; omega)
      have hnK1 : decide ((K1 : Int) < 0) = false := decide_eq_false (by omega)
      have c1_7 : w1.cell? ⟨g, q * 13 + 7, none⟩ = some (.int .i64 ((K1 : Int))) := E1_7.out.trans (by have eHE1 := HE1.out; first | rfl | (congr 2; omega) | (simp; omega) | (simp) | (congr 2 <;> congr 1 <;> omega))
      have c1_8 : w1.cell? ⟨g, q * 13 + 8, none⟩ = some (.int .i64 ((K1 : Int) + 1)) := E1_8.out.trans (by have eHE1 := HE1.out; first | rfl | (congr 2; omega) | (simp; omega) | (simp) | (congr 2 <;> congr 1 <;> omega))
      have c1_9 : w1.cell? ⟨g, q * 13 + 9, none⟩ = some (.int .i64 ((K1 : Int) + 1 + 1)) := E1_9.out.trans (by have eHE1 := HE1.out; first | rfl | (congr 2; omega) | (simp; omega) | (simp) | (congr 2 <;> congr 1 <;> omega))
      have c1_10 : w1.cell? ⟨g, q * 13 + 10, none⟩ = some (.slice r.av r.N.votes.length r.cv) := E1_10.out.trans (by have eHE1 := HE1.out; first | rfl | (congr 2; omega) | (simp; omega) | (simp) | (congr 2 <;> congr 1 <;> omega))
      go_wp2_with fail
      have hS := HS_1.out.keep HW1.out
      rw [show K0 + 6 + 2 * r.N.log.length + 3 = K1 + 3 from (by have h1 := HKM2.out; skip; have eHE1 := HE1.out; omega)] at hS
      refine (heldIntSB_c r.av r.cv r.N.votes.length (K1 + 3) _ hS (by have h1 := HKM2.out; skip; have eHE1 := HE1.out; omega)).mono ?_
      rintro e w2 ⟨rfl, hq0⟩
      clear hS
      have hbq : Below w1.heap.size w1 w2 := hq0 ▸ Below.refl _ _
      clear hq0
      have hzq2 := hbq.size
      have HW2 : Hid (Below w.heap.size w w2) := Lib.hid (HW1.out.trans (hbq.mono (by omega)))
      have E2_11 := Lib.hid ((hbq.cell (p := ⟨g, q * 13 + 11, none⟩) (by show g < w1.heap.size; omega)).trans E1_11.out)
      have E2_12 := Lib.hid ((hbq.cell (p := ⟨g, q * 13 + 12, none⟩) (by show g < w1.heap.size; omega)).trans E1_12.out)
      have hlq2 : g < w2.heap.size := by omega
      clear hbq
      clear E1_11 E1_12
      obtain ⟨K2, hk2⟩ : ∃ k, K1 + 3 + r.N.votes.length = k := ⟨_, rfl⟩
      have HE2 := Lib.hid hk2
      rw [hk2]
      clear hk2
      have hbK2 : K2 ≤ 17592186044416 := (by have h1 := HKM2.out; skip; have eHE1 := HE1.out; have eHE2 := HE2.out; omega)
      have hnK2 : decide ((K2 : Int) < 0) = false := decide_eq_false (by omega)
      have c2_11 : w2.cell? ⟨g, q * 13 + 11, none⟩ = some (.slice r.an r.N.next.length r.cn) := E2_11.out.trans (by have eHE1 := HE1.out; have eHE2 := HE2.out; first | rfl | (congr 2; omega) | (simp; omega) | (simp) | (congr 2 <;> congr 1 <;> omega))
      go_wp2_with fail
      have hS := HS_2.out.keep HW2.out
      rw [show K0 + 6 + 2 * r.N.log.length + 3 + 1 * r.N.votes.length = K2 from (by have h1 := HKM2.out; skip; have eHE1 := HE1.out; have eHE2 := HE2.out; omega)] at hS
      refine (heldIntSB_c r.an r.cn r.N.next.length (K2) _ hS (by have h1 := HKM2.out; skip; have eHE1 := HE1.out; have eHE2 := HE2.out; omega)).mono ?_
      rintro e w3 ⟨rfl, hq0⟩
      clear hS
      have hbq : Below w2.heap.size w2 w3 := hq0 ▸ Below.refl _ _
      clear hq0
      have hzq3 := hbq.size
      have HW3 : Hid (Below w.heap.size w w3) := Lib.hid (HW2.out.trans (hbq.mono (by omega)))
      have E3_12 := Lib.hid ((hbq.cell (p := ⟨g, q * 13 + 12, none⟩) (by show g < w2.heap.size; omega)).trans E2_12.out)
      have hlq3 : g < w3.heap.size := by omega
      clear hbq
      clear E2_12
      obtain ⟨K3, hk3⟩ : ∃ k, K2 + r.N.next.length = k := ⟨_, rfl⟩
      have HE3 := Lib.hid hk3
      rw [hk3]
      clear hk3
      have hbK3 : K3 ≤ 17592186044416 := (by have h1 := HKM2.out; skip; have eHE1 := HE1.out; have eHE2 := HE2.out; have eHE3 := HE3.out; omega)
      have hnK3 : decide ((K3 : Int) < 0) = false := decide_eq_false (by omega)
      have c3_12 : w3.cell? ⟨g, q * 13 + 12, none⟩ = some (.slice r.am r.N.mtch.length r.cm) := E3_12.out.trans (by have eHE1 := HE1.out; have eHE2 := HE2.out; have eHE3 := HE3.out; first | rfl | (congr 2; omega) | (simp; omega) | (simp) | (congr 2 <;> congr 1 <;> omega))
      go_wp2_with fail
      have hS := HS_3.out.keep HW3.out
      rw [show K0 + 6 + 2 * r.N.log.length + 3 + 1 * r.N.votes.length + 1 * r.N.next.length = K3 from (by have h1 := HKM2.out; skip; have eHE1 := HE1.out; have eHE2 := HE2.out; have eHE3 := HE3.out; omega)] at hS
      refine (heldIntSB_c r.am r.cm r.N.mtch.length (K3) _ hS (by have h1 := HKM2.out; skip; have eHE1 := HE1.out; have eHE2 := HE2.out; have eHE3 := HE3.out; omega)).mono ?_
      rintro e w4 ⟨rfl, hq0⟩
      clear hS
      have hbq : Below w3.heap.size w3 w4 := hq0 ▸ Below.refl _ _
      clear hq0
      have hzq4 := hbq.size
      have HW4 : Hid (Below w.heap.size w w4) := Lib.hid (HW3.out.trans (hbq.mono (by omega)))
      have hlq4 : g < w4.heap.size := by omega
      clear hbq
      skip
      obtain ⟨K4, hk4⟩ : ∃ k, K3 + r.N.mtch.length = k := ⟨_, rfl⟩
      have HE4 := Lib.hid hk4
      rw [hk4]
      clear hk4
      have hbK4 : K4 ≤ 17592186044416 := (by have h1 := HKM2.out; skip; have eHE1 := HE1.out; have eHE2 := HE2.out; have eHE3 := HE3.out; have eHE4 := HE4.out; omega)
      have hnK4 : decide ((K4 : Int) < 0) = false := decide_eq_false (by omega)
      go_wp2_with fail
      go_roundw
      case rel =>
        refine ⟨q + 1, by omega, by go_num, ?_, HW4.out⟩
        rw [HNS.out]
        show Value.int .i64 _ = Value.int .i64 _
        congr 1 <;> (unfold nodeCnt; have eHE1 := HE1.out; have eHE2 := HE2.out; have eHE3 := HE3.out; have eHE4 := HE4.out; omega)
      case measure => simp [intOf]; omega
    · obtain rfl : q = rs.length := by omega
      go_wp2_with fail
      go_ret
      exact ⟨by rw [List.take_length]; rfl, HW.out⟩
end
section
open Go.RowKit
structure RowsG {R : Type} (own : Nat → World → R → Prop) (blk : R → List Nat) (st : R → Prop) (B : Nat) (w : World) (L : List R) : Prop where
  ow : ∀ r ∈ L, own B w r
  nd : ∀ r ∈ L, (blk r).Nodup
  bd : ∀ r ∈ L, ∀ b ∈ blk r, B ≤ b ∧ b < w.heap.size
  sta : ∀ r ∈ L, st r
  ap : L.Pairwise (fun r s => ∀ b ∈ blk r, b ∉ blk s)
structure RowNew {R : Type} (own : Nat → World → R → Prop) (blk : R → List Nat) (st : R → Prop) (lo : Nat) (w : World) (t : R) : Prop where
  ow : own lo w t
  nd : (blk t).Nodup
  bd : ∀ b ∈ blk t, lo ≤ b ∧ b < w.heap.size
  sta : st t
section
variable {R : Type} {own : Nat → World → R → Prop} {blk : R → List Nat} {st : R → Prop} {B lo : Nat} {w w' : World} {L : List R} {t : R}
theorem RowsG.nil : RowsG own blk st B w [] := ⟨by simp, by simp, by simp, by simp, .nil⟩
theorem RowsG.to (h : RowsG own blk st B w L) (hz : w.heap.size ≤ w'.heap.size) (hk : ∀ r, own B w r → own B w' r) : RowsG own blk st B w' L :=
  ⟨fun r hr => hk r (h.ow r hr), h.nd, fun r hr b hb => ⟨(h.bd r hr b hb).1, Nat.lt_of_lt_of_le (h.bd r hr b hb).2 hz⟩, h.sta, h.ap⟩
theorem RowsG.snoc (h : RowsG own blk st B w L) (hz : w.heap.size ≤ w'.heap.size) (hk : ∀ r, own B w r → own B w' r) (hB : B ≤ w.heap.size) (ht : RowNew own blk st w.heap.size w' t) (hm : own w.heap.size w' t → own B w' t) : RowsG own blk st B w' (L ++ [t]) := by
  have h' := h.to hz hk
  refine ⟨?_, ?_, ?_, ?_, ?_⟩
  · intro r hr
    rcases List.mem_append.1 hr with hr | hr
    · exact h'.ow r hr
    · simp at hr; subst hr; exact hm ht.ow
  · intro r hr
    rcases List.mem_append.1 hr with hr | hr
    · exact h'.nd r hr
    · simp at hr; subst hr; exact ht.nd
  · intro r hr b hb
    rcases List.mem_append.1 hr with hr | hr
    · exact h'.bd r hr b hb
    · simp at hr; subst hr
      have := ht.bd b hb
      exact ⟨by omega, this.2⟩
  · intro r hr
    rcases List.mem_append.1 hr with hr | hr
    · exact h'.sta r hr
    · simp at hr; subst hr; exact ht.sta
  · rw [List.pairwise_append]
    refine ⟨h.ap, List.pairwise_singleton _ _, fun r hr s hs b hb hbs => ?_⟩
    simp at hs
    subst hs
    have h1 := (h.bd r hr b hb).2
    have h2 := (ht.bd b hbs).1
    omega
theorem RowsG.rows {enc : R → List Value} {sz B' g : Nat} (h : RowsG own blk st B w L) (hs : Sl enc sz w (some ⟨g, 0, none⟩) L) (hB : B' ≤ g) (hg : g < B) (hgw : g < w.heap.size) (hf : ∀ o, w.frozen? ⟨g, o, none⟩ = false) (hm : ∀ r, own B w r → own B' w r) : RowsR enc sz own blk B' w g L where
  low := hB
  lt := hgw
  sl := hs
  fz := hf
  ok := fun i hi => hm _ (h.ow _ (List.getElem_mem hi))
  sep := by
    refine ⟨fun i hi => ?_, fun i j hi hj hij b hb => ?_⟩
    · have hi' : i < L.length := by simpa using hi
      rw [List.getElem_map]
      refine ⟨fun hb => ?_, h.nd _ (List.getElem_mem hi')⟩
      have := h.bd _ (List.getElem_mem hi') g hb
      omega
    · have hi' : i < L.length := by simpa using hi
      have hj' : j < L.length := by simpa using hj
      rw [List.getElem_map] at hb ⊢
      have hp := List.pairwise_iff_getElem.1 h.ap
      rcases Nat.lt_or_gt_of_ne hij with hlt | hlt
      · exact hp i j hi' hj' hlt b hb
      · exact fun hbj => hp j i hj' hi' hlt b hbj hb
theorem blkOf_nodup (a : Option Addr) : (blkOf a).Nodup := by cases a <;> simp [blkOf]
theorem FreshIn.blks {α : Type} {enc : α → List Value} {sz : Nat} {e : TypeId} {hi n c : Nat} {ad : Option Addr} {xs : List α} (h : FreshIn enc e sz lo hi (.slice ad n c) xs w) : ∀ k ∈ blkOf ad, lo ≤ k ∧ k < hi := by
  intro k hk
  cases ad with
  | none => simp [blkOf] at hk
  | some p =>
    simp only [blkOf, List.mem_singleton] at hk
    subst hk
    exact (FreshIn.row h) p.block (by simp [Value.ownBlock])
theorem FreshIn.low {α : Type} {enc : α → List Value} {sz : Nat} {e : TypeId} {hi n c : Nat} {ad : Option Addr} {xs : List α} {B' : Nat} (h : FreshIn enc e sz lo hi (.slice ad n c) xs w) (h1 : B' ≤ lo) : FreshIn enc e sz B' hi (.slice ad n c) xs w := h.mono h1 (Nat.le_refl _)
theorem FreshIn.keepB {α : Type} {enc : α → List Value} {sz : Nat} {e : TypeId} {n c : Nat} {ad : Option Addr} {xs : List α} (h : FreshIn enc e sz B w.heap.size (.slice ad n c) xs w) (hb : Below w.heap.size w w') : FreshIn enc e sz B w'.heap.size (.slice ad n c) xs w' := (h.below hb).mono (Nat.le_refl _) hb.size
theorem FreshIn.setB {α : Type} {enc : α → List Value} {sz : Nat} {e : TypeId} {n c : Nat} {ad : Option Addr} {xs : List α} (h : FreshIn enc e sz B w.heap.size (.slice ad n c) xs w) {p : Addr} (hp : p.block < B) (u : Value) : FreshIn enc e sz B (w.setCell p u).heap.size (.slice ad n c) xs (w.setCell p u) := by
  have := h.setCell hp u
  simpa [World.setCell] using this
end
end
section
open Go.RowKit
theorem nodeOwn.low {B B' : Nat} {w : World} {r : NodeA} (h : nodeOwn B w r) (hB : B' ≤ B) : nodeOwn B' w r := ⟨h.1.low hB, h.2.1.low hB, h.2.2.1.low hB, h.2.2.2.low hB⟩
theorem nodeOwn.keep {B : Nat} {w w' : World} {r : NodeA} (h : nodeOwn B w r) (hb : Below w.heap.size w w') : nodeOwn B w' r := ⟨h.1.keepB hb, h.2.1.keepB hb, h.2.2.1.keepB hb, h.2.2.2.keepB hb⟩
theorem nodeOwn.setCell {B : Nat} {w : World} {r : NodeA} (h : nodeOwn B w r) {p : Addr} (hp : p.block < B) (u : Value) : nodeOwn B (w.setCell p u) r := ⟨h.1.setB hp u, h.2.1.setB hp u, h.2.2.1.setB hp u, h.2.2.2.setB hp u⟩
theorem messageOwn.low {B B' : Nat} {w : World} {r : MsgA} (h : messageOwn B w r) (hB : B' ≤ B) : messageOwn B' w r := FreshIn.low h hB
theorem messageOwn.keep {B : Nat} {w w' : World} {r : MsgA} (h : messageOwn B w r) (hb : Below w.heap.size w w') : messageOwn B w' r := FreshIn.keepB h hb
theorem messageOwn.setCell {B : Nat} {w : World} {r : MsgA} (h : messageOwn B w r) {p : Addr} (hp : p.block < B) (u : Value) : messageOwn B (w.setCell p u) r := FreshIn.setB h hp u
abbrev NodeG := RowsG nodeOwn nodeBlk (fun r => r.N.log.length ≤ r.cl)
abbrev MsgG := RowsG messageOwn messageBlk (fun _ => True)
theorem NodeG.setCell {B : Nat} {w : World} {L : List NodeA} (h : NodeG B w L) {p : Addr} (hp : p.block < B) (u : Value) : NodeG B (w.setCell p u) L := RowsG.to h (by simp [World.setCell]) (fun _ hr => hr.setCell hp u)
theorem MsgG.setCell {B : Nat} {w : World} {L : List MsgA} (h : MsgG B w L) {p : Addr} (hp : p.block < B) (u : Value) : MsgG B (w.setCell p u) L := RowsG.to h (by simp [World.setCell]) (fun _ hr => hr.setCell hp u)
theorem nodeNew {lo : Nat} {w : World} {N : NodeV} (al : Option Addr) (cl : Nat) (av : Option Addr) (cv : Nat) (an : Option Addr) (cn : Nat) (am : Option Addr) (cm : Nat) (h : FreshNode lo N w al cl av cv an cn am cm) : RowNew nodeOwn nodeBlk (fun r => r.N.log.length ≤ r.cl) lo w ⟨N, al, cl, av, cv, an, cn, am, cm⟩ := by
  obtain ⟨x1, x2, x3, y1, y2, y3, y4, f1, f2, f3, f4⟩ := h
  have d1 := f1.blks
  have d2 := f2.blks
  have d3 := f3.blks
  have d4 := f4.blks
  refine ⟨⟨f1.mono (Nat.le_refl _) (by omega), f2.mono (by omega) (by omega), f3.mono (by omega) (by omega), f4.mono (by omega) (by omega)⟩, ?_, ?_, fit_of_own f1⟩
  · simp only [nodeBlk, List.nodup_append, List.mem_append]
    refine ⟨⟨⟨blkOf_nodup _, blkOf_nodup _, ?_⟩, blkOf_nodup _, ?_⟩, blkOf_nodup _, ?_⟩
    · intro a ha b hb
      have := d1 a ha; have := d2 b hb; omega
    · rintro a (ha | ha) b hb
      · have := d1 a ha; have := d3 b hb; omega
      · have := d2 a ha; have := d3 b hb; omega
    · rintro a ((ha | ha) | ha) b hb
      · have := d1 a ha; have := d4 b hb; omega
      · have := d2 a ha; have := d4 b hb; omega
      · have := d3 a ha; have := d4 b hb; omega
  · intro b hb
    simp only [nodeBlk, List.mem_append] at hb
    rcases hb with ((hb | hb) | hb) | hb
    · have := d1 b hb; omega
    · have := d2 b hb; omega
    · have := d3 b hb; omega
    · have := d4 b hb; omega
def NodeSR2 (rs : List NodeA) (w : World) (e : Ending) (w' : World) : Prop :=
  ∃ b L, e = .returned (.slice (some ⟨b, 0, none⟩) (List.length L) (List.length L)) ∧ L.map (·.N) = rs.map (·.N) ∧ RowsR nodeE 13 nodeOwn nodeBlk w.heap.size w' b L ∧ (∀ r ∈ L, r.N.log.length ≤ r.cl) ∧ Below w.heap.size w w'
def MsgSR2 (rs : List MsgA) (w : World) (e : Ending) (w' : World) : Prop :=
  ∃ b L, e = .returned (.slice (some ⟨b, 0, none⟩) (List.length L) (List.length L)) ∧ L.map (·.M) = rs.map (·.M) ∧ RowsR msgE 9 messageOwn messageBlk w.heap.size w' b L ∧ Below w.heap.size w w'
set_option maxRecDepth 100000 in
set_option maxHeartbeats 4000000 in
theorem toNodeS2_c (a : Option Addr) (ca : Nat) (rs : List NodeA) (w : World) (ha : NodeS w a rs) (hs : ∀ r ∈ rs, NodeSz r.N 1048576) (la : rs.length ≤ 1048576) :
    Calls Try.prog 37 #[.slice a rs.length ca] w (NodeSR2 rs w) := by
  have HS := Lib.hid hs
  clear hs
  obtain ⟨i0, hi, hz0, hz1, hz2⟩ := info_parts Try.infoNode
  go_enter Try.func37, Try.ntmps37
  go_wp2_with (at_make; refine wpList_make_full _ rfl _ _ 30 rfl w.heap.size 54 i0 (.agg #[.int .i64 0, .int .i64 0, .int .i64 0, .int .i64 0, .int .i64 0, .bool false, .slice none 0 0, .int .i64 0, .int .i64 0, .int .i64 0, .slice none 0 0, .slice none 0 0, .slice none 0 0]) 13 Try.underlying30 hi hz0 hz1 .i64 .i64 _ _ rs.length rfl rfl rfl rfl ?c1 ?c2 ?c3 ?_)
  case c1 => rw [hz2]; omega
  case c2 => unfold maxLen; omega
  case c3 => exact Nat.le_refl _
  intro w1 hown hg
  have hm := madeCells_flat nodeE 13 nodeZ #[.int .i64 0, .int .i64 0, .int .i64 0, .int .i64 0, .int .i64 0, .bool false, .slice none 0 0, .int .i64 0, .int .i64 0, .int .i64 0, .slice none 0 0, .slice none 0 0, .slice none 0 0] rfl (fun _ => rfl) rs.length
  have hown2 : w1.ownsRow w.heap.size 54 13 (.slice (some ⟨w.heap.size, 0, none⟩) rs.length rs.length) rs.length ((List.replicate rs.length nodeZ).flatMap nodeE) := by rw [← hm]; exact hown
  clear hm hown
  go_wp2_with fail
  go_loopw [4] (fun i wr => ∃ L : List NodeA, L.length ≤ rs.length ∧ i = .int .i64 L.length ∧ L.map (·.N) = (rs.take L.length).map (·.N) ∧ NodeG (w.heap.size + 1) wr L ∧ wr.ownsRow w.heap.size 54 13 (.slice (some ⟨w.heap.size, 0, none⟩) rs.length rs.length) rs.length ((L ++ List.replicate (rs.length - L.length) nodeZ).flatMap nodeE) ∧ Below w.heap.size w wr ∧ w.heap.size < wr.heap.size) (fun i _ => rs.length - (intOf i).toNat)
  case atStart => exact ⟨[], Nat.zero_le _, rfl, rfl, RowsG.nil, by simpa using hown2, (Below.refl _ _).grown hg (Nat.le_refl _) (by simp), own_lt hown2⟩
  case round =>
    obtain ⟨L, hk, rfl, hL, hF, ho, hbel, hsz⟩ := hrel
    by_cases hlt : L.length < rs.length
    · obtain ⟨b1, o1, rfl, hb1, hc1⟩ := (ha.1.keep hbel).at hlt
      have c0 := hc1 L.length hlt 0 (by omega)
      have c1 := hc1 L.length hlt 1 (by omega)
      have c2 := hc1 L.length hlt 2 (by omega)
      have c3 := hc1 L.length hlt 3 (by omega)
      have c4 := hc1 L.length hlt 4 (by omega)
      have c5 := hc1 L.length hlt 5 (by omega)
      have c6 := hc1 L.length hlt 6 (by omega)
      have c7 := hc1 L.length hlt 7 (by omega)
      have c8 := hc1 L.length hlt 8 (by omega)
      have c9 := hc1 L.length hlt 9 (by omega)
      have c10 := hc1 L.length hlt 10 (by omega)
      have c11 := hc1 L.length hlt 11 (by omega)
      have c12 := hc1 L.length hlt 12 (by omega)
      simp only [nodeE, Nat.add_zero, List.getElem?_cons_zero, List.getElem?_cons_succ] at c0 c1 c2 c3 c4 c5 c6 c7 c8 c9 c10 c11 c12
      clear hc1
      have HTS := Lib.hid (List.take_succ_eq_append_getElem hlt)
      have hsz2 := HS.out rs[L.length] (List.getElem_mem _)
      have hok := (ha.2 rs[L.length] (List.getElem_mem _)).keep hbel
      generalize rs[L.length] = r at *
      have HO := Lib.hid ho
      have HL := Lib.hid hL
      clear ho hown2 hL
      have HF := Lib.hid hF
      clear hF
      go_wp2_with fail
      refine (toNode_c r.al r.cl r.av r.cv r.an r.cn r.am r.cm r.N _ hok.1 hsz2).mono ?_
      rintro e w2 ⟨al2, cl2, av2, cv2, an2, cn2, am2, cm2, rfl, hf2, hb2⟩
      obtain ⟨t, ht⟩ : ∃ t : NodeA, t = ⟨r.N, al2, cl2, av2, cv2, an2, cn2, am2, cm2⟩ := ⟨_, rfl⟩
      have HQ : Hid (RowNew nodeOwn nodeBlk (fun r => r.N.log.length ≤ r.cl) wr.heap.size w2 t) := by
        subst ht
        exact nodeNew _ _ _ _ _ _ _ _ hf2
      have hrw : Hid (t.N = r.N) := by rw [ht]; rfl
      have hz2' := hb2.size
      have ho2 := HO.out.kept (grownBy_of_below hb2) (.inr (by simp [Value.ownBlock]))
      have f0 := ho2.frozenAt (L.length * 13 + 0)
      have g0 := ho2.cellAt (L.length * 13 + 0) (by omega)
      have f1 := ho2.frozenAt (L.length * 13 + 1)
      have g1 := ho2.cellAt (L.length * 13 + 1) (by omega)
      have f2 := ho2.frozenAt (L.length * 13 + 2)
      have g2 := ho2.cellAt (L.length * 13 + 2) (by omega)
      have f3 := ho2.frozenAt (L.length * 13 + 3)
      have g3 := ho2.cellAt (L.length * 13 + 3) (by omega)
      have f4 := ho2.frozenAt (L.length * 13 + 4)
      have g4 := ho2.cellAt (L.length * 13 + 4) (by omega)
      have f5 := ho2.frozenAt (L.length * 13 + 5)
      have g5 := ho2.cellAt (L.length * 13 + 5) (by omega)
      have f6 := ho2.frozenAt (L.length * 13 + 6)
      have g6 := ho2.cellAt (L.length * 13 + 6) (by omega)
      have f7 := ho2.frozenAt (L.length * 13 + 7)
      have g7 := ho2.cellAt (L.length * 13 + 7) (by omega)
      have f8 := ho2.frozenAt (L.length * 13 + 8)
      have g8 := ho2.cellAt (L.length * 13 + 8) (by omega)
      have f9 := ho2.frozenAt (L.length * 13 + 9)
      have g9 := ho2.cellAt (L.length * 13 + 9) (by omega)
      have f10 := ho2.frozenAt (L.length * 13 + 10)
      have g10 := ho2.cellAt (L.length * 13 + 10) (by omega)
      have f11 := ho2.frozenAt (L.length * 13 + 11)
      have g11 := ho2.cellAt (L.length * 13 + 11) (by omega)
      have f12 := ho2.frozenAt (L.length * 13 + 12)
      have g12 := ho2.cellAt (L.length * 13 + 12) (by omega)
      have hlen : ((L ++ List.replicate (rs.length - L.length) nodeZ).flatMap nodeE).length = rs.length * 13 := by rw [flat_length nodeE 13 (fun _ => rfl)]; congr 1; simp; omega
      rw [List.getElem?_eq_getElem (by omega)] at g0 g1 g2 g3 g4 g5 g6 g7 g8 g9 g10 g11 g12
      generalize ((L ++ List.replicate (rs.length - L.length) nodeZ).flatMap nodeE)[L.length * 13 + 0]'(by omega) = v0 at g0
      generalize ((L ++ List.replicate (rs.length - L.length) nodeZ).flatMap nodeE)[L.length * 13 + 1]'(by omega) = v1 at g1
      generalize ((L ++ List.replicate (rs.length - L.length) nodeZ).flatMap nodeE)[L.length * 13 + 2]'(by omega) = v2 at g2
      generalize ((L ++ List.replicate (rs.length - L.length) nodeZ).flatMap nodeE)[L.length * 13 + 3]'(by omega) = v3 at g3
      generalize ((L ++ List.replicate (rs.length - L.length) nodeZ).flatMap nodeE)[L.length * 13 + 4]'(by omega) = v4 at g4
      generalize ((L ++ List.replicate (rs.length - L.length) nodeZ).flatMap nodeE)[L.length * 13 + 5]'(by omega) = v5 at g5
      generalize ((L ++ List.replicate (rs.length - L.length) nodeZ).flatMap nodeE)[L.length * 13 + 6]'(by omega) = v6 at g6
      generalize ((L ++ List.replicate (rs.length - L.length) nodeZ).flatMap nodeE)[L.length * 13 + 7]'(by omega) = v7 at g7
      generalize ((L ++ List.replicate (rs.length - L.length) nodeZ).flatMap nodeE)[L.length * 13 + 8]'(by omega) = v8 at g8
      generalize ((L ++ List.replicate (rs.length - L.length) nodeZ).flatMap nodeE)[L.length * 13 + 9]'(by omega) = v9 at g9
      generalize ((L ++ List.replicate (rs.length - L.length) nodeZ).flatMap nodeE)[L.length * 13 + 10]'(by omega) = v10 at g10
      generalize ((L ++ List.replicate (rs.length - L.length) nodeZ).flatMap nodeE)[L.length * 13 + 11]'(by omega) = v11 at g11
      generalize ((L ++ List.replicate (rs.length - L.length) nodeZ).flatMap nodeE)[L.length * 13 + 12]'(by omega) = v12 at g12
      simp only [Nat.add_zero] at f0 g0
      have HO2 := Lib.hid ho2
      clear ho2 hlen
      go_wp2_with fail
      go_roundw
      case rel =>
        subst ht
        have ho := HO2.out
        have hs := (((((((((((((ho.stored (L.length * 13) (.int .i64 (⟨r.N, al2, cl2, av2, cv2, an2, cn2, am2, cm2⟩ : NodeA).N.id)).1.stored (L.length * 13 + 1) (.int .i64 (⟨r.N, al2, cl2, av2, cv2, an2, cn2, am2, cm2⟩ : NodeA).N.nodes)).1.stored (L.length * 13 + 2) (.int .i64 (⟨r.N, al2, cl2, av2, cv2, an2, cn2, am2, cm2⟩ : NodeA).N.term)).1.stored (L.length * 13 + 3) (.int .i64 (⟨r.N, al2, cl2, av2, cv2, an2, cn2, am2, cm2⟩ : NodeA).N.vote)).1.stored (L.length * 13 + 4) (.int .i64 (⟨r.N, al2, cl2, av2, cv2, an2, cn2, am2, cm2⟩ : NodeA).N.role)).1.stored (L.length * 13 + 5) (.bool (⟨r.N, al2, cl2, av2, cv2, an2, cn2, am2, cm2⟩ : NodeA).N.up)).1.stored (L.length * 13 + 6) (.slice (⟨r.N, al2, cl2, av2, cv2, an2, cn2, am2, cm2⟩ : NodeA).al (⟨r.N, al2, cl2, av2, cv2, an2, cn2, am2, cm2⟩ : NodeA).N.log.length (⟨r.N, al2, cl2, av2, cv2, an2, cn2, am2, cm2⟩ : NodeA).cl)).1.stored (L.length * 13 + 7) (.int .i64 (⟨r.N, al2, cl2, av2, cv2, an2, cn2, am2, cm2⟩ : NodeA).N.commit)).1.stored (L.length * 13 + 8) (.int .i64 (⟨r.N, al2, cl2, av2, cv2, an2, cn2, am2, cm2⟩ : NodeA).N.elapsed)).1.stored (L.length * 13 + 9) (.int .i64 (⟨r.N, al2, cl2, av2, cv2, an2, cn2, am2, cm2⟩ : NodeA).N.wait)).1.stored (L.length * 13 + 10) (.slice (⟨r.N, al2, cl2, av2, cv2, an2, cn2, am2, cm2⟩ : NodeA).av (⟨r.N, al2, cl2, av2, cv2, an2, cn2, am2, cm2⟩ : NodeA).N.votes.length (⟨r.N, al2, cl2, av2, cv2, an2, cn2, am2, cm2⟩ : NodeA).cv)).1.stored (L.length * 13 + 11) (.slice (⟨r.N, al2, cl2, av2, cv2, an2, cn2, am2, cm2⟩ : NodeA).an (⟨r.N, al2, cl2, av2, cv2, an2, cn2, am2, cm2⟩ : NodeA).N.next.length (⟨r.N, al2, cl2, av2, cv2, an2, cn2, am2, cm2⟩ : NodeA).cn)).1.stored (L.length * 13 + 12) (.slice (⟨r.N, al2, cl2, av2, cv2, an2, cn2, am2, cm2⟩ : NodeA).am (⟨r.N, al2, cl2, av2, cv2, an2, cn2, am2, cm2⟩ : NodeA).N.mtch.length (⟨r.N, al2, cl2, av2, cv2, an2, cn2, am2, cm2⟩ : NodeA).cm)).1
        have hs2 := own_list (l' := ((L ++ [(⟨r.N, al2, cl2, av2, cv2, an2, cn2, am2, cm2⟩ : NodeA)]) ++ List.replicate (rs.length - (L ++ [(⟨r.N, al2, cl2, av2, cv2, an2, cn2, am2, cm2⟩ : NodeA)]).length) nodeZ).flatMap nodeE) hs (by
          rw [← app_set L rs.length nodeZ (⟨r.N, al2, cl2, av2, cv2, an2, cn2, am2, cm2⟩ : NodeA) hlt, ← flat_setR nodeE 13 (fun _ => rfl) _ L.length (by simp; omega) (⟨r.N, al2, cl2, av2, cv2, an2, cn2, am2, cm2⟩ : NodeA)]
          rfl)
        refine ⟨L ++ [(⟨r.N, al2, cl2, av2, cv2, an2, cn2, am2, cm2⟩ : NodeA)], (by (try simp) <;> (try omega)), (by simp), ?_, ?_, hs2, ?_, ?_⟩
        · rw [List.length_append, List.length_singleton, HTS.out, List.map_append, List.map_append, HL.out]; rfl
        · have H0 : Hid (NodeG (w.heap.size + 1) w2 (L ++ [(⟨r.N, al2, cl2, av2, cv2, an2, cn2, am2, cm2⟩ : NodeA)])) := Lib.hid (HF.out.snoc hb2.size (fun _ h => h.keep hb2) (by omega) HQ.out (fun h => h.low (by omega)))
          repeat (first | (with_reducible exact H0.out) | (with_reducible refine NodeG.setCell ?_ ?_ _; rotate_left; (show w.heap.size < _; omega)))
        · have h0 := hbel.trans (hb2.mono hbel.size)
          have H0 := Lib.hid h0
          clear h0
          repeat (first | (with_reducible exact H0.out) | (with_reducible refine Below.setCell ?_ ?_ _; rotate_left; (show w.heap.size ≤ _; exact Nat.le_refl _)))
        · simp; omega
      case measure => simp [intOf]; omega
    · have hkn : L.length = rs.length := by omega
      rw [hkn, Nat.sub_self, List.replicate_zero, List.append_nil] at ho
      have HO := Lib.hid ho
      have HL := Lib.hid hL
      clear ho hown2 hL
      go_wp2_with fail
      go_ret
      rw [← hkn]
      have hfz : ∀ o, wr.frozen? ⟨w.heap.size, o, none⟩ = false := fun o => HO.out.frozenAt o
      refine ⟨_, L, rfl, ?_, hF.rows (Sl.of_own (fun _ => rfl) (by rw [hkn]; exact HO.out)) (Nat.le_refl _) (Nat.lt_succ_self _) hsz hfz (fun _ h => h.low (by omega)), hF.sta, hbel⟩
      rw [HL.out, hkn, List.take_length]
set_option maxRecDepth 100000 in
set_option maxHeartbeats 4000000 in
theorem toMessageS2_c (a : Option Addr) (ca : Nat) (rs : List MsgA) (w : World) (ha : MsgS w a rs) (hs : ∀ r ∈ rs, MsgSz r.M 1048576) (la : rs.length ≤ 1048576) :
    Calls Try.prog 39 #[.slice a rs.length ca] w (MsgSR2 rs w) := by
  have HS := Lib.hid hs
  clear hs
  obtain ⟨i0, hi, hz0, hz1, hz2⟩ := info_parts Try.infoMessage
  go_enter Try.func39, Try.ntmps39
  go_wp2_with (at_make; refine wpList_make_full _ rfl _ _ 32 rfl w.heap.size 66 i0 (.agg #[.int .i64 0, .int .i64 0, .int .i64 0, .int .i64 0, .int .i64 0, .int .i64 0, .int .i64 0, .bool false, .slice none 0 0]) 9 Try.underlying32 hi hz0 hz1 .i64 .i64 _ _ rs.length rfl rfl rfl rfl ?c1 ?c2 ?c3 ?_)
  case c1 => rw [hz2]; omega
  case c2 => unfold maxLen; omega
  case c3 => exact Nat.le_refl _
  intro w1 hown hg
  have hm := madeCells_flat msgE 9 msgZ #[.int .i64 0, .int .i64 0, .int .i64 0, .int .i64 0, .int .i64 0, .int .i64 0, .int .i64 0, .bool false, .slice none 0 0] rfl (fun _ => rfl) rs.length
  have hown2 : w1.ownsRow w.heap.size 66 9 (.slice (some ⟨w.heap.size, 0, none⟩) rs.length rs.length) rs.length ((List.replicate rs.length msgZ).flatMap msgE) := by rw [← hm]; exact hown
  clear hm hown
  go_wp2_with fail
  go_loopw [4] (fun i wr => ∃ L : List MsgA, L.length ≤ rs.length ∧ i = .int .i64 L.length ∧ L.map (·.M) = (rs.take L.length).map (·.M) ∧ MsgG (w.heap.size + 1) wr L ∧ wr.ownsRow w.heap.size 66 9 (.slice (some ⟨w.heap.size, 0, none⟩) rs.length rs.length) rs.length ((L ++ List.replicate (rs.length - L.length) msgZ).flatMap msgE) ∧ Below w.heap.size w wr ∧ w.heap.size < wr.heap.size) (fun i _ => rs.length - (intOf i).toNat)
  case atStart => exact ⟨[], Nat.zero_le _, rfl, rfl, RowsG.nil, by simpa using hown2, (Below.refl _ _).grown hg (Nat.le_refl _) (by simp), own_lt hown2⟩
  case round =>
    obtain ⟨L, hk, rfl, hL, hF, ho, hbel, hsz⟩ := hrel
    by_cases hlt : L.length < rs.length
    · obtain ⟨b1, o1, rfl, hb1, hc1⟩ := (ha.1.keep hbel).at hlt
      have c0 := hc1 L.length hlt 0 (by omega)
      have c1 := hc1 L.length hlt 1 (by omega)
      have c2 := hc1 L.length hlt 2 (by omega)
      have c3 := hc1 L.length hlt 3 (by omega)
      have c4 := hc1 L.length hlt 4 (by omega)
      have c5 := hc1 L.length hlt 5 (by omega)
      have c6 := hc1 L.length hlt 6 (by omega)
      have c7 := hc1 L.length hlt 7 (by omega)
      have c8 := hc1 L.length hlt 8 (by omega)
      simp only [msgE, Nat.add_zero, List.getElem?_cons_zero, List.getElem?_cons_succ] at c0 c1 c2 c3 c4 c5 c6 c7 c8
      clear hc1
      have HTS := Lib.hid (List.take_succ_eq_append_getElem hlt)
      have hsz2 := HS.out rs[L.length] (List.getElem_mem _)
      have hok := (ha.2 rs[L.length] (List.getElem_mem _)).keep hbel
      generalize rs[L.length] = r at *
      have HO := Lib.hid ho
      have HL := Lib.hid hL
      clear ho hown2 hL
      have HF := Lib.hid hF
      clear hF
      go_wp2_with fail
      refine (toMessage_c r _ hok hsz2).mono ?_
      rintro e w2 ⟨ae, ce, rfl, hf2, hb2⟩
      obtain ⟨t, ht⟩ : ∃ t : MsgA, t = ⟨r.M, ae, ce⟩ := ⟨_, rfl⟩
      have HQ : Hid (RowNew messageOwn messageBlk (fun _ => True) wr.heap.size w2 t) := by
        subst ht
        exact ⟨hf2, blkOf_nodup _, fun b hb => FreshIn.blks hf2 b hb, trivial⟩
      have hrw : Hid (t.M = r.M ∧ t = ⟨r.M, ae, ce⟩) := by rw [ht]; exact ⟨rfl, rfl⟩
      have hz2' := hb2.size
      have ho2 := HO.out.kept (grownBy_of_below hb2) (.inr (by simp [Value.ownBlock]))
      have f0 := ho2.frozenAt (L.length * 9 + 0)
      have g0 := ho2.cellAt (L.length * 9 + 0) (by omega)
      have f1 := ho2.frozenAt (L.length * 9 + 1)
      have g1 := ho2.cellAt (L.length * 9 + 1) (by omega)
      have f2 := ho2.frozenAt (L.length * 9 + 2)
      have g2 := ho2.cellAt (L.length * 9 + 2) (by omega)
      have f3 := ho2.frozenAt (L.length * 9 + 3)
      have g3 := ho2.cellAt (L.length * 9 + 3) (by omega)
      have f4 := ho2.frozenAt (L.length * 9 + 4)
      have g4 := ho2.cellAt (L.length * 9 + 4) (by omega)
      have f5 := ho2.frozenAt (L.length * 9 + 5)
      have g5 := ho2.cellAt (L.length * 9 + 5) (by omega)
      have f6 := ho2.frozenAt (L.length * 9 + 6)
      have g6 := ho2.cellAt (L.length * 9 + 6) (by omega)
      have f7 := ho2.frozenAt (L.length * 9 + 7)
      have g7 := ho2.cellAt (L.length * 9 + 7) (by omega)
      have f8 := ho2.frozenAt (L.length * 9 + 8)
      have g8 := ho2.cellAt (L.length * 9 + 8) (by omega)
      have hlen : ((L ++ List.replicate (rs.length - L.length) msgZ).flatMap msgE).length = rs.length * 9 := by rw [flat_length msgE 9 (fun _ => rfl)]; congr 1; simp; omega
      rw [List.getElem?_eq_getElem (by omega)] at g0 g1 g2 g3 g4 g5 g6 g7 g8
      generalize ((L ++ List.replicate (rs.length - L.length) msgZ).flatMap msgE)[L.length * 9 + 0]'(by omega) = v0 at g0
      generalize ((L ++ List.replicate (rs.length - L.length) msgZ).flatMap msgE)[L.length * 9 + 1]'(by omega) = v1 at g1
      generalize ((L ++ List.replicate (rs.length - L.length) msgZ).flatMap msgE)[L.length * 9 + 2]'(by omega) = v2 at g2
      generalize ((L ++ List.replicate (rs.length - L.length) msgZ).flatMap msgE)[L.length * 9 + 3]'(by omega) = v3 at g3
      generalize ((L ++ List.replicate (rs.length - L.length) msgZ).flatMap msgE)[L.length * 9 + 4]'(by omega) = v4 at g4
      generalize ((L ++ List.replicate (rs.length - L.length) msgZ).flatMap msgE)[L.length * 9 + 5]'(by omega) = v5 at g5
      generalize ((L ++ List.replicate (rs.length - L.length) msgZ).flatMap msgE)[L.length * 9 + 6]'(by omega) = v6 at g6
      generalize ((L ++ List.replicate (rs.length - L.length) msgZ).flatMap msgE)[L.length * 9 + 7]'(by omega) = v7 at g7
      generalize ((L ++ List.replicate (rs.length - L.length) msgZ).flatMap msgE)[L.length * 9 + 8]'(by omega) = v8 at g8
      simp only [Nat.add_zero] at f0 g0
      have HO2 := Lib.hid ho2
      clear ho2 hlen
      go_wp2_with fail
      go_roundw
      case rel =>
        subst ht
        have ho := HO2.out
        have hs := (((((((((ho.stored (L.length * 9) (.int .i64 (⟨r.M, ae, ce⟩ : MsgA).M.kind)).1.stored (L.length * 9 + 1) (.int .i64 (⟨r.M, ae, ce⟩ : MsgA).M.src)).1.stored (L.length * 9 + 2) (.int .i64 (⟨r.M, ae, ce⟩ : MsgA).M.dst)).1.stored (L.length * 9 + 3) (.int .i64 (⟨r.M, ae, ce⟩ : MsgA).M.term)).1.stored (L.length * 9 + 4) (.int .i64 (⟨r.M, ae, ce⟩ : MsgA).M.index)).1.stored (L.length * 9 + 5) (.int .i64 (⟨r.M, ae, ce⟩ : MsgA).M.lterm)).1.stored (L.length * 9 + 6) (.int .i64 (⟨r.M, ae, ce⟩ : MsgA).M.commit)).1.stored (L.length * 9 + 7) (.bool (⟨r.M, ae, ce⟩ : MsgA).M.ok)).1.stored (L.length * 9 + 8) (.slice (⟨r.M, ae, ce⟩ : MsgA).ae (⟨r.M, ae, ce⟩ : MsgA).M.ents.length (⟨r.M, ae, ce⟩ : MsgA).ce)).1
        have hs2 := own_list (l' := ((L ++ [(⟨r.M, ae, ce⟩ : MsgA)]) ++ List.replicate (rs.length - (L ++ [(⟨r.M, ae, ce⟩ : MsgA)]).length) msgZ).flatMap msgE) hs (by
          rw [← app_set L rs.length msgZ (⟨r.M, ae, ce⟩ : MsgA) hlt, ← flat_setR msgE 9 (fun _ => rfl) _ L.length (by simp; omega) (⟨r.M, ae, ce⟩ : MsgA)]
          rfl)
        refine ⟨L ++ [(⟨r.M, ae, ce⟩ : MsgA)], (by (try simp) <;> (try omega)), (by simp), ?_, ?_, hs2, ?_, ?_⟩
        · rw [List.length_append, List.length_singleton, HTS.out, List.map_append, List.map_append, HL.out]; rfl
        · have H0 : Hid (MsgG (w.heap.size + 1) w2 (L ++ [(⟨r.M, ae, ce⟩ : MsgA)])) := Lib.hid (HF.out.snoc hb2.size (fun _ h => h.keep hb2) (by omega) HQ.out (fun h => h.low (by omega)))
          repeat (first | (with_reducible exact H0.out) | (with_reducible refine MsgG.setCell ?_ ?_ _; rotate_left; (show w.heap.size < _; omega)))
        · have h0 := hbel.trans (hb2.mono hbel.size)
          have H0 := Lib.hid h0
          clear h0
          repeat (first | (with_reducible exact H0.out) | (with_reducible refine Below.setCell ?_ ?_ _; rotate_left; (show w.heap.size ≤ _; exact Nat.le_refl _)))
        · simp; omega
      case measure => simp [intOf]; omega
    · have hkn : L.length = rs.length := by omega
      rw [hkn, Nat.sub_self, List.replicate_zero, List.append_nil] at ho
      have HO := Lib.hid ho
      have HL := Lib.hid hL
      clear ho hown2 hL
      go_wp2_with fail
      go_ret
      rw [← hkn]
      have hfz : ∀ o, wr.frozen? ⟨w.heap.size, o, none⟩ = false := fun o => HO.out.frozenAt o
      refine ⟨_, L, rfl, ?_, hF.rows (Sl.of_own (fun _ => rfl) (by rw [hkn]; exact HO.out)) (Nat.le_refl _) (Nat.lt_succ_self _) hsz hfz (fun _ h => h.low (by omega)), hbel⟩
      rw [HL.out, hkn, List.take_length]
set_option maxRecDepth 100000 in
set_option maxHeartbeats 4000000 in
theorem toStoreS2_c (a : Option Addr) (ca : Nat) (rs : List Sto) (w : World) (ha : StoS w a rs) (la : rs.length ≤ 1048576) :
    Calls Try.prog 38 #[.slice a rs.length ca] w fun e w' => ∃ b, e = .returned (.slice (some ⟨b, 0, none⟩) rs.length rs.length) ∧ RowsR stoE 2 storeOwn storeBlk w.heap.size w' b rs ∧ Below w.heap.size w w' := by
  obtain ⟨i0, hi, hz0, hz1, hz2⟩ := info_parts Try.infoStore
  go_enter Try.func38, Try.ntmps38
  go_wp2_with (at_make; refine wpList_make_full _ rfl _ _ 31 rfl w.heap.size 58 i0 (.agg #[.string ⟨#[]⟩, .int .i64 0]) 2 Try.underlying31 hi hz0 hz1 .i64 .i64 _ _ rs.length rfl rfl rfl rfl ?c1 ?c2 ?c3 ?_)
  case c1 => rw [hz2]; omega
  case c2 => unfold maxLen; omega
  case c3 => exact Nat.le_refl _
  intro w1 hown hg
  have hm := madeCells_flat stoE 2 ((⟨#[]⟩, 0) : Sto) #[.string ⟨#[]⟩, .int .i64 0] rfl (fun _ => rfl) rs.length
  have hown2 : w1.ownsRow w.heap.size 58 2 (.slice (some ⟨w.heap.size, 0, none⟩) rs.length rs.length) rs.length ((List.replicate rs.length ((⟨#[]⟩, 0) : Sto)).flatMap stoE) := by rw [← hm]; exact hown
  clear hm hown
  go_wp2_with fail
  go_loopw [4] (fun i wr => ∃ L : List Sto, L.length ≤ rs.length ∧ i = .int .i64 L.length ∧ L = rs.take L.length ∧ wr.ownsRow w.heap.size 58 2 (.slice (some ⟨w.heap.size, 0, none⟩) rs.length rs.length) rs.length ((L ++ List.replicate (rs.length - L.length) ((⟨#[]⟩, 0) : Sto)).flatMap stoE) ∧ Below w.heap.size w wr ∧ w.heap.size < wr.heap.size) (fun i _ => rs.length - (intOf i).toNat)
  case atStart => exact ⟨[], Nat.zero_le _, rfl, rfl, by simpa using hown2, (Below.refl _ _).grown hg (Nat.le_refl _) (by simp), own_lt hown2⟩
  case round =>
    obtain ⟨L, hk, rfl, hL, ho, hbel, hsz⟩ := hrel
    by_cases hlt : L.length < rs.length
    · obtain ⟨b1, o1, rfl, hb1, hc1⟩ := (ha.keep hbel).at hlt
      have c0 := hc1 L.length hlt 0 (by omega)
      have c1 := hc1 L.length hlt 1 (by omega)
      simp only [stoE, Nat.add_zero, List.getElem?_cons_zero, List.getElem?_cons_succ] at c0 c1
      clear hc1
      have HTS := Lib.hid (List.take_succ_eq_append_getElem hlt)
      generalize rs[L.length] = r at *
      have HO := Lib.hid ho
      have HL := Lib.hid hL
      clear ho hown2 hL
      go_wp2_with fail
      refine (toStore_c r.1 r.2 _).mono ?_
      rintro e w2 ⟨rfl, hb2⟩
      have hz2' := hb2.size
      have ho2 := HO.out.kept (grownBy_of_below hb2) (.inr (by simp [Value.ownBlock]))
      have f0 := ho2.frozenAt (L.length * 2 + 0)
      have g0 := ho2.cellAt (L.length * 2 + 0) (by omega)
      have f1 := ho2.frozenAt (L.length * 2 + 1)
      have g1 := ho2.cellAt (L.length * 2 + 1) (by omega)
      have hlen : ((L ++ List.replicate (rs.length - L.length) ((⟨#[]⟩, 0) : Sto)).flatMap stoE).length = rs.length * 2 := by rw [flat_length stoE 2 (fun _ => rfl)]; congr 1; simp; omega
      rw [List.getElem?_eq_getElem (by omega)] at g0 g1
      generalize ((L ++ List.replicate (rs.length - L.length) ((⟨#[]⟩, 0) : Sto)).flatMap stoE)[L.length * 2 + 0]'(by omega) = v0 at g0
      generalize ((L ++ List.replicate (rs.length - L.length) ((⟨#[]⟩, 0) : Sto)).flatMap stoE)[L.length * 2 + 1]'(by omega) = v1 at g1
      simp only [Nat.add_zero] at f0 g0
      have HO2 := Lib.hid ho2
      clear ho2 hlen
      go_wp2_with fail
      go_roundw
      case rel =>
        have ho := HO2.out
        have hs := ((ho.stored (L.length * 2) (.string r.1)).1.stored (L.length * 2 + 1) (.int .i64 r.2)).1
        have hs2 := own_list (l' := ((L ++ [r]) ++ List.replicate (rs.length - (L ++ [r]).length) ((⟨#[]⟩, 0) : Sto)).flatMap stoE) hs (by
          rw [← app_set L rs.length ((⟨#[]⟩, 0) : Sto) r hlt, ← flat_setR stoE 2 (fun _ => rfl) _ L.length (by simp; omega) r]
          rfl)
        refine ⟨L ++ [r], (by (try simp) <;> (try omega)), (by simp), ?_, hs2, ?_, ?_⟩
        · rw [List.length_append, List.length_singleton, HTS.out, ← HL.out]
        · have h0 := hbel.trans (hb2.mono hbel.size)
          have H0 := Lib.hid h0
          clear h0
          repeat (first | (with_reducible exact H0.out) | (with_reducible refine Below.setCell ?_ ?_ _; rotate_left; (show w.heap.size ≤ _; exact Nat.le_refl _)))
        · simp; omega
      case measure => simp [intOf]; omega
    · have hkn : L.length = rs.length := by omega
      rw [hkn, Nat.sub_self, List.replicate_zero, List.append_nil] at ho
      have HO := Lib.hid ho
      have HL := Lib.hid hL
      clear ho hown2 hL
      go_wp2_with fail
      go_ret
      have e1 : L = rs := by rw [HL.out, hkn, List.take_length]
      subst e1
      have hfz : ∀ o, wr.frozen? ⟨w.heap.size, o, none⟩ = false := fun o => HO.out.frozenAt o
      exact ⟨_, rfl, ⟨Nat.le_refl _, hsz, Sl.of_own (fun _ => rfl) HO.out, hfz, fun _ _ => trivial, ⟨fun i hi => ⟨by rw [List.getElem_map]; simp [storeBlk], by rw [List.getElem_map]; simp [storeBlk]⟩, fun i j hi hj _ b hb => by rw [List.getElem_map] at hb; simp [storeBlk] at hb⟩⟩, hbel⟩
end
section
open Go.RowKit
section
variable {R : Type} {enc : R → List Value} {sz : Nat} {ok : Nat → World → R → Prop} {blk : R → List Nat} {B : Nat} {w w' : World} {g : Nat} {rs : List R}
theorem RowsR.setC (h : RowsR enc sz ok blk B w g rs) {p : Addr} (hp : p.block < B) (u : Value) (hk : ∀ r, ok B w r → ok B (w.setCell p u) r) : RowsR enc sz ok blk B (w.setCell p u) g rs where
  low := h.low
  lt := by simpa [World.setCell] using h.lt
  sl := h.sl.setCell (fun b off e => by cases e; have := h.low; omega) u
  fz := fun o => (World.frozen?_setCell _ _ _ _).trans (h.fz o)
  ok := fun i hi => hk _ (h.ok i hi)
  sep := h.sep
theorem RowsR.lowB {B' : Nat} (h : RowsR enc sz ok blk B w g rs) (hB : B' ≤ B) (hk : ∀ r, ok B w r → ok B' w r) : RowsR enc sz ok blk B' w g rs := ⟨Nat.le_trans hB h.low, h.lt, h.sl, h.fz, fun i hi => hk _ (h.ok i hi), h.sep⟩
end
/-- Rows of their own, all in blocks from lo on and below hi. -/
structure Part {R : Type} (enc : R → List Value) (sz : Nat) (ok : Nat → World → R → Prop) (blk : R → List Nat) (lo hi : Nat) (w : World) (a : Option Addr) (rs : List R) : Prop where
  ex : ∃ g, a = some ⟨g, 0, none⟩ ∧ g < hi ∧ RowsR enc sz ok blk lo w g rs
  bd : ∀ r ∈ rs, ∀ b ∈ blk r, lo ≤ b ∧ b < hi
section
variable {R : Type} {enc : R → List Value} {sz : Nat} {ok : Nat → World → R → Prop} {blk : R → List Nat} {lo hi : Nat} {w w' : World} {a : Option Addr} {rs : List R}
theorem Part.keepK (h : Part enc sz ok blk lo hi w a rs) (hb : Below w.heap.size w w') (hk : ∀ r, ok lo w r → ok lo w' r) : Part enc sz ok blk lo hi w' a rs := by
  obtain ⟨⟨g, e, hg, hr⟩, hbd⟩ := h
  exact ⟨⟨g, e, hg, hr.below hb hk⟩, hbd⟩
theorem Part.setK (h : Part enc sz ok blk lo hi w a rs) {p : Addr} (hp : p.block < lo) (u : Value) (hk : ∀ r, ok lo w r → ok lo (w.setCell p u) r) : Part enc sz ok blk lo hi (w.setCell p u) a rs := by
  obtain ⟨⟨g, e, hg, hr⟩, hbd⟩ := h
  exact ⟨⟨g, e, hg, hr.setC hp u hk⟩, hbd⟩
/-- .. as it was, behind a call that changes only blocks elsewhere. -/
theorem Part.midK {l r : Nat} (h : Part enc sz ok blk lo hi w a rs) (hm : Mid l r w w') (hd : hi ≤ l ∨ r ≤ lo) (hk : ∀ x, ok lo w x → (∀ b ∈ blk x, lo ≤ b ∧ b < hi) → ok lo w' x) : Part enc sz ok blk lo hi w' a rs := by
  obtain ⟨⟨g, e, hg, hr⟩, hbd⟩ := h
  have hgl := hr.low
  have hgd : g < l ∨ r ≤ g := by omega
  refine ⟨⟨g, e, hg, ⟨hr.low, Nat.lt_of_lt_of_le hr.lt hm.size, ?_, fun o => (hm.frozen (p := ⟨g, o, none⟩) hr.lt hgd).trans (hr.fz o), fun i hi => hk _ (hr.ok i hi) (hbd _ (List.getElem_mem hi)), hr.sep⟩⟩, hbd⟩
  rcases hr.sl with h1 | ⟨b, off, e1, hlt, hc⟩
  · exact .inl h1
  · cases e1
    exact .inr ⟨g, 0, rfl, Nat.lt_of_lt_of_le hlt hm.size, fun i hi j hj => by rw [hm.cell (p := ⟨g, _, none⟩) hlt hgd]; exact hc i hi j hj⟩
end
abbrev NodeP := Part nodeE 13 nodeOwn nodeBlk
abbrev StoP := Part stoE 2 storeOwn storeBlk
abbrev MsgP := Part msgE 9 messageOwn messageBlk
section
variable {lo hi l r : Nat} {w w' : World} {a : Option Addr} {ns : List NodeA} {ss : List Sto} {ms : List MsgA}
theorem nodeOwn.bd {B : Nat} {r : NodeA} (h : nodeOwn B w r) : ∀ b ∈ nodeBlk r, B ≤ b ∧ b < w.heap.size := by
  intro b hb
  simp only [nodeBlk, List.mem_append] at hb
  rcases hb with ((hb | hb) | hb) | hb
  · exact h.1.blks b hb
  · exact h.2.1.blks b hb
  · exact h.2.2.1.blks b hb
  · exact h.2.2.2.blks b hb
theorem messageOwn.bd {B : Nat} {r : MsgA} (h : messageOwn B w r) : ∀ b ∈ messageBlk r, B ≤ b ∧ b < w.heap.size := fun b hb => FreshIn.blks h b hb
theorem FreshIn.midO {α : Type} {enc : α → List Value} {sz : Nat} {e : TypeId} {B n c : Nat} {ad : Option Addr} {xs : List α} (h : FreshIn enc e sz B w.heap.size (.slice ad n c) xs w) (hm : Mid l r w w') (hd : ∀ b ∈ blkOf ad, b < l ∨ r ≤ b) : FreshIn enc e sz B w'.heap.size (.slice ad n c) xs w' := by
  obtain ⟨⟨a', cap', hv, h1, h2, h3⟩, h4⟩ := h
  refine ⟨⟨a', cap', hv, h1, h2, ?_⟩, fun k hk => Nat.lt_of_lt_of_le (h4 k hk) hm.size⟩
  cases hv
  rcases h3 with h3 | ⟨b, cap, cur, hv, hg, hb, r'⟩
  · exact .inl h3
  · refine .inr ⟨b, cap, cur, hv, hg, ?_, r'⟩
    cases hv
    rw [hm.block b (Array.getElem?_eq_some_iff.1 hb).1 (hd b (by simp [blkOf]))]
    exact hb
theorem nodeOwn.mid {B : Nat} {x : NodeA} (h : nodeOwn B w x) (hm : Mid l r w w') (hd : ∀ b ∈ nodeBlk x, b < l ∨ r ≤ b) : nodeOwn B w' x :=
  ⟨h.1.midO hm (fun b hb => hd b (by simp [nodeBlk, hb])), h.2.1.midO hm (fun b hb => hd b (by simp [nodeBlk, hb])), h.2.2.1.midO hm (fun b hb => hd b (by simp [nodeBlk, hb])), h.2.2.2.midO hm (fun b hb => hd b (by simp [nodeBlk, hb]))⟩
theorem messageOwn.mid {B : Nat} {x : MsgA} (h : messageOwn B w x) (hm : Mid l r w w') (hd : ∀ b ∈ messageBlk x, b < l ∨ r ≤ b) : messageOwn B w' x := FreshIn.midO h hm hd
theorem NodeP.keep (h : NodeP lo hi w a ns) (hb : Below w.heap.size w w') : NodeP lo hi w' a ns := Part.keepK h hb (fun _ k => k.keep hb)
theorem StoP.keep (h : StoP lo hi w a ss) (hb : Below w.heap.size w w') : StoP lo hi w' a ss := Part.keepK h hb (fun _ _ => trivial)
theorem MsgP.keep (h : MsgP lo hi w a ms) (hb : Below w.heap.size w w') : MsgP lo hi w' a ms := Part.keepK h hb (fun _ k => k.keep hb)
theorem NodeP.setCell (h : NodeP lo hi w a ns) {p : Addr} (hp : p.block < lo) (u : Value) : NodeP lo hi (w.setCell p u) a ns := Part.setK h hp u (fun _ k => k.setCell hp u)
theorem StoP.setCell (h : StoP lo hi w a ss) {p : Addr} (hp : p.block < lo) (u : Value) : StoP lo hi (w.setCell p u) a ss := Part.setK h hp u (fun _ _ => trivial)
theorem MsgP.setCell (h : MsgP lo hi w a ms) {p : Addr} (hp : p.block < lo) (u : Value) : MsgP lo hi (w.setCell p u) a ms := Part.setK h hp u (fun _ k => k.setCell hp u)
theorem NodeP.mid (h : NodeP lo hi w a ns) (hm : Mid l r w w') (hd : hi ≤ l ∨ r ≤ lo) : NodeP lo hi w' a ns := Part.midK h hm hd (fun _ k kb => k.mid hm (fun b hb => by have := kb b hb; omega))
theorem StoP.mid (h : StoP lo hi w a ss) (hm : Mid l r w w') (hd : hi ≤ l ∨ r ≤ lo) : StoP lo hi w' a ss := Part.midK h hm hd (fun _ _ _ => trivial)
theorem MsgP.mid (h : MsgP lo hi w a ms) (hm : Mid l r w w') (hd : hi ≤ l ∨ r ≤ lo) : MsgP lo hi w' a ms := Part.midK h hm hd (fun _ k kb => k.mid hm (fun b hb => by have := kb b hb; omega))
theorem NodeP.of {B g : Nat} (h : RowsR nodeE 13 nodeOwn nodeBlk B w g ns) (hB : lo ≤ B) : NodeP lo w.heap.size w (some ⟨g, 0, none⟩) ns :=
  ⟨⟨g, rfl, h.lt, h.lowB hB (fun _ k => k.low hB)⟩, fun r hr b hb => by
    obtain ⟨i, hi, rfl⟩ := List.getElem_of_mem hr
    have := (h.ok i hi).bd b hb
    omega⟩
theorem NodeP.lowP {lo' : Nat} (h : NodeP lo' hi w a ns) (hl : lo ≤ lo') : NodeP lo hi w a ns := by
  obtain ⟨⟨g, e, hg, hr⟩, hbd⟩ := h
  exact ⟨⟨g, e, hg, hr.lowB hl (fun _ k => k.low hl)⟩, fun r hr b hb => by have := hbd r hr b hb; omega⟩
theorem StoP.of {B g : Nat} (h : RowsR stoE 2 storeOwn storeBlk B w g ss) (hB : lo ≤ B) : StoP lo w.heap.size w (some ⟨g, 0, none⟩) ss :=
  ⟨⟨g, rfl, h.lt, h.lowB hB (fun _ k => k)⟩, fun r _ b hb => by simp [storeBlk] at hb⟩
theorem MsgP.of {B g : Nat} (h : RowsR msgE 9 messageOwn messageBlk B w g ms) (hB : lo ≤ B) : MsgP lo w.heap.size w (some ⟨g, 0, none⟩) ms :=
  ⟨⟨g, rfl, h.lt, h.lowB hB (fun _ k => k.low hB)⟩, fun r hr b hb => by
    obtain ⟨i, hi, rfl⟩ := List.getElem_of_mem hr
    have := (h.ok i hi).bd b hb
    omega⟩
theorem NodeP.s (h : NodeP lo hi w a ns) (hc : ∀ r ∈ ns, r.N.log.length ≤ r.cl) : NodeS w a ns := by
  obtain ⟨⟨g, rfl, _, hr⟩, _⟩ := h
  refine ⟨hr.sl, fun r hm => ?_⟩
  obtain ⟨i, hi, rfl⟩ := List.getElem_of_mem hm
  have h1 := hr.ok i hi
  exact ⟨⟨h1.1.sl (fun _ => rfl), h1.2.1.sl (fun _ => rfl), h1.2.2.1.sl (fun _ => rfl), h1.2.2.2.sl (fun _ => rfl)⟩, hc _ hm⟩
theorem StoP.s (h : StoP lo hi w a ss) : Sl stoE 2 w a ss := by
  obtain ⟨⟨g, rfl, _, hr⟩, _⟩ := h
  exact hr.sl
theorem MsgP.s (h : MsgP lo hi w a ms) : MsgS w a ms := by
  obtain ⟨⟨g, rfl, _, hr⟩, _⟩ := h
  refine ⟨hr.sl, fun r hm => ?_⟩
  obtain ⟨i, hi, rfl⟩ := List.getElem_of_mem hm
  exact FreshIn.sl (fun _ => rfl) (hr.ok i hi)
end
/-- A cluster in memory of its own. -/
structure CluM (lo hi : Nat) (w : World) (D : CluA) : Prop where
  ex : ∃ m1 m2 m3, lo ≤ m1 ∧ m1 ≤ m2 ∧ m2 ≤ m3 ∧ m3 ≤ hi ∧ NodeP lo m1 w D.an D.nodes ∧ StoP m1 m2 w D.ast D.stores ∧ MsgP m2 m3 w D.aw D.wire ∧ FreshIn strE 9 1 m3 hi (.slice D.ad D.done.length D.cd) D.done w
  cap : ∀ r ∈ D.nodes, r.N.log.length ≤ r.cl
theorem CluM.below {lo hi : Nat} {w w' : World} {D : CluA} (h : CluM lo hi w D) (hb : Below w.heap.size w w') : CluM lo hi w' D := by
  obtain ⟨⟨m1, m2, m3, h1, h2, h3, h4, a, b, c, d⟩, hc⟩ := h
  exact ⟨⟨m1, m2, m3, h1, h2, h3, h4, NodeP.keep a hb, StoP.keep b hb, MsgP.keep c hb, d.below hb⟩, hc⟩
theorem CluM.mid {lo hi l r : Nat} {w w' : World} {D : CluA} (h : CluM lo hi w D) (hm : Mid l r w w') (hd : hi ≤ l ∨ r ≤ lo) : CluM lo hi w' D := by
  obtain ⟨⟨m1, m2, m3, h1, h2, h3, h4, a, b, c, d⟩, hc⟩ := h
  exact ⟨⟨m1, m2, m3, h1, h2, h3, h4, NodeP.mid a hm (by omega), StoP.mid b hm (by omega), MsgP.mid c hm (by omega), d.mid hm (by omega)⟩, hc⟩
theorem CluM.alloc {lo hi : Nat} {w : World} {D : CluA} (h : CluM lo hi w D) (o : Obj) : CluM lo hi (w.alloc o) D := h.below ((Below.refl _ _).alloc (Nat.le_refl _) _)
theorem CluM.drew {lo hi : Nat} {w : World} {D : CluA} (h : CluM lo hi w D) : CluM lo hi w.drew D := h.below ((Below.refl _ _).drew)
theorem CluM.ok {lo hi : Nat} {w : World} {D : CluA} (h : CluM lo hi w D) : CluOK w D := by
  obtain ⟨⟨m1, m2, m3, h1, h2, h3, h4, a, b, c, d⟩, hc⟩ := h
  exact ⟨NodeP.s a hc, StoP.s b, MsgP.s c, d.sl (fun _ => rfl)⟩
theorem CluM.dcap {lo hi : Nat} {w : World} {D : CluA} (h : CluM lo hi w D) : D.done.length ≤ D.cd := by
  obtain ⟨⟨m1, m2, m3, h1, h2, h3, h4, a, b, c, d⟩, hc⟩ := h
  exact fit_of_own d
def ToCluR3 (C : CluA) (w : World) (e : Ending) (w' : World) : Prop := ∃ D : CluA, e = .returned (.agg #[.slice D.an D.nodes.length D.cn, .slice D.ast D.stores.length D.cst, .slice D.aw D.wire.length D.cw, .slice D.ad D.done.length D.cd]) ∧ CluSame D C ∧ CluM w.heap.size w'.heap.size w' D ∧ Below w.heap.size w w'
set_option maxRecDepth 100000 in
set_option maxHeartbeats 4000000 in
theorem toCluster3_c (C : CluA) (w : World) (hC : CluOK w C) (hZ : CluSz C 1048576) :
    Calls Try.prog 10 #[.agg #[.slice C.an C.nodes.length C.cn, .slice C.ast C.stores.length C.cst, .slice C.aw C.wire.length C.cw, .slice C.ad C.done.length C.cd]] w (ToCluR3 C w) := by
  have HZ := Lib.hid hZ
  clear hZ
  go_enter Try.func10, Try.ntmps10
  go_wp2_with fail
  refine (toNodeS2_c C.an C.cn C.nodes _ (hC.keep ((((Below.refl _ _).alloc (Nat.le_refl _) _).alloc (by simp) _).alloc (by simp; try omega) _)).nodes HZ.out.nodes HZ.out.nl).mono ?_
  rintro e w1 ⟨g1, L1, rfl, he1, hf1, hc1, hb1⟩
  have hz1 := hb1.size
  simp at hz1
  have HB1 : Hid (Below w.heap.size w w1) := ((((Below.refl _ _).alloc (Nat.le_refl _) _).alloc (by simp) _).alloc (by simp; try omega) _).trans (hb1.mono (by simp; try omega))
  have s1_0 : w1.cell? ⟨w.heap.size, 0, none⟩ = some (.slice C.an C.nodes.length C.cn) := (hb1.cell (p := ⟨w.heap.size, 0, none⟩) (by show w.heap.size < _; simp; try omega)).trans (by simp [go_sem])
  have s1_1 : w1.cell? ⟨w.heap.size, 1, none⟩ = some (.slice C.ast C.stores.length C.cst) := (hb1.cell (p := ⟨w.heap.size, 1, none⟩) (by show w.heap.size < _; simp; try omega)).trans (by simp [go_sem])
  have s1_2 : w1.cell? ⟨w.heap.size, 2, none⟩ = some (.slice C.aw C.wire.length C.cw) := (hb1.cell (p := ⟨w.heap.size, 2, none⟩) (by show w.heap.size < _; simp; try omega)).trans (by simp [go_sem])
  have s1_3 : w1.cell? ⟨w.heap.size, 3, none⟩ = some (.slice C.ad C.done.length C.cd) := (hb1.cell (p := ⟨w.heap.size, 3, none⟩) (by show w.heap.size < _; simp; try omega)).trans (by simp [go_sem])
  have sf1 : ∀ o, w1.frozen? ⟨w.heap.size, o, none⟩ = false := fun o => (hb1.frozen (p := ⟨w.heap.size, o, none⟩) (by show w.heap.size < _; simp; try omega)).trans (by simp [go_sem])
  have z1_0 : w1.cell? ⟨w.heap.size + 1, 0, none⟩ = some (.slice none 0 0) := (hb1.cell (p := ⟨w.heap.size + 1, 0, none⟩) (by show w.heap.size + 1 < _; simp; try omega)).trans (by simp [go_sem])
  have z1_1 : w1.cell? ⟨w.heap.size + 1, 1, none⟩ = some (.slice none 0 0) := (hb1.cell (p := ⟨w.heap.size + 1, 1, none⟩) (by show w.heap.size + 1 < _; simp; try omega)).trans (by simp [go_sem])
  have z1_2 : w1.cell? ⟨w.heap.size + 1, 2, none⟩ = some (.slice none 0 0) := (hb1.cell (p := ⟨w.heap.size + 1, 2, none⟩) (by show w.heap.size + 1 < _; simp; try omega)).trans (by simp [go_sem])
  have z1_3 : w1.cell? ⟨w.heap.size + 1, 3, none⟩ = some (.slice none 0 0) := (hb1.cell (p := ⟨w.heap.size + 1, 3, none⟩) (by show w.heap.size + 1 < _; simp; try omega)).trans (by simp [go_sem])
  have zf1 : ∀ o, w1.frozen? ⟨w.heap.size + 1, o, none⟩ = false := fun o => (hb1.frozen (p := ⟨w.heap.size + 1, o, none⟩) (by show w.heap.size + 1 < _; simp; try omega)).trans (by simp [go_sem])
  have m1_0 : w1.cell? ⟨w.heap.size + 1 + 1, 0, none⟩ = some (.slice none 0 0) := (hb1.cell (p := ⟨w.heap.size + 1 + 1, 0, none⟩) (by show w.heap.size + 1 + 1 < _; simp; try omega)).trans (by simp [go_sem])
  have m1_1 : w1.cell? ⟨w.heap.size + 1 + 1, 1, none⟩ = some (.slice none 0 0) := (hb1.cell (p := ⟨w.heap.size + 1 + 1, 1, none⟩) (by show w.heap.size + 1 + 1 < _; simp; try omega)).trans (by simp [go_sem])
  have m1_2 : w1.cell? ⟨w.heap.size + 1 + 1, 2, none⟩ = some (.slice none 0 0) := (hb1.cell (p := ⟨w.heap.size + 1 + 1, 2, none⟩) (by show w.heap.size + 1 + 1 < _; simp; try omega)).trans (by simp [go_sem])
  have m1_3 : w1.cell? ⟨w.heap.size + 1 + 1, 3, none⟩ = some (.slice none 0 0) := (hb1.cell (p := ⟨w.heap.size + 1 + 1, 3, none⟩) (by show w.heap.size + 1 + 1 < _; simp; try omega)).trans (by simp [go_sem])
  have mf1 : ∀ o, w1.frozen? ⟨w.heap.size + 1 + 1, o, none⟩ = false := fun o => (hb1.frozen (p := ⟨w.heap.size + 1 + 1, o, none⟩) (by show w.heap.size + 1 + 1 < _; simp; try omega)).trans (by simp [go_sem])
  have hl1 : w.heap.size + 1 + 1 < w1.heap.size := by omega
  have hf1' := NodeP.of (lo := (w.heap.size + 3)) hf1 (by simp; try omega)
  have HF1_1 := Lib.hid hf1'
  clear hf1 hf1' hb1
  go_wp2_with fail
  refine (toStoreS2_c C.ast C.cst C.stores _ (hC.keep (HB1.out.setCell (p := ⟨w.heap.size + 1 + 1, 0, none⟩) (by show _ ≤ w.heap.size + 1 + 1; omega) _)).stores HZ.out.sl).mono ?_
  rintro e w2 ⟨g2, rfl, hf2, hb2⟩
  have hz2 := hb2.size
  simp at hz2
  have HB2 : Hid (Below w.heap.size w w2) := (HB1.out.setCell (p := ⟨w.heap.size + 1 + 1, 0, none⟩) (by show _ ≤ w.heap.size + 1 + 1; omega) _).trans (hb2.mono (by simp; try omega))
  have s2_0 : w2.cell? ⟨w.heap.size, 0, none⟩ = some (.slice C.an C.nodes.length C.cn) := (hb2.cell (p := ⟨w.heap.size, 0, none⟩) (by show w.heap.size < _; simp; try omega)).trans (by simp [go_sem, s1_0])
  have s2_1 : w2.cell? ⟨w.heap.size, 1, none⟩ = some (.slice C.ast C.stores.length C.cst) := (hb2.cell (p := ⟨w.heap.size, 1, none⟩) (by show w.heap.size < _; simp; try omega)).trans (by simp [go_sem, s1_1])
  have s2_2 : w2.cell? ⟨w.heap.size, 2, none⟩ = some (.slice C.aw C.wire.length C.cw) := (hb2.cell (p := ⟨w.heap.size, 2, none⟩) (by show w.heap.size < _; simp; try omega)).trans (by simp [go_sem, s1_2])
  have s2_3 : w2.cell? ⟨w.heap.size, 3, none⟩ = some (.slice C.ad C.done.length C.cd) := (hb2.cell (p := ⟨w.heap.size, 3, none⟩) (by show w.heap.size < _; simp; try omega)).trans (by simp [go_sem, s1_3])
  have sf2 : ∀ o, w2.frozen? ⟨w.heap.size, o, none⟩ = false := fun o => (hb2.frozen (p := ⟨w.heap.size, o, none⟩) (by show w.heap.size < _; simp; try omega)).trans (by simp [go_sem, sf1])
  have z2_0 : w2.cell? ⟨w.heap.size + 1, 0, none⟩ = some (.slice none 0 0) := (hb2.cell (p := ⟨w.heap.size + 1, 0, none⟩) (by show w.heap.size + 1 < _; simp; try omega)).trans (by simp [go_sem, z1_0])
  have z2_1 : w2.cell? ⟨w.heap.size + 1, 1, none⟩ = some (.slice none 0 0) := (hb2.cell (p := ⟨w.heap.size + 1, 1, none⟩) (by show w.heap.size + 1 < _; simp; try omega)).trans (by simp [go_sem, z1_1])
  have z2_2 : w2.cell? ⟨w.heap.size + 1, 2, none⟩ = some (.slice none 0 0) := (hb2.cell (p := ⟨w.heap.size + 1, 2, none⟩) (by show w.heap.size + 1 < _; simp; try omega)).trans (by simp [go_sem, z1_2])
  have z2_3 : w2.cell? ⟨w.heap.size + 1, 3, none⟩ = some (.slice none 0 0) := (hb2.cell (p := ⟨w.heap.size + 1, 3, none⟩) (by show w.heap.size + 1 < _; simp; try omega)).trans (by simp [go_sem, z1_3])
  have zf2 : ∀ o, w2.frozen? ⟨w.heap.size + 1, o, none⟩ = false := fun o => (hb2.frozen (p := ⟨w.heap.size + 1, o, none⟩) (by show w.heap.size + 1 < _; simp; try omega)).trans (by simp [go_sem, zf1])
  have m2_0 : w2.cell? ⟨w.heap.size + 1 + 1, 0, none⟩ = some (.slice (some ⟨g1, 0, none⟩) L1.length L1.length) := (hb2.cell (p := ⟨w.heap.size + 1 + 1, 0, none⟩) (by show w.heap.size + 1 + 1 < _; simp; try omega)).trans (by simp [go_sem, m1_0])
  have m2_1 : w2.cell? ⟨w.heap.size + 1 + 1, 1, none⟩ = some (.slice none 0 0) := (hb2.cell (p := ⟨w.heap.size + 1 + 1, 1, none⟩) (by show w.heap.size + 1 + 1 < _; simp; try omega)).trans (by simp [go_sem, m1_1])
  have m2_2 : w2.cell? ⟨w.heap.size + 1 + 1, 2, none⟩ = some (.slice none 0 0) := (hb2.cell (p := ⟨w.heap.size + 1 + 1, 2, none⟩) (by show w.heap.size + 1 + 1 < _; simp; try omega)).trans (by simp [go_sem, m1_2])
  have m2_3 : w2.cell? ⟨w.heap.size + 1 + 1, 3, none⟩ = some (.slice none 0 0) := (hb2.cell (p := ⟨w.heap.size + 1 + 1, 3, none⟩) (by show w.heap.size + 1 + 1 < _; simp; try omega)).trans (by simp [go_sem, m1_3])
  have mf2 : ∀ o, w2.frozen? ⟨w.heap.size + 1 + 1, o, none⟩ = false := fun o => (hb2.frozen (p := ⟨w.heap.size + 1 + 1, o, none⟩) (by show w.heap.size + 1 + 1 < _; simp; try omega)).trans (by simp [go_sem, mf1])
  have hl2 : w.heap.size + 1 + 1 < w2.heap.size := by omega
  clear s1_0 s1_1 s1_2 s1_3 z1_0 z1_1 z1_2 z1_3 m1_0 m1_1 m1_2 m1_3 sf1 zf1 mf1
  have hf2' := StoP.of (lo := w1.heap.size) hf2 (by simp; try omega)
  have HF1_2 := Lib.hid (NodeP.keep (NodeP.setCell HF1_1.out (p := ⟨w.heap.size + 1 + 1, 0, none⟩) (by show w.heap.size + 1 + 1 < _; omega) _) hb2)
  clear HF1_1
  have HF2_2 := Lib.hid hf2'
  clear hf2 hf2' hb2
  go_wp2_with fail
  refine (toMessageS2_c C.aw C.cw C.wire _ (hC.keep (HB2.out.setCell (p := ⟨w.heap.size + 1 + 1, 1, none⟩) (by show _ ≤ w.heap.size + 1 + 1; omega) _)).wire HZ.out.wire HZ.out.wl).mono ?_
  rintro e w3 ⟨g3, L3, rfl, he3, hf3, hb3⟩
  have hz3 := hb3.size
  simp at hz3
  have HB3 : Hid (Below w.heap.size w w3) := (HB2.out.setCell (p := ⟨w.heap.size + 1 + 1, 1, none⟩) (by show _ ≤ w.heap.size + 1 + 1; omega) _).trans (hb3.mono (by simp; try omega))
  have s3_0 : w3.cell? ⟨w.heap.size, 0, none⟩ = some (.slice C.an C.nodes.length C.cn) := (hb3.cell (p := ⟨w.heap.size, 0, none⟩) (by show w.heap.size < _; simp; try omega)).trans (by simp [go_sem, s2_0])
  have s3_1 : w3.cell? ⟨w.heap.size, 1, none⟩ = some (.slice C.ast C.stores.length C.cst) := (hb3.cell (p := ⟨w.heap.size, 1, none⟩) (by show w.heap.size < _; simp; try omega)).trans (by simp [go_sem, s2_1])
  have s3_2 : w3.cell? ⟨w.heap.size, 2, none⟩ = some (.slice C.aw C.wire.length C.cw) := (hb3.cell (p := ⟨w.heap.size, 2, none⟩) (by show w.heap.size < _; simp; try omega)).trans (by simp [go_sem, s2_2])
  have s3_3 : w3.cell? ⟨w.heap.size, 3, none⟩ = some (.slice C.ad C.done.length C.cd) := (hb3.cell (p := ⟨w.heap.size, 3, none⟩) (by show w.heap.size < _; simp; try omega)).trans (by simp [go_sem, s2_3])
  have sf3 : ∀ o, w3.frozen? ⟨w.heap.size, o, none⟩ = false := fun o => (hb3.frozen (p := ⟨w.heap.size, o, none⟩) (by show w.heap.size < _; simp; try omega)).trans (by simp [go_sem, sf2])
  have z3_0 : w3.cell? ⟨w.heap.size + 1, 0, none⟩ = some (.slice none 0 0) := (hb3.cell (p := ⟨w.heap.size + 1, 0, none⟩) (by show w.heap.size + 1 < _; simp; try omega)).trans (by simp [go_sem, z2_0])
  have z3_1 : w3.cell? ⟨w.heap.size + 1, 1, none⟩ = some (.slice none 0 0) := (hb3.cell (p := ⟨w.heap.size + 1, 1, none⟩) (by show w.heap.size + 1 < _; simp; try omega)).trans (by simp [go_sem, z2_1])
  have z3_2 : w3.cell? ⟨w.heap.size + 1, 2, none⟩ = some (.slice none 0 0) := (hb3.cell (p := ⟨w.heap.size + 1, 2, none⟩) (by show w.heap.size + 1 < _; simp; try omega)).trans (by simp [go_sem, z2_2])
  have z3_3 : w3.cell? ⟨w.heap.size + 1, 3, none⟩ = some (.slice none 0 0) := (hb3.cell (p := ⟨w.heap.size + 1, 3, none⟩) (by show w.heap.size + 1 < _; simp; try omega)).trans (by simp [go_sem, z2_3])
  have zf3 : ∀ o, w3.frozen? ⟨w.heap.size + 1, o, none⟩ = false := fun o => (hb3.frozen (p := ⟨w.heap.size + 1, o, none⟩) (by show w.heap.size + 1 < _; simp; try omega)).trans (by simp [go_sem, zf2])
  have m3_0 : w3.cell? ⟨w.heap.size + 1 + 1, 0, none⟩ = some (.slice (some ⟨g1, 0, none⟩) L1.length L1.length) := (hb3.cell (p := ⟨w.heap.size + 1 + 1, 0, none⟩) (by show w.heap.size + 1 + 1 < _; simp; try omega)).trans (by simp [go_sem, m2_0])
  have m3_1 : w3.cell? ⟨w.heap.size + 1 + 1, 1, none⟩ = some (.slice (some ⟨g2, 0, none⟩) C.stores.length C.stores.length) := (hb3.cell (p := ⟨w.heap.size + 1 + 1, 1, none⟩) (by show w.heap.size + 1 + 1 < _; simp; try omega)).trans (by simp [go_sem, m2_1])
  have m3_2 : w3.cell? ⟨w.heap.size + 1 + 1, 2, none⟩ = some (.slice none 0 0) := (hb3.cell (p := ⟨w.heap.size + 1 + 1, 2, none⟩) (by show w.heap.size + 1 + 1 < _; simp; try omega)).trans (by simp [go_sem, m2_2])
  have m3_3 : w3.cell? ⟨w.heap.size + 1 + 1, 3, none⟩ = some (.slice none 0 0) := (hb3.cell (p := ⟨w.heap.size + 1 + 1, 3, none⟩) (by show w.heap.size + 1 + 1 < _; simp; try omega)).trans (by simp [go_sem, m2_3])
  have mf3 : ∀ o, w3.frozen? ⟨w.heap.size + 1 + 1, o, none⟩ = false := fun o => (hb3.frozen (p := ⟨w.heap.size + 1 + 1, o, none⟩) (by show w.heap.size + 1 + 1 < _; simp; try omega)).trans (by simp [go_sem, mf2])
  have hl3 : w.heap.size + 1 + 1 < w3.heap.size := by omega
  clear s2_0 s2_1 s2_2 s2_3 z2_0 z2_1 z2_2 z2_3 m2_0 m2_1 m2_2 m2_3 sf2 zf2 mf2
  have hf3' := MsgP.of (lo := w2.heap.size) hf3 (by simp; try omega)
  have HF1_3 := Lib.hid (NodeP.keep (NodeP.setCell HF1_2.out (p := ⟨w.heap.size + 1 + 1, 1, none⟩) (by show w.heap.size + 1 + 1 < _; omega) _) hb3)
  clear HF1_2
  have HF2_3 := Lib.hid (StoP.keep (StoP.setCell HF2_2.out (p := ⟨w.heap.size + 1 + 1, 1, none⟩) (by show w.heap.size + 1 + 1 < _; omega) _) hb3)
  clear HF2_2
  have HF3_3 := Lib.hid hf3'
  clear hf3 hf3' hb3
  go_wp2_with fail
  refine (toStringS_c C.ad C.cd C.done _ (hC.keep (HB3.out.setCell (p := ⟨w.heap.size + 1 + 1, 2, none⟩) (by show _ ≤ w.heap.size + 1 + 1; omega) _)).done HZ.out.dl).mono ?_
  rintro e w4 ⟨v4, rfl, hf4, hb4⟩
  obtain ⟨a4, c4, rfl, hc4, ho4⟩ := hf4
  have hz4 := hb4.size
  simp at hz4
  have HB4 : Hid (Below w.heap.size w w4) := (HB3.out.setCell (p := ⟨w.heap.size + 1 + 1, 2, none⟩) (by show _ ≤ w.heap.size + 1 + 1; omega) _).trans (hb4.mono (by simp; try omega))
  have s4_0 : w4.cell? ⟨w.heap.size, 0, none⟩ = some (.slice C.an C.nodes.length C.cn) := (hb4.cell (p := ⟨w.heap.size, 0, none⟩) (by show w.heap.size < _; simp; try omega)).trans (by simp [go_sem, s3_0])
  have s4_1 : w4.cell? ⟨w.heap.size, 1, none⟩ = some (.slice C.ast C.stores.length C.cst) := (hb4.cell (p := ⟨w.heap.size, 1, none⟩) (by show w.heap.size < _; simp; try omega)).trans (by simp [go_sem, s3_1])
  have s4_2 : w4.cell? ⟨w.heap.size, 2, none⟩ = some (.slice C.aw C.wire.length C.cw) := (hb4.cell (p := ⟨w.heap.size, 2, none⟩) (by show w.heap.size < _; simp; try omega)).trans (by simp [go_sem, s3_2])
  have s4_3 : w4.cell? ⟨w.heap.size, 3, none⟩ = some (.slice C.ad C.done.length C.cd) := (hb4.cell (p := ⟨w.heap.size, 3, none⟩) (by show w.heap.size < _; simp; try omega)).trans (by simp [go_sem, s3_3])
  have sf4 : ∀ o, w4.frozen? ⟨w.heap.size, o, none⟩ = false := fun o => (hb4.frozen (p := ⟨w.heap.size, o, none⟩) (by show w.heap.size < _; simp; try omega)).trans (by simp [go_sem, sf3])
  have z4_0 : w4.cell? ⟨w.heap.size + 1, 0, none⟩ = some (.slice none 0 0) := (hb4.cell (p := ⟨w.heap.size + 1, 0, none⟩) (by show w.heap.size + 1 < _; simp; try omega)).trans (by simp [go_sem, z3_0])
  have z4_1 : w4.cell? ⟨w.heap.size + 1, 1, none⟩ = some (.slice none 0 0) := (hb4.cell (p := ⟨w.heap.size + 1, 1, none⟩) (by show w.heap.size + 1 < _; simp; try omega)).trans (by simp [go_sem, z3_1])
  have z4_2 : w4.cell? ⟨w.heap.size + 1, 2, none⟩ = some (.slice none 0 0) := (hb4.cell (p := ⟨w.heap.size + 1, 2, none⟩) (by show w.heap.size + 1 < _; simp; try omega)).trans (by simp [go_sem, z3_2])
  have z4_3 : w4.cell? ⟨w.heap.size + 1, 3, none⟩ = some (.slice none 0 0) := (hb4.cell (p := ⟨w.heap.size + 1, 3, none⟩) (by show w.heap.size + 1 < _; simp; try omega)).trans (by simp [go_sem, z3_3])
  have zf4 : ∀ o, w4.frozen? ⟨w.heap.size + 1, o, none⟩ = false := fun o => (hb4.frozen (p := ⟨w.heap.size + 1, o, none⟩) (by show w.heap.size + 1 < _; simp; try omega)).trans (by simp [go_sem, zf3])
  have m4_0 : w4.cell? ⟨w.heap.size + 1 + 1, 0, none⟩ = some (.slice (some ⟨g1, 0, none⟩) L1.length L1.length) := (hb4.cell (p := ⟨w.heap.size + 1 + 1, 0, none⟩) (by show w.heap.size + 1 + 1 < _; simp; try omega)).trans (by simp [go_sem, m3_0])
  have m4_1 : w4.cell? ⟨w.heap.size + 1 + 1, 1, none⟩ = some (.slice (some ⟨g2, 0, none⟩) C.stores.length C.stores.length) := (hb4.cell (p := ⟨w.heap.size + 1 + 1, 1, none⟩) (by show w.heap.size + 1 + 1 < _; simp; try omega)).trans (by simp [go_sem, m3_1])
  have m4_2 : w4.cell? ⟨w.heap.size + 1 + 1, 2, none⟩ = some (.slice (some ⟨g3, 0, none⟩) L3.length L3.length) := (hb4.cell (p := ⟨w.heap.size + 1 + 1, 2, none⟩) (by show w.heap.size + 1 + 1 < _; simp; try omega)).trans (by simp [go_sem, m3_2])
  have m4_3 : w4.cell? ⟨w.heap.size + 1 + 1, 3, none⟩ = some (.slice none 0 0) := (hb4.cell (p := ⟨w.heap.size + 1 + 1, 3, none⟩) (by show w.heap.size + 1 + 1 < _; simp; try omega)).trans (by simp [go_sem, m3_3])
  have mf4 : ∀ o, w4.frozen? ⟨w.heap.size + 1 + 1, o, none⟩ = false := fun o => (hb4.frozen (p := ⟨w.heap.size + 1 + 1, o, none⟩) (by show w.heap.size + 1 + 1 < _; simp; try omega)).trans (by simp [go_sem, mf3])
  have hl4 : w.heap.size + 1 + 1 < w4.heap.size := by omega
  clear s3_0 s3_1 s3_2 s3_3 z3_0 z3_1 z3_2 z3_3 m3_0 m3_1 m3_2 m3_3 sf3 zf3 mf3
  have hf4' : FreshIn strE 9 1 w3.heap.size w4.heap.size (.slice a4 C.done.length c4) C.done w4 := FreshIn.mono (Fresh.here ⟨_, _, rfl, hc4, ho4⟩) (by simp; try omega) (Nat.le_refl _)
  have HF1_4 := Lib.hid (NodeP.keep (NodeP.setCell HF1_3.out (p := ⟨w.heap.size + 1 + 1, 2, none⟩) (by show w.heap.size + 1 + 1 < _; omega) _) hb4)
  clear HF1_3
  have HF2_4 := Lib.hid (StoP.keep (StoP.setCell HF2_3.out (p := ⟨w.heap.size + 1 + 1, 2, none⟩) (by show w.heap.size + 1 + 1 < _; omega) _) hb4)
  clear HF2_3
  have HF3_4 := Lib.hid (MsgP.keep (MsgP.setCell HF3_3.out (p := ⟨w.heap.size + 1 + 1, 2, none⟩) (by show w.heap.size + 1 + 1 < _; omega) _) hb4)
  clear HF3_3
  have HF4_4 := Lib.hid hf4'
  clear ho4 hf4' hb4
  have HC1 := Lib.hid hc1
  clear hc1
  go_wp2_with fail
  refine bodyPost_ret (v := .agg #[.slice (some ⟨g1, 0, none⟩) L1.length L1.length, .slice (some ⟨g2, 0, none⟩) C.stores.length C.stores.length, .slice (some ⟨g3, 0, none⟩) L3.length L3.length, .slice a4 C.done.length c4]) (by simp [results, Try.results10, go_sem, z4_0, z4_1, z4_2, z4_3, zf4]) rfl ?_
  refine ⟨⟨L1, _, _, C.stores, _, _, L3, _, _, C.done, _, _⟩, rfl, ⟨he1, rfl, he3, rfl⟩, ⟨⟨w1.heap.size, w2.heap.size, w3.heap.size, by omega, by omega, by omega, ?_, ?_, ?_, ?_, ?_⟩, HC1.out⟩, ?_⟩
  · simp; omega
  · show NodeP w.heap.size w1.heap.size _ _ _
    refine NodeP.lowP (lo' := w.heap.size + 3) ?_ (by omega)
    repeat (first | (with_reducible exact HF1_4.out) | (with_reducible refine NodeP.setCell ?_ ?_ _; rotate_left; (show _ < _; (try simp) <;> (try omega))))
  · show StoP w1.heap.size w2.heap.size _ _ _
    repeat (first | (with_reducible exact HF2_4.out) | (with_reducible refine StoP.setCell ?_ ?_ _; rotate_left; (show _ < _; (try simp) <;> (try omega))))
  · show MsgP w2.heap.size w3.heap.size _ _ _
    repeat (first | (with_reducible exact HF3_4.out) | (with_reducible refine MsgP.setCell ?_ ?_ _; rotate_left; (show _ < _; (try simp) <;> (try omega))))
  · show FreshIn strE 9 1 w3.heap.size _ _ _ _
    repeat (first | (with_reducible exact HF4_4.out) | (with_reducible refine FreshIn.setCell ?_ ?_ _; rotate_left; (show _ < _; (try simp) <;> (try omega))) | (refine FreshIn.mono (lo := w3.heap.size) (hi := w4.heap.size) ?_ (Nat.le_refl _) (by simp)))
  · repeat (first | (with_reducible exact HB4.out) | (with_reducible refine Below.setCell ?_ ?_ _; rotate_left; (show w.heap.size ≤ _; (try simp) <;> (try omega))))
end
section
open Go.RowKit
def nodesMk (rs : List NodeA) (K : Nat) : List NodeA := (List.range rs.length).map (nodeF rs K)
def storesMk (rs : List Sto) (K : Nat) : List Sto := (List.range rs.length).map (storeF rs K)
def wireMk (rs : List MsgA) (K : Nat) : List MsgA := (List.range rs.length).map (messageF rs K)
def cluK1 (D : CluA) (K : Nat) : Nat := nodeNum K D.nodes
def cluK2 (D : CluA) (K : Nat) : Nat := storeNum (cluK1 D K) D.stores
def cluK3 (D : CluA) (K : Nat) : Nat := messageNum (cluK2 D K) D.wire
def cluNum (D : CluA) (K : Nat) : Nat := cluK3 D K + D.done.length
theorem markNodeP_c (lo hi ca K : Nat) (a : Option Addr) (rs : List NodeA) (w : World) (h : NodeP lo hi w a rs) (hK : nodeNum K rs ≤ 17592186044416) :
    Calls Try.prog 50 #[.slice a rs.length ca, .int .i64 K] w fun e w' => e = .returned (.int .i64 ((nodeNum K rs : Nat))) ∧ NodeP lo hi w' a (nodesMk rs K) ∧ Mid lo hi w w' := by
  obtain ⟨⟨g, rfl, hg, hr⟩, hbd⟩ := h
  refine (markNodeS_c g ca lo rs K w hr hK).mono ?_
  rintro e w' ⟨rfl, h1, h2⟩
  have hS : ∀ k, allBlk nodeBlk rs k → lo ≤ k ∧ k < hi := fun k ⟨r, hm, hk⟩ => hbd r hm k hk
  refine ⟨rfl, ⟨⟨g, rfl, hg, h1⟩, fun r hm b hb => ?_⟩, h2.toMid hr.low hg hS⟩
  obtain ⟨i, hi, rfl⟩ := List.getElem_of_mem hm
  have hi' : i < rs.length := by simpa [nodesMk] using hi
  have he : (nodesMk rs K)[i] = nodeMk rs[i] (nodeNum K (rs.take i)) := by simpa [nodesMk] using nodeF_at rs K i hi'
  rw [he] at hb
  exact hbd rs[i] (List.getElem_mem hi') b hb
theorem heldNodeP_c (lo hi ca K : Nat) (a : Option Addr) (rs : List NodeA) (w : World) (h : NodeP lo hi w a (nodesMk rs K)) (hK : nodeNum K rs ≤ 17592186044416) :
    Calls Try.prog 57 #[.slice a rs.length ca, .int .i64 K] w fun e w' => e = .returned (.int .i64 ((nodeNum K rs : Nat))) ∧ Below w.heap.size w w' := by
  obtain ⟨⟨g, rfl, hg, hr⟩, hbd⟩ := h
  exact heldNodeS_c g ca lo rs K w hr hK
theorem markStoP_c (lo hi ca K : Nat) (a : Option Addr) (rs : List Sto) (w : World) (h : StoP lo hi w a rs) (hK : storeNum K rs ≤ 17592186044416) :
    Calls Try.prog 51 #[.slice a rs.length ca, .int .i64 K] w fun e w' => e = .returned (.int .i64 ((storeNum K rs : Nat))) ∧ StoP lo hi w' a (storesMk rs K) ∧ Mid lo hi w w' := by
  obtain ⟨⟨g, rfl, hg, hr⟩, hbd⟩ := h
  refine (markStoreS_c g ca lo rs K w hr hK).mono ?_
  rintro e w' ⟨rfl, h1, h2⟩
  have hS : ∀ k, allBlk storeBlk rs k → lo ≤ k ∧ k < hi := fun k ⟨r, hm, hk⟩ => hbd r hm k hk
  refine ⟨rfl, ⟨⟨g, rfl, hg, h1⟩, fun r hm b hb => ?_⟩, h2.toMid hr.low hg hS⟩
  obtain ⟨i, hi, rfl⟩ := List.getElem_of_mem hm
  have hi' : i < rs.length := by simpa [storesMk] using hi
  have he : (storesMk rs K)[i] = storeMk rs[i] (storeNum K (rs.take i)) := by simpa [storesMk] using storeF_at rs K i hi'
  rw [he] at hb
  exact hbd rs[i] (List.getElem_mem hi') b hb
theorem heldStoP_c (lo hi ca K : Nat) (a : Option Addr) (rs : List Sto) (w : World) (h : StoP lo hi w a (storesMk rs K)) (hK : storeNum K rs ≤ 17592186044416) :
    Calls Try.prog 58 #[.slice a rs.length ca, .int .i64 K] w fun e w' => e = .returned (.int .i64 ((storeNum K rs : Nat))) ∧ Below w.heap.size w w' := by
  obtain ⟨⟨g, rfl, hg, hr⟩, hbd⟩ := h
  exact heldStoreS_c g ca lo rs K w hr hK
theorem markMsgP_c (lo hi ca K : Nat) (a : Option Addr) (rs : List MsgA) (w : World) (h : MsgP lo hi w a rs) (hK : messageNum K rs ≤ 17592186044416) :
    Calls Try.prog 52 #[.slice a rs.length ca, .int .i64 K] w fun e w' => e = .returned (.int .i64 ((messageNum K rs : Nat))) ∧ MsgP lo hi w' a (wireMk rs K) ∧ Mid lo hi w w' := by
  obtain ⟨⟨g, rfl, hg, hr⟩, hbd⟩ := h
  refine (markMessageS_c g ca lo rs K w hr hK).mono ?_
  rintro e w' ⟨rfl, h1, h2⟩
  have hS : ∀ k, allBlk messageBlk rs k → lo ≤ k ∧ k < hi := fun k ⟨r, hm, hk⟩ => hbd r hm k hk
  refine ⟨rfl, ⟨⟨g, rfl, hg, h1⟩, fun r hm b hb => ?_⟩, h2.toMid hr.low hg hS⟩
  obtain ⟨i, hi, rfl⟩ := List.getElem_of_mem hm
  have hi' : i < rs.length := by simpa [wireMk] using hi
  have he : (wireMk rs K)[i] = messageMk rs[i] (messageNum K (rs.take i)) := by simpa [wireMk] using messageF_at rs K i hi'
  rw [he] at hb
  exact hbd rs[i] (List.getElem_mem hi') b hb
theorem heldMsgP_c (lo hi ca K : Nat) (a : Option Addr) (rs : List MsgA) (w : World) (h : MsgP lo hi w a (wireMk rs K)) (hK : messageNum K rs ≤ 17592186044416) :
    Calls Try.prog 59 #[.slice a rs.length ca, .int .i64 K] w fun e w' => e = .returned (.int .i64 ((messageNum K rs : Nat))) ∧ Below w.heap.size w w' := by
  obtain ⟨⟨g, rfl, hg, hr⟩, hbd⟩ := h
  exact heldMessageS_c g ca lo rs K w hr hK
theorem FreshIn.slmB {lo hi n K ca : Nat} {a : Option Addr} {e : TypeId} {w : World} (h : FreshIn strE e 1 lo hi (.slice a n ca) (marks K n) w) : Sl strE 1 w a (marks K n) := by
  have h' : FreshIn strE e 1 lo hi (.slice a (marks K n).length ca) (marks K n) w := by simpa [marks_length] using h
  exact h'.sl (fun _ => rfl)
/-- The marks from K on lie in the cluster. -/
structure CluH (lo hi K : Nat) (w : World) (D : CluA) : Prop where
  ex : ∃ m1 m2 m3, lo ≤ m1 ∧ m1 ≤ m2 ∧ m2 ≤ m3 ∧ m3 ≤ hi ∧ NodeP lo m1 w D.an (nodesMk D.nodes K) ∧ StoP m1 m2 w D.ast (storesMk D.stores (cluK1 D K)) ∧ MsgP m2 m3 w D.aw (wireMk D.wire (cluK2 D K)) ∧ FreshIn strE 9 1 m3 hi (.slice D.ad D.done.length D.cd) (marks (cluK3 D K) D.done.length) w
theorem CluH.below {lo hi K : Nat} {w w' : World} {D : CluA} (h : CluH lo hi K w D) (hb : Below w.heap.size w w') : CluH lo hi K w' D := by
  obtain ⟨m1, m2, m3, h1, h2, h3, h4, a, b, c, d⟩ := h
  exact ⟨m1, m2, m3, h1, h2, h3, h4, NodeP.keep a hb, StoP.keep b hb, MsgP.keep c hb, d.below hb⟩
theorem CluH.mid {lo hi K l r : Nat} {w w' : World} {D : CluA} (h : CluH lo hi K w D) (hm : Mid l r w w') (hd : hi ≤ l ∨ r ≤ lo) : CluH lo hi K w' D := by
  obtain ⟨m1, m2, m3, h1, h2, h3, h4, a, b, c, d⟩ := h
  exact ⟨m1, m2, m3, h1, h2, h3, h4, NodeP.mid a hm (by omega), StoP.mid b hm (by omega), MsgP.mid c hm (by omega), d.mid hm (by omega)⟩
theorem CluH.alloc {lo hi K : Nat} {w : World} {D : CluA} (h : CluH lo hi K w D) (o : Obj) : CluH lo hi K (w.alloc o) D := h.below ((Below.refl _ _).alloc (Nat.le_refl _) _)
theorem CluH.drew {lo hi K : Nat} {w : World} {D : CluA} (h : CluH lo hi K w D) : CluH lo hi K w.drew D := h.below ((Below.refl _ _).drew)
set_option maxRecDepth 100000 in
set_option maxHeartbeats 4000000 in
theorem markCluster_c (D : CluA) (K lo hi : Nat) (w : World) (h : CluM lo hi w D) (hhi : hi ≤ w.heap.size) (hK : cluNum D K ≤ 17592186044416) :
    Calls Try.prog 20 #[.agg #[.slice D.an D.nodes.length D.cn, .slice D.ast D.stores.length D.cst, .slice D.aw D.wire.length D.cw, .slice D.ad D.done.length D.cd], .int .i64 K] w fun e w' => e = .returned (.int .i64 ((cluNum D K : Nat))) ∧ CluH lo hi K w' D ∧ Mid lo hi w w' := by
  obtain ⟨⟨m1, m2, m3, h1, h2, h3, h4, a, b, c, d⟩, hcap⟩ := h
  have HK := Lib.hid hK
  have hk3 : cluK3 D K ≤ 17592186044416 := by unfold cluNum at hK; omega
  have hk2 : cluK2 D K ≤ 17592186044416 := Nat.le_trans (messageNum_mono _ _) hk3
  have hk1 : cluK1 D K ≤ 17592186044416 := Nat.le_trans (storeNum_mono _ _) hk2
  have HK1 : Hid (nodeNum K D.nodes ≤ 17592186044416) := hk1
  have HK2 : Hid (storeNum (cluK1 D K) D.stores ≤ 17592186044416) := hk2
  have HK3 : Hid (messageNum (cluK2 D K) D.wire ≤ 17592186044416) := hk3
  have a0 := NodeP.keep a ((Below.refl _ _).alloc (Nat.le_refl _) (.cells #[.slice D.an D.nodes.length D.cn, .slice D.ast D.stores.length D.cst, .slice D.aw D.wire.length D.cw, .slice D.ad D.done.length D.cd] 34))
  have b0 := StoP.keep b ((Below.refl _ _).alloc (Nat.le_refl _) (.cells #[.slice D.an D.nodes.length D.cn, .slice D.ast D.stores.length D.cst, .slice D.aw D.wire.length D.cw, .slice D.ad D.done.length D.cd] 34))
  have c0 := MsgP.keep c ((Below.refl _ _).alloc (Nat.le_refl _) (.cells #[.slice D.an D.nodes.length D.cn, .slice D.ast D.stores.length D.cst, .slice D.aw D.wire.length D.cw, .slice D.ad D.done.length D.cd] 34))
  have d0 := d.alloc (.cells #[.slice D.an D.nodes.length D.cn, .slice D.ast D.stores.length D.cst, .slice D.aw D.wire.length D.cw, .slice D.ad D.done.length D.cd] 34)
  clear a b c d hK hcap hk1 hk2 hk3
  go_enter Try.func20, Try.ntmps20
  go_wp2_with fail
  refine (markNodeP_c lo m1 D.cn K D.an D.nodes _ a0 HK1.out).mono ?_
  rintro e w1 ⟨rfl, a1, n1⟩
  have z1 := n1.size
  simp only [World.size_alloc] at z1
  have b1 := StoP.mid b0 n1 (.inr (Nat.le_refl _))
  have c1 := MsgP.mid c0 n1 (.inr h2)
  have d1 := d0.mid n1 (.inr (by omega))
  have M1 : Hid (Mid lo hi w w1) := Lib.hid ((Mid.of_below lo hi ((Below.refl _ _).alloc (Nat.le_refl _) _)).trans (n1.mono (Nat.le_refl _) (by omega)))
  have q1_0 : w1.cell? ⟨w.heap.size, 0, none⟩ = some (.slice D.an D.nodes.length D.cn) := (n1.cell (p := ⟨w.heap.size, 0, none⟩) (by show w.heap.size < _; simp) (.inr (by show m1 ≤ w.heap.size; omega))).trans (by simp [go_sem])
  have q1_1 : w1.cell? ⟨w.heap.size, 1, none⟩ = some (.slice D.ast D.stores.length D.cst) := (n1.cell (p := ⟨w.heap.size, 1, none⟩) (by show w.heap.size < _; simp) (.inr (by show m1 ≤ w.heap.size; omega))).trans (by simp [go_sem])
  have q1_2 : w1.cell? ⟨w.heap.size, 2, none⟩ = some (.slice D.aw D.wire.length D.cw) := (n1.cell (p := ⟨w.heap.size, 2, none⟩) (by show w.heap.size < _; simp) (.inr (by show m1 ≤ w.heap.size; omega))).trans (by simp [go_sem])
  have q1_3 : w1.cell? ⟨w.heap.size, 3, none⟩ = some (.slice D.ad D.done.length D.cd) := (n1.cell (p := ⟨w.heap.size, 3, none⟩) (by show w.heap.size < _; simp) (.inr (by show m1 ≤ w.heap.size; omega))).trans (by simp [go_sem])
  have hw1 : w.heap.size < w1.heap.size := by omega
  clear n1
  have e2 : (nodeNum K D.nodes) = cluK1 D K := rfl
  rw [e2]
  go_wp2_with fail
  refine (markStoP_c m1 m2 D.cst (cluK1 D K) D.ast D.stores _ b1 HK2.out).mono ?_
  rintro e w2 ⟨rfl, b2, n2⟩
  have z2 := n2.size
  have a2 := NodeP.mid a1 n2 (.inl (Nat.le_refl _))
  have c2 := MsgP.mid c1 n2 (.inr (Nat.le_refl _))
  have d2 := d1.mid n2 (.inr (by omega))
  have M2 : Hid (Mid lo hi w w2) := Lib.hid (M1.out.trans (n2.mono (by omega) (by omega)))
  have q2_0 : w2.cell? ⟨w.heap.size, 0, none⟩ = some (.slice D.an D.nodes.length D.cn) := (n2.cell (p := ⟨w.heap.size, 0, none⟩) (by show w.heap.size < _; omega) (.inr (by show m2 ≤ w.heap.size; omega))).trans q1_0
  have q2_1 : w2.cell? ⟨w.heap.size, 1, none⟩ = some (.slice D.ast D.stores.length D.cst) := (n2.cell (p := ⟨w.heap.size, 1, none⟩) (by show w.heap.size < _; omega) (.inr (by show m2 ≤ w.heap.size; omega))).trans q1_1
  have q2_2 : w2.cell? ⟨w.heap.size, 2, none⟩ = some (.slice D.aw D.wire.length D.cw) := (n2.cell (p := ⟨w.heap.size, 2, none⟩) (by show w.heap.size < _; omega) (.inr (by show m2 ≤ w.heap.size; omega))).trans q1_2
  have q2_3 : w2.cell? ⟨w.heap.size, 3, none⟩ = some (.slice D.ad D.done.length D.cd) := (n2.cell (p := ⟨w.heap.size, 3, none⟩) (by show w.heap.size < _; omega) (.inr (by show m2 ≤ w.heap.size; omega))).trans q1_3
  clear q1_0 q1_1 q1_2 q1_3
  clear n2
  have e3 : (storeNum (cluK1 D K) D.stores) = cluK2 D K := rfl
  rw [e3]
  go_wp2_with fail
  refine (markMsgP_c m2 m3 D.cw (cluK2 D K) D.aw D.wire _ c2 HK3.out).mono ?_
  rintro e w3 ⟨rfl, c3, n3⟩
  have z3 := n3.size
  have a3 := NodeP.mid a2 n3 (.inl (by omega))
  have b3 := StoP.mid b2 n3 (.inl (Nat.le_refl _))
  have d3 := d2.mid n3 (.inr (Nat.le_refl _))
  have M3 : Hid (Mid lo hi w w3) := Lib.hid (M2.out.trans (n3.mono (by omega) (by omega)))
  have q3_0 : w3.cell? ⟨w.heap.size, 0, none⟩ = some (.slice D.an D.nodes.length D.cn) := (n3.cell (p := ⟨w.heap.size, 0, none⟩) (by show w.heap.size < _; omega) (.inr (by show m3 ≤ w.heap.size; omega))).trans q2_0
  have q3_1 : w3.cell? ⟨w.heap.size, 1, none⟩ = some (.slice D.ast D.stores.length D.cst) := (n3.cell (p := ⟨w.heap.size, 1, none⟩) (by show w.heap.size < _; omega) (.inr (by show m3 ≤ w.heap.size; omega))).trans q2_1
  have q3_2 : w3.cell? ⟨w.heap.size, 2, none⟩ = some (.slice D.aw D.wire.length D.cw) := (n3.cell (p := ⟨w.heap.size, 2, none⟩) (by show w.heap.size < _; omega) (.inr (by show m3 ≤ w.heap.size; omega))).trans q2_2
  have q3_3 : w3.cell? ⟨w.heap.size, 3, none⟩ = some (.slice D.ad D.done.length D.cd) := (n3.cell (p := ⟨w.heap.size, 3, none⟩) (by show w.heap.size < _; omega) (.inr (by show m3 ≤ w.heap.size; omega))).trans q2_3
  clear q2_0 q2_1 q2_2 q2_3
  clear n3
  have e4 : (messageNum (cluK2 D K) D.wire) = cluK3 D K := rfl
  rw [e4]
  go_wp2_with fail
  refine (markStringSB_c D.ad D.cd D.done (cluK3 D K) m3 hi _ d3 (by omega) HK.out).mono ?_
  rintro e w4 ⟨rfl, d4, n4⟩
  have z4 := n4.size
  have a4 := NodeP.mid a3 n4 (.inl (by omega))
  have b4 := StoP.mid b3 n4 (.inl (by omega))
  have c4 := MsgP.mid c3 n4 (.inl (Nat.le_refl _))
  have M4 : Hid (Mid lo hi w w4) := Lib.hid (M3.out.trans (n4.mono (by omega) (by omega)))
  have q4_0 : w4.cell? ⟨w.heap.size, 0, none⟩ = some (.slice D.an D.nodes.length D.cn) := (n4.cell (p := ⟨w.heap.size, 0, none⟩) (by show w.heap.size < _; omega) (.inr (by show hi ≤ w.heap.size; omega))).trans q3_0
  have q4_1 : w4.cell? ⟨w.heap.size, 1, none⟩ = some (.slice D.ast D.stores.length D.cst) := (n4.cell (p := ⟨w.heap.size, 1, none⟩) (by show w.heap.size < _; omega) (.inr (by show hi ≤ w.heap.size; omega))).trans q3_1
  have q4_2 : w4.cell? ⟨w.heap.size, 2, none⟩ = some (.slice D.aw D.wire.length D.cw) := (n4.cell (p := ⟨w.heap.size, 2, none⟩) (by show w.heap.size < _; omega) (.inr (by show hi ≤ w.heap.size; omega))).trans q3_2
  have q4_3 : w4.cell? ⟨w.heap.size, 3, none⟩ = some (.slice D.ad D.done.length D.cd) := (n4.cell (p := ⟨w.heap.size, 3, none⟩) (by show w.heap.size < _; omega) (.inr (by show hi ≤ w.heap.size; omega))).trans q3_3
  clear q3_0 q3_1 q3_2 q3_3
  go_wp2_with fail
  go_ret
  exact ⟨rfl, ⟨m1, m2, m3, h1, h2, h3, h4, a4, b4, c4, d4⟩, M4.out⟩
set_option maxRecDepth 100000 in
set_option maxHeartbeats 4000000 in
theorem heldCluster_c (D : CluA) (K lo hi : Nat) (w : World) (h : CluH lo hi K w D) (hK : cluNum D K ≤ 17592186044416) :
    Calls Try.prog 25 #[.agg #[.slice D.an D.nodes.length D.cn, .slice D.ast D.stores.length D.cst, .slice D.aw D.wire.length D.cw, .slice D.ad D.done.length D.cd], .int .i64 K] w fun e w' => e = .returned (.int .i64 ((cluNum D K : Nat))) ∧ Below w.heap.size w w' := by
  obtain ⟨m1, m2, m3, h1, h2, h3, h4, a, b, c, d⟩ := h
  have HK := Lib.hid hK
  have hk3 : cluK3 D K ≤ 17592186044416 := by unfold cluNum at hK; omega
  have hk2 : cluK2 D K ≤ 17592186044416 := Nat.le_trans (messageNum_mono _ _) hk3
  have hk1 : cluK1 D K ≤ 17592186044416 := Nat.le_trans (storeNum_mono _ _) hk2
  have HK1 : Hid (nodeNum K D.nodes ≤ 17592186044416) := hk1
  have HK2 : Hid (storeNum (cluK1 D K) D.stores ≤ 17592186044416) := hk2
  have HK3 : Hid (messageNum (cluK2 D K) D.wire ≤ 17592186044416) := hk3
  have s1 : decide ((cluK1 D K : Int) < 0) = false := decide_eq_false (by omega)
  have s2 : decide ((cluK2 D K : Int) < 0) = false := decide_eq_false (by omega)
  have s3 : decide ((cluK3 D K : Int) < 0) = false := decide_eq_false (by omega)
  have s4 : decide ((cluNum D K : Int) < 0) = false := decide_eq_false (by omega)
  have A := Lib.hid a
  have B := Lib.hid b
  have C := Lib.hid c
  have DD := Lib.hid d
  clear a b c d hK hk1 hk2 hk3
  go_enter Try.func25, Try.ntmps25
  go_wp2_with fail
  refine (heldNodeP_c lo m1 D.cn K D.an D.nodes _ (NodeP.keep A.out ((Below.refl _ _).alloc (Nat.le_refl _) _)) HK1.out).mono ?_
  rintro e w1 ⟨rfl, n1⟩
  have z1 := n1.size
  simp only [World.size_alloc] at z1
  have M1 : Hid (Below w.heap.size w w1) := Lib.hid (((Below.refl _ _).alloc (Nat.le_refl _) _).trans (n1.mono (by simp)))
  have q1_0 : w1.cell? ⟨w.heap.size, 0, none⟩ = some (.slice D.an D.nodes.length D.cn) := (n1.cell (p := ⟨w.heap.size, 0, none⟩) (by show w.heap.size < _; simp)).trans (by simp [go_sem])
  have q1_1 : w1.cell? ⟨w.heap.size, 1, none⟩ = some (.slice D.ast D.stores.length D.cst) := (n1.cell (p := ⟨w.heap.size, 1, none⟩) (by show w.heap.size < _; simp)).trans (by simp [go_sem])
  have q1_2 : w1.cell? ⟨w.heap.size, 2, none⟩ = some (.slice D.aw D.wire.length D.cw) := (n1.cell (p := ⟨w.heap.size, 2, none⟩) (by show w.heap.size < _; simp)).trans (by simp [go_sem])
  have q1_3 : w1.cell? ⟨w.heap.size, 3, none⟩ = some (.slice D.ad D.done.length D.cd) := (n1.cell (p := ⟨w.heap.size, 3, none⟩) (by show w.heap.size < _; simp)).trans (by simp [go_sem])
  clear n1
  have e2 : (nodeNum K D.nodes) = cluK1 D K := rfl
  rw [e2]
  go_wp2_with fail
  refine (heldStoP_c m1 m2 D.cst (cluK1 D K) D.ast D.stores _ (StoP.keep B.out M1.out) HK2.out).mono ?_
  rintro e w2 ⟨rfl, n2⟩
  have z2 := n2.size
  have M2 : Hid (Below w.heap.size w w2) := Lib.hid (M1.out.trans (n2.mono (by omega)))
  have q2_0 : w2.cell? ⟨w.heap.size, 0, none⟩ = some (.slice D.an D.nodes.length D.cn) := (n2.cell (p := ⟨w.heap.size, 0, none⟩) (by show w.heap.size < _; omega)).trans q1_0
  have q2_1 : w2.cell? ⟨w.heap.size, 1, none⟩ = some (.slice D.ast D.stores.length D.cst) := (n2.cell (p := ⟨w.heap.size, 1, none⟩) (by show w.heap.size < _; omega)).trans q1_1
  have q2_2 : w2.cell? ⟨w.heap.size, 2, none⟩ = some (.slice D.aw D.wire.length D.cw) := (n2.cell (p := ⟨w.heap.size, 2, none⟩) (by show w.heap.size < _; omega)).trans q1_2
  have q2_3 : w2.cell? ⟨w.heap.size, 3, none⟩ = some (.slice D.ad D.done.length D.cd) := (n2.cell (p := ⟨w.heap.size, 3, none⟩) (by show w.heap.size < _; omega)).trans q1_3
  clear q1_0 q1_1 q1_2 q1_3
  clear n2
  have e3 : (storeNum (cluK1 D K) D.stores) = cluK2 D K := rfl
  rw [e3]
  go_wp2_with fail
  refine (heldMsgP_c m2 m3 D.cw (cluK2 D K) D.aw D.wire _ (MsgP.keep C.out M2.out) HK3.out).mono ?_
  rintro e w3 ⟨rfl, n3⟩
  have z3 := n3.size
  have M3 : Hid (Below w.heap.size w w3) := Lib.hid (M2.out.trans (n3.mono (by omega)))
  have q3_0 : w3.cell? ⟨w.heap.size, 0, none⟩ = some (.slice D.an D.nodes.length D.cn) := (n3.cell (p := ⟨w.heap.size, 0, none⟩) (by show w.heap.size < _; omega)).trans q2_0
  have q3_1 : w3.cell? ⟨w.heap.size, 1, none⟩ = some (.slice D.ast D.stores.length D.cst) := (n3.cell (p := ⟨w.heap.size, 1, none⟩) (by show w.heap.size < _; omega)).trans q2_1
  have q3_2 : w3.cell? ⟨w.heap.size, 2, none⟩ = some (.slice D.aw D.wire.length D.cw) := (n3.cell (p := ⟨w.heap.size, 2, none⟩) (by show w.heap.size < _; omega)).trans q2_2
  have q3_3 : w3.cell? ⟨w.heap.size, 3, none⟩ = some (.slice D.ad D.done.length D.cd) := (n3.cell (p := ⟨w.heap.size, 3, none⟩) (by show w.heap.size < _; omega)).trans q2_3
  clear q2_0 q2_1 q2_2 q2_3
  clear n3
  have e4 : (messageNum (cluK2 D K) D.wire) = cluK3 D K := rfl
  rw [e4]
  go_wp2_with fail
  refine (heldStringSB_c D.ad D.cd D.done.length (cluK3 D K) _ (Sl.keep (FreshIn.slmB DD.out) M3.out) HK.out).mono ?_
  rintro e w4 ⟨rfl, n4⟩
  have z4 := n4.size
  have M4 : Hid (Below w.heap.size w w4) := Lib.hid (M3.out.trans (n4.mono (by omega)))
  have q4_0 : w4.cell? ⟨w.heap.size, 0, none⟩ = some (.slice D.an D.nodes.length D.cn) := (n4.cell (p := ⟨w.heap.size, 0, none⟩) (by show w.heap.size < _; omega)).trans q3_0
  have q4_1 : w4.cell? ⟨w.heap.size, 1, none⟩ = some (.slice D.ast D.stores.length D.cst) := (n4.cell (p := ⟨w.heap.size, 1, none⟩) (by show w.heap.size < _; omega)).trans q3_1
  have q4_2 : w4.cell? ⟨w.heap.size, 2, none⟩ = some (.slice D.aw D.wire.length D.cw) := (n4.cell (p := ⟨w.heap.size, 2, none⟩) (by show w.heap.size < _; omega)).trans q3_2
  have q4_3 : w4.cell? ⟨w.heap.size, 3, none⟩ = some (.slice D.ad D.done.length D.cd) := (n4.cell (p := ⟨w.heap.size, 3, none⟩) (by show w.heap.size < _; omega)).trans q3_3
  clear q3_0 q3_1 q3_2 q3_3
  have e5 : (cluK3 D K + D.done.length) = cluNum D K := rfl
  rw [e5]
  go_wp2_with fail
  go_ret
  exact ⟨rfl, M4.out⟩
end
end Go.Proofs.Ytckaccadgbcohaa
