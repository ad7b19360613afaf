/- laws.markStringS writes its own texts into a slice of the caller's own; laws.heldStringS finds them there. -/
import Derived.Test.YtckaccadgbcohaaMark
import Derived.Test.YtckaccadgbcohaaOwn
import Derived.Test.YtckaccadgbcohaaQuiet
namespace Go.Proofs.Ytckaccadgbcohaa
set_option linter.unusedVariables false
set_option linter.unusedSimpArgs false
open Go.RowKit
def marks (K n : Nat) : List ByteArray := (List.range n).map fun i => mt (K + i)
theorem marks_length (K n : Nat) : (marks K n).length = n := by simp [marks]
theorem marks_get (K n i : Nat) (h : i < (marks K n).length) : (marks K n)[i] = mt (K + i) := by simp [marks]
theorem marks_step (K : Nat) (xs : List ByteArray) (k : Nat) (hk : k < xs.length) : (marks K k ++ xs.drop k).set k (mt (K + k)) = marks K (k + 1) ++ xs.drop (k + 1) := by
  have h1 := marks_length K k
  rw [List.set_append, if_neg (by omega), h1, Nat.sub_self, List.drop_eq_getElem_cons hk, List.set_cons_zero]
  simp [marks, List.range_succ]
theorem marks_mid_length (K : Nat) (xs : List ByteArray) (k : Nat) (hk : k ≤ xs.length) : (marks K k ++ xs.drop k).length = xs.length := by simp [marks]; omega
def MarkR (lo hi n K : Nat) (a : Option Addr) (ca : Nat) (w : World) (en : Ending) (w' : World) : Prop :=
  en = .returned (.int .i64 ((K + n : Nat))) ∧ FreshIn strE 9 1 lo hi (.slice a n ca) (marks K n) w' ∧ Mid lo hi w w'
set_option maxRecDepth 100000 in
set_option maxHeartbeats 1000000 in
theorem markStringS_c (a : Option Addr) (ca : Nat) (xs : List ByteArray) (K lo hi : Nat) (w : World) (h : FreshIn strE 9 1 lo hi (.slice a xs.length ca) xs w) (hlo : lo ≤ w.heap.size) (hK : K + xs.length ≤ 1099511627776) :
    Calls Try.prog 21 #[.slice a xs.length ca, .int .i64 K] w (MarkR lo hi xs.length K a ca w) := by
  go_enter Try.func21, Try.ntmps21
  go_wp2_with fail
  go_loopw [1, 5] (fun m i wr => ∃ k : Nat, k ≤ xs.length ∧ i = .int .i64 k ∧ m = .int .i64 ((K + k : Nat)) ∧ FreshIn strE 9 1 lo hi (.slice a xs.length ca) (marks K k ++ xs.drop k) wr ∧ Mid lo hi w wr) (fun _ i _ => xs.length - (intOf i).toNat)
  case atStart => exact ⟨0, Nat.zero_le _, rfl, rfl, by simpa [marks] using h, Mid.refl _ _ _⟩
  case round =>
    obtain ⟨k, hk, rfl, rfl, hf, hm⟩ := hrel
    have hll := marks_mid_length K xs k hk
    have HS : Hid (k < xs.length → (marks K k ++ xs.drop k).set k (mt (K + k)) = marks K (k + 1) ++ xs.drop (k + 1)) := marks_step K xs k
    by_cases hlt : k < xs.length
    · generalize hL : marks K k ++ xs.drop k = L at *
      clear hL
      have HF := Lib.hid hf
      obtain ⟨g, rfl, hg1, hg2, hg3, ho⟩ := hf.block (by omega)
      have HO := Lib.hid ho
      have HM := Lib.hid hm
      have HL := Lib.hid hll
      have hsz := hm.size
      have HH := Lib.hid h
      clear ho hf hm hll h
      go_wp2_with (go_at_call 53
                   refine (markText_c (K + k) _ (by omega)).mono ?_
                   rintro e w1 ⟨rfl, hb1⟩
                   have HB1 := Lib.hid hb1
                   clear hb1
                   have f1 := ((own_below HO.out HB1.out).frozenAt k)
                   have c3 : ∃ v, w1 = w1 ∧ w1.cell? ⟨g, k, none⟩ = some v := ⟨_, rfl, ((own_below HO.out HB1.out).cellAt k (by rw [HL.out]; omega)).trans (List.getElem?_eq_getElem (by rw [flat_length strE 1 (fun _ => rfl), HL.out]; omega))⟩
                   obtain ⟨v, _, c3⟩ := c3)
      go_roundw
      case rel =>
        have hs := (own_below HO.out HB1.out).stored k (.string (mt (K + k)))
        rw [flat_set1 strE (fun _ => rfl) L k (by rw [HL.out]; exact hlt) (mt (K + k)) _ rfl, HS.out hlt] at hs
        refine ⟨k + 1, by omega, by go_num, by go_num, FreshIn.of_owns (n := xs.length) ?_ (by rw [marks_mid_length _ _ _ (by omega)]) rfl hg2, (HM.out.trans (Mid.of_below _ _ HB1.out)).setCell hg1 hg2 _⟩
        have := hs.1
        rw [HL.out] at this
        exact this
      case measure => simp [intOf]; omega
    · obtain rfl : k = xs.length := by omega
      have HF := Lib.hid hf
      have HM := Lib.hid hm
      clear hf hm hll h HS
      go_wp2_with fail
      go_ret
      refine ⟨by go_num, ?_, HM.out⟩
      have := HF.out
      rw [List.drop_length, List.append_nil] at this
      exact this
set_option maxRecDepth 100000 in
set_option maxHeartbeats 1000000 in
theorem heldStringS_c (a : Option Addr) (ca n K : Nat) (w : World) (h : Sl strE 1 w a (marks K n)) (hK : K + n ≤ 1099511627776) :
    Calls Try.prog 22 #[.slice a n ca, .int .i64 K] w fun e w' => e = .returned (.int .i64 ((K + n : Nat))) ∧ Below w.heap.size w w' := by
  go_enter Try.func22, Try.ntmps22
  go_wp2_with fail
  go_loopw [1, 5] (fun m i wr => ∃ k : Nat, k ≤ n ∧ i = .int .i64 k ∧ m = .int .i64 ((K + k : Nat)) ∧ Below w.heap.size w wr) (fun _ i _ => n - (intOf i).toNat)
  case atStart => exact ⟨0, Nat.zero_le _, rfl, rfl, Below.refl _ _⟩
  case round =>
    obtain ⟨k, hk, rfl, rfl, hbel⟩ := hrel
    by_cases hlt : k < n
    · obtain ⟨b1, o1, rfl, hb1, hc1⟩ := (h.keep hbel).at (i := k) (by rw [marks_length]; exact hlt)
      have c1 := hc1 k (by rw [marks_length]; exact hlt) 0 (by omega)
      rw [marks_get] at c1
      simp only [strE, Nat.mul_one, Nat.add_zero, List.getElem?_cons_zero] at c1
      have hz := hbel.size
      clear hc1 h
      go_wp2_with fail
      have xq0 := extW_cell (w := wr) (b := b1) (by (try simp) <;> (try omega))
      refine wp_region_quietx (wr) rfl (by kernel_rfl) (by kernel_rfl) ?_
      repeat (go_big_quiet_step ((go_at_call 53; exact Calls.quietx (markText_c (K + k) _ (by omega)))))
      refine wpQuiet_nil ?_
      intro _ hw'
      obtain ⟨xq, hw''⟩ := hw'
      subst hw''
      have hbq := extW_below (wr) xq
      generalize extW (wr) xq = wq at hbq ⊢
      clear xq0
      go_wp2_with fail
      go_roundw
      case rel => exact ⟨k + 1, by omega, by go_num, by go_num, hbel.trans (hbq.mono hz)⟩
      case measure => simp [intOf]; omega
    · obtain rfl : k = n := by omega
      clear h
      go_wp2_with fail
      go_ret
      exact ⟨by go_num, hbel⟩
end Go.Proofs.Ytckaccadgbcohaa
