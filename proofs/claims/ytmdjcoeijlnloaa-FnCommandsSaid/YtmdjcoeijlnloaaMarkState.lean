/- Marks on a state. -/
import Derived.Test.YtmdjcoeijlnloaaMark3
import Derived.Test.YtmdjcoeijlnloaaState3
namespace Go.Proofs.Ytmdjcoeijlnloaa
set_option linter.unusedVariables false
set_option linter.unusedSimpArgs false
open Go.RowKit
theorem FreshIn.fits {α : Type} {enc : α → List Value} {sz : Nat} {e : TypeId} {lo hi n cap : Nat} {a : Option Addr} {xs : List α} {w : World} (h : FreshIn enc e sz lo hi (.slice a n cap) xs w) : n ≤ cap := by
  obtain ⟨⟨a', c', hv, hc, _⟩, _⟩ := h
  cases hv
  exact hc
theorem FreshIn.slm2 {lo hi n K ca : Nat} {a : Option Addr} {e : TypeId} {w : World} (h : FreshIn strE e 1 lo hi (.slice a n ca) (marks K n) w) : Sl strE 1 w a (marks K n) := by
  have h' : FreshIn strE e 1 lo hi (.slice a (marks K n).length ca) (marks K n) w := by rw [marks_length]; exact h
  exact h'.sl fun _ => rfl
set_option maxRecDepth 100000 in
set_option maxHeartbeats 1000000 in
theorem eqState_same (a b : Option Addr) (ca cb : Nat) (xs : List Ent) (t v : Int) (w : World) (ha : Sl entE 2 w a xs) (hb : Sl entE 2 w b xs) (la : xs.length ≤ 1048576) :
    Calls Try.prog 16 #[.agg #[.int .i64 t, .int .i64 v, .slice a xs.length ca], .agg #[.int .i64 t, .int .i64 v, .slice b xs.length cb]] w
      fun e w' => e = .returned (.bool true) ∧ Below w.heap.size w w' := by
  refine (eqState_c a b ca cb xs xs t v t v w ha hb la la).mono ?_
  simp only [decide_true, Bool.and_self]
  exact fun e w' h => h
set_option maxRecDepth 100000 in
set_option maxHeartbeats 1000000 in
theorem markState_c (a : Option Addr) (ca : Nat) (xs : List Ent) (t v : Int) (K lo hi : Nat) (w : World) (h : FreshIn entE 109 2 lo hi (.slice a xs.length ca) xs w) (hlo : lo ≤ w.heap.size) (hhi : hi ≤ w.heap.size) (hK : K + 2 * xs.length ≤ 1099511627776) :
    Calls Try.prog 17 #[.agg #[.int .i64 t, .int .i64 v, .slice a xs.length ca], .int .i64 K] w (MarkRF entE 109 2 lo hi xs.length K 2 (markE K) a ca w) := by
  have K1 := Lib.hid (h.alloc (.cells #[.int .i64 t, .int .i64 v, .slice a xs.length ca] 31))
  clear h
  go_enter Try.func17, Try.ntmps17
  go_wp2_with fail
  refine (markEntryS_c a ca xs K lo hi _ K1.out (by simp; omega) hK).mono ?_
  rintro e w1 ⟨rfl, hf1, hm1⟩
  have MM1 : Hid (Mid lo hi w w1) := (Mid.of_below _ _ ((Below.refl _ _).alloc (Nat.le_refl _) (.cells #[.int .i64 t, .int .i64 v, .slice a xs.length ca] 31))).trans (hm1.mono (Nat.le_refl _) (by omega))
  have M1 := Lib.hid hf1
  clear hf1 hm1
  generalize hQ1 : K + 2 * xs.length = Q1 at hK ⊢
  have HQ1 := Lib.hid hQ1
  clear hQ1
  go_wp2_with fail
  go_ret
  refine ⟨?_, M1.out, MM1.out⟩
  rw [HQ1.out]
  rfl
set_option maxRecDepth 100000 in
set_option maxHeartbeats 1000000 in
theorem heldState_c (a : Option Addr) (ca n : Nat) (t v : Int) (K : Nat) (w : World) (h : Sl entE 2 w a ((List.range n).map (markE K))) (hK : K + 2 * n ≤ 1099511627776) :
    Calls Try.prog 22 #[.agg #[.int .i64 t, .int .i64 v, .slice a n ca], .int .i64 K] w fun e w' => e = .returned (.int .i64 ((K + 2 * n : Nat))) ∧ Below w.heap.size w w' := by
  have K1 := Lib.hid (h.alloc (.cells #[.int .i64 t, .int .i64 v, .slice a n ca] 31))
  clear h
  obtain ⟨Q1, hQ1⟩ : ∃ x, x = K + 2 * n := ⟨_, rfl⟩
  rw [← hQ1]
  have HQ1 := Lib.hid hQ1
  clear hQ1
  go_enter Try.func22, Try.ntmps22
  go_wp2_with fail
  refine (heldEntryS_c a ca n K _ K1.out hK).mono ?_
  rw [← HQ1.out]
  rintro e w1 ⟨rfl, hb1⟩
  have HB1 : Hid (Below w.heap.size w w1) := (by repeat (first | exact Below.refl _ _ | (refine Below.alloc ?_ (by (try simp) <;> (try omega)) _) | (refine Below.setCell ?_ (by (try simp) <;> (try omega)) _) | (refine Below.drew ?_) | (refine Below.trans ?_ (Below.mono (by assumption) (by (try simp) <;> (try omega))))))
  clear hb1
  go_wp2_with fail
  go_ret
  exact ⟨rfl, HB1.out⟩
end Go.Proofs.Ytmdjcoeijlnloaa
