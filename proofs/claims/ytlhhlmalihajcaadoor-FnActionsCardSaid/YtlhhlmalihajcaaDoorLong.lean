/- impl.isLong: whether one of some lengths is too great; slices.ContainsFunc. No conditions but sizes. -/
import Derived.Test.YtlhhlmalihajcaaDoorScalar
import Derived.Test.YtlhhlmalihajcaaDoorSl
import Derived.Lib.Hide
namespace Go.Proofs.YtlhhlmalihajcaaDoor
set_option linter.unusedVariables false
set_option linter.unusedSimpArgs false
open Go.RowKit
def firstIx {α : Type} (p : α → Bool) (xs : List α) : Int := if xs.any p then (xs.findIdx p : Int) else -1
theorem take_none {α : Type} {p : α → Bool} {xs : List α} {k : Nat} (h : ∀ j (hj : j < xs.length), j < k → p xs[j] = false) (hk : xs.length ≤ k) : xs.any p = false := by
  rw [List.any_eq_false]
  intro x hx
  obtain ⟨j, hj, rfl⟩ := List.getElem_of_mem hx
  simp [h j hj (by omega)]
theorem any_at {α : Type} {p : α → Bool} {xs : List α} {k : Nat} (hk : k < xs.length) (h : p xs[k] = true) : xs.any p = true := List.any_eq_true.2 ⟨_, List.getElem_mem hk, h⟩
def longP (n : Int) : Bool := decide (65536 < n)
theorem longP_eq (n : Int) : longP n = decide (65536 < n) := rfl
def sz_impl_isLong_1 (_ : Int) : Prop := True
set_option maxHeartbeats 1000000 in
theorem f_impl_isLong_1 (n : Int) (w : World) (_ : sz_impl_isLong_1 n) : Calls Tryd.prog 62 #[.int .i64 n] w fun e w' => e = .returned (.bool (longP n)) ∧ w = w' := by
  go_enter Tryd.func62, Tryd.ntmps62
  go_wp2_with fail
  go_ret
  exact ⟨rfl, rfl⟩
set_option maxRecDepth 100000 in
set_option maxHeartbeats 1000000 in
theorem index_impl_isLong_1 (a : Option Addr) (ca : Nat) (xs : List Int) (w : World) (ha : Sl intE 1 w a xs) (la : xs.length ≤ 1099511627776) (hq : ∀ x ∈ xs, sz_impl_isLong_1 x) :
    Calls Tryd.prog 82 #[.slice a xs.length ca, .func (.func 62) #[] #[]] w fun e w' => (∃ i : Int, e = .returned (.int .i64 i) ∧ Hid (decide (0 ≤ i) = xs.any longP)) ∧ w = w' := by
  have HQ := Lib.hid hq
  clear hq
  go_enter Tryd.func82, Tryd.ntmps82
  go_wp2_with fail
  go_loop [5, 8] (fun _ i => ∃ k : Nat, k ≤ xs.length ∧ i = .int .i64 k ∧ ∀ j (hj : j < xs.length), j < k → longP xs[j] = false) (fun _ i => xs.length - (intOf i).toNat)
  case atStart => exact ⟨0, Nat.zero_le _, rfl, fun j _ h => absurd h (Nat.not_lt_zero _)⟩
  case round =>
    obtain ⟨k, hk, rfl, hp⟩ := hrel
    have HP := Lib.hid hp
    clear hp
    by_cases hlt : k < xs.length
    · obtain ⟨b1, o1, rfl, hb1, hc1⟩ := ha.at hlt
      have c1 := hc1 k hlt 0 (by omega)
      simp only [intE, Nat.mul_one, Nat.add_zero, List.getElem?_cons_zero] at c1
      have hx := HQ.out xs[k] (List.getElem_mem _)
      clear hc1
      cases hpk : longP xs[k]
      · have HPK := Lib.hid hpk
        clear hpk
        go_wp2_with (go_at_call 62; refine (f_impl_isLong_1 xs[k] _ hx).mono ?_; rw [HPK.out]; rintro e w' ⟨rfl, rfl⟩)
        go_round
        case rel => exact ⟨k + 1, by omega, by go_num, fun j hj h => by
          rcases Nat.lt_succ_iff_lt_or_eq.1 h with h | rfl
          · exact HP.out j hj h
          · exact HPK.out⟩
        case measure => simp [intOf]; omega
      · have HPK := Lib.hid hpk
        clear hpk
        go_wp2_with (go_at_call 62; refine (f_impl_isLong_1 xs[k] _ hx).mono ?_; rw [HPK.out]; rintro e w' ⟨rfl, rfl⟩)
        go_ret
        exact ⟨⟨_, rfl, by rw [any_at hlt HPK.out]; show decide _ = _; simp⟩, rfl⟩
    · obtain rfl : k = xs.length := by omega
      go_wp2_with fail
      go_ret
      exact ⟨⟨_, rfl, by rw [take_none HP.out (Nat.le_refl _)]; rfl⟩, rfl⟩
set_option maxHeartbeats 1000000 in
theorem contains_impl_isLong_1 (a : Option Addr) (ca : Nat) (xs : List Int) (w : World) (ha : Sl intE 1 w a xs) (la : xs.length ≤ 1099511627776) (hq : ∀ x ∈ xs, sz_impl_isLong_1 x) :
    Calls Tryd.prog 61 #[.slice a xs.length ca, .func (.func 62) #[] #[]] w fun e w' => e = .returned (.bool (xs.any longP)) ∧ w = w' := by
  have HQ := Lib.hid hq
  clear hq
  go_enter Tryd.func61, Tryd.ntmps61
  go_wp2_with fail
  refine (index_impl_isLong_1 a ca xs _ ha la HQ.out).mono ?_
  rintro e w' ⟨⟨i, rfl, hi⟩, rfl⟩
  go_wp2_with fail
  go_ret
  exact ⟨by rw [← hi.out]; rfl, rfl⟩
set_option maxHeartbeats 1000000 in
theorem isLong_c (a : Option Addr) (ca : Nat) (xs : List Int) (w : World) (ha : Sl intE 1 w a xs) (la : xs.length ≤ 1099511627776) :
    Calls Tryd.prog 36 #[.slice a xs.length ca] w fun e w' => e = .returned (.bool (xs.any longP)) ∧ w = w' := by
  go_enter Tryd.func36, Tryd.ntmps36
  go_wp2_with fail
  refine (contains_impl_isLong_1 a ca xs _ ha la (fun _ _ => trivial)).mono ?_
  rintro e w' ⟨rfl, rfl⟩
  go_wp2_with fail
  go_ret
  exact ⟨rfl, rfl⟩
theorem Sl.box {w : World} {b : Nat} {n : Int} (hb : b < w.heap.size) (hc : w.cell? ⟨b, 0, none⟩ = some (.int .i64 n)) : Sl intE 1 w (some ⟨b, 0, none⟩) [n] :=
  .inr ⟨b, 0, rfl, hb, fun i hi j hj => by
    have h1 : i = 0 := by simpa using hi
    have h2 : j = 0 := by omega
    subst h1 h2
    simpa [intE] using hc⟩
theorem isLong1_c (b : Nat) (n : Int) (ca : Nat) (w : World) (hb : b < w.heap.size) (hc : w.cell? ⟨b, 0, none⟩ = some (.int .i64 n)) :
    Calls Tryd.prog 36 #[.slice (some ⟨b, 0, none⟩) 1 ca] w fun e w' => e = .returned (.bool (longP n)) ∧ w = w' :=
  (isLong_c _ ca [n] w (Sl.box hb hc) (by simp)).mono fun e w' ⟨h1, h2⟩ => ⟨by rw [h1]; simp, h2⟩
end Go.Proofs.YtlhhlmalihajcaaDoor
