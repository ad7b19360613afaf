/- WriteRecords: what both return. No conditions but sizes. -/
import Derived.Test.YtmdjcoeijlnloaaWr2
namespace Go.Proofs.Ytmdjcoeijlnloaa
set_option linter.unusedVariables false
set_option linter.unusedSimpArgs false
open Go.RowKit
def sz_impl_WriteRecords_1 (_ : ByteArray) : Prop := True
set_option maxHeartbeats 1000000 in
theorem f_impl_WriteRecords_1 (r : ByteArray) (w : World) (_ : sz_impl_WriteRecords_1 r) : Calls Try.prog 90 #[.string r] w fun e w' => e = .returned (.bool (shortP r)) ∧ w = w' := by
  go_enter Try.func90, Try.ntmps90
  go_wp2_with (go_at_call 91; refine (within_c _ _ _ _).mono ?_; rintro e w' ⟨rfl, rfl⟩)
  go_ret
  exact ⟨rfl, rfl⟩
set_option maxRecDepth 100000 in
set_option maxHeartbeats 1000000 in
theorem index_impl_WriteRecords_1 (a : Option Addr) (ca : Nat) (xs : List ByteArray) (w : World) (ha : Sl strE 1 w a xs) (la : xs.length ≤ 1099511627776) (hq : ∀ x ∈ xs, sz_impl_WriteRecords_1 x) :
    Calls Try.prog 149 #[.slice a xs.length ca, .func (.func 90) #[] #[]] w fun e w' => (∃ i : Int, e = .returned (.int .i64 i) ∧ Hid (decide (0 ≤ i) = xs.any shortP)) ∧ w = w' := by
  have HQ := Lib.hid hq
  clear hq
  go_enter Try.func149, Try.ntmps149
  go_wp2_with fail
  go_loop [5, 8] (fun _ i => ∃ k : Nat, k ≤ xs.length ∧ i = .int .i64 k ∧ ∀ j (hj : j < xs.length), j < k → shortP xs[j] = false) (fun _ i => xs.length - (intOf i).toNat)
  case atStart => exact ⟨0, Nat.zero_le _, rfl, fun j _ h => absurd h (Nat.not_lt_zero _)⟩
  case round =>
    obtain ⟨k, hk, rfl, hp⟩ := hrel
    have HP := Lib.hid hp
    clear hp
    by_cases hlt : k < xs.length
    · obtain ⟨b1, o1, rfl, hb1, hc1⟩ := ha.at hlt
      have c1 := hc1 k hlt 0 (by omega)
      simp only [strE, Nat.mul_one, Nat.add_zero, List.getElem?_cons_zero] at c1
      have hx := HQ.out xs[k] (List.getElem_mem _)
      clear hc1
      cases hpk : shortP xs[k]
      · have HPK := Lib.hid hpk
        clear hpk
        go_wp2_with (go_at_call 90; refine (f_impl_WriteRecords_1 xs[k] _ hx).mono ?_; rw [HPK.out]; rintro e w' ⟨rfl, rfl⟩)
        go_round
        case rel => exact ⟨k + 1, by omega, by go_num, fun j hj h => by
          rcases Nat.lt_succ_iff_lt_or_eq.1 h with h | rfl
          · exact HP.out j hj h
          · exact HPK.out⟩
        case measure => simp [intOf]; omega
      · have HPK := Lib.hid hpk
        clear hpk
        go_wp2_with (go_at_call 90; refine (f_impl_WriteRecords_1 xs[k] _ hx).mono ?_; rw [HPK.out]; rintro e w' ⟨rfl, rfl⟩)
        go_ret
        exact ⟨⟨_, rfl, by rw [any_at hlt HPK.out]; show decide _ = _; simp⟩, rfl⟩
    · obtain rfl : k = xs.length := by omega
      go_wp2_with fail
      go_ret
      exact ⟨⟨_, rfl, by rw [take_none HP.out (Nat.le_refl _)]; rfl⟩, rfl⟩
set_option maxHeartbeats 1000000 in
theorem contains_impl_WriteRecords_1 (a : Option Addr) (ca : Nat) (xs : List ByteArray) (w : World) (ha : Sl strE 1 w a xs) (la : xs.length ≤ 1099511627776) (hq : ∀ x ∈ xs, sz_impl_WriteRecords_1 x) :
    Calls Try.prog 89 #[.slice a xs.length ca, .func (.func 90) #[] #[]] w fun e w' => e = .returned (.bool (xs.any shortP)) ∧ w = w' := by
  have HQ := Lib.hid hq
  clear hq
  go_enter Try.func89, Try.ntmps89
  go_wp2_with fail
  refine (index_impl_WriteRecords_1 a ca xs _ ha la HQ.out).mono ?_
  rintro e w' ⟨⟨i, rfl, hi⟩, rfl⟩
  go_wp2_with fail
  go_ret
  exact ⟨by rw [← hi.out]; rfl, rfl⟩
def wT (d : ByteArray) (s : Int) : Option (List UInt8) → ByteArray × Int × Int
  | some l => (strOf l, s, 0)
  | none => (d, s, 7)
def wV (d : ByteArray) (s : Int) (xs : List ByteArray) : ByteArray × Int × Int :=
  if 4096 < xs.length then (⟨#[]⟩, 0, 2) else if storeOK d s then (if xs.any shortP then (⟨#[]⟩, 0, 4) else wT d s (wrF d.data.toList xs)) else (⟨#[]⟩, 0, 1)
def wVal (v : ByteArray × Int × Int) : Value := .tuple #[.agg #[.string v.1, .int .i64 v.2.1], .int .i64 v.2.2]
theorem short_le {xs : List ByteArray} (h : xs.any shortP = false) : ∀ r ∈ xs, r.size ≤ 1000 := by
  intro r hr
  have h1 : ∀ x ∈ xs, shortP x = false := by simpa using h
  have := h1 r hr
  simp [shortP, inB] at this
  omega
theorem storeOK_size {d : ByteArray} {s : Int} (h : storeOK d s = true) : d.size ≤ 60000 := by
  simp [storeOK] at h
  exact h.1
set_option maxRecDepth 100000 in
set_option maxHeartbeats 4000000 in
theorem implWrite_c (d : ByteArray) (s : Int) (a : Option Addr) (ca : Nat) (xs : List ByteArray) (w : World) (ha : Sl strE 1 w a xs) (la : xs.length ≤ 1048576) :
    Calls Try.prog 40 #[.agg #[.string d, .int .i64 s], .slice a xs.length ca] w fun e w' => e = .returned (wVal (wV d s xs)) ∧ Below w.heap.size w w' := by
  by_cases h1 : 4096 < xs.length
  · have hv : wV d s xs = (⟨#[]⟩, 0, 2) := by simp [wV, h1]
    rw [hv]
    clear hv
    go_enter Try.func40, Try.ntmps40
    go_wp2_with fail
    refine bodyPost_ret (v := .tuple #[.agg #[.string ⟨#[]⟩, .int .i64 0], .int .i64 2]) (by simp [results, Try.results40, go_sem]) rfl ?_
    exact ⟨rfl, (by repeat (first | exact Below.refl _ _ | (refine Below.alloc ?_ (by (try simp) <;> (try omega)) _) | (refine Below.setCell ?_ (by (try simp) <;> (try omega)) _) | (refine Below.drew ?_) | (refine Below.trans ?_ (Below.mono (by assumption) (by (try simp) <;> (try omega))))))⟩
  cases h2 : storeOK d s
  · have hv : wV d s xs = (⟨#[]⟩, 0, 1) := by simp [wV, h1, h2]
    have H2 := Lib.hid h2
    rw [hv]
    clear hv h2
    go_enter Try.func40, Try.ntmps40
    go_wp2_with fail
    refine (isStore_c d s _).mono ?_
    rw [H2.out]
    rintro e w1 ⟨rfl, hb1⟩
    have hz1 := hb1.size
    try simp at hz1
    have q1_0_0 : w1.cell? ⟨w.heap.size, 0, none⟩ = some (.string d) := by
      rw [hb1.cell (p := ⟨w.heap.size, 0, none⟩) (show w.heap.size < _ by (try simp) <;> (try omega))]
      first | assumption | (simp [go_sem, *])
    have q1_0_1 : w1.cell? ⟨w.heap.size, 1, none⟩ = some (.int .i64 s) := by
      rw [hb1.cell (p := ⟨w.heap.size, 1, none⟩) (show w.heap.size < _ by (try simp) <;> (try omega))]
      first | assumption | (simp [go_sem, *])
    have hl1_0 : w.heap.size < w1.heap.size := by omega
    have q1_1_0 : w1.cell? ⟨w.heap.size + 1, 0, none⟩ = some (.string ⟨#[]⟩) := by
      rw [hb1.cell (p := ⟨w.heap.size + 1, 0, none⟩) (show w.heap.size + 1 < _ by (try simp) <;> (try omega))]
      first | assumption | (simp [go_sem, *])
    have q1_1_1 : w1.cell? ⟨w.heap.size + 1, 1, none⟩ = some (.int .i64 0) := by
      rw [hb1.cell (p := ⟨w.heap.size + 1, 1, none⟩) (show w.heap.size + 1 < _ by (try simp) <;> (try omega))]
      first | assumption | (simp [go_sem, *])
    have hl1_1 : w.heap.size + 1 < w1.heap.size := by omega
    have f0 : ∀ o, w1.frozen? ⟨w.heap.size + 1, o, none⟩ = false := fun o => by
      rw [hb1.frozen (p := ⟨w.heap.size + 1, o, none⟩) (by show w.heap.size + 1 < _; simp)]
      simp [go_sem]
    go_wp2_with fail
    refine bodyPost_ret (v := .tuple #[.agg #[.string ⟨#[]⟩, .int .i64 0], .int .i64 1]) (by simp [results, Try.results40, go_sem, *]) rfl ?_
    exact ⟨rfl, (by repeat (first | exact Below.refl _ _ | (refine Below.alloc ?_ (by (try simp) <;> (try omega)) _) | (refine Below.setCell ?_ (by (try simp) <;> (try omega)) _) | (refine Below.drew ?_) | (refine Below.trans ?_ (Below.mono (by assumption) (by (try simp) <;> (try omega))))))⟩
  have hd := storeOK_size h2
  cases h3 : xs.any shortP
  · have hs := short_le h3
    have H2 := Lib.hid h2
    have H3 := Lib.hid h3
    have HS := Lib.hid hs
    have hvv : Hid (wV d s xs = wT d s (wrF d.data.toList xs)) := by show _ = _; simp [wV, h1, h2, h3]
    clear h2 h3 hs
    go_enter Try.func40, Try.ntmps40
    go_wp2_with fail
    refine (isStore_c d s _).mono ?_
    rw [H2.out]
    rintro e w1 ⟨rfl, hb1⟩
    have hz1 := hb1.size
    try simp at hz1
    have q1_0_0 : w1.cell? ⟨w.heap.size, 0, none⟩ = some (.string d) := by
      rw [hb1.cell (p := ⟨w.heap.size, 0, none⟩) (show w.heap.size < _ by (try simp) <;> (try omega))]
      first | assumption | (simp [go_sem, *])
    have q1_0_1 : w1.cell? ⟨w.heap.size, 1, none⟩ = some (.int .i64 s) := by
      rw [hb1.cell (p := ⟨w.heap.size, 1, none⟩) (show w.heap.size < _ by (try simp) <;> (try omega))]
      first | assumption | (simp [go_sem, *])
    have hl1_0 : w.heap.size < w1.heap.size := by omega
    have q1_1_0 : w1.cell? ⟨w.heap.size + 1, 0, none⟩ = some (.string ⟨#[]⟩) := by
      rw [hb1.cell (p := ⟨w.heap.size + 1, 0, none⟩) (show w.heap.size + 1 < _ by (try simp) <;> (try omega))]
      first | assumption | (simp [go_sem, *])
    have q1_1_1 : w1.cell? ⟨w.heap.size + 1, 1, none⟩ = some (.int .i64 0) := by
      rw [hb1.cell (p := ⟨w.heap.size + 1, 1, none⟩) (show w.heap.size + 1 < _ by (try simp) <;> (try omega))]
      first | assumption | (simp [go_sem, *])
    have hl1_1 : w.heap.size + 1 < w1.heap.size := by omega
    have f0 : w1.frozen? ⟨w.heap.size + 1, 0, none⟩ = false := by
      rw [hb1.frozen (p := ⟨w.heap.size + 1, 0, none⟩) (by show w.heap.size + 1 < _; simp)]
      simp [go_sem]
    have f1 : w1.frozen? ⟨w.heap.size + 1, 1, none⟩ = false := by
      rw [hb1.frozen (p := ⟨w.heap.size + 1, 1, none⟩) (by show w.heap.size + 1 < _; simp)]
      simp [go_sem]
    have HB1 : Hid (Below w.heap.size w w1) := (by repeat (first | exact Below.refl _ _ | (refine Below.alloc ?_ (by (try simp) <;> (try omega)) _) | (refine Below.setCell ?_ (by (try simp) <;> (try omega)) _) | (refine Below.drew ?_) | (refine Below.trans ?_ (Below.mono (by assumption) (by (try simp) <;> (try omega))))))
    have HA := Lib.hid (ha.keep HB1.out)
    clear hb1
    go_wp2_with fail
    refine (contains_impl_WriteRecords_1 a ca xs _ HA.out (by omega) (fun _ _ => trivial)).mono ?_
    rw [H3.out]
    rintro e w2 ⟨rfl, rfl⟩
    go_wp2_with fail
    refine (written_c d s a ca xs _ hd HA.out (by omega) HS.out).mono ?_
    rintro e w3 ⟨rfl, hb3⟩
    have hz3 := hb3.size
    try simp at hz3
    have q3_0_0 : w3.cell? ⟨w.heap.size, 0, none⟩ = some (.string d) := by
      rw [hb3.cell (p := ⟨w.heap.size, 0, none⟩) (show w.heap.size < _ by (try simp) <;> (try omega))]
      first | assumption | (simp [go_sem, *])
    have q3_0_1 : w3.cell? ⟨w.heap.size, 1, none⟩ = some (.int .i64 s) := by
      rw [hb3.cell (p := ⟨w.heap.size, 1, none⟩) (show w.heap.size < _ by (try simp) <;> (try omega))]
      first | assumption | (simp [go_sem, *])
    have hl3_0 : w.heap.size < w3.heap.size := by omega
    have q3_1_0 : w3.cell? ⟨w.heap.size + 1, 0, none⟩ = some (.string ⟨#[]⟩) := by
      rw [hb3.cell (p := ⟨w.heap.size + 1, 0, none⟩) (show w.heap.size + 1 < _ by (try simp) <;> (try omega))]
      first | assumption | (simp [go_sem, *])
    have q3_1_1 : w3.cell? ⟨w.heap.size + 1, 1, none⟩ = some (.int .i64 0) := by
      rw [hb3.cell (p := ⟨w.heap.size + 1, 1, none⟩) (show w.heap.size + 1 < _ by (try simp) <;> (try omega))]
      first | assumption | (simp [go_sem, *])
    have hl3_1 : w.heap.size + 1 < w3.heap.size := by omega
    clear q1_0_0 q1_0_1 q1_1_0 q1_1_1
    have f3 : w3.frozen? ⟨w.heap.size + 1, 0, none⟩ = false := by
      rw [hb3.frozen (p := ⟨w.heap.size + 1, 0, none⟩) (by show w.heap.size + 1 < _; omega)]
      exact f0
    have f4 : w3.frozen? ⟨w.heap.size + 1, 1, none⟩ = false := by
      rw [hb3.frozen (p := ⟨w.heap.size + 1, 1, none⟩) (by show w.heap.size + 1 < _; omega)]
      exact f1
    cases hw : wrF d.data.toList xs with
    | none =>
      have HV : Hid (wV d s xs = (d, s, 7)) := by have := hvv.out; rw [hw] at this; exact this
      clear hw hvv
      simp only [okV]
      go_wp2_with fail
      refine bodyPost_ret (v := .tuple #[.agg #[.string d, .int .i64 s], .int .i64 7]) (by simp [results, Try.results40, go_sem, *]) rfl ?_
      exact ⟨by rw [HV.out]; rfl, (by repeat (first | exact Below.refl _ _ | (refine Below.alloc ?_ (by (try simp) <;> (try omega)) _) | (refine Below.setCell ?_ (by (try simp) <;> (try omega)) _) | (refine Below.drew ?_) | (refine Below.trans ?_ (Below.mono (by assumption) (by (try simp) <;> (try omega))))))⟩
    | some l =>
      have HV : Hid (wV d s xs = (strOf l, s, 0)) := by have := hvv.out; rw [hw] at this; exact this
      clear hw hvv
      simp only [okV]
      go_wp2_with fail
      refine bodyPost_ret (v := .tuple #[.agg #[.string (strOf l), .int .i64 s], .int .i64 0]) (by simp [results, Try.results40, go_sem, *]) rfl ?_
      exact ⟨by rw [HV.out]; rfl, (by repeat (first | exact Below.refl _ _ | (refine Below.alloc ?_ (by (try simp) <;> (try omega)) _) | (refine Below.setCell ?_ (by (try simp) <;> (try omega)) _) | (refine Below.drew ?_) | (refine Below.trans ?_ (Below.mono (by assumption) (by (try simp) <;> (try omega))))))⟩
  · have hv : wV d s xs = (⟨#[]⟩, 0, 4) := by simp [wV, h1, h2, h3]
    have H2 := Lib.hid h2
    have H3 := Lib.hid h3
    rw [hv]
    clear hv h2 h3
    go_enter Try.func40, Try.ntmps40
    go_wp2_with fail
    refine (isStore_c d s _).mono ?_
    rw [H2.out]
    rintro e w1 ⟨rfl, hb1⟩
    have hz1 := hb1.size
    try simp at hz1
    have q1_0_0 : w1.cell? ⟨w.heap.size, 0, none⟩ = some (.string d) := by
      rw [hb1.cell (p := ⟨w.heap.size, 0, none⟩) (show w.heap.size < _ by (try simp) <;> (try omega))]
      first | assumption | (simp [go_sem, *])
    have q1_0_1 : w1.cell? ⟨w.heap.size, 1, none⟩ = some (.int .i64 s) := by
      rw [hb1.cell (p := ⟨w.heap.size, 1, none⟩) (show w.heap.size < _ by (try simp) <;> (try omega))]
      first | assumption | (simp [go_sem, *])
    have hl1_0 : w.heap.size < w1.heap.size := by omega
    have q1_1_0 : w1.cell? ⟨w.heap.size + 1, 0, none⟩ = some (.string ⟨#[]⟩) := by
      rw [hb1.cell (p := ⟨w.heap.size + 1, 0, none⟩) (show w.heap.size + 1 < _ by (try simp) <;> (try omega))]
      first | assumption | (simp [go_sem, *])
    have q1_1_1 : w1.cell? ⟨w.heap.size + 1, 1, none⟩ = some (.int .i64 0) := by
      rw [hb1.cell (p := ⟨w.heap.size + 1, 1, none⟩) (show w.heap.size + 1 < _ by (try simp) <;> (try omega))]
      first | assumption | (simp [go_sem, *])
    have hl1_1 : w.heap.size + 1 < w1.heap.size := by omega
    have f0 : ∀ o, w1.frozen? ⟨w.heap.size + 1, o, none⟩ = false := fun o => by
      rw [hb1.frozen (p := ⟨w.heap.size + 1, o, none⟩) (by show w.heap.size + 1 < _; simp)]
      simp [go_sem]
    go_wp2_with fail
    refine (contains_impl_WriteRecords_1 a ca xs _ (((ha.alloc _).alloc _).keep hb1) (by omega) (fun _ _ => trivial)).mono ?_
    rw [H3.out]
    rintro e w2 ⟨rfl, rfl⟩
    go_wp2_with fail
    refine bodyPost_ret (v := .tuple #[.agg #[.string ⟨#[]⟩, .int .i64 0], .int .i64 4]) (by simp [results, Try.results40, go_sem, *]) rfl ?_
    exact ⟨rfl, (by repeat (first | exact Below.refl _ _ | (refine Below.alloc ?_ (by (try simp) <;> (try omega)) _) | (refine Below.setCell ?_ (by (try simp) <;> (try omega)) _) | (refine Below.drew ?_) | (refine Below.trans ?_ (Below.mono (by assumption) (by (try simp) <;> (try omega))))))⟩
end Go.Proofs.Ytmdjcoeijlnloaa
