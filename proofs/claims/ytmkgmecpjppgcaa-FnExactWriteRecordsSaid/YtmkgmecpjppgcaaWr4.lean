/- spec.WriteRecords. No conditions but sizes. -/
import Derived.Test.YtmkgmecpjppgcaaWr3
namespace Go.Proofs.Ytmkgmecpjppgcaa
set_option linter.unusedVariables false
set_option linter.unusedSimpArgs false
open Go.RowKit
set_option maxRecDepth 100000 in
set_option maxHeartbeats 4000000 in
theorem specWrite_c (d : ByteArray) (s : Int) (a : Option Addr) (ca : Nat) (xs : List ByteArray) (w : World) (ha : Sl strE 1 w a xs) (la : xs.length ≤ 1048576) :
    Calls Try.prog 43 #[.agg #[.string d, .int .i64 s], .slice a xs.length ca] w fun e w' => e = .returned (wVal (wV d s xs)) ∧ Below w.heap.size w w' := by
  by_cases h1 : 4096 < xs.length
  · have hv : wV d s xs = (⟨#[]⟩, 0, 2) := by simp [wV, h1]
    rw [hv]
    clear hv
    go_enter Try.func43, Try.ntmps43
    go_wp2_with fail
    refine bodyPost_ret (v := .tuple #[.agg #[.string ⟨#[]⟩, .int .i64 0], .int .i64 2]) (by simp [results, Try.results43, go_sem]) rfl ?_
    exact ⟨rfl, (by repeat (first | exact Below.refl _ _ | (refine Below.alloc ?_ (by (try simp) <;> (try omega)) _) | (refine Below.setCell ?_ (by (try simp) <;> (try omega)) _) | (refine Below.drew ?_) | (refine Below.trans ?_ (Below.mono (by assumption) (by (try simp) <;> (try omega))))))⟩
  cases h2 : storeOK d s
  · have hv : wV d s xs = (⟨#[]⟩, 0, 1) := by simp [wV, h1, h2]
    have H2 := Lib.hid h2
    rw [hv]
    clear hv h2
    go_enter Try.func43, Try.ntmps43
    go_wp2_with fail
    refine (specStoreOK_c d s _).mono ?_
    rw [H2.out]
    rintro e w1 ⟨rfl, hb1⟩
    have hz1 := hb1.size
    try simp at hz1
    have q1_0_0 : w1.cell? ⟨w.heap.size, 0, none⟩ = some (.string d) := by
      rw [hb1.cell (p := ⟨w.heap.size, 0, none⟩) (show w.heap.size < _ by (try simp) <;> (try omega))]
      first | assumption | (simp [go_sem, *])
    have q1_0_1 : w1.cell? ⟨w.heap.size, 1, none⟩ = some (.int .i64 s) := by
      rw [hb1.cell (p := ⟨w.heap.size, 1, none⟩) (show w.heap.size < _ by (try simp) <;> (try omega))]
      first | assumption | (simp [go_sem, *])
    have hl1_0 : w.heap.size < w1.heap.size := by omega
    have q1_1_0 : w1.cell? ⟨w.heap.size + 1, 0, none⟩ = some (.string ⟨#[]⟩) := by
      rw [hb1.cell (p := ⟨w.heap.size + 1, 0, none⟩) (show w.heap.size + 1 < _ by (try simp) <;> (try omega))]
      first | assumption | (simp [go_sem, *])
    have q1_1_1 : w1.cell? ⟨w.heap.size + 1, 1, none⟩ = some (.int .i64 0) := by
      rw [hb1.cell (p := ⟨w.heap.size + 1, 1, none⟩) (show w.heap.size + 1 < _ by (try simp) <;> (try omega))]
      first | assumption | (simp [go_sem, *])
    have hl1_1 : w.heap.size + 1 < w1.heap.size := by omega
    have f0 : ∀ o, w1.frozen? ⟨w.heap.size + 1, o, none⟩ = false := fun o => by
      rw [hb1.frozen (p := ⟨w.heap.size + 1, o, none⟩) (by show w.heap.size + 1 < _; simp)]
      simp [go_sem]
    go_wp2_with fail
    refine bodyPost_ret (v := .tuple #[.agg #[.string ⟨#[]⟩, .int .i64 0], .int .i64 1]) (by simp [results, Try.results43, go_sem, *]) rfl ?_
    exact ⟨rfl, (by repeat (first | exact Below.refl _ _ | (refine Below.alloc ?_ (by (try simp) <;> (try omega)) _) | (refine Below.setCell ?_ (by (try simp) <;> (try omega)) _) | (refine Below.drew ?_) | (refine Below.trans ?_ (Below.mono (by assumption) (by (try simp) <;> (try omega))))))⟩
  have hd := storeOK_size h2
  have H2 := Lib.hid h2
  have hvv : Hid (wV d s xs = if xs.any shortP then ((⟨#[]⟩, 0, 4) : ByteArray × Int × Int) else wT d s (wrF d.data.toList xs)) := by show _ = _; unfold wV; rw [if_neg h1, h2, if_pos rfl]
  clear h2
  go_enter Try.func43, Try.ntmps43
  go_wp2_with fail
  refine (specStoreOK_c d s _).mono ?_
  rw [H2.out]
  rintro e w1 ⟨rfl, hb1⟩
  have hz1 := hb1.size
  try simp at hz1
  have q1_0_0 : w1.cell? ⟨w.heap.size, 0, none⟩ = some (.string d) := by
    rw [hb1.cell (p := ⟨w.heap.size, 0, none⟩) (show w.heap.size < _ by (try simp) <;> (try omega))]
    first | assumption | (simp [go_sem, *])
  have q1_0_1 : w1.cell? ⟨w.heap.size, 1, none⟩ = some (.int .i64 s) := by
    rw [hb1.cell (p := ⟨w.heap.size, 1, none⟩) (show w.heap.size < _ by (try simp) <;> (try omega))]
    first | assumption | (simp [go_sem, *])
  have hl1_0 : w.heap.size < w1.heap.size := by omega
  have q1_1_0 : w1.cell? ⟨w.heap.size + 1, 0, none⟩ = some (.string ⟨#[]⟩) := by
    rw [hb1.cell (p := ⟨w.heap.size + 1, 0, none⟩) (show w.heap.size + 1 < _ by (try simp) <;> (try omega))]
    first | assumption | (simp [go_sem, *])
  have q1_1_1 : w1.cell? ⟨w.heap.size + 1, 1, none⟩ = some (.int .i64 0) := by
    rw [hb1.cell (p := ⟨w.heap.size + 1, 1, none⟩) (show w.heap.size + 1 < _ by (try simp) <;> (try omega))]
    first | assumption | (simp [go_sem, *])
  have hl1_1 : w.heap.size + 1 < w1.heap.size := by omega
  have f0 : w1.frozen? ⟨w.heap.size + 1, 0, none⟩ = false := by
    rw [hb1.frozen (p := ⟨w.heap.size + 1, 0, none⟩) (by show w.heap.size + 1 < _; simp)]
    simp [go_sem]
  have f1 : w1.frozen? ⟨w.heap.size + 1, 1, none⟩ = false := by
    rw [hb1.frozen (p := ⟨w.heap.size + 1, 1, none⟩) (by show w.heap.size + 1 < _; simp)]
    simp [go_sem]
  have HB1 : Hid (Below w.heap.size w w1) := (by repeat (first | exact Below.refl _ _ | (refine Below.alloc ?_ (by (try simp) <;> (try omega)) _) | (refine Below.setCell ?_ (by (try simp) <;> (try omega)) _) | (refine Below.drew ?_) | (refine Below.trans ?_ (Below.mono (by assumption) (by (try simp) <;> (try omega))))))
  have HA := Lib.hid (ha.keep HB1.out)
  clear hb1
  go_wp2_with fail
  go_loop [6] (fun i => ∃ k : Nat, k ≤ xs.length ∧ i = .int .i64 k ∧ ∀ j (hj : j < xs.length), j < k → shortP xs[j] = false) (fun i => xs.length - (intOf i).toNat)
  case atStart => exact ⟨0, Nat.zero_le _, rfl, fun j _ h => absurd h (Nat.not_lt_zero _)⟩
  case round =>
    obtain ⟨k, hk, rfl, hp⟩ := hrel
    have HP := Lib.hid hp
    clear hp
    by_cases hlt : k < xs.length
    · obtain ⟨b1, o1, rfl, hb1, hc1⟩ := HA.out.at hlt
      have c1 := hc1 k hlt 0 (by omega)
      simp only [strE, Nat.mul_one, Nat.add_zero, List.getElem?_cons_zero] at c1
      clear hc1
      cases hpk : shortP xs[k]
      · have hin : inB xs[k].size 1 1000 = true := by simpa [shortP] using hpk
        have HI := Lib.hid hin
        have HPK := Lib.hid hpk
        clear hin hpk
        go_wp2_with (go_at_call 58; refine (l01In_c _ _ _ _).mono ?_; rw [HI.out]; rintro e w' ⟨rfl, rfl⟩)
        go_round
        case rel => exact ⟨k + 1, by omega, by go_num, fun j hj h => by
          rcases Nat.lt_succ_iff_lt_or_eq.1 h with h | rfl
          · exact HP.out j hj h
          · exact HPK.out⟩
        case measure => simp [intOf]; omega
      · have hin : inB xs[k].size 1 1000 = false := by simpa [shortP] using hpk
        have hv : wV d s xs = (⟨#[]⟩, 0, 4) := by rw [hvv.out, any_at hlt hpk, if_pos rfl]
        have HV := Lib.hid hv
        have HI := Lib.hid hin
        clear hin hpk hv
        go_wp2_with (go_at_call 58; refine (l01In_c _ _ _ _).mono ?_; rw [HI.out]; rintro e w' ⟨rfl, rfl⟩)
        refine bodyPost_ret (v := .tuple #[.agg #[.string ⟨#[]⟩, .int .i64 0], .int .i64 4]) (by simp [results, Try.results43, go_sem, *]) rfl ?_
        exact ⟨by rw [HV.out]; rfl, (HB1.out.setCell (by simp) _).setCell (by simp) _⟩
    · obtain rfl : k = xs.length := by omega
      have h3 : xs.any shortP = false := take_none HP.out (Nat.le_refl _)
      have HS := Lib.hid (short_le h3)
      have hv2 : Hid (wV d s xs = wT d s (wrF d.data.toList xs)) := by have := hvv.out; rw [h3] at this; exact this
      clear h3
      go_wp2_with fail
      refine (l07Write_c d s a ca xs _ hd HA.out (by omega) HS.out).mono ?_
      rintro e w3 ⟨⟨D, n, rfl, hD⟩, hb3⟩
      have hz3 := hb3.size
      try simp at hz3
      have q3_0_0 : w3.cell? ⟨w.heap.size, 0, none⟩ = some (.string d) := by
        rw [hb3.cell (p := ⟨w.heap.size, 0, none⟩) (show w.heap.size < _ by (try simp) <;> (try omega))]
        first | assumption | (simp [go_sem, *])
      have q3_0_1 : w3.cell? ⟨w.heap.size, 1, none⟩ = some (.int .i64 s) := by
        rw [hb3.cell (p := ⟨w.heap.size, 1, none⟩) (show w.heap.size < _ by (try simp) <;> (try omega))]
        first | assumption | (simp [go_sem, *])
      have hl3_0 : w.heap.size < w3.heap.size := by omega
      have q3_1_0 : w3.cell? ⟨w.heap.size + 1, 0, none⟩ = some (.string ⟨#[]⟩) := by
        rw [hb3.cell (p := ⟨w.heap.size + 1, 0, none⟩) (show w.heap.size + 1 < _ by (try simp) <;> (try omega))]
        first | assumption | (simp [go_sem, *])
      have q3_1_1 : w3.cell? ⟨w.heap.size + 1, 1, none⟩ = some (.int .i64 0) := by
        rw [hb3.cell (p := ⟨w.heap.size + 1, 1, none⟩) (show w.heap.size + 1 < _ by (try simp) <;> (try omega))]
        first | assumption | (simp [go_sem, *])
      have hl3_1 : w.heap.size + 1 < w3.heap.size := by omega
      clear q1_0_0 q1_0_1 q1_1_0 q1_1_1
      have f3 : w3.frozen? ⟨w.heap.size + 1, 0, none⟩ = false := by
        rw [hb3.frozen (p := ⟨w.heap.size + 1, 0, none⟩) (by show w.heap.size + 1 < _; omega)]
        exact f0
      have f4 : w3.frozen? ⟨w.heap.size + 1, 1, none⟩ = false := by
        rw [hb3.frozen (p := ⟨w.heap.size + 1, 1, none⟩) (by show w.heap.size + 1 < _; omega)]
        exact f1
      have HB3 : Hid (Below w.heap.size w w3) := HB1.out.trans (hb3.mono (by omega))
      cases hw : wrF d.data.toList xs with
      | none =>
        have HV : Hid (wV d s xs = (d, s, 7)) := by have := hv2.out; rw [hw] at this; exact this
        rw [hw] at hD
        obtain rfl : n = 7 := hD
        clear hw hv2 hb3
        go_wp2_with fail
        refine bodyPost_ret (v := .tuple #[.agg #[.string d, .int .i64 s], .int .i64 7]) (by simp [results, Try.results43, go_sem, *]) rfl ?_
        exact ⟨by rw [HV.out]; rfl, ((HB3.out.setCell (by simp) _).setCell (by simp) _).alloc (by simp; omega) _⟩
      | some l =>
        have HV : Hid (wV d s xs = (strOf l, s, 0)) := by have := hv2.out; rw [hw] at this; exact this
        rw [hw] at hD
        obtain ⟨rfl, rfl⟩ : D = strOf l ∧ n = 0 := hD
        clear hw hv2 hb3
        go_wp2_with fail
        refine bodyPost_ret (v := .tuple #[.agg #[.string (strOf l), .int .i64 s], .int .i64 0]) (by simp [results, Try.results43, go_sem, *]) rfl ?_
        exact ⟨by rw [HV.out]; rfl, ((HB3.out.setCell (by simp) _).setCell (by simp) _).alloc (by simp; omega) _⟩
end Go.Proofs.Ytmkgmecpjppgcaa
