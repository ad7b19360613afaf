/- What a valid command is: spec.CommandOK. No conditions but sizes. -/
import Derived.Test.YtmdjcoeijlnloaaCmd
namespace Go.Proofs.Ytmdjcoeijlnloaa
set_option linter.unusedVariables false
set_option linter.unusedSimpArgs false
open Go.RowKit
theorem toList_beq_no {s : ByteArray} (h : ¬ s.toList = []) : (s.toList == []) = false := by
  cases hs : s.toList with
  | nil => exact absurd hs h
  | cons a l => rfl
theorem winP_no {s : ByteArray} (h : s.toList = []) : winP s = false := by
  have h1 : s = noS := by rw [noS_iff]; exact h
  subst h1
  rfl
theorem winP_no2 {s : ByteArray} (h : ¬ s.size ≤ 12) : winP s = false := by simp [winP]; omega
theorem body_range {k pn n ep : Int} {rw : Bool} {nm dt : ByteArray} (h : inB k 1 8 = false) : bodyOK k pn n ep rw nm dt = false := by
  simp [inB] at h
  unfold bodyOK
  rw [if_neg (by omega), if_neg (by omega), if_neg (by omega), if_neg (by omega), if_neg (by omega), if_neg (by omega), if_neg (by omega), if_neg (by omega)]
theorem inB_ne {n lo hi : Int} (h : inB n lo hi = true) (h1 : 1 ≤ lo) : n ≠ 0 := by
  simp [inB] at h
  omega
theorem isEmpty_dec (l : List UInt8) : l.isEmpty = decide (l = []) := by cases l <;> simp
theorem inB_no0 {hi : Int} : inB 0 1 hi = false := by simp [inB]
set_option maxRecDepth 100000 in
set_option maxHeartbeats 16000000 in
theorem specCmdOK_k1 (cl sq pn n ep : Int) (rw : Bool) (nm dt : ByteArray) (w : World) (hn : nm.size ≤ 1099511627776) (hd : dt.size ≤ 1099511627776) (ecl : Hid (inB cl 0 200 = true)) (esq : Hid (inB sq 1 60000 = true)) :
    Calls Try.prog 85 #[.agg #[.int .i64 1, .int .i64 cl, .int .i64 sq, .int .i64 pn, .int .i64 n, .int .i64 ep, .bool rw, .string nm, .string dt]] w fun e w' => e = .returned (.bool (cmdOK 1 cl sq pn n ep rw nm dt)) ∧ Below w.heap.size w w' := by
  have Ecl := ecl
  have Esq := esq
  clear ecl esq
  have Ek : Hid (inB 1 1 8 = true) := Lib.hid (by decide)
  obtain ⟨bnm, hnm⟩ : ∃ b, nameP nm = b := ⟨_, rfl⟩
  have Enm : Hid (nameP nm = bnm) := hnm
  clear hnm
  go_enter Try.func85, Try.ntmps85
  go_upto_region 5 with (first | (go_at_call 105; refine (l01In_c _ _ _ _).mono ?_; (first | rw [Ek.out] | rw [Ecl.out] | rw [Esq.out] | skip); rintro e wx ⟨rfl, rfl⟩) | (go_at_call 147; refine (specNameOK_c _ _ (by assumption)).mono ?_; (first | rw [Enm.out] | skip); rintro e wx ⟨rfl, rfl⟩))
  by_cases hp : pn = 0
  rotate_left
  · have hp1 : (pn != 0) = true := by simpa using hp
    have hp2 : (pn == 0) = false := by simpa using hp
    go_wp2_with (first | (go_at_call 105; refine (l01In_c _ _ _ _).mono ?_; (first | rw [Ek.out] | rw [Ecl.out] | rw [Esq.out] | skip); rintro e wx ⟨rfl, rfl⟩) | (go_at_call 147; refine (specNameOK_c _ _ (by assumption)).mono ?_; (first | rw [Enm.out] | skip); rintro e wx ⟨rfl, rfl⟩))
    all_goals
      go_ret
      exact ⟨by first | (simp [cmdOK, bodyOK, winP, Ek.out, Ecl.out, Esq.out, Enm.out,  noS_iff, *]; done) | (simp [cmdOK, bodyOK, winP, Ek.out, Ecl.out, Esq.out, Enm.out,  noS_iff, *]; exact isEmpty_dec _), (by repeat (first | exact Below.refl _ _ | (refine Below.alloc ?_ (by (try simp) <;> (try omega)) _) | (refine Below.setCell ?_ (by (try simp) <;> (try omega)) _) | (refine Below.drew ?_) | (refine Below.trans ?_ (Below.mono (by assumption) (by (try simp) <;> (try omega))))))⟩
  subst hp
  by_cases hs : nm.toList = []
  · have Ez := Lib.hid (winP_no hs)
    have hs2 : (nm.toList == []) = true := by rw [hs]; rfl
    go_wp2_with (first | (go_at_call 105; refine (l01In_c _ _ _ _).mono ?_; (first | rw [Ek.out] | rw [Ecl.out] | rw [Esq.out] | skip); rintro e wx ⟨rfl, rfl⟩) | (go_at_call 147; refine (specNameOK_c _ _ (by assumption)).mono ?_; (first | rw [Enm.out] | skip); rintro e wx ⟨rfl, rfl⟩))
    all_goals
      go_ret
      exact ⟨by simp [cmdOK, bodyOK, Ez.out], (by repeat (first | exact Below.refl _ _ | (refine Below.alloc ?_ (by (try simp) <;> (try omega)) _) | (refine Below.setCell ?_ (by (try simp) <;> (try omega)) _) | (refine Below.drew ?_) | (refine Below.trans ?_ (Below.mono (by assumption) (by (try simp) <;> (try omega))))))⟩
  have hs2 := toList_beq_no hs
  by_cases hz : nm.size ≤ 12
  rotate_left
  · have Ez := Lib.hid (winP_no2 hz)
    have hz2 : (12 : Int) < (nm.size : Int) := by omega
    go_wp2_with (first | (go_at_call 105; refine (l01In_c _ _ _ _).mono ?_; (first | rw [Ek.out] | rw [Ecl.out] | rw [Esq.out] | skip); rintro e wx ⟨rfl, rfl⟩) | (go_at_call 147; refine (specNameOK_c _ _ (by assumption)).mono ?_; (first | rw [Enm.out] | skip); rintro e wx ⟨rfl, rfl⟩))
    all_goals
      go_ret
      exact ⟨by simp [cmdOK, bodyOK, Ez.out], (by repeat (first | exact Below.refl _ _ | (refine Below.alloc ?_ (by (try simp) <;> (try omega)) _) | (refine Below.setCell ?_ (by (try simp) <;> (try omega)) _) | (refine Below.drew ?_) | (refine Below.trans ?_ (Below.mono (by assumption) (by (try simp) <;> (try omega))))))⟩
  have hz2 : (nm.size : Int) ≤ 12 := by omega
  cases bnm
  case false =>
    go_wp2_with (first | (go_at_call 105; refine (l01In_c _ _ _ _).mono ?_; (first | rw [Ek.out] | rw [Ecl.out] | rw [Esq.out] | skip); rintro e wx ⟨rfl, rfl⟩) | (go_at_call 147; refine (specNameOK_c _ _ (by assumption)).mono ?_; (first | rw [Enm.out] | skip); rintro e wx ⟨rfl, rfl⟩))
    all_goals
      go_ret
      exact ⟨by first | (simp [cmdOK, bodyOK, winP, Ek.out, Ecl.out, Esq.out, Enm.out,  noS_iff, *]; done) | (simp [cmdOK, bodyOK, winP, Ek.out, Ecl.out, Esq.out, Enm.out,  noS_iff, *]; exact isEmpty_dec _), (by repeat (first | exact Below.refl _ _ | (refine Below.alloc ?_ (by (try simp) <;> (try omega)) _) | (refine Below.setCell ?_ (by (try simp) <;> (try omega)) _) | (refine Below.drew ?_) | (refine Below.trans ?_ (Below.mono (by assumption) (by (try simp) <;> (try omega))))))⟩
  cases rw
  case true =>
    go_wp2_with (first | (go_at_call 105; refine (l01In_c _ _ _ _).mono ?_; (first | rw [Ek.out] | rw [Ecl.out] | rw [Esq.out] | skip); rintro e wx ⟨rfl, rfl⟩) | (go_at_call 147; refine (specNameOK_c _ _ (by assumption)).mono ?_; (first | rw [Enm.out] | skip); rintro e wx ⟨rfl, rfl⟩))
    all_goals
      go_ret
      exact ⟨by first | (simp [cmdOK, bodyOK, winP, Ek.out, Ecl.out, Esq.out, Enm.out,  noS_iff, *]; done) | (simp [cmdOK, bodyOK, winP, Ek.out, Ecl.out, Esq.out, Enm.out,  noS_iff, *]; exact isEmpty_dec _), (by repeat (first | exact Below.refl _ _ | (refine Below.alloc ?_ (by (try simp) <;> (try omega)) _) | (refine Below.setCell ?_ (by (try simp) <;> (try omega)) _) | (refine Below.drew ?_) | (refine Below.trans ?_ (Below.mono (by assumption) (by (try simp) <;> (try omega))))))⟩
  go_wp2_with (first | (go_at_call 105; refine (l01In_c _ _ _ _).mono ?_; (first | rw [Ek.out] | rw [Ecl.out] | rw [Esq.out] | skip); rintro e wx ⟨rfl, rfl⟩) | (go_at_call 147; refine (specNameOK_c _ _ (by assumption)).mono ?_; (first | rw [Enm.out] | skip); rintro e wx ⟨rfl, rfl⟩))
  all_goals
    go_ret
    exact ⟨by first | (simp [cmdOK, bodyOK, winP, Ek.out, Ecl.out, Esq.out, Enm.out,  noS_iff, *]; done) | (simp [cmdOK, bodyOK, winP, Ek.out, Ecl.out, Esq.out, Enm.out,  noS_iff, *]; exact isEmpty_dec _), (by repeat (first | exact Below.refl _ _ | (refine Below.alloc ?_ (by (try simp) <;> (try omega)) _) | (refine Below.setCell ?_ (by (try simp) <;> (try omega)) _) | (refine Below.drew ?_) | (refine Below.trans ?_ (Below.mono (by assumption) (by (try simp) <;> (try omega))))))⟩
set_option maxRecDepth 100000 in
set_option maxHeartbeats 16000000 in
theorem specCmdOK_k2 (cl sq pn n ep : Int) (rw : Bool) (nm dt : ByteArray) (w : World) (hn : nm.size ≤ 1099511627776) (hd : dt.size ≤ 1099511627776) (ecl : Hid (inB cl 0 200 = true)) (esq : Hid (inB sq 1 60000 = true)) :
    Calls Try.prog 85 #[.agg #[.int .i64 2, .int .i64 cl, .int .i64 sq, .int .i64 pn, .int .i64 n, .int .i64 ep, .bool rw, .string nm, .string dt]] w fun e w' => e = .returned (.bool (cmdOK 2 cl sq pn n ep rw nm dt)) ∧ Below w.heap.size w w' := by
  have Ecl := ecl
  have Esq := esq
  clear ecl esq
  have Ek : Hid (inB 2 1 8 = true) := Lib.hid (by decide)
  obtain ⟨bpn, hpn⟩ : ∃ b, inB pn 1 1000 = b := ⟨_, rfl⟩
  have Epn : Hid (inB pn 1 1000 = bpn) := hpn
  clear hpn
  go_enter Try.func85, Try.ntmps85
  go_upto_region 5 with (first | (go_at_call 105; refine (l01In_c _ _ _ _).mono ?_; (first | rw [Ek.out] | rw [Ecl.out] | rw [Esq.out] | rw [Epn.out] | skip); rintro e wx ⟨rfl, rfl⟩))
  by_cases hp : pn = 0
  · subst hp
    have Ez : Hid (bpn = false) := by rw [← Epn.out]; exact Lib.hid inB_no0
    obtain rfl : bpn = false := Ez
    go_wp2_with (first | (go_at_call 105; refine (l01In_c _ _ _ _).mono ?_; (first | rw [Ek.out] | rw [Ecl.out] | rw [Esq.out] | rw [Epn.out] | skip); rintro e wx ⟨rfl, rfl⟩))
    all_goals
      go_ret
      exact ⟨by first | (simp [cmdOK, bodyOK, winP, Ek.out, Ecl.out, Esq.out, Epn.out,  noS_iff, *]; done) | (simp [cmdOK, bodyOK, winP, Ek.out, Ecl.out, Esq.out, Epn.out,  noS_iff, *]; exact isEmpty_dec _), (by repeat (first | exact Below.refl _ _ | (refine Below.alloc ?_ (by (try simp) <;> (try omega)) _) | (refine Below.setCell ?_ (by (try simp) <;> (try omega)) _) | (refine Below.drew ?_) | (refine Below.trans ?_ (Below.mono (by assumption) (by (try simp) <;> (try omega))))))⟩
  have hp1 : (pn != 0) = true := by simpa using hp
  have hp2 : (pn == 0) = false := by simpa using hp
  cases bpn
  case false =>
    go_wp2_with (first | (go_at_call 105; refine (l01In_c _ _ _ _).mono ?_; (first | rw [Ek.out] | rw [Ecl.out] | rw [Esq.out] | rw [Epn.out] | skip); rintro e wx ⟨rfl, rfl⟩))
    all_goals
      go_ret
      exact ⟨by first | (simp [cmdOK, bodyOK, winP, Ek.out, Ecl.out, Esq.out, Epn.out,  noS_iff, *]; done) | (simp [cmdOK, bodyOK, winP, Ek.out, Ecl.out, Esq.out, Epn.out,  noS_iff, *]; exact isEmpty_dec _), (by repeat (first | exact Below.refl _ _ | (refine Below.alloc ?_ (by (try simp) <;> (try omega)) _) | (refine Below.setCell ?_ (by (try simp) <;> (try omega)) _) | (refine Below.drew ?_) | (refine Below.trans ?_ (Below.mono (by assumption) (by (try simp) <;> (try omega))))))⟩
  by_cases hs : nm.toList = []
  rotate_left
  · have hs2 := toList_beq_no hs
    go_wp2_with (first | (go_at_call 105; refine (l01In_c _ _ _ _).mono ?_; (first | rw [Ek.out] | rw [Ecl.out] | rw [Esq.out] | rw [Epn.out] | skip); rintro e wx ⟨rfl, rfl⟩))
    all_goals
      go_ret
      exact ⟨by first | (simp [cmdOK, bodyOK, winP, Ek.out, Ecl.out, Esq.out, Epn.out,  noS_iff, *]; done) | (simp [cmdOK, bodyOK, winP, Ek.out, Ecl.out, Esq.out, Epn.out,  noS_iff, *]; exact isEmpty_dec _), (by repeat (first | exact Below.refl _ _ | (refine Below.alloc ?_ (by (try simp) <;> (try omega)) _) | (refine Below.setCell ?_ (by (try simp) <;> (try omega)) _) | (refine Below.drew ?_) | (refine Below.trans ?_ (Below.mono (by assumption) (by (try simp) <;> (try omega))))))⟩
  have hs2 : (nm.toList == []) = true := by rw [hs]; rfl
  cases rw
  all_goals
    go_wp2_with (first | (go_at_call 105; refine (l01In_c _ _ _ _).mono ?_; (first | rw [Ek.out] | rw [Ecl.out] | rw [Esq.out] | rw [Epn.out] | skip); rintro e wx ⟨rfl, rfl⟩))
    all_goals
      go_ret
      exact ⟨by first | (simp [cmdOK, bodyOK, winP, Ek.out, Ecl.out, Esq.out, Epn.out,  noS_iff, *]; done) | (simp [cmdOK, bodyOK, winP, Ek.out, Ecl.out, Esq.out, Epn.out,  noS_iff, *]; exact isEmpty_dec _), (by repeat (first | exact Below.refl _ _ | (refine Below.alloc ?_ (by (try simp) <;> (try omega)) _) | (refine Below.setCell ?_ (by (try simp) <;> (try omega)) _) | (refine Below.drew ?_) | (refine Below.trans ?_ (Below.mono (by assumption) (by (try simp) <;> (try omega))))))⟩
set_option maxRecDepth 100000 in
set_option maxHeartbeats 16000000 in
theorem specCmdOK_k3 (cl sq pn n ep : Int) (rw : Bool) (nm dt : ByteArray) (w : World) (hn : nm.size ≤ 1099511627776) (hd : dt.size ≤ 1099511627776) (ecl : Hid (inB cl 0 200 = true)) (esq : Hid (inB sq 1 60000 = true)) :
    Calls Try.prog 85 #[.agg #[.int .i64 3, .int .i64 cl, .int .i64 sq, .int .i64 pn, .int .i64 n, .int .i64 ep, .bool rw, .string nm, .string dt]] w fun e w' => e = .returned (.bool (cmdOK 3 cl sq pn n ep rw nm dt)) ∧ Below w.heap.size w w' := by
  have Ecl := ecl
  have Esq := esq
  clear ecl esq
  have Ek : Hid (inB 3 1 8 = true) := Lib.hid (by decide)
  obtain ⟨bpn, hpn⟩ : ∃ b, inB pn 1 1000 = b := ⟨_, rfl⟩
  have Epn : Hid (inB pn 1 1000 = bpn) := hpn
  clear hpn
  go_enter Try.func85, Try.ntmps85
  go_upto_region 5 with (first | (go_at_call 105; refine (l01In_c _ _ _ _).mono ?_; (first | rw [Ek.out] | rw [Ecl.out] | rw [Esq.out] | rw [Epn.out] | skip); rintro e wx ⟨rfl, rfl⟩))
  by_cases hp : pn = 0
  · subst hp
    have Ez : Hid (bpn = false) := by rw [← Epn.out]; exact Lib.hid inB_no0
    obtain rfl : bpn = false := Ez
    go_wp2_with (first | (go_at_call 105; refine (l01In_c _ _ _ _).mono ?_; (first | rw [Ek.out] | rw [Ecl.out] | rw [Esq.out] | rw [Epn.out] | skip); rintro e wx ⟨rfl, rfl⟩))
    all_goals
      go_ret
      exact ⟨by first | (simp [cmdOK, bodyOK, winP, Ek.out, Ecl.out, Esq.out, Epn.out,  noS_iff, *]; done) | (simp [cmdOK, bodyOK, winP, Ek.out, Ecl.out, Esq.out, Epn.out,  noS_iff, *]; exact isEmpty_dec _), (by repeat (first | exact Below.refl _ _ | (refine Below.alloc ?_ (by (try simp) <;> (try omega)) _) | (refine Below.setCell ?_ (by (try simp) <;> (try omega)) _) | (refine Below.drew ?_) | (refine Below.trans ?_ (Below.mono (by assumption) (by (try simp) <;> (try omega))))))⟩
  have hp1 : (pn != 0) = true := by simpa using hp
  have hp2 : (pn == 0) = false := by simpa using hp
  cases bpn
  case false =>
    go_wp2_with (first | (go_at_call 105; refine (l01In_c _ _ _ _).mono ?_; (first | rw [Ek.out] | rw [Ecl.out] | rw [Esq.out] | rw [Epn.out] | skip); rintro e wx ⟨rfl, rfl⟩))
    all_goals
      go_ret
      exact ⟨by first | (simp [cmdOK, bodyOK, winP, Ek.out, Ecl.out, Esq.out, Epn.out,  noS_iff, *]; done) | (simp [cmdOK, bodyOK, winP, Ek.out, Ecl.out, Esq.out, Epn.out,  noS_iff, *]; exact isEmpty_dec _), (by repeat (first | exact Below.refl _ _ | (refine Below.alloc ?_ (by (try simp) <;> (try omega)) _) | (refine Below.setCell ?_ (by (try simp) <;> (try omega)) _) | (refine Below.drew ?_) | (refine Below.trans ?_ (Below.mono (by assumption) (by (try simp) <;> (try omega))))))⟩
  by_cases hs : nm.toList = []
  rotate_left
  · have hs2 := toList_beq_no hs
    go_wp2_with (first | (go_at_call 105; refine (l01In_c _ _ _ _).mono ?_; (first | rw [Ek.out] | rw [Ecl.out] | rw [Esq.out] | rw [Epn.out] | skip); rintro e wx ⟨rfl, rfl⟩))
    all_goals
      go_ret
      exact ⟨by first | (simp [cmdOK, bodyOK, winP, Ek.out, Ecl.out, Esq.out, Epn.out,  noS_iff, *]; done) | (simp [cmdOK, bodyOK, winP, Ek.out, Ecl.out, Esq.out, Epn.out,  noS_iff, *]; exact isEmpty_dec _), (by repeat (first | exact Below.refl _ _ | (refine Below.alloc ?_ (by (try simp) <;> (try omega)) _) | (refine Below.setCell ?_ (by (try simp) <;> (try omega)) _) | (refine Below.drew ?_) | (refine Below.trans ?_ (Below.mono (by assumption) (by (try simp) <;> (try omega))))))⟩
  have hs2 : (nm.toList == []) = true := by rw [hs]; rfl
  cases rw
  case true =>
    go_wp2_with (first | (go_at_call 105; refine (l01In_c _ _ _ _).mono ?_; (first | rw [Ek.out] | rw [Ecl.out] | rw [Esq.out] | rw [Epn.out] | skip); rintro e wx ⟨rfl, rfl⟩))
    all_goals
      go_ret
      exact ⟨by first | (simp [cmdOK, bodyOK, winP, Ek.out, Ecl.out, Esq.out, Epn.out,  noS_iff, *]; done) | (simp [cmdOK, bodyOK, winP, Ek.out, Ecl.out, Esq.out, Epn.out,  noS_iff, *]; exact isEmpty_dec _), (by repeat (first | exact Below.refl _ _ | (refine Below.alloc ?_ (by (try simp) <;> (try omega)) _) | (refine Below.setCell ?_ (by (try simp) <;> (try omega)) _) | (refine Below.drew ?_) | (refine Below.trans ?_ (Below.mono (by assumption) (by (try simp) <;> (try omega))))))⟩
  go_wp2_with (first | (go_at_call 105; refine (l01In_c _ _ _ _).mono ?_; (first | rw [Ek.out] | rw [Ecl.out] | rw [Esq.out] | rw [Epn.out] | skip); rintro e wx ⟨rfl, rfl⟩))
  all_goals
    go_ret
    exact ⟨by first | (simp [cmdOK, bodyOK, winP, Ek.out, Ecl.out, Esq.out, Epn.out,  noS_iff, *]; done) | (simp [cmdOK, bodyOK, winP, Ek.out, Ecl.out, Esq.out, Epn.out,  noS_iff, *]; exact isEmpty_dec _), (by repeat (first | exact Below.refl _ _ | (refine Below.alloc ?_ (by (try simp) <;> (try omega)) _) | (refine Below.setCell ?_ (by (try simp) <;> (try omega)) _) | (refine Below.drew ?_) | (refine Below.trans ?_ (Below.mono (by assumption) (by (try simp) <;> (try omega))))))⟩
set_option maxRecDepth 100000 in
set_option maxHeartbeats 16000000 in
theorem specCmdOK_k4 (cl sq pn n ep : Int) (rw : Bool) (nm dt : ByteArray) (w : World) (hn : nm.size ≤ 1099511627776) (hd : dt.size ≤ 1099511627776) (ecl : Hid (inB cl 0 200 = true)) (esq : Hid (inB sq 1 60000 = true)) :
    Calls Try.prog 85 #[.agg #[.int .i64 4, .int .i64 cl, .int .i64 sq, .int .i64 pn, .int .i64 n, .int .i64 ep, .bool rw, .string nm, .string dt]] w fun e w' => e = .returned (.bool (cmdOK 4 cl sq pn n ep rw nm dt)) ∧ Below w.heap.size w w' := by
  have Ecl := ecl
  have Esq := esq
  clear ecl esq
  have Ek : Hid (inB 4 1 8 = true) := Lib.hid (by decide)
  obtain ⟨bpn, hpn⟩ : ∃ b, inB pn 1 1000 = b := ⟨_, rfl⟩
  have Epn : Hid (inB pn 1 1000 = bpn) := hpn
  clear hpn
  obtain ⟨bn, hn⟩ : ∃ b, inB n (-100) 100 = b := ⟨_, rfl⟩
  have En : Hid (inB n (-100) 100 = bn) := hn
  clear hn
  go_enter Try.func85, Try.ntmps85
  go_upto_region 5 with (first | (go_at_call 105; refine (l01In_c _ _ _ _).mono ?_; (first | rw [Ek.out] | rw [Ecl.out] | rw [Esq.out] | rw [Epn.out] | rw [En.out] | skip); rintro e wx ⟨rfl, rfl⟩))
  by_cases hp : pn = 0
  · subst hp
    have Ez : Hid (bpn = false) := by rw [← Epn.out]; exact Lib.hid inB_no0
    obtain rfl : bpn = false := Ez
    go_wp2_with (first | (go_at_call 105; refine (l01In_c _ _ _ _).mono ?_; (first | rw [Ek.out] | rw [Ecl.out] | rw [Esq.out] | rw [Epn.out] | rw [En.out] | skip); rintro e wx ⟨rfl, rfl⟩))
    all_goals
      go_ret
      exact ⟨by first | (simp [cmdOK, bodyOK, winP, Ek.out, Ecl.out, Esq.out, Epn.out, En.out,  noS_iff, *]; done) | (simp [cmdOK, bodyOK, winP, Ek.out, Ecl.out, Esq.out, Epn.out, En.out,  noS_iff, *]; exact isEmpty_dec _), (by repeat (first | exact Below.refl _ _ | (refine Below.alloc ?_ (by (try simp) <;> (try omega)) _) | (refine Below.setCell ?_ (by (try simp) <;> (try omega)) _) | (refine Below.drew ?_) | (refine Below.trans ?_ (Below.mono (by assumption) (by (try simp) <;> (try omega))))))⟩
  have hp1 : (pn != 0) = true := by simpa using hp
  have hp2 : (pn == 0) = false := by simpa using hp
  cases bpn
  case false =>
    go_wp2_with (first | (go_at_call 105; refine (l01In_c _ _ _ _).mono ?_; (first | rw [Ek.out] | rw [Ecl.out] | rw [Esq.out] | rw [Epn.out] | rw [En.out] | skip); rintro e wx ⟨rfl, rfl⟩))
    all_goals
      go_ret
      exact ⟨by first | (simp [cmdOK, bodyOK, winP, Ek.out, Ecl.out, Esq.out, Epn.out, En.out,  noS_iff, *]; done) | (simp [cmdOK, bodyOK, winP, Ek.out, Ecl.out, Esq.out, Epn.out, En.out,  noS_iff, *]; exact isEmpty_dec _), (by repeat (first | exact Below.refl _ _ | (refine Below.alloc ?_ (by (try simp) <;> (try omega)) _) | (refine Below.setCell ?_ (by (try simp) <;> (try omega)) _) | (refine Below.drew ?_) | (refine Below.trans ?_ (Below.mono (by assumption) (by (try simp) <;> (try omega))))))⟩
  by_cases hs : nm.toList = []
  rotate_left
  · have hs2 := toList_beq_no hs
    go_wp2_with (first | (go_at_call 105; refine (l01In_c _ _ _ _).mono ?_; (first | rw [Ek.out] | rw [Ecl.out] | rw [Esq.out] | rw [Epn.out] | rw [En.out] | skip); rintro e wx ⟨rfl, rfl⟩))
    all_goals
      go_ret
      exact ⟨by first | (simp [cmdOK, bodyOK, winP, Ek.out, Ecl.out, Esq.out, Epn.out, En.out,  noS_iff, *]; done) | (simp [cmdOK, bodyOK, winP, Ek.out, Ecl.out, Esq.out, Epn.out, En.out,  noS_iff, *]; exact isEmpty_dec _), (by repeat (first | exact Below.refl _ _ | (refine Below.alloc ?_ (by (try simp) <;> (try omega)) _) | (refine Below.setCell ?_ (by (try simp) <;> (try omega)) _) | (refine Below.drew ?_) | (refine Below.trans ?_ (Below.mono (by assumption) (by (try simp) <;> (try omega))))))⟩
  have hs2 : (nm.toList == []) = true := by rw [hs]; rfl
  cases rw
  case true =>
    go_wp2_with (first | (go_at_call 105; refine (l01In_c _ _ _ _).mono ?_; (first | rw [Ek.out] | rw [Ecl.out] | rw [Esq.out] | rw [Epn.out] | rw [En.out] | skip); rintro e wx ⟨rfl, rfl⟩))
    all_goals
      go_ret
      exact ⟨by first | (simp [cmdOK, bodyOK, winP, Ek.out, Ecl.out, Esq.out, Epn.out, En.out,  noS_iff, *]; done) | (simp [cmdOK, bodyOK, winP, Ek.out, Ecl.out, Esq.out, Epn.out, En.out,  noS_iff, *]; exact isEmpty_dec _), (by repeat (first | exact Below.refl _ _ | (refine Below.alloc ?_ (by (try simp) <;> (try omega)) _) | (refine Below.setCell ?_ (by (try simp) <;> (try omega)) _) | (refine Below.drew ?_) | (refine Below.trans ?_ (Below.mono (by assumption) (by (try simp) <;> (try omega))))))⟩
  cases bn
  case false =>
    go_wp2_with (first | (go_at_call 105; refine (l01In_c _ _ _ _).mono ?_; (first | rw [Ek.out] | rw [Ecl.out] | rw [Esq.out] | rw [Epn.out] | rw [En.out] | skip); rintro e wx ⟨rfl, rfl⟩))
    all_goals
      go_ret
      exact ⟨by first | (simp [cmdOK, bodyOK, winP, Ek.out, Ecl.out, Esq.out, Epn.out, En.out,  noS_iff, *]; done) | (simp [cmdOK, bodyOK, winP, Ek.out, Ecl.out, Esq.out, Epn.out, En.out,  noS_iff, *]; exact isEmpty_dec _), (by repeat (first | exact Below.refl _ _ | (refine Below.alloc ?_ (by (try simp) <;> (try omega)) _) | (refine Below.setCell ?_ (by (try simp) <;> (try omega)) _) | (refine Below.drew ?_) | (refine Below.trans ?_ (Below.mono (by assumption) (by (try simp) <;> (try omega))))))⟩
  go_wp2_with (first | (go_at_call 105; refine (l01In_c _ _ _ _).mono ?_; (first | rw [Ek.out] | rw [Ecl.out] | rw [Esq.out] | rw [Epn.out] | rw [En.out] | skip); rintro e wx ⟨rfl, rfl⟩))
  all_goals
    go_ret
    exact ⟨by first | (simp [cmdOK, bodyOK, winP, Ek.out, Ecl.out, Esq.out, Epn.out, En.out,  noS_iff, *]; done) | (simp [cmdOK, bodyOK, winP, Ek.out, Ecl.out, Esq.out, Epn.out, En.out,  noS_iff, *]; exact isEmpty_dec _), (by repeat (first | exact Below.refl _ _ | (refine Below.alloc ?_ (by (try simp) <;> (try omega)) _) | (refine Below.setCell ?_ (by (try simp) <;> (try omega)) _) | (refine Below.drew ?_) | (refine Below.trans ?_ (Below.mono (by assumption) (by (try simp) <;> (try omega))))))⟩
set_option maxRecDepth 100000 in
set_option maxHeartbeats 16000000 in
theorem specCmdOK_k5 (cl sq pn n ep : Int) (rw : Bool) (nm dt : ByteArray) (w : World) (hn : nm.size ≤ 1099511627776) (hd : dt.size ≤ 1099511627776) (ecl : Hid (inB cl 0 200 = true)) (esq : Hid (inB sq 1 60000 = true)) :
    Calls Try.prog 85 #[.agg #[.int .i64 5, .int .i64 cl, .int .i64 sq, .int .i64 pn, .int .i64 n, .int .i64 ep, .bool rw, .string nm, .string dt]] w fun e w' => e = .returned (.bool (cmdOK 5 cl sq pn n ep rw nm dt)) ∧ Below w.heap.size w w' := by
  have Ecl := ecl
  have Esq := esq
  clear ecl esq
  have Ek : Hid (inB 5 1 8 = true) := Lib.hid (by decide)
  obtain ⟨bpn, hpn⟩ : ∃ b, inB pn 1 1000 = b := ⟨_, rfl⟩
  have Epn : Hid (inB pn 1 1000 = bpn) := hpn
  clear hpn
  obtain ⟨bep, hep⟩ : ∃ b, inB ep 1 60000 = b := ⟨_, rfl⟩
  have Eep : Hid (inB ep 1 60000 = bep) := hep
  clear hep
  obtain ⟨bdt, hdt⟩ : ∃ b, inB dt.size 1 200 = b := ⟨_, rfl⟩
  have Edt : Hid (inB dt.size 1 200 = bdt) := hdt
  clear hdt
  go_enter Try.func85, Try.ntmps85
  go_upto_region 5 with (first | (go_at_call 105; refine (l01In_c _ _ _ _).mono ?_; (first | rw [Ek.out] | rw [Ecl.out] | rw [Esq.out] | rw [Epn.out] | rw [Eep.out] | rw [Edt.out] | skip); rintro e wx ⟨rfl, rfl⟩))
  by_cases hp : pn = 0
  · subst hp
    have Ez : Hid (bpn = false) := by rw [← Epn.out]; exact Lib.hid inB_no0
    obtain rfl : bpn = false := Ez
    go_wp2_with (first | (go_at_call 105; refine (l01In_c _ _ _ _).mono ?_; (first | rw [Ek.out] | rw [Ecl.out] | rw [Esq.out] | rw [Epn.out] | rw [Eep.out] | rw [Edt.out] | skip); rintro e wx ⟨rfl, rfl⟩))
    all_goals
      go_ret
      exact ⟨by first | (simp [cmdOK, bodyOK, winP, Ek.out, Ecl.out, Esq.out, Epn.out, Eep.out, Edt.out,  noS_iff, *]; done) | (simp [cmdOK, bodyOK, winP, Ek.out, Ecl.out, Esq.out, Epn.out, Eep.out, Edt.out,  noS_iff, *]; exact isEmpty_dec _), (by repeat (first | exact Below.refl _ _ | (refine Below.alloc ?_ (by (try simp) <;> (try omega)) _) | (refine Below.setCell ?_ (by (try simp) <;> (try omega)) _) | (refine Below.drew ?_) | (refine Below.trans ?_ (Below.mono (by assumption) (by (try simp) <;> (try omega))))))⟩
  have hp1 : (pn != 0) = true := by simpa using hp
  have hp2 : (pn == 0) = false := by simpa using hp
  cases bpn
  case false =>
    go_wp2_with (first | (go_at_call 105; refine (l01In_c _ _ _ _).mono ?_; (first | rw [Ek.out] | rw [Ecl.out] | rw [Esq.out] | rw [Epn.out] | rw [Eep.out] | rw [Edt.out] | skip); rintro e wx ⟨rfl, rfl⟩))
    all_goals
      go_ret
      exact ⟨by first | (simp [cmdOK, bodyOK, winP, Ek.out, Ecl.out, Esq.out, Epn.out, Eep.out, Edt.out,  noS_iff, *]; done) | (simp [cmdOK, bodyOK, winP, Ek.out, Ecl.out, Esq.out, Epn.out, Eep.out, Edt.out,  noS_iff, *]; exact isEmpty_dec _), (by repeat (first | exact Below.refl _ _ | (refine Below.alloc ?_ (by (try simp) <;> (try omega)) _) | (refine Below.setCell ?_ (by (try simp) <;> (try omega)) _) | (refine Below.drew ?_) | (refine Below.trans ?_ (Below.mono (by assumption) (by (try simp) <;> (try omega))))))⟩
  by_cases hs : nm.toList = []
  rotate_left
  · have hs2 := toList_beq_no hs
    go_wp2_with (first | (go_at_call 105; refine (l01In_c _ _ _ _).mono ?_; (first | rw [Ek.out] | rw [Ecl.out] | rw [Esq.out] | rw [Epn.out] | rw [Eep.out] | rw [Edt.out] | skip); rintro e wx ⟨rfl, rfl⟩))
    all_goals
      go_ret
      exact ⟨by first | (simp [cmdOK, bodyOK, winP, Ek.out, Ecl.out, Esq.out, Epn.out, Eep.out, Edt.out,  noS_iff, *]; done) | (simp [cmdOK, bodyOK, winP, Ek.out, Ecl.out, Esq.out, Epn.out, Eep.out, Edt.out,  noS_iff, *]; exact isEmpty_dec _), (by repeat (first | exact Below.refl _ _ | (refine Below.alloc ?_ (by (try simp) <;> (try omega)) _) | (refine Below.setCell ?_ (by (try simp) <;> (try omega)) _) | (refine Below.drew ?_) | (refine Below.trans ?_ (Below.mono (by assumption) (by (try simp) <;> (try omega))))))⟩
  have hs2 : (nm.toList == []) = true := by rw [hs]; rfl
  cases rw
  case true =>
    go_wp2_with (first | (go_at_call 105; refine (l01In_c _ _ _ _).mono ?_; (first | rw [Ek.out] | rw [Ecl.out] | rw [Esq.out] | rw [Epn.out] | rw [Eep.out] | rw [Edt.out] | skip); rintro e wx ⟨rfl, rfl⟩))
    all_goals
      go_ret
      exact ⟨by first | (simp [cmdOK, bodyOK, winP, Ek.out, Ecl.out, Esq.out, Epn.out, Eep.out, Edt.out,  noS_iff, *]; done) | (simp [cmdOK, bodyOK, winP, Ek.out, Ecl.out, Esq.out, Epn.out, Eep.out, Edt.out,  noS_iff, *]; exact isEmpty_dec _), (by repeat (first | exact Below.refl _ _ | (refine Below.alloc ?_ (by (try simp) <;> (try omega)) _) | (refine Below.setCell ?_ (by (try simp) <;> (try omega)) _) | (refine Below.drew ?_) | (refine Below.trans ?_ (Below.mono (by assumption) (by (try simp) <;> (try omega))))))⟩
  cases bep
  case false =>
    go_wp2_with (first | (go_at_call 105; refine (l01In_c _ _ _ _).mono ?_; (first | rw [Ek.out] | rw [Ecl.out] | rw [Esq.out] | rw [Epn.out] | rw [Eep.out] | rw [Edt.out] | skip); rintro e wx ⟨rfl, rfl⟩))
    all_goals
      go_ret
      exact ⟨by first | (simp [cmdOK, bodyOK, winP, Ek.out, Ecl.out, Esq.out, Epn.out, Eep.out, Edt.out,  noS_iff, *]; done) | (simp [cmdOK, bodyOK, winP, Ek.out, Ecl.out, Esq.out, Epn.out, Eep.out, Edt.out,  noS_iff, *]; exact isEmpty_dec _), (by repeat (first | exact Below.refl _ _ | (refine Below.alloc ?_ (by (try simp) <;> (try omega)) _) | (refine Below.setCell ?_ (by (try simp) <;> (try omega)) _) | (refine Below.drew ?_) | (refine Below.trans ?_ (Below.mono (by assumption) (by (try simp) <;> (try omega))))))⟩
  cases bdt
  case false =>
    go_wp2_with (first | (go_at_call 105; refine (l01In_c _ _ _ _).mono ?_; (first | rw [Ek.out] | rw [Ecl.out] | rw [Esq.out] | rw [Epn.out] | rw [Eep.out] | rw [Edt.out] | skip); rintro e wx ⟨rfl, rfl⟩))
    all_goals
      go_ret
      exact ⟨by first | (simp [cmdOK, bodyOK, winP, Ek.out, Ecl.out, Esq.out, Epn.out, Eep.out, Edt.out,  noS_iff, *]; done) | (simp [cmdOK, bodyOK, winP, Ek.out, Ecl.out, Esq.out, Epn.out, Eep.out, Edt.out,  noS_iff, *]; exact isEmpty_dec _), (by repeat (first | exact Below.refl _ _ | (refine Below.alloc ?_ (by (try simp) <;> (try omega)) _) | (refine Below.setCell ?_ (by (try simp) <;> (try omega)) _) | (refine Below.drew ?_) | (refine Below.trans ?_ (Below.mono (by assumption) (by (try simp) <;> (try omega))))))⟩
  go_wp2_with (first | (go_at_call 105; refine (l01In_c _ _ _ _).mono ?_; (first | rw [Ek.out] | rw [Ecl.out] | rw [Esq.out] | rw [Epn.out] | rw [Eep.out] | rw [Edt.out] | skip); rintro e wx ⟨rfl, rfl⟩))
  all_goals
    go_ret
    exact ⟨by first | (simp [cmdOK, bodyOK, winP, Ek.out, Ecl.out, Esq.out, Epn.out, Eep.out, Edt.out,  noS_iff, *]; done) | (simp [cmdOK, bodyOK, winP, Ek.out, Ecl.out, Esq.out, Epn.out, Eep.out, Edt.out,  noS_iff, *]; exact isEmpty_dec _), (by repeat (first | exact Below.refl _ _ | (refine Below.alloc ?_ (by (try simp) <;> (try omega)) _) | (refine Below.setCell ?_ (by (try simp) <;> (try omega)) _) | (refine Below.drew ?_) | (refine Below.trans ?_ (Below.mono (by assumption) (by (try simp) <;> (try omega))))))⟩
set_option maxRecDepth 100000 in
set_option maxHeartbeats 16000000 in
theorem specCmdOK_k6 (cl sq pn n ep : Int) (rw : Bool) (nm dt : ByteArray) (w : World) (hn : nm.size ≤ 1099511627776) (hd : dt.size ≤ 1099511627776) (ecl : Hid (inB cl 0 200 = true)) (esq : Hid (inB sq 1 60000 = true)) :
    Calls Try.prog 85 #[.agg #[.int .i64 6, .int .i64 cl, .int .i64 sq, .int .i64 pn, .int .i64 n, .int .i64 ep, .bool rw, .string nm, .string dt]] w fun e w' => e = .returned (.bool (cmdOK 6 cl sq pn n ep rw nm dt)) ∧ Below w.heap.size w w' := by
  have Ecl := ecl
  have Esq := esq
  clear ecl esq
  have Ek : Hid (inB 6 1 8 = true) := Lib.hid (by decide)
  obtain ⟨bpn, hpn⟩ : ∃ b, inB pn 1 1000 = b := ⟨_, rfl⟩
  have Epn : Hid (inB pn 1 1000 = bpn) := hpn
  clear hpn
  obtain ⟨bn, hn⟩ : ∃ b, inB n 0 200 = b := ⟨_, rfl⟩
  have En : Hid (inB n 0 200 = bn) := hn
  clear hn
  go_enter Try.func85, Try.ntmps85
  go_upto_region 5 with (first | (go_at_call 105; refine (l01In_c _ _ _ _).mono ?_; (first | rw [Ek.out] | rw [Ecl.out] | rw [Esq.out] | rw [Epn.out] | rw [En.out] | skip); rintro e wx ⟨rfl, rfl⟩))
  by_cases hp : pn = 0
  · subst hp
    have Ez : Hid (bpn = false) := by rw [← Epn.out]; exact Lib.hid inB_no0
    obtain rfl : bpn = false := Ez
    go_wp2_with (first | (go_at_call 105; refine (l01In_c _ _ _ _).mono ?_; (first | rw [Ek.out] | rw [Ecl.out] | rw [Esq.out] | rw [Epn.out] | rw [En.out] | skip); rintro e wx ⟨rfl, rfl⟩))
    all_goals
      go_ret
      exact ⟨by first | (simp [cmdOK, bodyOK, winP, Ek.out, Ecl.out, Esq.out, Epn.out, En.out,  noS_iff, *]; done) | (simp [cmdOK, bodyOK, winP, Ek.out, Ecl.out, Esq.out, Epn.out, En.out,  noS_iff, *]; exact isEmpty_dec _), (by repeat (first | exact Below.refl _ _ | (refine Below.alloc ?_ (by (try simp) <;> (try omega)) _) | (refine Below.setCell ?_ (by (try simp) <;> (try omega)) _) | (refine Below.drew ?_) | (refine Below.trans ?_ (Below.mono (by assumption) (by (try simp) <;> (try omega))))))⟩
  have hp1 : (pn != 0) = true := by simpa using hp
  have hp2 : (pn == 0) = false := by simpa using hp
  cases bpn
  case false =>
    go_wp2_with (first | (go_at_call 105; refine (l01In_c _ _ _ _).mono ?_; (first | rw [Ek.out] | rw [Ecl.out] | rw [Esq.out] | rw [Epn.out] | rw [En.out] | skip); rintro e wx ⟨rfl, rfl⟩))
    all_goals
      go_ret
      exact ⟨by first | (simp [cmdOK, bodyOK, winP, Ek.out, Ecl.out, Esq.out, Epn.out, En.out,  noS_iff, *]; done) | (simp [cmdOK, bodyOK, winP, Ek.out, Ecl.out, Esq.out, Epn.out, En.out,  noS_iff, *]; exact isEmpty_dec _), (by repeat (first | exact Below.refl _ _ | (refine Below.alloc ?_ (by (try simp) <;> (try omega)) _) | (refine Below.setCell ?_ (by (try simp) <;> (try omega)) _) | (refine Below.drew ?_) | (refine Below.trans ?_ (Below.mono (by assumption) (by (try simp) <;> (try omega))))))⟩
  by_cases hs : nm.toList = []
  rotate_left
  · have hs2 := toList_beq_no hs
    go_wp2_with (first | (go_at_call 105; refine (l01In_c _ _ _ _).mono ?_; (first | rw [Ek.out] | rw [Ecl.out] | rw [Esq.out] | rw [Epn.out] | rw [En.out] | skip); rintro e wx ⟨rfl, rfl⟩))
    all_goals
      go_ret
      exact ⟨by first | (simp [cmdOK, bodyOK, winP, Ek.out, Ecl.out, Esq.out, Epn.out, En.out,  noS_iff, *]; done) | (simp [cmdOK, bodyOK, winP, Ek.out, Ecl.out, Esq.out, Epn.out, En.out,  noS_iff, *]; exact isEmpty_dec _), (by repeat (first | exact Below.refl _ _ | (refine Below.alloc ?_ (by (try simp) <;> (try omega)) _) | (refine Below.setCell ?_ (by (try simp) <;> (try omega)) _) | (refine Below.drew ?_) | (refine Below.trans ?_ (Below.mono (by assumption) (by (try simp) <;> (try omega))))))⟩
  have hs2 : (nm.toList == []) = true := by rw [hs]; rfl
  cases rw
  case true =>
    go_wp2_with (first | (go_at_call 105; refine (l01In_c _ _ _ _).mono ?_; (first | rw [Ek.out] | rw [Ecl.out] | rw [Esq.out] | rw [Epn.out] | rw [En.out] | skip); rintro e wx ⟨rfl, rfl⟩))
    all_goals
      go_ret
      exact ⟨by first | (simp [cmdOK, bodyOK, winP, Ek.out, Ecl.out, Esq.out, Epn.out, En.out,  noS_iff, *]; done) | (simp [cmdOK, bodyOK, winP, Ek.out, Ecl.out, Esq.out, Epn.out, En.out,  noS_iff, *]; exact isEmpty_dec _), (by repeat (first | exact Below.refl _ _ | (refine Below.alloc ?_ (by (try simp) <;> (try omega)) _) | (refine Below.setCell ?_ (by (try simp) <;> (try omega)) _) | (refine Below.drew ?_) | (refine Below.trans ?_ (Below.mono (by assumption) (by (try simp) <;> (try omega))))))⟩
  cases bn
  case false =>
    go_wp2_with (first | (go_at_call 105; refine (l01In_c _ _ _ _).mono ?_; (first | rw [Ek.out] | rw [Ecl.out] | rw [Esq.out] | rw [Epn.out] | rw [En.out] | skip); rintro e wx ⟨rfl, rfl⟩))
    all_goals
      go_ret
      exact ⟨by first | (simp [cmdOK, bodyOK, winP, Ek.out, Ecl.out, Esq.out, Epn.out, En.out,  noS_iff, *]; done) | (simp [cmdOK, bodyOK, winP, Ek.out, Ecl.out, Esq.out, Epn.out, En.out,  noS_iff, *]; exact isEmpty_dec _), (by repeat (first | exact Below.refl _ _ | (refine Below.alloc ?_ (by (try simp) <;> (try omega)) _) | (refine Below.setCell ?_ (by (try simp) <;> (try omega)) _) | (refine Below.drew ?_) | (refine Below.trans ?_ (Below.mono (by assumption) (by (try simp) <;> (try omega))))))⟩
  go_wp2_with (first | (go_at_call 105; refine (l01In_c _ _ _ _).mono ?_; (first | rw [Ek.out] | rw [Ecl.out] | rw [Esq.out] | rw [Epn.out] | rw [En.out] | skip); rintro e wx ⟨rfl, rfl⟩))
  all_goals
    go_ret
    exact ⟨by first | (simp [cmdOK, bodyOK, winP, Ek.out, Ecl.out, Esq.out, Epn.out, En.out,  noS_iff, *]; done) | (simp [cmdOK, bodyOK, winP, Ek.out, Ecl.out, Esq.out, Epn.out, En.out,  noS_iff, *]; exact isEmpty_dec _), (by repeat (first | exact Below.refl _ _ | (refine Below.alloc ?_ (by (try simp) <;> (try omega)) _) | (refine Below.setCell ?_ (by (try simp) <;> (try omega)) _) | (refine Below.drew ?_) | (refine Below.trans ?_ (Below.mono (by assumption) (by (try simp) <;> (try omega))))))⟩
set_option maxRecDepth 100000 in
set_option maxHeartbeats 16000000 in
theorem specCmdOK_k7 (cl sq pn n ep : Int) (rw : Bool) (nm dt : ByteArray) (w : World) (hn : nm.size ≤ 1099511627776) (hd : dt.size ≤ 1099511627776) (ecl : Hid (inB cl 0 200 = true)) (esq : Hid (inB sq 1 60000 = true)) :
    Calls Try.prog 85 #[.agg #[.int .i64 7, .int .i64 cl, .int .i64 sq, .int .i64 pn, .int .i64 n, .int .i64 ep, .bool rw, .string nm, .string dt]] w fun e w' => e = .returned (.bool (cmdOK 7 cl sq pn n ep rw nm dt)) ∧ Below w.heap.size w w' := by
  have Ecl := ecl
  have Esq := esq
  clear ecl esq
  have Ek : Hid (inB 7 1 8 = true) := Lib.hid (by decide)
  obtain ⟨bn, hn⟩ : ∃ b, inB n 2 24 = b := ⟨_, rfl⟩
  have En : Hid (inB n 2 24 = bn) := hn
  clear hn
  obtain ⟨bep, hep⟩ : ∃ b, inB ep 2 10 = b := ⟨_, rfl⟩
  have Eep : Hid (inB ep 2 10 = bep) := hep
  clear hep
  go_enter Try.func85, Try.ntmps85
  go_upto_region 5 with (first | (go_at_call 105; refine (l01In_c _ _ _ _).mono ?_; (first | rw [Ek.out] | rw [Ecl.out] | rw [Esq.out] | rw [En.out] | rw [Eep.out] | skip); rintro e wx ⟨rfl, rfl⟩))
  by_cases hp : pn = 0
  rotate_left
  · have hp1 : (pn != 0) = true := by simpa using hp
    have hp2 : (pn == 0) = false := by simpa using hp
    go_wp2_with (first | (go_at_call 105; refine (l01In_c _ _ _ _).mono ?_; (first | rw [Ek.out] | rw [Ecl.out] | rw [Esq.out] | rw [En.out] | rw [Eep.out] | skip); rintro e wx ⟨rfl, rfl⟩))
    all_goals
      go_ret
      exact ⟨by first | (simp [cmdOK, bodyOK, winP, Ek.out, Ecl.out, Esq.out, En.out, Eep.out,  noS_iff, *]; done) | (simp [cmdOK, bodyOK, winP, Ek.out, Ecl.out, Esq.out, En.out, Eep.out,  noS_iff, *]; exact isEmpty_dec _), (by repeat (first | exact Below.refl _ _ | (refine Below.alloc ?_ (by (try simp) <;> (try omega)) _) | (refine Below.setCell ?_ (by (try simp) <;> (try omega)) _) | (refine Below.drew ?_) | (refine Below.trans ?_ (Below.mono (by assumption) (by (try simp) <;> (try omega))))))⟩
  subst hp
  by_cases hs : nm.toList = []
  rotate_left
  · have hs2 := toList_beq_no hs
    go_wp2_with (first | (go_at_call 105; refine (l01In_c _ _ _ _).mono ?_; (first | rw [Ek.out] | rw [Ecl.out] | rw [Esq.out] | rw [En.out] | rw [Eep.out] | skip); rintro e wx ⟨rfl, rfl⟩))
    all_goals
      go_ret
      exact ⟨by first | (simp [cmdOK, bodyOK, winP, Ek.out, Ecl.out, Esq.out, En.out, Eep.out,  noS_iff, *]; done) | (simp [cmdOK, bodyOK, winP, Ek.out, Ecl.out, Esq.out, En.out, Eep.out,  noS_iff, *]; exact isEmpty_dec _), (by repeat (first | exact Below.refl _ _ | (refine Below.alloc ?_ (by (try simp) <;> (try omega)) _) | (refine Below.setCell ?_ (by (try simp) <;> (try omega)) _) | (refine Below.drew ?_) | (refine Below.trans ?_ (Below.mono (by assumption) (by (try simp) <;> (try omega))))))⟩
  have hs2 : (nm.toList == []) = true := by rw [hs]; rfl
  cases rw
  case true =>
    go_wp2_with (first | (go_at_call 105; refine (l01In_c _ _ _ _).mono ?_; (first | rw [Ek.out] | rw [Ecl.out] | rw [Esq.out] | rw [En.out] | rw [Eep.out] | skip); rintro e wx ⟨rfl, rfl⟩))
    all_goals
      go_ret
      exact ⟨by first | (simp [cmdOK, bodyOK, winP, Ek.out, Ecl.out, Esq.out, En.out, Eep.out,  noS_iff, *]; done) | (simp [cmdOK, bodyOK, winP, Ek.out, Ecl.out, Esq.out, En.out, Eep.out,  noS_iff, *]; exact isEmpty_dec _), (by repeat (first | exact Below.refl _ _ | (refine Below.alloc ?_ (by (try simp) <;> (try omega)) _) | (refine Below.setCell ?_ (by (try simp) <;> (try omega)) _) | (refine Below.drew ?_) | (refine Below.trans ?_ (Below.mono (by assumption) (by (try simp) <;> (try omega))))))⟩
  cases bn
  case false =>
    go_wp2_with (first | (go_at_call 105; refine (l01In_c _ _ _ _).mono ?_; (first | rw [Ek.out] | rw [Ecl.out] | rw [Esq.out] | rw [En.out] | rw [Eep.out] | skip); rintro e wx ⟨rfl, rfl⟩))
    all_goals
      go_ret
      exact ⟨by first | (simp [cmdOK, bodyOK, winP, Ek.out, Ecl.out, Esq.out, En.out, Eep.out,  noS_iff, *]; done) | (simp [cmdOK, bodyOK, winP, Ek.out, Ecl.out, Esq.out, En.out, Eep.out,  noS_iff, *]; exact isEmpty_dec _), (by repeat (first | exact Below.refl _ _ | (refine Below.alloc ?_ (by (try simp) <;> (try omega)) _) | (refine Below.setCell ?_ (by (try simp) <;> (try omega)) _) | (refine Below.drew ?_) | (refine Below.trans ?_ (Below.mono (by assumption) (by (try simp) <;> (try omega))))))⟩
  cases bep
  case false =>
    go_wp2_with (first | (go_at_call 105; refine (l01In_c _ _ _ _).mono ?_; (first | rw [Ek.out] | rw [Ecl.out] | rw [Esq.out] | rw [En.out] | rw [Eep.out] | skip); rintro e wx ⟨rfl, rfl⟩))
    all_goals
      go_ret
      exact ⟨by first | (simp [cmdOK, bodyOK, winP, Ek.out, Ecl.out, Esq.out, En.out, Eep.out,  noS_iff, *]; done) | (simp [cmdOK, bodyOK, winP, Ek.out, Ecl.out, Esq.out, En.out, Eep.out,  noS_iff, *]; exact isEmpty_dec _), (by repeat (first | exact Below.refl _ _ | (refine Below.alloc ?_ (by (try simp) <;> (try omega)) _) | (refine Below.setCell ?_ (by (try simp) <;> (try omega)) _) | (refine Below.drew ?_) | (refine Below.trans ?_ (Below.mono (by assumption) (by (try simp) <;> (try omega))))))⟩
  go_wp2_with (first | (go_at_call 105; refine (l01In_c _ _ _ _).mono ?_; (first | rw [Ek.out] | rw [Ecl.out] | rw [Esq.out] | rw [En.out] | rw [Eep.out] | skip); rintro e wx ⟨rfl, rfl⟩))
  all_goals
    go_ret
    exact ⟨by first | (simp [cmdOK, bodyOK, winP, Ek.out, Ecl.out, Esq.out, En.out, Eep.out,  noS_iff, *]; done) | (simp [cmdOK, bodyOK, winP, Ek.out, Ecl.out, Esq.out, En.out, Eep.out,  noS_iff, *]; exact isEmpty_dec _), (by repeat (first | exact Below.refl _ _ | (refine Below.alloc ?_ (by (try simp) <;> (try omega)) _) | (refine Below.setCell ?_ (by (try simp) <;> (try omega)) _) | (refine Below.drew ?_) | (refine Below.trans ?_ (Below.mono (by assumption) (by (try simp) <;> (try omega))))))⟩
set_option maxRecDepth 100000 in
set_option maxHeartbeats 16000000 in
theorem specCmdOK_k8 (cl sq pn n ep : Int) (rw : Bool) (nm dt : ByteArray) (w : World) (hn : nm.size ≤ 1099511627776) (hd : dt.size ≤ 1099511627776) (ecl : Hid (inB cl 0 200 = true)) (esq : Hid (inB sq 1 60000 = true)) :
    Calls Try.prog 85 #[.agg #[.int .i64 8, .int .i64 cl, .int .i64 sq, .int .i64 pn, .int .i64 n, .int .i64 ep, .bool rw, .string nm, .string dt]] w fun e w' => e = .returned (.bool (cmdOK 8 cl sq pn n ep rw nm dt)) ∧ Below w.heap.size w w' := by
  have Ecl := ecl
  have Esq := esq
  clear ecl esq
  have Ek : Hid (inB 8 1 8 = true) := Lib.hid (by decide)
  obtain ⟨bnm, hnm⟩ : ∃ b, nameP nm = b := ⟨_, rfl⟩
  have Enm : Hid (nameP nm = bnm) := hnm
  clear hnm
  obtain ⟨bdt, hdt⟩ : ∃ b, nameP dt = b := ⟨_, rfl⟩
  have Edt : Hid (nameP dt = bdt) := hdt
  clear hdt
  go_enter Try.func85, Try.ntmps85
  go_upto_region 5 with (first | (go_at_call 105; refine (l01In_c _ _ _ _).mono ?_; (first | rw [Ek.out] | rw [Ecl.out] | rw [Esq.out] | skip); rintro e wx ⟨rfl, rfl⟩) | (go_at_call 147; refine (specNameOK_c _ _ (by assumption)).mono ?_; (first | rw [Enm.out] | rw [Edt.out] | skip); rintro e wx ⟨rfl, rfl⟩))
  by_cases hp : pn = 0
  rotate_left
  · have hp1 : (pn != 0) = true := by simpa using hp
    have hp2 : (pn == 0) = false := by simpa using hp
    go_wp2_with (first | (go_at_call 105; refine (l01In_c _ _ _ _).mono ?_; (first | rw [Ek.out] | rw [Ecl.out] | rw [Esq.out] | skip); rintro e wx ⟨rfl, rfl⟩) | (go_at_call 147; refine (specNameOK_c _ _ (by assumption)).mono ?_; (first | rw [Enm.out] | rw [Edt.out] | skip); rintro e wx ⟨rfl, rfl⟩))
    all_goals
      go_ret
      exact ⟨by first | (simp [cmdOK, bodyOK, winP, Ek.out, Ecl.out, Esq.out, Enm.out, Edt.out,  noS_iff, *]; done) | (simp [cmdOK, bodyOK, winP, Ek.out, Ecl.out, Esq.out, Enm.out, Edt.out,  noS_iff, *]; exact isEmpty_dec _), (by repeat (first | exact Below.refl _ _ | (refine Below.alloc ?_ (by (try simp) <;> (try omega)) _) | (refine Below.setCell ?_ (by (try simp) <;> (try omega)) _) | (refine Below.drew ?_) | (refine Below.trans ?_ (Below.mono (by assumption) (by (try simp) <;> (try omega))))))⟩
  subst hp
  by_cases hs : nm.toList = []
  · have Ez := Lib.hid (winP_no hs)
    have hs2 : (nm.toList == []) = true := by rw [hs]; rfl
    go_wp2_with (first | (go_at_call 105; refine (l01In_c _ _ _ _).mono ?_; (first | rw [Ek.out] | rw [Ecl.out] | rw [Esq.out] | skip); rintro e wx ⟨rfl, rfl⟩) | (go_at_call 147; refine (specNameOK_c _ _ (by assumption)).mono ?_; (first | rw [Enm.out] | rw [Edt.out] | skip); rintro e wx ⟨rfl, rfl⟩))
    all_goals
      go_ret
      exact ⟨by simp [cmdOK, bodyOK, Ez.out], (by repeat (first | exact Below.refl _ _ | (refine Below.alloc ?_ (by (try simp) <;> (try omega)) _) | (refine Below.setCell ?_ (by (try simp) <;> (try omega)) _) | (refine Below.drew ?_) | (refine Below.trans ?_ (Below.mono (by assumption) (by (try simp) <;> (try omega))))))⟩
  have hs2 := toList_beq_no hs
  by_cases hz : nm.size ≤ 12
  rotate_left
  · have Ez := Lib.hid (winP_no2 hz)
    have hz2 : (12 : Int) < (nm.size : Int) := by omega
    go_wp2_with (first | (go_at_call 105; refine (l01In_c _ _ _ _).mono ?_; (first | rw [Ek.out] | rw [Ecl.out] | rw [Esq.out] | skip); rintro e wx ⟨rfl, rfl⟩) | (go_at_call 147; refine (specNameOK_c _ _ (by assumption)).mono ?_; (first | rw [Enm.out] | rw [Edt.out] | skip); rintro e wx ⟨rfl, rfl⟩))
    all_goals
      go_ret
      exact ⟨by simp [cmdOK, bodyOK, Ez.out], (by repeat (first | exact Below.refl _ _ | (refine Below.alloc ?_ (by (try simp) <;> (try omega)) _) | (refine Below.setCell ?_ (by (try simp) <;> (try omega)) _) | (refine Below.drew ?_) | (refine Below.trans ?_ (Below.mono (by assumption) (by (try simp) <;> (try omega))))))⟩
  have hz2 : (nm.size : Int) ≤ 12 := by omega
  cases bnm
  case false =>
    go_wp2_with (first | (go_at_call 105; refine (l01In_c _ _ _ _).mono ?_; (first | rw [Ek.out] | rw [Ecl.out] | rw [Esq.out] | skip); rintro e wx ⟨rfl, rfl⟩) | (go_at_call 147; refine (specNameOK_c _ _ (by assumption)).mono ?_; (first | rw [Enm.out] | rw [Edt.out] | skip); rintro e wx ⟨rfl, rfl⟩))
    all_goals
      go_ret
      exact ⟨by first | (simp [cmdOK, bodyOK, winP, Ek.out, Ecl.out, Esq.out, Enm.out, Edt.out,  noS_iff, *]; done) | (simp [cmdOK, bodyOK, winP, Ek.out, Ecl.out, Esq.out, Enm.out, Edt.out,  noS_iff, *]; exact isEmpty_dec _), (by repeat (first | exact Below.refl _ _ | (refine Below.alloc ?_ (by (try simp) <;> (try omega)) _) | (refine Below.setCell ?_ (by (try simp) <;> (try omega)) _) | (refine Below.drew ?_) | (refine Below.trans ?_ (Below.mono (by assumption) (by (try simp) <;> (try omega))))))⟩
  cases rw
  case true =>
    go_wp2_with (first | (go_at_call 105; refine (l01In_c _ _ _ _).mono ?_; (first | rw [Ek.out] | rw [Ecl.out] | rw [Esq.out] | skip); rintro e wx ⟨rfl, rfl⟩) | (go_at_call 147; refine (specNameOK_c _ _ (by assumption)).mono ?_; (first | rw [Enm.out] | rw [Edt.out] | skip); rintro e wx ⟨rfl, rfl⟩))
    all_goals
      go_ret
      exact ⟨by first | (simp [cmdOK, bodyOK, winP, Ek.out, Ecl.out, Esq.out, Enm.out, Edt.out,  noS_iff, *]; done) | (simp [cmdOK, bodyOK, winP, Ek.out, Ecl.out, Esq.out, Enm.out, Edt.out,  noS_iff, *]; exact isEmpty_dec _), (by repeat (first | exact Below.refl _ _ | (refine Below.alloc ?_ (by (try simp) <;> (try omega)) _) | (refine Below.setCell ?_ (by (try simp) <;> (try omega)) _) | (refine Below.drew ?_) | (refine Below.trans ?_ (Below.mono (by assumption) (by (try simp) <;> (try omega))))))⟩
  by_cases hw : dt.size ≤ 12
  rotate_left
  · have Ez := Lib.hid (winP_no2 hw)
    have hw2 : ¬ (dt.size : Int) ≤ 12 := by omega
    go_wp2_with (first | (go_at_call 105; refine (l01In_c _ _ _ _).mono ?_; (first | rw [Ek.out] | rw [Ecl.out] | rw [Esq.out] | skip); rintro e wx ⟨rfl, rfl⟩) | (go_at_call 147; refine (specNameOK_c _ _ (by assumption)).mono ?_; (first | rw [Enm.out] | rw [Edt.out] | skip); rintro e wx ⟨rfl, rfl⟩))
    all_goals
      go_ret
      exact ⟨by simp [cmdOK, bodyOK, Ez.out], (by repeat (first | exact Below.refl _ _ | (refine Below.alloc ?_ (by (try simp) <;> (try omega)) _) | (refine Below.setCell ?_ (by (try simp) <;> (try omega)) _) | (refine Below.drew ?_) | (refine Below.trans ?_ (Below.mono (by assumption) (by (try simp) <;> (try omega))))))⟩
  have hw2 : (dt.size : Int) ≤ 12 := by omega
  cases bdt
  case false =>
    go_wp2_with (first | (go_at_call 105; refine (l01In_c _ _ _ _).mono ?_; (first | rw [Ek.out] | rw [Ecl.out] | rw [Esq.out] | skip); rintro e wx ⟨rfl, rfl⟩) | (go_at_call 147; refine (specNameOK_c _ _ (by assumption)).mono ?_; (first | rw [Enm.out] | rw [Edt.out] | skip); rintro e wx ⟨rfl, rfl⟩))
    all_goals
      go_ret
      exact ⟨by first | (simp [cmdOK, bodyOK, winP, Ek.out, Ecl.out, Esq.out, Enm.out, Edt.out,  noS_iff, *]; done) | (simp [cmdOK, bodyOK, winP, Ek.out, Ecl.out, Esq.out, Enm.out, Edt.out,  noS_iff, *]; exact isEmpty_dec _), (by repeat (first | exact Below.refl _ _ | (refine Below.alloc ?_ (by (try simp) <;> (try omega)) _) | (refine Below.setCell ?_ (by (try simp) <;> (try omega)) _) | (refine Below.drew ?_) | (refine Below.trans ?_ (Below.mono (by assumption) (by (try simp) <;> (try omega))))))⟩
  go_wp2_with (first | (go_at_call 105; refine (l01In_c _ _ _ _).mono ?_; (first | rw [Ek.out] | rw [Ecl.out] | rw [Esq.out] | skip); rintro e wx ⟨rfl, rfl⟩) | (go_at_call 147; refine (specNameOK_c _ _ (by assumption)).mono ?_; (first | rw [Enm.out] | rw [Edt.out] | skip); rintro e wx ⟨rfl, rfl⟩))
  all_goals
    go_ret
    exact ⟨by first | (simp [cmdOK, bodyOK, winP, Ek.out, Ecl.out, Esq.out, Enm.out, Edt.out,  noS_iff, *]; done) | (simp [cmdOK, bodyOK, winP, Ek.out, Ecl.out, Esq.out, Enm.out, Edt.out,  noS_iff, *]; exact isEmpty_dec _), (by repeat (first | exact Below.refl _ _ | (refine Below.alloc ?_ (by (try simp) <;> (try omega)) _) | (refine Below.setCell ?_ (by (try simp) <;> (try omega)) _) | (refine Below.drew ?_) | (refine Below.trans ?_ (Below.mono (by assumption) (by (try simp) <;> (try omega))))))⟩
set_option maxRecDepth 100000 in
set_option maxHeartbeats 16000000 in
theorem specCmdOK_c (k cl sq pn n ep : Int) (rw : Bool) (nm dt : ByteArray) (w : World) (hn : nm.size ≤ 1099511627776) (hd : dt.size ≤ 1099511627776) :
    Calls Try.prog 85 #[.agg #[.int .i64 k, .int .i64 cl, .int .i64 sq, .int .i64 pn, .int .i64 n, .int .i64 ep, .bool rw, .string nm, .string dt]] w fun e w' => e = .returned (.bool (cmdOK k cl sq pn n ep rw nm dt)) ∧ Below w.heap.size w w' := by
  obtain ⟨bk, hk⟩ : ∃ b, inB k 1 8 = b := ⟨_, rfl⟩
  have Ek : Hid (inB k 1 8 = bk) := hk
  clear hk
  obtain ⟨bcl, hcl⟩ : ∃ b, inB cl 0 200 = b := ⟨_, rfl⟩
  have Ecl : Hid (inB cl 0 200 = bcl) := hcl
  clear hcl
  obtain ⟨bsq, hsq⟩ : ∃ b, inB sq 1 60000 = b := ⟨_, rfl⟩
  have Esq : Hid (inB sq 1 60000 = bsq) := hsq
  clear hsq
  cases bk
  case false =>
    have Ez := Lib.hid (body_range (pn := pn) (n := n) (ep := ep) (rw := rw) (nm := nm) (dt := dt) Ek.out)
    go_enter Try.func85, Try.ntmps85
    go_wp2_with (first | (go_at_call 105; refine (l01In_c _ _ _ _).mono ?_; (first | rw [Ek.out] | rw [Ecl.out] | rw [Esq.out] | skip); rintro e wx ⟨rfl, rfl⟩))
    go_ret
    exact ⟨by simp [cmdOK, Ez.out], (by repeat (first | exact Below.refl _ _ | (refine Below.alloc ?_ (by (try simp) <;> (try omega)) _) | (refine Below.setCell ?_ (by (try simp) <;> (try omega)) _) | (refine Below.drew ?_) | (refine Below.trans ?_ (Below.mono (by assumption) (by (try simp) <;> (try omega))))))⟩
  cases bcl
  case false =>
    go_enter Try.func85, Try.ntmps85
    go_wp2_with (first | (go_at_call 105; refine (l01In_c _ _ _ _).mono ?_; (first | rw [Ek.out] | rw [Ecl.out] | rw [Esq.out] | skip); rintro e wx ⟨rfl, rfl⟩))
    go_ret
    exact ⟨by simp [cmdOK, Ecl.out], (by repeat (first | exact Below.refl _ _ | (refine Below.alloc ?_ (by (try simp) <;> (try omega)) _) | (refine Below.setCell ?_ (by (try simp) <;> (try omega)) _) | (refine Below.drew ?_) | (refine Below.trans ?_ (Below.mono (by assumption) (by (try simp) <;> (try omega))))))⟩
  cases bsq
  case false =>
    go_enter Try.func85, Try.ntmps85
    go_wp2_with (first | (go_at_call 105; refine (l01In_c _ _ _ _).mono ?_; (first | rw [Ek.out] | rw [Ecl.out] | rw [Esq.out] | skip); rintro e wx ⟨rfl, rfl⟩))
    go_ret
    exact ⟨by simp [cmdOK, Ecl.out, Esq.out], (by repeat (first | exact Below.refl _ _ | (refine Below.alloc ?_ (by (try simp) <;> (try omega)) _) | (refine Below.setCell ?_ (by (try simp) <;> (try omega)) _) | (refine Below.drew ?_) | (refine Below.trans ?_ (Below.mono (by assumption) (by (try simp) <;> (try omega))))))⟩
  have hk := Ek.out
  simp [inB] at hk
  by_cases k1 : k = 1
  · subst k1
    exact specCmdOK_k1 cl sq pn n ep rw nm dt w hn hd Ecl Esq
  by_cases k2 : k = 2
  · subst k2
    exact specCmdOK_k2 cl sq pn n ep rw nm dt w hn hd Ecl Esq
  by_cases k3 : k = 3
  · subst k3
    exact specCmdOK_k3 cl sq pn n ep rw nm dt w hn hd Ecl Esq
  by_cases k4 : k = 4
  · subst k4
    exact specCmdOK_k4 cl sq pn n ep rw nm dt w hn hd Ecl Esq
  by_cases k5 : k = 5
  · subst k5
    exact specCmdOK_k5 cl sq pn n ep rw nm dt w hn hd Ecl Esq
  by_cases k6 : k = 6
  · subst k6
    exact specCmdOK_k6 cl sq pn n ep rw nm dt w hn hd Ecl Esq
  by_cases k7 : k = 7
  · subst k7
    exact specCmdOK_k7 cl sq pn n ep rw nm dt w hn hd Ecl Esq
  by_cases k8 : k = 8
  · subst k8
    exact specCmdOK_k8 cl sq pn n ep rw nm dt w hn hd Ecl Esq
  omega
end Go.Proofs.Ytmdjcoeijlnloaa
