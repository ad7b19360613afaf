/- What a valid command is: impl.isCommand. No conditions but sizes. -/
import Derived.Test.YtmdjcoeijlnloaaNm
namespace Go.Proofs.Ytmdjcoeijlnloaa
set_option linter.unusedVariables false
set_option linter.unusedSimpArgs false
open Go.RowKit
abbrev noS : ByteArray := ⟨#[]⟩
theorem noS_iff (s : ByteArray) : (s = noS) = (s.toList = []) := by
  have h : s.toList = s.data.toList := by rw [← strOf_toL s.data.toList]; rfl
  rw [h, eq_iff_iff]
  constructor
  · rintro rfl
    rfl
  · intro h2
    apply ByteArray.ext
    simpa using h2
def bodyOK (k pn n ep : Int) (rw : Bool) (nm dt : ByteArray) : Bool :=
  if k = 1 then winP nm && decide (pn = 0 ∧ n = 0 ∧ ep = 0 ∧ rw = false ∧ dt = noS)
  else if k = 2 then inB pn 1 1000 && decide (n = 0 ∧ ep = 0 ∧ nm = noS ∧ dt = noS)
  else if k = 3 then inB pn 1 1000 && decide (n = 0 ∧ ep = 0 ∧ rw = false ∧ nm = noS ∧ dt = noS)
  else if k = 4 then (inB pn 1 1000 && inB n (-100) 100) && decide (ep = 0 ∧ rw = false ∧ nm = noS ∧ dt = noS)
  else if k = 5 then (inB pn 1 1000 && (inB ep 1 60000 && inB dt.size 1 200)) && decide (n = 0 ∧ rw = false ∧ nm = noS)
  else if k = 6 then (inB pn 1 1000 && inB n 0 200) && decide (ep = 0 ∧ rw = false ∧ nm = noS ∧ dt = noS)
  else if k = 7 then (inB n 2 24 && inB ep 2 10) && decide (pn = 0 ∧ rw = false ∧ nm = noS ∧ dt = noS)
  else if k = 8 then (winP nm && winP dt) && decide (pn = 0 ∧ n = 0 ∧ ep = 0 ∧ rw = false)
  else false
def cmdOK (k cl sq pn n ep : Int) (rw : Bool) (nm dt : ByteArray) : Bool := inB cl 0 200 && (inB sq 1 60000 && bodyOK k pn n ep rw nm dt)
theorem isPaneId_c (n : Int) (w : World) : Calls Try.prog 144 #[.int .i64 n] w fun e w' => e = .returned (.bool (inB n 1 1000)) ∧ w = w' := by
  go_enter Try.func144, Try.ntmps144
  go_wp2_with (go_at_call 91; refine (within_c _ _ _ _).mono ?_; rintro e w' ⟨rfl, rfl⟩)
  go_ret
  exact ⟨rfl, rfl⟩
theorem isClientId_c (n : Int) (w : World) : Calls Try.prog 142 #[.int .i64 n] w fun e w' => e = .returned (.bool (inB n 0 200)) ∧ w = w' := by
  go_enter Try.func142, Try.ntmps142
  go_wp2_with (go_at_call 91; refine (within_c _ _ _ _).mono ?_; rintro e w' ⟨rfl, rfl⟩)
  go_ret
  exact ⟨rfl, rfl⟩
theorem isSize_c (x y : Int) (w : World) : Calls Try.prog 145 #[.int .i64 x, .int .i64 y] w fun e w' => e = .returned (.bool (inB x 2 24 && inB y 2 10)) ∧ w = w' := by
  obtain ⟨b, hb⟩ : ∃ b, inB x 2 24 = b := ⟨_, rfl⟩
  have E : Hid (inB x 2 24 = b) := hb
  rw [hb]
  clear hb
  cases b
  all_goals
    go_enter Try.func145, Try.ntmps145
    go_wp2_with (go_at_call 91; refine (within_c _ _ _ _).mono ?_; (first | rw [E.out] | skip); rintro e w' ⟨rfl, rfl⟩)
    go_ret
    exact ⟨rfl, rfl⟩
set_option maxRecDepth 100000 in
set_option maxHeartbeats 16000000 in
theorem isCommand_c (k cl sq pn n ep : Int) (rw : Bool) (nm dt : ByteArray) (w : World) (hn : nm.size ≤ 1099511627776) (hd : dt.size ≤ 1099511627776) :
    Calls Try.prog 83 #[.agg #[.int .i64 k, .int .i64 cl, .int .i64 sq, .int .i64 pn, .int .i64 n, .int .i64 ep, .bool rw, .string nm, .string dt]] w fun e w' => e = .returned (.bool (cmdOK k cl sq pn n ep rw nm dt)) ∧ Below w.heap.size w w' := by
  obtain ⟨bcl, hcl⟩ : ∃ b, inB cl 0 200 = b := ⟨_, rfl⟩
  have Ecl : Hid (inB cl 0 200 = bcl) := hcl
  clear hcl
  obtain ⟨bsq, hsq⟩ : ∃ b, inB sq 1 60000 = b := ⟨_, rfl⟩
  have Esq : Hid (inB sq 1 60000 = bsq) := hsq
  clear hsq
  cases bcl
  case false =>
    go_enter Try.func83, Try.ntmps83
    go_wp2_with ((go_at_call 142; refine (isClientId_c _ _).mono ?_; (first | rw [Ecl.out] | skip); rintro e wx ⟨rfl, rfl⟩))
    go_ret
    exact ⟨by simp [cmdOK, Ecl.out], (by repeat (first | exact Below.refl _ _ | (refine Below.alloc ?_ (by (try simp) <;> (try omega)) _) | (refine Below.setCell ?_ (by (try simp) <;> (try omega)) _) | (refine Below.drew ?_) | (refine Below.trans ?_ (Below.mono (by assumption) (by (try simp) <;> (try omega))))))⟩
  cases bsq
  case false =>
    go_enter Try.func83, Try.ntmps83
    go_wp2_with (first | (go_at_call 142; refine (isClientId_c _ _).mono ?_; (first | rw [Ecl.out] | skip); rintro e wx ⟨rfl, rfl⟩) | (go_at_call 91; refine (within_c _ _ _ _).mono ?_; (first | rw [Esq.out] | skip); rintro e wx ⟨rfl, rfl⟩))
    go_ret
    exact ⟨by simp [cmdOK, Ecl.out, Esq.out], (by repeat (first | exact Below.refl _ _ | (refine Below.alloc ?_ (by (try simp) <;> (try omega)) _) | (refine Below.setCell ?_ (by (try simp) <;> (try omega)) _) | (refine Below.drew ?_) | (refine Below.trans ?_ (Below.mono (by assumption) (by (try simp) <;> (try omega))))))⟩
  by_cases k1 : k = 1
  · obtain rfl : k = 1 := k1
    obtain ⟨bnm, hnm⟩ : ∃ b, winP nm = b := ⟨_, rfl⟩
    have Enm : Hid (winP nm = bnm) := hnm
    clear hnm
    cases bnm
    case false =>
      go_enter Try.func83, Try.ntmps83
      go_wp2_with (first | (go_at_call 142; refine (isClientId_c _ _).mono ?_; (first | rw [Ecl.out] | skip); rintro e wx ⟨rfl, rfl⟩) | (go_at_call 91; refine (within_c _ _ _ _).mono ?_; (first | rw [Esq.out] | skip); rintro e wx ⟨rfl, rfl⟩) | (go_at_call 143; refine (isWindowName_c _ _ (by assumption)).mono ?_; (first | rw [Enm.out] | skip); rintro e wx ⟨rfl, rfl⟩))
      all_goals
        go_ret
        exact ⟨by simp [cmdOK, bodyOK, Ecl.out, Esq.out, Enm.out, noS_iff, *], (by repeat (first | exact Below.refl _ _ | (refine Below.alloc ?_ (by (try simp) <;> (try omega)) _) | (refine Below.setCell ?_ (by (try simp) <;> (try omega)) _) | (refine Below.drew ?_) | (refine Below.trans ?_ (Below.mono (by assumption) (by (try simp) <;> (try omega))))))⟩
    go_enter Try.func83, Try.ntmps83
    go_wp2_with (first | (go_at_call 142; refine (isClientId_c _ _).mono ?_; (first | rw [Ecl.out] | skip); rintro e wx ⟨rfl, rfl⟩) | (go_at_call 91; refine (within_c _ _ _ _).mono ?_; (first | rw [Esq.out] | skip); rintro e wx ⟨rfl, rfl⟩) | (go_at_call 143; refine (isWindowName_c _ _ (by assumption)).mono ?_; (first | rw [Enm.out] | skip); rintro e wx ⟨rfl, rfl⟩))
    all_goals
      go_ret
      exact ⟨by simp [cmdOK, bodyOK, Ecl.out, Esq.out, Enm.out, noS_iff, *], (by repeat (first | exact Below.refl _ _ | (refine Below.alloc ?_ (by (try simp) <;> (try omega)) _) | (refine Below.setCell ?_ (by (try simp) <;> (try omega)) _) | (refine Below.drew ?_) | (refine Below.trans ?_ (Below.mono (by assumption) (by (try simp) <;> (try omega))))))⟩
  by_cases k2 : k = 2
  · obtain rfl : k = 2 := k2
    obtain ⟨bpn, hpn⟩ : ∃ b, inB pn 1 1000 = b := ⟨_, rfl⟩
    have Epn : Hid (inB pn 1 1000 = bpn) := hpn
    clear hpn
    cases bpn
    case false =>
      go_enter Try.func83, Try.ntmps83
      go_wp2_with (first | (go_at_call 142; refine (isClientId_c _ _).mono ?_; (first | rw [Ecl.out] | skip); rintro e wx ⟨rfl, rfl⟩) | (go_at_call 91; refine (within_c _ _ _ _).mono ?_; (first | rw [Esq.out] | skip); rintro e wx ⟨rfl, rfl⟩) | (go_at_call 144; refine (isPaneId_c _ _).mono ?_; (first | rw [Epn.out] | skip); rintro e wx ⟨rfl, rfl⟩))
      all_goals
        go_ret
        exact ⟨by simp [cmdOK, bodyOK, Ecl.out, Esq.out, Epn.out, noS_iff, *], (by repeat (first | exact Below.refl _ _ | (refine Below.alloc ?_ (by (try simp) <;> (try omega)) _) | (refine Below.setCell ?_ (by (try simp) <;> (try omega)) _) | (refine Below.drew ?_) | (refine Below.trans ?_ (Below.mono (by assumption) (by (try simp) <;> (try omega))))))⟩
    go_enter Try.func83, Try.ntmps83
    go_wp2_with (first | (go_at_call 142; refine (isClientId_c _ _).mono ?_; (first | rw [Ecl.out] | skip); rintro e wx ⟨rfl, rfl⟩) | (go_at_call 91; refine (within_c _ _ _ _).mono ?_; (first | rw [Esq.out] | skip); rintro e wx ⟨rfl, rfl⟩) | (go_at_call 144; refine (isPaneId_c _ _).mono ?_; (first | rw [Epn.out] | skip); rintro e wx ⟨rfl, rfl⟩))
    all_goals
      go_ret
      exact ⟨by simp [cmdOK, bodyOK, Ecl.out, Esq.out, Epn.out, noS_iff, *], (by repeat (first | exact Below.refl _ _ | (refine Below.alloc ?_ (by (try simp) <;> (try omega)) _) | (refine Below.setCell ?_ (by (try simp) <;> (try omega)) _) | (refine Below.drew ?_) | (refine Below.trans ?_ (Below.mono (by assumption) (by (try simp) <;> (try omega))))))⟩
  by_cases k3 : k = 3
  · obtain rfl : k = 3 := k3
    obtain ⟨bpn, hpn⟩ : ∃ b, inB pn 1 1000 = b := ⟨_, rfl⟩
    have Epn : Hid (inB pn 1 1000 = bpn) := hpn
    clear hpn
    cases bpn
    case false =>
      go_enter Try.func83, Try.ntmps83
      go_wp2_with (first | (go_at_call 142; refine (isClientId_c _ _).mono ?_; (first | rw [Ecl.out] | skip); rintro e wx ⟨rfl, rfl⟩) | (go_at_call 91; refine (within_c _ _ _ _).mono ?_; (first | rw [Esq.out] | skip); rintro e wx ⟨rfl, rfl⟩) | (go_at_call 144; refine (isPaneId_c _ _).mono ?_; (first | rw [Epn.out] | skip); rintro e wx ⟨rfl, rfl⟩))
      all_goals
        go_ret
        exact ⟨by simp [cmdOK, bodyOK, Ecl.out, Esq.out, Epn.out, noS_iff, *], (by repeat (first | exact Below.refl _ _ | (refine Below.alloc ?_ (by (try simp) <;> (try omega)) _) | (refine Below.setCell ?_ (by (try simp) <;> (try omega)) _) | (refine Below.drew ?_) | (refine Below.trans ?_ (Below.mono (by assumption) (by (try simp) <;> (try omega))))))⟩
    go_enter Try.func83, Try.ntmps83
    go_wp2_with (first | (go_at_call 142; refine (isClientId_c _ _).mono ?_; (first | rw [Ecl.out] | skip); rintro e wx ⟨rfl, rfl⟩) | (go_at_call 91; refine (within_c _ _ _ _).mono ?_; (first | rw [Esq.out] | skip); rintro e wx ⟨rfl, rfl⟩) | (go_at_call 144; refine (isPaneId_c _ _).mono ?_; (first | rw [Epn.out] | skip); rintro e wx ⟨rfl, rfl⟩))
    all_goals
      go_ret
      exact ⟨by simp [cmdOK, bodyOK, Ecl.out, Esq.out, Epn.out, noS_iff, *], (by repeat (first | exact Below.refl _ _ | (refine Below.alloc ?_ (by (try simp) <;> (try omega)) _) | (refine Below.setCell ?_ (by (try simp) <;> (try omega)) _) | (refine Below.drew ?_) | (refine Below.trans ?_ (Below.mono (by assumption) (by (try simp) <;> (try omega))))))⟩
  by_cases k4 : k = 4
  · obtain rfl : k = 4 := k4
    obtain ⟨bpn, hpn⟩ : ∃ b, inB pn 1 1000 = b := ⟨_, rfl⟩
    have Epn : Hid (inB pn 1 1000 = bpn) := hpn
    clear hpn
    obtain ⟨bn, hn⟩ : ∃ b, inB n (-100) 100 = b := ⟨_, rfl⟩
    have En : Hid (inB n (-100) 100 = bn) := hn
    clear hn
    cases bpn
    case false =>
      go_enter Try.func83, Try.ntmps83
      go_wp2_with (first | (go_at_call 142; refine (isClientId_c _ _).mono ?_; (first | rw [Ecl.out] | skip); rintro e wx ⟨rfl, rfl⟩) | (go_at_call 91; refine (within_c _ _ _ _).mono ?_; (first | rw [Esq.out] | rw [En.out] | skip); rintro e wx ⟨rfl, rfl⟩) | (go_at_call 144; refine (isPaneId_c _ _).mono ?_; (first | rw [Epn.out] | skip); rintro e wx ⟨rfl, rfl⟩))
      all_goals
        go_ret
        exact ⟨by simp [cmdOK, bodyOK, Ecl.out, Esq.out, Epn.out, En.out, noS_iff, *], (by repeat (first | exact Below.refl _ _ | (refine Below.alloc ?_ (by (try simp) <;> (try omega)) _) | (refine Below.setCell ?_ (by (try simp) <;> (try omega)) _) | (refine Below.drew ?_) | (refine Below.trans ?_ (Below.mono (by assumption) (by (try simp) <;> (try omega))))))⟩
    cases bn
    case false =>
      go_enter Try.func83, Try.ntmps83
      go_wp2_with (first | (go_at_call 142; refine (isClientId_c _ _).mono ?_; (first | rw [Ecl.out] | skip); rintro e wx ⟨rfl, rfl⟩) | (go_at_call 91; refine (within_c _ _ _ _).mono ?_; (first | rw [Esq.out] | rw [En.out] | skip); rintro e wx ⟨rfl, rfl⟩) | (go_at_call 144; refine (isPaneId_c _ _).mono ?_; (first | rw [Epn.out] | skip); rintro e wx ⟨rfl, rfl⟩))
      all_goals
        go_ret
        exact ⟨by simp [cmdOK, bodyOK, Ecl.out, Esq.out, Epn.out, En.out, noS_iff, *], (by repeat (first | exact Below.refl _ _ | (refine Below.alloc ?_ (by (try simp) <;> (try omega)) _) | (refine Below.setCell ?_ (by (try simp) <;> (try omega)) _) | (refine Below.drew ?_) | (refine Below.trans ?_ (Below.mono (by assumption) (by (try simp) <;> (try omega))))))⟩
    go_enter Try.func83, Try.ntmps83
    go_wp2_with (first | (go_at_call 142; refine (isClientId_c _ _).mono ?_; (first | rw [Ecl.out] | skip); rintro e wx ⟨rfl, rfl⟩) | (go_at_call 91; refine (within_c _ _ _ _).mono ?_; (first | rw [Esq.out] | rw [En.out] | skip); rintro e wx ⟨rfl, rfl⟩) | (go_at_call 144; refine (isPaneId_c _ _).mono ?_; (first | rw [Epn.out] | skip); rintro e wx ⟨rfl, rfl⟩))
    all_goals
      go_ret
      exact ⟨by simp [cmdOK, bodyOK, Ecl.out, Esq.out, Epn.out, En.out, noS_iff, *], (by repeat (first | exact Below.refl _ _ | (refine Below.alloc ?_ (by (try simp) <;> (try omega)) _) | (refine Below.setCell ?_ (by (try simp) <;> (try omega)) _) | (refine Below.drew ?_) | (refine Below.trans ?_ (Below.mono (by assumption) (by (try simp) <;> (try omega))))))⟩
  by_cases k5 : k = 5
  · obtain rfl : k = 5 := k5
    obtain ⟨bpn, hpn⟩ : ∃ b, inB pn 1 1000 = b := ⟨_, rfl⟩
    have Epn : Hid (inB pn 1 1000 = bpn) := hpn
    clear hpn
    obtain ⟨bep, hep⟩ : ∃ b, inB ep 1 60000 = b := ⟨_, rfl⟩
    have Eep : Hid (inB ep 1 60000 = bep) := hep
    clear hep
    obtain ⟨bdt, hdt⟩ : ∃ b, inB dt.size 1 200 = b := ⟨_, rfl⟩
    have Edt : Hid (inB dt.size 1 200 = bdt) := hdt
    clear hdt
    cases bpn
    case false =>
      go_enter Try.func83, Try.ntmps83
      go_wp2_with (first | (go_at_call 142; refine (isClientId_c _ _).mono ?_; (first | rw [Ecl.out] | skip); rintro e wx ⟨rfl, rfl⟩) | (go_at_call 91; refine (within_c _ _ _ _).mono ?_; (first | rw [Esq.out] | rw [Eep.out] | rw [Edt.out] | skip); rintro e wx ⟨rfl, rfl⟩) | (go_at_call 144; refine (isPaneId_c _ _).mono ?_; (first | rw [Epn.out] | skip); rintro e wx ⟨rfl, rfl⟩))
      all_goals
        go_ret
        exact ⟨by simp [cmdOK, bodyOK, Ecl.out, Esq.out, Epn.out, Eep.out, Edt.out, noS_iff, *], (by repeat (first | exact Below.refl _ _ | (refine Below.alloc ?_ (by (try simp) <;> (try omega)) _) | (refine Below.setCell ?_ (by (try simp) <;> (try omega)) _) | (refine Below.drew ?_) | (refine Below.trans ?_ (Below.mono (by assumption) (by (try simp) <;> (try omega))))))⟩
    cases bep
    case false =>
      go_enter Try.func83, Try.ntmps83
      go_wp2_with (first | (go_at_call 142; refine (isClientId_c _ _).mono ?_; (first | rw [Ecl.out] | skip); rintro e wx ⟨rfl, rfl⟩) | (go_at_call 91; refine (within_c _ _ _ _).mono ?_; (first | rw [Esq.out] | rw [Eep.out] | rw [Edt.out] | skip); rintro e wx ⟨rfl, rfl⟩) | (go_at_call 144; refine (isPaneId_c _ _).mono ?_; (first | rw [Epn.out] | skip); rintro e wx ⟨rfl, rfl⟩))
      all_goals
        go_ret
        exact ⟨by simp [cmdOK, bodyOK, Ecl.out, Esq.out, Epn.out, Eep.out, Edt.out, noS_iff, *], (by repeat (first | exact Below.refl _ _ | (refine Below.alloc ?_ (by (try simp) <;> (try omega)) _) | (refine Below.setCell ?_ (by (try simp) <;> (try omega)) _) | (refine Below.drew ?_) | (refine Below.trans ?_ (Below.mono (by assumption) (by (try simp) <;> (try omega))))))⟩
    cases bdt
    case false =>
      go_enter Try.func83, Try.ntmps83
      go_wp2_with (first | (go_at_call 142; refine (isClientId_c _ _).mono ?_; (first | rw [Ecl.out] | skip); rintro e wx ⟨rfl, rfl⟩) | (go_at_call 91; refine (within_c _ _ _ _).mono ?_; (first | rw [Esq.out] | rw [Eep.out] | rw [Edt.out] | skip); rintro e wx ⟨rfl, rfl⟩) | (go_at_call 144; refine (isPaneId_c _ _).mono ?_; (first | rw [Epn.out] | skip); rintro e wx ⟨rfl, rfl⟩))
      all_goals
        go_ret
        exact ⟨by simp [cmdOK, bodyOK, Ecl.out, Esq.out, Epn.out, Eep.out, Edt.out, noS_iff, *], (by repeat (first | exact Below.refl _ _ | (refine Below.alloc ?_ (by (try simp) <;> (try omega)) _) | (refine Below.setCell ?_ (by (try simp) <;> (try omega)) _) | (refine Below.drew ?_) | (refine Below.trans ?_ (Below.mono (by assumption) (by (try simp) <;> (try omega))))))⟩
    go_enter Try.func83, Try.ntmps83
    go_wp2_with (first | (go_at_call 142; refine (isClientId_c _ _).mono ?_; (first | rw [Ecl.out] | skip); rintro e wx ⟨rfl, rfl⟩) | (go_at_call 91; refine (within_c _ _ _ _).mono ?_; (first | rw [Esq.out] | rw [Eep.out] | rw [Edt.out] | skip); rintro e wx ⟨rfl, rfl⟩) | (go_at_call 144; refine (isPaneId_c _ _).mono ?_; (first | rw [Epn.out] | skip); rintro e wx ⟨rfl, rfl⟩))
    all_goals
      go_ret
      exact ⟨by simp [cmdOK, bodyOK, Ecl.out, Esq.out, Epn.out, Eep.out, Edt.out, noS_iff, *], (by repeat (first | exact Below.refl _ _ | (refine Below.alloc ?_ (by (try simp) <;> (try omega)) _) | (refine Below.setCell ?_ (by (try simp) <;> (try omega)) _) | (refine Below.drew ?_) | (refine Below.trans ?_ (Below.mono (by assumption) (by (try simp) <;> (try omega))))))⟩
  by_cases k6 : k = 6
  · obtain rfl : k = 6 := k6
    obtain ⟨bpn, hpn⟩ : ∃ b, inB pn 1 1000 = b := ⟨_, rfl⟩
    have Epn : Hid (inB pn 1 1000 = bpn) := hpn
    clear hpn
    obtain ⟨bn, hn⟩ : ∃ b, inB n 0 200 = b := ⟨_, rfl⟩
    have En : Hid (inB n 0 200 = bn) := hn
    clear hn
    cases bpn
    case false =>
      go_enter Try.func83, Try.ntmps83
      go_wp2_with (first | (go_at_call 142; refine (isClientId_c _ _).mono ?_; (first | rw [Ecl.out] | rw [En.out] | skip); rintro e wx ⟨rfl, rfl⟩) | (go_at_call 91; refine (within_c _ _ _ _).mono ?_; (first | rw [Esq.out] | skip); rintro e wx ⟨rfl, rfl⟩) | (go_at_call 144; refine (isPaneId_c _ _).mono ?_; (first | rw [Epn.out] | skip); rintro e wx ⟨rfl, rfl⟩))
      all_goals
        go_ret
        exact ⟨by simp [cmdOK, bodyOK, Ecl.out, Esq.out, Epn.out, En.out, noS_iff, *], (by repeat (first | exact Below.refl _ _ | (refine Below.alloc ?_ (by (try simp) <;> (try omega)) _) | (refine Below.setCell ?_ (by (try simp) <;> (try omega)) _) | (refine Below.drew ?_) | (refine Below.trans ?_ (Below.mono (by assumption) (by (try simp) <;> (try omega))))))⟩
    cases bn
    case false =>
      go_enter Try.func83, Try.ntmps83
      go_wp2_with (first | (go_at_call 142; refine (isClientId_c _ _).mono ?_; (first | rw [Ecl.out] | rw [En.out] | skip); rintro e wx ⟨rfl, rfl⟩) | (go_at_call 91; refine (within_c _ _ _ _).mono ?_; (first | rw [Esq.out] | skip); rintro e wx ⟨rfl, rfl⟩) | (go_at_call 144; refine (isPaneId_c _ _).mono ?_; (first | rw [Epn.out] | skip); rintro e wx ⟨rfl, rfl⟩))
      all_goals
        go_ret
        exact ⟨by simp [cmdOK, bodyOK, Ecl.out, Esq.out, Epn.out, En.out, noS_iff, *], (by repeat (first | exact Below.refl _ _ | (refine Below.alloc ?_ (by (try simp) <;> (try omega)) _) | (refine Below.setCell ?_ (by (try simp) <;> (try omega)) _) | (refine Below.drew ?_) | (refine Below.trans ?_ (Below.mono (by assumption) (by (try simp) <;> (try omega))))))⟩
    go_enter Try.func83, Try.ntmps83
    go_wp2_with (first | (go_at_call 142; refine (isClientId_c _ _).mono ?_; (first | rw [Ecl.out] | rw [En.out] | skip); rintro e wx ⟨rfl, rfl⟩) | (go_at_call 91; refine (within_c _ _ _ _).mono ?_; (first | rw [Esq.out] | skip); rintro e wx ⟨rfl, rfl⟩) | (go_at_call 144; refine (isPaneId_c _ _).mono ?_; (first | rw [Epn.out] | skip); rintro e wx ⟨rfl, rfl⟩))
    all_goals
      go_ret
      exact ⟨by simp [cmdOK, bodyOK, Ecl.out, Esq.out, Epn.out, En.out, noS_iff, *], (by repeat (first | exact Below.refl _ _ | (refine Below.alloc ?_ (by (try simp) <;> (try omega)) _) | (refine Below.setCell ?_ (by (try simp) <;> (try omega)) _) | (refine Below.drew ?_) | (refine Below.trans ?_ (Below.mono (by assumption) (by (try simp) <;> (try omega))))))⟩
  by_cases k7 : k = 7
  · obtain rfl : k = 7 := k7
    obtain ⟨bsz, hsz⟩ : ∃ b, (inB n 2 24 && inB ep 2 10) = b := ⟨_, rfl⟩
    have Esz : Hid ((inB n 2 24 && inB ep 2 10) = bsz) := hsz
    clear hsz
    cases bsz
    case false =>
      go_enter Try.func83, Try.ntmps83
      go_wp2_with (first | (go_at_call 142; refine (isClientId_c _ _).mono ?_; (first | rw [Ecl.out] | skip); rintro e wx ⟨rfl, rfl⟩) | (go_at_call 91; refine (within_c _ _ _ _).mono ?_; (first | rw [Esq.out] | skip); rintro e wx ⟨rfl, rfl⟩) | (go_at_call 145; refine (isSize_c _ _ _).mono ?_; (first | rw [Esz.out] | skip); rintro e wx ⟨rfl, rfl⟩))
      all_goals
        go_ret
        exact ⟨by simp [cmdOK, bodyOK, Ecl.out, Esq.out, Esz.out, noS_iff, *], (by repeat (first | exact Below.refl _ _ | (refine Below.alloc ?_ (by (try simp) <;> (try omega)) _) | (refine Below.setCell ?_ (by (try simp) <;> (try omega)) _) | (refine Below.drew ?_) | (refine Below.trans ?_ (Below.mono (by assumption) (by (try simp) <;> (try omega))))))⟩
    go_enter Try.func83, Try.ntmps83
    go_wp2_with (first | (go_at_call 142; refine (isClientId_c _ _).mono ?_; (first | rw [Ecl.out] | skip); rintro e wx ⟨rfl, rfl⟩) | (go_at_call 91; refine (within_c _ _ _ _).mono ?_; (first | rw [Esq.out] | skip); rintro e wx ⟨rfl, rfl⟩) | (go_at_call 145; refine (isSize_c _ _ _).mono ?_; (first | rw [Esz.out] | skip); rintro e wx ⟨rfl, rfl⟩))
    all_goals
      go_ret
      exact ⟨by simp [cmdOK, bodyOK, Ecl.out, Esq.out, Esz.out, noS_iff, *], (by repeat (first | exact Below.refl _ _ | (refine Below.alloc ?_ (by (try simp) <;> (try omega)) _) | (refine Below.setCell ?_ (by (try simp) <;> (try omega)) _) | (refine Below.drew ?_) | (refine Below.trans ?_ (Below.mono (by assumption) (by (try simp) <;> (try omega))))))⟩
  by_cases k8 : k = 8
  · obtain rfl : k = 8 := k8
    obtain ⟨bnm, hnm⟩ : ∃ b, winP nm = b := ⟨_, rfl⟩
    have Enm : Hid (winP nm = bnm) := hnm
    clear hnm
    obtain ⟨bdt, hdt⟩ : ∃ b, winP dt = b := ⟨_, rfl⟩
    have Edt : Hid (winP dt = bdt) := hdt
    clear hdt
    cases bnm
    case false =>
      go_enter Try.func83, Try.ntmps83
      go_wp2_with (first | (go_at_call 142; refine (isClientId_c _ _).mono ?_; (first | rw [Ecl.out] | skip); rintro e wx ⟨rfl, rfl⟩) | (go_at_call 91; refine (within_c _ _ _ _).mono ?_; (first | rw [Esq.out] | skip); rintro e wx ⟨rfl, rfl⟩) | (go_at_call 143; refine (isWindowName_c _ _ (by assumption)).mono ?_; (first | rw [Enm.out] | rw [Edt.out] | skip); rintro e wx ⟨rfl, rfl⟩))
      all_goals
        go_ret
        exact ⟨by simp [cmdOK, bodyOK, Ecl.out, Esq.out, Enm.out, Edt.out, noS_iff, *], (by repeat (first | exact Below.refl _ _ | (refine Below.alloc ?_ (by (try simp) <;> (try omega)) _) | (refine Below.setCell ?_ (by (try simp) <;> (try omega)) _) | (refine Below.drew ?_) | (refine Below.trans ?_ (Below.mono (by assumption) (by (try simp) <;> (try omega))))))⟩
    cases bdt
    case false =>
      go_enter Try.func83, Try.ntmps83
      go_wp2_with (first | (go_at_call 142; refine (isClientId_c _ _).mono ?_; (first | rw [Ecl.out] | skip); rintro e wx ⟨rfl, rfl⟩) | (go_at_call 91; refine (within_c _ _ _ _).mono ?_; (first | rw [Esq.out] | skip); rintro e wx ⟨rfl, rfl⟩) | (go_at_call 143; refine (isWindowName_c _ _ (by assumption)).mono ?_; (first | rw [Enm.out] | rw [Edt.out] | skip); rintro e wx ⟨rfl, rfl⟩))
      all_goals
        go_ret
        exact ⟨by simp [cmdOK, bodyOK, Ecl.out, Esq.out, Enm.out, Edt.out, noS_iff, *], (by repeat (first | exact Below.refl _ _ | (refine Below.alloc ?_ (by (try simp) <;> (try omega)) _) | (refine Below.setCell ?_ (by (try simp) <;> (try omega)) _) | (refine Below.drew ?_) | (refine Below.trans ?_ (Below.mono (by assumption) (by (try simp) <;> (try omega))))))⟩
    go_enter Try.func83, Try.ntmps83
    go_wp2_with (first | (go_at_call 142; refine (isClientId_c _ _).mono ?_; (first | rw [Ecl.out] | skip); rintro e wx ⟨rfl, rfl⟩) | (go_at_call 91; refine (within_c _ _ _ _).mono ?_; (first | rw [Esq.out] | skip); rintro e wx ⟨rfl, rfl⟩) | (go_at_call 143; refine (isWindowName_c _ _ (by assumption)).mono ?_; (first | rw [Enm.out] | rw [Edt.out] | skip); rintro e wx ⟨rfl, rfl⟩))
    all_goals
      go_ret
      exact ⟨by simp [cmdOK, bodyOK, Ecl.out, Esq.out, Enm.out, Edt.out, noS_iff, *], (by repeat (first | exact Below.refl _ _ | (refine Below.alloc ?_ (by (try simp) <;> (try omega)) _) | (refine Below.setCell ?_ (by (try simp) <;> (try omega)) _) | (refine Below.drew ?_) | (refine Below.trans ?_ (Below.mono (by assumption) (by (try simp) <;> (try omega))))))⟩
  go_enter Try.func83, Try.ntmps83
  go_wp2_with (first | (go_at_call 142; refine (isClientId_c _ _).mono ?_; (first | rw [Ecl.out] | skip); rintro e wx ⟨rfl, rfl⟩) | (go_at_call 91; refine (within_c _ _ _ _).mono ?_; (first | rw [Esq.out] | skip); rintro e wx ⟨rfl, rfl⟩))
  go_ret
  exact ⟨by simp [cmdOK, bodyOK, Ecl.out, Esq.out, k1, k2, k3, k4, k5, k6, k7, k8], (by repeat (first | exact Below.refl _ _ | (refine Below.alloc ?_ (by (try simp) <;> (try omega)) _) | (refine Below.setCell ?_ (by (try simp) <;> (try omega)) _) | (refine Below.drew ?_) | (refine Below.trans ?_ (Below.mono (by assumption) (by (try simp) <;> (try omega))))))⟩
end Go.Proofs.Ytmdjcoeijlnloaa
