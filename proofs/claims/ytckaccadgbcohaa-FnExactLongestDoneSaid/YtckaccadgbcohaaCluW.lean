/- Messages that are right. No conditions but sizes. -/
import Derived.Test.YtckaccadgbcohaaCluX
import Derived.Test.YtckaccadgbcohaaSame
import Derived.Test.YtckaccadgbcohaaQuiet
import Derived.Test.YtckaccadgbcohaaNodeOK4
namespace Go.Proofs.Ytckaccadgbcohaa
set_option linter.unusedVariables false
set_option linter.unusedSimpArgs false
section
open Go.RowKit
def msgHead (M : MsgV) : Bool := inB M.kind 1 4 && (inB M.src 0 4 && (inB M.dst 0 4 && (!(M.src == M.dst) && (inB M.term 1 1000 && (inB M.index 0 60 && (inB M.commit 0 60 && inB M.lterm 0 M.term))))))
def firstGe (M : MsgV) : Bool := match M.ents with
  | [] => true
  | e :: _ => decide (M.lterm ≤ e.1)
theorem firstGe_at (M : MsgV) (h : 0 < M.ents.length) : firstGe M = decide (M.lterm ≤ (M.ents[0]'h).1) := by
  obtain ⟨k, s, d, t, i, l, c, o, es⟩ := M
  cases es with
  | nil => simp at h
  | cons e es => rfl
noncomputable def msgTail (M : MsgV) : Bool := if M.kind = 3 then entsOK M.ents M.term && (decide ((M.ents.length : Int) ≤ 60 - M.index) && (firstGe M && (decide (0 < M.index) || (M.lterm == 0)))) else decide (M.ents.length = 0)
noncomputable def msgOK (M : MsgV) : Bool := msgHead M && msgTail M
set_option maxRecDepth 100000 in
set_option maxHeartbeats 4000000 in
theorem isMessage_c (r : MsgA) (w : World) (h : r.okM w) (hZ : MsgSz r.M 1048576) :
    Calls Try.prog 77 #[.agg #[.int .i64 r.M.kind, .int .i64 r.M.src, .int .i64 r.M.dst, .int .i64 r.M.term, .int .i64 r.M.index, .int .i64 r.M.lterm, .int .i64 r.M.commit, .bool r.M.ok, .slice r.ae r.M.ents.length r.ce]] w fun e w' => e = .returned (.bool (msgOK r.M)) ∧ Below w.heap.size w w' := by
  have HZ := Lib.hid hZ
  have ha : Sl entE 2 w r.ae r.M.ents := h
  clear hZ h
  generalize hv : msgOK r.M = V
  have HV := Lib.hid hv
  clear hv
  obtain ⟨b_hk, hk⟩ : ∃ b, inB r.M.kind 1 4 = b := ⟨_, rfl⟩
  have HK := Lib.hid hk
  by_cases q_hk : b_hk = false
  · subst q_hk
    have hval : V = false := by
      rw [← HV.out]
      simp [msgOK, msgHead, HK.out]
    subst hval
    clear hk
    go_enter Try.func77, Try.ntmps77
    go_wp2_with (go_at_call 55; refine (within_c _ _ _ _).mono ?_; (first | rw [HK.out]); rintro e w' ⟨rfl, rfl⟩)
    go_ret
    exact ⟨rfl, (by repeat (first | exact Below.refl _ _ | (refine Below.alloc ?_ (by (try simp) <;> (try omega)) _) | (refine Below.setCell ?_ (by (try simp) <;> (try omega)) _) | (refine Below.drew ?_) | (refine Below.trans ?_ (Below.mono (by assumption) (by (try simp) <;> (try omega))))))⟩
  obtain rfl : b_hk = true := by cases b_hk <;> simp_all
  clear hk
  obtain ⟨b_hs, hs⟩ : ∃ b, inB r.M.src 0 4 = b := ⟨_, rfl⟩
  have HS := Lib.hid hs
  by_cases q_hs : b_hs = false
  · subst q_hs
    have hval : V = false := by
      rw [← HV.out]
      simp [msgOK, msgHead, HK.out, HS.out]
    subst hval
    clear hs
    go_enter Try.func77, Try.ntmps77
    go_wp2_with (go_at_call 55; refine (within_c _ _ _ _).mono ?_; (first | rw [HK.out] | rw [HS.out]); rintro e w' ⟨rfl, rfl⟩)
    go_ret
    exact ⟨rfl, (by repeat (first | exact Below.refl _ _ | (refine Below.alloc ?_ (by (try simp) <;> (try omega)) _) | (refine Below.setCell ?_ (by (try simp) <;> (try omega)) _) | (refine Below.drew ?_) | (refine Below.trans ?_ (Below.mono (by assumption) (by (try simp) <;> (try omega))))))⟩
  obtain rfl : b_hs = true := by cases b_hs <;> simp_all
  clear hs
  obtain ⟨b_hd, hd⟩ : ∃ b, inB r.M.dst 0 4 = b := ⟨_, rfl⟩
  have HD := Lib.hid hd
  by_cases q_hd : b_hd = false
  · subst q_hd
    have hval : V = false := by
      rw [← HV.out]
      simp [msgOK, msgHead, HK.out, HS.out, HD.out]
    subst hval
    clear hd
    go_enter Try.func77, Try.ntmps77
    go_wp2_with (go_at_call 55; refine (within_c _ _ _ _).mono ?_; (first | rw [HK.out] | rw [HS.out] | rw [HD.out]); rintro e w' ⟨rfl, rfl⟩)
    go_ret
    exact ⟨rfl, (by repeat (first | exact Below.refl _ _ | (refine Below.alloc ?_ (by (try simp) <;> (try omega)) _) | (refine Below.setCell ?_ (by (try simp) <;> (try omega)) _) | (refine Below.drew ?_) | (refine Below.trans ?_ (Below.mono (by assumption) (by (try simp) <;> (try omega))))))⟩
  obtain rfl : b_hd = true := by cases b_hd <;> simp_all
  clear hd
  obtain ⟨b_hq, hq⟩ : ∃ b, (r.M.src == r.M.dst) = b := ⟨_, rfl⟩
  have HQ := Lib.hid hq
  by_cases q_hq : b_hq = true
  · subst q_hq
    have hval : V = false := by
      rw [← HV.out]
      simp [msgOK, msgHead, HK.out, HS.out, HD.out, HQ.out]
    subst hval
    go_enter Try.func77, Try.ntmps77
    go_wp2_with (go_at_call 55; refine (within_c _ _ _ _).mono ?_; (first | rw [HK.out] | rw [HS.out] | rw [HD.out]); rintro e w' ⟨rfl, rfl⟩)
    go_ret
    exact ⟨rfl, (by repeat (first | exact Below.refl _ _ | (refine Below.alloc ?_ (by (try simp) <;> (try omega)) _) | (refine Below.setCell ?_ (by (try simp) <;> (try omega)) _) | (refine Below.drew ?_) | (refine Below.trans ?_ (Below.mono (by assumption) (by (try simp) <;> (try omega))))))⟩
  obtain rfl : b_hq = false := by cases b_hq <;> simp_all
  obtain ⟨b_ht, ht⟩ : ∃ b, inB r.M.term 1 1000 = b := ⟨_, rfl⟩
  have HT := Lib.hid ht
  by_cases q_ht : b_ht = false
  · subst q_ht
    have hval : V = false := by
      rw [← HV.out]
      simp [msgOK, msgHead, HK.out, HS.out, HD.out, HQ.out, HT.out]
    subst hval
    clear ht
    go_enter Try.func77, Try.ntmps77
    go_wp2_with (go_at_call 55; refine (within_c _ _ _ _).mono ?_; (first | rw [HK.out] | rw [HS.out] | rw [HD.out] | rw [HT.out]); rintro e w' ⟨rfl, rfl⟩)
    go_ret
    exact ⟨rfl, (by repeat (first | exact Below.refl _ _ | (refine Below.alloc ?_ (by (try simp) <;> (try omega)) _) | (refine Below.setCell ?_ (by (try simp) <;> (try omega)) _) | (refine Below.drew ?_) | (refine Below.trans ?_ (Below.mono (by assumption) (by (try simp) <;> (try omega))))))⟩
  obtain rfl : b_ht = true := by cases b_ht <;> simp_all
  clear ht
  obtain ⟨b_hi, hi⟩ : ∃ b, inB r.M.index 0 60 = b := ⟨_, rfl⟩
  have HI := Lib.hid hi
  by_cases q_hi : b_hi = false
  · subst q_hi
    have hval : V = false := by
      rw [← HV.out]
      simp [msgOK, msgHead, HK.out, HS.out, HD.out, HQ.out, HT.out, HI.out]
    subst hval
    clear hi
    go_enter Try.func77, Try.ntmps77
    go_wp2_with (go_at_call 55; refine (within_c _ _ _ _).mono ?_; (first | rw [HK.out] | rw [HS.out] | rw [HD.out] | rw [HT.out] | rw [HI.out]); rintro e w' ⟨rfl, rfl⟩)
    go_ret
    exact ⟨rfl, (by repeat (first | exact Below.refl _ _ | (refine Below.alloc ?_ (by (try simp) <;> (try omega)) _) | (refine Below.setCell ?_ (by (try simp) <;> (try omega)) _) | (refine Below.drew ?_) | (refine Below.trans ?_ (Below.mono (by assumption) (by (try simp) <;> (try omega))))))⟩
  obtain rfl : b_hi = true := by cases b_hi <;> simp_all
  clear hi
  obtain ⟨b_hc, hc⟩ : ∃ b, inB r.M.commit 0 60 = b := ⟨_, rfl⟩
  have HC := Lib.hid hc
  by_cases q_hc : b_hc = false
  · subst q_hc
    have hval : V = false := by
      rw [← HV.out]
      simp [msgOK, msgHead, HK.out, HS.out, HD.out, HQ.out, HT.out, HI.out, HC.out]
    subst hval
    clear hc
    go_enter Try.func77, Try.ntmps77
    go_wp2_with (go_at_call 55; refine (within_c _ _ _ _).mono ?_; (first | rw [HK.out] | rw [HS.out] | rw [HD.out] | rw [HT.out] | rw [HI.out] | rw [HC.out]); rintro e w' ⟨rfl, rfl⟩)
    go_ret
    exact ⟨rfl, (by repeat (first | exact Below.refl _ _ | (refine Below.alloc ?_ (by (try simp) <;> (try omega)) _) | (refine Below.setCell ?_ (by (try simp) <;> (try omega)) _) | (refine Below.drew ?_) | (refine Below.trans ?_ (Below.mono (by assumption) (by (try simp) <;> (try omega))))))⟩
  obtain rfl : b_hc = true := by cases b_hc <;> simp_all
  clear hc
  obtain ⟨b_hl, hl⟩ : ∃ b, inB r.M.lterm 0 r.M.term = b := ⟨_, rfl⟩
  have HL := Lib.hid hl
  by_cases q_hl : b_hl = false
  · subst q_hl
    have hval : V = false := by
      rw [← HV.out]
      simp [msgOK, msgHead, HK.out, HS.out, HD.out, HQ.out, HT.out, HI.out, HC.out, HL.out]
    subst hval
    clear hl
    go_enter Try.func77, Try.ntmps77
    go_wp2_with (go_at_call 55; refine (within_c _ _ _ _).mono ?_; (first | rw [HK.out] | rw [HS.out] | rw [HD.out] | rw [HT.out] | rw [HI.out] | rw [HC.out] | rw [HL.out]); rintro e w' ⟨rfl, rfl⟩)
    go_ret
    exact ⟨rfl, (by repeat (first | exact Below.refl _ _ | (refine Below.alloc ?_ (by (try simp) <;> (try omega)) _) | (refine Below.setCell ?_ (by (try simp) <;> (try omega)) _) | (refine Below.drew ?_) | (refine Below.trans ?_ (Below.mono (by assumption) (by (try simp) <;> (try omega))))))⟩
  obtain rfl : b_hl = true := by cases b_hl <;> simp_all
  clear hl
  have HH : Hid (msgHead r.M = true) := by show _ = _; simp [msgHead, HK.out, HS.out, HD.out, HQ.out, HT.out, HI.out, HC.out, HL.out]
  by_cases h3 : r.M.kind = 3
  · have f3 : (r.M.kind != 3) = false := by simp [h3]
    have H3 := Lib.hid h3
    have hix : 0 ≤ r.M.index ∧ r.M.index ≤ 60 := by have := HI.out; simpa [inB] using this
    have ew : IntKind.i64.wrap (60 - r.M.index) = 60 - r.M.index := IntWalk.i64_in _ ⟨by omega, by omega⟩
    clear h3
    obtain ⟨v1, hv1⟩ : ∃ b, entsOK r.M.ents r.M.term = b := ⟨_, rfl⟩
    have C1 := Lib.hid hv1
    clear hv1
    cases v1
    case false =>
      have HAE : Hid (∀ w', Sl entE 2 w' r.ae r.M.ents → Calls Try.prog 104 #[.slice r.ae r.M.ents.length r.ce, .int .i64 r.M.term] w' fun e w'' => e = .returned (.bool false) ∧ Below w'.heap.size w' w'') := fun w' h => by
        have hh := areEntries_c r.ae r.ce r.M.ents r.M.term w' h HZ.out.ents HZ.out.data
        rw [C1.out] at hh
        exact hh
      have hval : V = false := by
        rw [← HV.out]
        simp [msgOK, HH.out, msgTail, H3.out, C1.out]
      subst hval
      go_enter Try.func77, Try.ntmps77
      go_wp2_with (go_at_call 55; refine (within_c _ _ _ _).mono ?_; (first | rw [HK.out] | rw [HS.out] | rw [HD.out] | rw [HT.out] | rw [HI.out] | rw [HC.out] | rw [HL.out]); rintro e w' ⟨rfl, rfl⟩)
      have xq0 := extW_cell (w := (w.alloc (.cells #[.int .i64 r.M.kind, .int .i64 r.M.src, .int .i64 r.M.dst, .int .i64 r.M.term, .int .i64 r.M.index, .int .i64 r.M.lterm, .int .i64 r.M.commit, .bool r.M.ok, .slice r.ae r.M.ents.length r.ce] 66))) (b := w.heap.size) (by (try simp) <;> (try omega))
      refine wp_region_quietx ((w.alloc (.cells #[.int .i64 r.M.kind, .int .i64 r.M.src, .int .i64 r.M.dst, .int .i64 r.M.term, .int .i64 r.M.index, .int .i64 r.M.lterm, .int .i64 r.M.commit, .bool r.M.ok, .slice r.ae r.M.ents.length r.ce] 66))) rfl (by kernel_rfl) (by kernel_rfl) ?_
      repeat (go_big_quiet_step ((go_at_call 104; exact Calls.quietx (HAE.out _ ((ha.alloc _).keep (extW_below _ _))))))
      refine wpQuiet_nil ?_
      intro _ hw'
      obtain ⟨xq, hw''⟩ := hw'
      subst hw''
      have hbq := extW_below ((w.alloc (.cells #[.int .i64 r.M.kind, .int .i64 r.M.src, .int .i64 r.M.dst, .int .i64 r.M.term, .int .i64 r.M.index, .int .i64 r.M.lterm, .int .i64 r.M.commit, .bool r.M.ok, .slice r.ae r.M.ents.length r.ce] 66))) xq
      generalize extW ((w.alloc (.cells #[.int .i64 r.M.kind, .int .i64 r.M.src, .int .i64 r.M.dst, .int .i64 r.M.term, .int .i64 r.M.index, .int .i64 r.M.lterm, .int .i64 r.M.commit, .bool r.M.ok, .slice r.ae r.M.ents.length r.ce] 66))) xq = wq at hbq ⊢
      clear xq0
      go_wp2_with fail
      go_ret
      exact ⟨rfl, (by repeat (first | exact Below.refl _ _ | (refine Below.alloc ?_ (by (try simp) <;> (try omega)) _) | (refine Below.setCell ?_ (by (try simp) <;> (try omega)) _) | (refine Below.drew ?_) | (refine Below.trans ?_ (Below.mono (by assumption) (by (try simp) <;> (try omega))))))⟩
    case true =>
      have HAE : Hid (∀ w', Sl entE 2 w' r.ae r.M.ents → Calls Try.prog 104 #[.slice r.ae r.M.ents.length r.ce, .int .i64 r.M.term] w' fun e w'' => e = .returned (.bool true) ∧ Below w'.heap.size w' w'') := fun w' h => by
        have hh := areEntries_c r.ae r.ce r.M.ents r.M.term w' h HZ.out.ents HZ.out.data
        rw [C1.out] at hh
        exact hh
      by_cases l1 : (r.M.ents.length : Int) ≤ 60 - r.M.index
      · have d1 : decide ((r.M.ents.length : Int) ≤ 60 - r.M.index) = true := by simpa using l1
        have D1 := Lib.hid d1
        clear l1
        by_cases z0 : r.M.ents.length = 0
        · have dz : ((r.M.ents.length : Int) == 0) = true := beq_iff_eq.2 (by omega)
          have fg : firstGe r.M = true := by unfold firstGe; rw [List.length_eq_zero_iff.1 z0]
          have FG := Lib.hid fg
          clear z0 fg
          by_cases i0 : 0 < r.M.index
          · have d0 : decide (r.M.index > 0) = true := by simp; omega
            have d0' : decide (0 < r.M.index) = true := by simp; omega
            have D0 := Lib.hid d0'
            clear i0
            have hval : V = true := by
              rw [← HV.out]
              simp [msgOK, HH.out, msgTail, H3.out, C1.out, D1.out, FG.out, D0.out]
            subst hval
            go_enter Try.func77, Try.ntmps77
            go_wp2_with (go_at_call 55; refine (within_c _ _ _ _).mono ?_; (first | rw [HK.out] | rw [HS.out] | rw [HD.out] | rw [HT.out] | rw [HI.out] | rw [HC.out] | rw [HL.out]); rintro e w' ⟨rfl, rfl⟩)
            have xq0 := extW_cell (w := (w.alloc (.cells #[.int .i64 r.M.kind, .int .i64 r.M.src, .int .i64 r.M.dst, .int .i64 r.M.term, .int .i64 r.M.index, .int .i64 r.M.lterm, .int .i64 r.M.commit, .bool r.M.ok, .slice r.ae r.M.ents.length r.ce] 66))) (b := w.heap.size) (by (try simp) <;> (try omega))
            refine wp_region_quietx ((w.alloc (.cells #[.int .i64 r.M.kind, .int .i64 r.M.src, .int .i64 r.M.dst, .int .i64 r.M.term, .int .i64 r.M.index, .int .i64 r.M.lterm, .int .i64 r.M.commit, .bool r.M.ok, .slice r.ae r.M.ents.length r.ce] 66))) rfl (by kernel_rfl) (by kernel_rfl) ?_
            repeat (go_big_quiet_step ((go_at_call 104; exact Calls.quietx (HAE.out _ ((ha.alloc _).keep (extW_below _ _))))))
            refine wpQuiet_nil ?_
            intro _ hw'
            obtain ⟨xq, hw''⟩ := hw'
            subst hw''
            have hbq := extW_below ((w.alloc (.cells #[.int .i64 r.M.kind, .int .i64 r.M.src, .int .i64 r.M.dst, .int .i64 r.M.term, .int .i64 r.M.index, .int .i64 r.M.lterm, .int .i64 r.M.commit, .bool r.M.ok, .slice r.ae r.M.ents.length r.ce] 66))) xq
            generalize extW ((w.alloc (.cells #[.int .i64 r.M.kind, .int .i64 r.M.src, .int .i64 r.M.dst, .int .i64 r.M.term, .int .i64 r.M.index, .int .i64 r.M.lterm, .int .i64 r.M.commit, .bool r.M.ok, .slice r.ae r.M.ents.length r.ce] 66))) xq = wq at hbq ⊢
            clear xq0
            go_wp2_with fail
            go_ret
            exact ⟨rfl, (by repeat (first | exact Below.refl _ _ | (refine Below.alloc ?_ (by (try simp) <;> (try omega)) _) | (refine Below.setCell ?_ (by (try simp) <;> (try omega)) _) | (refine Below.drew ?_) | (refine Below.trans ?_ (Below.mono (by assumption) (by (try simp) <;> (try omega))))))⟩
          have d0 : decide (r.M.index > 0) = false := by simp; omega
          have d0' : decide (0 < r.M.index) = false := by simp; omega
          have D0 := Lib.hid d0'
          clear i0
          by_cases l0 : r.M.lterm = 0
          · have dl : (r.M.lterm == 0) = true := by simp [l0]
            have DL := Lib.hid dl
            clear l0
            have hval : V = true := by
              rw [← HV.out]
              simp [msgOK, HH.out, msgTail, H3.out, C1.out, D1.out, FG.out, D0.out, DL.out]
            subst hval
            go_enter Try.func77, Try.ntmps77
            go_wp2_with (go_at_call 55; refine (within_c _ _ _ _).mono ?_; (first | rw [HK.out] | rw [HS.out] | rw [HD.out] | rw [HT.out] | rw [HI.out] | rw [HC.out] | rw [HL.out]); rintro e w' ⟨rfl, rfl⟩)
            have xq0 := extW_cell (w := (w.alloc (.cells #[.int .i64 r.M.kind, .int .i64 r.M.src, .int .i64 r.M.dst, .int .i64 r.M.term, .int .i64 r.M.index, .int .i64 r.M.lterm, .int .i64 r.M.commit, .bool r.M.ok, .slice r.ae r.M.ents.length r.ce] 66))) (b := w.heap.size) (by (try simp) <;> (try omega))
            refine wp_region_quietx ((w.alloc (.cells #[.int .i64 r.M.kind, .int .i64 r.M.src, .int .i64 r.M.dst, .int .i64 r.M.term, .int .i64 r.M.index, .int .i64 r.M.lterm, .int .i64 r.M.commit, .bool r.M.ok, .slice r.ae r.M.ents.length r.ce] 66))) rfl (by kernel_rfl) (by kernel_rfl) ?_
            repeat (go_big_quiet_step ((go_at_call 104; exact Calls.quietx (HAE.out _ ((ha.alloc _).keep (extW_below _ _))))))
            refine wpQuiet_nil ?_
            intro _ hw'
            obtain ⟨xq, hw''⟩ := hw'
            subst hw''
            have hbq := extW_below ((w.alloc (.cells #[.int .i64 r.M.kind, .int .i64 r.M.src, .int .i64 r.M.dst, .int .i64 r.M.term, .int .i64 r.M.index, .int .i64 r.M.lterm, .int .i64 r.M.commit, .bool r.M.ok, .slice r.ae r.M.ents.length r.ce] 66))) xq
            generalize extW ((w.alloc (.cells #[.int .i64 r.M.kind, .int .i64 r.M.src, .int .i64 r.M.dst, .int .i64 r.M.term, .int .i64 r.M.index, .int .i64 r.M.lterm, .int .i64 r.M.commit, .bool r.M.ok, .slice r.ae r.M.ents.length r.ce] 66))) xq = wq at hbq ⊢
            clear xq0
            go_wp2_with fail
            go_ret
            exact ⟨rfl, (by repeat (first | exact Below.refl _ _ | (refine Below.alloc ?_ (by (try simp) <;> (try omega)) _) | (refine Below.setCell ?_ (by (try simp) <;> (try omega)) _) | (refine Below.drew ?_) | (refine Below.trans ?_ (Below.mono (by assumption) (by (try simp) <;> (try omega))))))⟩
          have dl : (r.M.lterm == 0) = false := by simp [l0]
          have DL := Lib.hid dl
          clear l0
          have hval : V = false := by
            rw [← HV.out]
            simp [msgOK, HH.out, msgTail, H3.out, C1.out, D1.out, FG.out, D0.out, DL.out]
          subst hval
          go_enter Try.func77, Try.ntmps77
          go_wp2_with (go_at_call 55; refine (within_c _ _ _ _).mono ?_; (first | rw [HK.out] | rw [HS.out] | rw [HD.out] | rw [HT.out] | rw [HI.out] | rw [HC.out] | rw [HL.out]); rintro e w' ⟨rfl, rfl⟩)
          have xq0 := extW_cell (w := (w.alloc (.cells #[.int .i64 r.M.kind, .int .i64 r.M.src, .int .i64 r.M.dst, .int .i64 r.M.term, .int .i64 r.M.index, .int .i64 r.M.lterm, .int .i64 r.M.commit, .bool r.M.ok, .slice r.ae r.M.ents.length r.ce] 66))) (b := w.heap.size) (by (try simp) <;> (try omega))
          refine wp_region_quietx ((w.alloc (.cells #[.int .i64 r.M.kind, .int .i64 r.M.src, .int .i64 r.M.dst, .int .i64 r.M.term, .int .i64 r.M.index, .int .i64 r.M.lterm, .int .i64 r.M.commit, .bool r.M.ok, .slice r.ae r.M.ents.length r.ce] 66))) rfl (by kernel_rfl) (by kernel_rfl) ?_
          repeat (go_big_quiet_step ((go_at_call 104; exact Calls.quietx (HAE.out _ ((ha.alloc _).keep (extW_below _ _))))))
          refine wpQuiet_nil ?_
          intro _ hw'
          obtain ⟨xq, hw''⟩ := hw'
          subst hw''
          have hbq := extW_below ((w.alloc (.cells #[.int .i64 r.M.kind, .int .i64 r.M.src, .int .i64 r.M.dst, .int .i64 r.M.term, .int .i64 r.M.index, .int .i64 r.M.lterm, .int .i64 r.M.commit, .bool r.M.ok, .slice r.ae r.M.ents.length r.ce] 66))) xq
          generalize extW ((w.alloc (.cells #[.int .i64 r.M.kind, .int .i64 r.M.src, .int .i64 r.M.dst, .int .i64 r.M.term, .int .i64 r.M.index, .int .i64 r.M.lterm, .int .i64 r.M.commit, .bool r.M.ok, .slice r.ae r.M.ents.length r.ce] 66))) xq = wq at hbq ⊢
          clear xq0
          go_wp2_with fail
          go_ret
          exact ⟨rfl, (by repeat (first | exact Below.refl _ _ | (refine Below.alloc ?_ (by (try simp) <;> (try omega)) _) | (refine Below.setCell ?_ (by (try simp) <;> (try omega)) _) | (refine Below.drew ?_) | (refine Below.trans ?_ (Below.mono (by assumption) (by (try simp) <;> (try omega))))))⟩
        have dz : ((r.M.ents.length : Int) == 0) = false := beq_eq_false_iff_ne.2 (by omega)
        obtain ⟨b1, o1, hae1, hb1, hc1⟩ := ha.at (i := 0) (by omega)
        have e0 := hc1 0 (by omega) 0 (by omega)
        simp only [entE, Nat.zero_mul, Nat.add_zero, List.getElem?_cons_zero] at e0
        have r0 : ∀ x, (w.alloc x).cell? ⟨b1, o1, none⟩ = some (.int .i64 (r.M.ents[0]'(by omega)).1) := fun x => (World.cell?_alloc_lt _ _ _ hb1).trans e0
        have fg : firstGe r.M = decide (r.M.lterm ≤ (r.M.ents[0]'(by omega)).1) := firstGe_at r.M (by omega)
        have FG0 := Lib.hid fg
        generalize (r.M.ents[0]'(by omega)).1 = f0 at r0 FG0
        have hl0 : 0 < r.M.ents.length := by omega
        rw [hae1] at HAE ha
        clear hc1 e0 fg
        by_cases g0 : r.M.lterm ≤ f0
        · have dg : decide (f0 ≥ r.M.lterm) = true := by simpa using g0
          have dg' : decide (r.M.lterm ≤ f0) = true := by simpa using g0
          have FG : Hid (firstGe r.M = true) := by show _ = _; rw [FG0.out, dg']
          clear g0 FG0 z0
          by_cases i0 : 0 < r.M.index
          · have d0 : decide (r.M.index > 0) = true := by simp; omega
            have d0' : decide (0 < r.M.index) = true := by simp; omega
            have D0 := Lib.hid d0'
            clear i0
            have hval : V = true := by
              rw [← HV.out]
              simp [msgOK, HH.out, msgTail, H3.out, C1.out, D1.out, FG.out, D0.out]
            subst hval
            go_enter Try.func77, Try.ntmps77
            go_wp2_with (go_at_call 55; refine (within_c _ _ _ _).mono ?_; (first | rw [HK.out] | rw [HS.out] | rw [HD.out] | rw [HT.out] | rw [HI.out] | rw [HC.out] | rw [HL.out]); rintro e w' ⟨rfl, rfl⟩)
            have xq0 := extW_cell (w := (w.alloc (.cells #[.int .i64 r.M.kind, .int .i64 r.M.src, .int .i64 r.M.dst, .int .i64 r.M.term, .int .i64 r.M.index, .int .i64 r.M.lterm, .int .i64 r.M.commit, .bool r.M.ok, .slice (some ⟨b1, o1, none⟩) r.M.ents.length r.ce] 66))) (b := w.heap.size) (by (try simp) <;> (try omega))
            have xq1 := extW_cell (w := (w.alloc (.cells #[.int .i64 r.M.kind, .int .i64 r.M.src, .int .i64 r.M.dst, .int .i64 r.M.term, .int .i64 r.M.index, .int .i64 r.M.lterm, .int .i64 r.M.commit, .bool r.M.ok, .slice (some ⟨b1, o1, none⟩) r.M.ents.length r.ce] 66))) (b := b1) (by (try simp) <;> (try omega))
            refine wp_region_quietx ((w.alloc (.cells #[.int .i64 r.M.kind, .int .i64 r.M.src, .int .i64 r.M.dst, .int .i64 r.M.term, .int .i64 r.M.index, .int .i64 r.M.lterm, .int .i64 r.M.commit, .bool r.M.ok, .slice (some ⟨b1, o1, none⟩) r.M.ents.length r.ce] 66))) rfl (by kernel_rfl) (by kernel_rfl) ?_
            repeat (go_big_quiet_step ((go_at_call 104; exact Calls.quietx (HAE.out _ ((ha.alloc _).keep (extW_below _ _))))))
            refine wpQuiet_nil ?_
            intro _ hw'
            obtain ⟨xq, hw''⟩ := hw'
            subst hw''
            have hbq := extW_below ((w.alloc (.cells #[.int .i64 r.M.kind, .int .i64 r.M.src, .int .i64 r.M.dst, .int .i64 r.M.term, .int .i64 r.M.index, .int .i64 r.M.lterm, .int .i64 r.M.commit, .bool r.M.ok, .slice (some ⟨b1, o1, none⟩) r.M.ents.length r.ce] 66))) xq
            generalize extW ((w.alloc (.cells #[.int .i64 r.M.kind, .int .i64 r.M.src, .int .i64 r.M.dst, .int .i64 r.M.term, .int .i64 r.M.index, .int .i64 r.M.lterm, .int .i64 r.M.commit, .bool r.M.ok, .slice (some ⟨b1, o1, none⟩) r.M.ents.length r.ce] 66))) xq = wq at hbq ⊢
            clear xq0
            clear xq1
            go_wp2_with fail
            go_ret
            exact ⟨rfl, (by repeat (first | exact Below.refl _ _ | (refine Below.alloc ?_ (by (try simp) <;> (try omega)) _) | (refine Below.setCell ?_ (by (try simp) <;> (try omega)) _) | (refine Below.drew ?_) | (refine Below.trans ?_ (Below.mono (by assumption) (by (try simp) <;> (try omega))))))⟩
          have d0 : decide (r.M.index > 0) = false := by simp; omega
          have d0' : decide (0 < r.M.index) = false := by simp; omega
          have D0 := Lib.hid d0'
          clear i0
          by_cases l0 : r.M.lterm = 0
          · have dl : (r.M.lterm == 0) = true := by simp [l0]
            have DL := Lib.hid dl
            clear l0
            have hval : V = true := by
              rw [← HV.out]
              simp [msgOK, HH.out, msgTail, H3.out, C1.out, D1.out, FG.out, D0.out, DL.out]
            subst hval
            go_enter Try.func77, Try.ntmps77
            go_wp2_with (go_at_call 55; refine (within_c _ _ _ _).mono ?_; (first | rw [HK.out] | rw [HS.out] | rw [HD.out] | rw [HT.out] | rw [HI.out] | rw [HC.out] | rw [HL.out]); rintro e w' ⟨rfl, rfl⟩)
            have xq0 := extW_cell (w := (w.alloc (.cells #[.int .i64 r.M.kind, .int .i64 r.M.src, .int .i64 r.M.dst, .int .i64 r.M.term, .int .i64 r.M.index, .int .i64 r.M.lterm, .int .i64 r.M.commit, .bool r.M.ok, .slice (some ⟨b1, o1, none⟩) r.M.ents.length r.ce] 66))) (b := w.heap.size) (by (try simp) <;> (try omega))
            have xq1 := extW_cell (w := (w.alloc (.cells #[.int .i64 r.M.kind, .int .i64 r.M.src, .int .i64 r.M.dst, .int .i64 r.M.term, .int .i64 r.M.index, .int .i64 r.M.lterm, .int .i64 r.M.commit, .bool r.M.ok, .slice (some ⟨b1, o1, none⟩) r.M.ents.length r.ce] 66))) (b := b1) (by (try simp) <;> (try omega))
            refine wp_region_quietx ((w.alloc (.cells #[.int .i64 r.M.kind, .int .i64 r.M.src, .int .i64 r.M.dst, .int .i64 r.M.term, .int .i64 r.M.index, .int .i64 r.M.lterm, .int .i64 r.M.commit, .bool r.M.ok, .slice (some ⟨b1, o1, none⟩) r.M.ents.length r.ce] 66))) rfl (by kernel_rfl) (by kernel_rfl) ?_
            repeat (go_big_quiet_step ((go_at_call 104; exact Calls.quietx (HAE.out _ ((ha.alloc _).keep (extW_below _ _))))))
            refine wpQuiet_nil ?_
            intro _ hw'
            obtain ⟨xq, hw''⟩ := hw'
            subst hw''
            have hbq := extW_below ((w.alloc (.cells #[.int .i64 r.M.kind, .int .i64 r.M.src, .int .i64 r.M.dst, .int .i64 r.M.term, .int .i64 r.M.index, .int .i64 r.M.lterm, .int .i64 r.M.commit, .bool r.M.ok, .slice (some ⟨b1, o1, none⟩) r.M.ents.length r.ce] 66))) xq
            generalize extW ((w.alloc (.cells #[.int .i64 r.M.kind, .int .i64 r.M.src, .int .i64 r.M.dst, .int .i64 r.M.term, .int .i64 r.M.index, .int .i64 r.M.lterm, .int .i64 r.M.commit, .bool r.M.ok, .slice (some ⟨b1, o1, none⟩) r.M.ents.length r.ce] 66))) xq = wq at hbq ⊢
            clear xq0
            clear xq1
            go_wp2_with fail
            go_ret
            exact ⟨rfl, (by repeat (first | exact Below.refl _ _ | (refine Below.alloc ?_ (by (try simp) <;> (try omega)) _) | (refine Below.setCell ?_ (by (try simp) <;> (try omega)) _) | (refine Below.drew ?_) | (refine Below.trans ?_ (Below.mono (by assumption) (by (try simp) <;> (try omega))))))⟩
          have dl : (r.M.lterm == 0) = false := by simp [l0]
          have DL := Lib.hid dl
          clear l0
          have hval : V = false := by
            rw [← HV.out]
            simp [msgOK, HH.out, msgTail, H3.out, C1.out, D1.out, FG.out, D0.out, DL.out]
          subst hval
          go_enter Try.func77, Try.ntmps77
          go_wp2_with (go_at_call 55; refine (within_c _ _ _ _).mono ?_; (first | rw [HK.out] | rw [HS.out] | rw [HD.out] | rw [HT.out] | rw [HI.out] | rw [HC.out] | rw [HL.out]); rintro e w' ⟨rfl, rfl⟩)
          have xq0 := extW_cell (w := (w.alloc (.cells #[.int .i64 r.M.kind, .int .i64 r.M.src, .int .i64 r.M.dst, .int .i64 r.M.term, .int .i64 r.M.index, .int .i64 r.M.lterm, .int .i64 r.M.commit, .bool r.M.ok, .slice (some ⟨b1, o1, none⟩) r.M.ents.length r.ce] 66))) (b := w.heap.size) (by (try simp) <;> (try omega))
          have xq1 := extW_cell (w := (w.alloc (.cells #[.int .i64 r.M.kind, .int .i64 r.M.src, .int .i64 r.M.dst, .int .i64 r.M.term, .int .i64 r.M.index, .int .i64 r.M.lterm, .int .i64 r.M.commit, .bool r.M.ok, .slice (some ⟨b1, o1, none⟩) r.M.ents.length r.ce] 66))) (b := b1) (by (try simp) <;> (try omega))
          refine wp_region_quietx ((w.alloc (.cells #[.int .i64 r.M.kind, .int .i64 r.M.src, .int .i64 r.M.dst, .int .i64 r.M.term, .int .i64 r.M.index, .int .i64 r.M.lterm, .int .i64 r.M.commit, .bool r.M.ok, .slice (some ⟨b1, o1, none⟩) r.M.ents.length r.ce] 66))) rfl (by kernel_rfl) (by kernel_rfl) ?_
          repeat (go_big_quiet_step ((go_at_call 104; exact Calls.quietx (HAE.out _ ((ha.alloc _).keep (extW_below _ _))))))
          refine wpQuiet_nil ?_
          intro _ hw'
          obtain ⟨xq, hw''⟩ := hw'
          subst hw''
          have hbq := extW_below ((w.alloc (.cells #[.int .i64 r.M.kind, .int .i64 r.M.src, .int .i64 r.M.dst, .int .i64 r.M.term, .int .i64 r.M.index, .int .i64 r.M.lterm, .int .i64 r.M.commit, .bool r.M.ok, .slice (some ⟨b1, o1, none⟩) r.M.ents.length r.ce] 66))) xq
          generalize extW ((w.alloc (.cells #[.int .i64 r.M.kind, .int .i64 r.M.src, .int .i64 r.M.dst, .int .i64 r.M.term, .int .i64 r.M.index, .int .i64 r.M.lterm, .int .i64 r.M.commit, .bool r.M.ok, .slice (some ⟨b1, o1, none⟩) r.M.ents.length r.ce] 66))) xq = wq at hbq ⊢
          clear xq0
          clear xq1
          go_wp2_with fail
          go_ret
          exact ⟨rfl, (by repeat (first | exact Below.refl _ _ | (refine Below.alloc ?_ (by (try simp) <;> (try omega)) _) | (refine Below.setCell ?_ (by (try simp) <;> (try omega)) _) | (refine Below.drew ?_) | (refine Below.trans ?_ (Below.mono (by assumption) (by (try simp) <;> (try omega))))))⟩
        have dg : decide (f0 ≥ r.M.lterm) = false := by simpa using g0
        have dg' : decide (r.M.lterm ≤ f0) = false := by simpa using g0
        have FG : Hid (firstGe r.M = false) := by show _ = _; rw [FG0.out, dg']
        clear g0 FG0 z0
        have hval : V = false := by
          rw [← HV.out]
          simp [msgOK, HH.out, msgTail, H3.out, C1.out, D1.out, FG.out]
        subst hval
        go_enter Try.func77, Try.ntmps77
        go_wp2_with (go_at_call 55; refine (within_c _ _ _ _).mono ?_; (first | rw [HK.out] | rw [HS.out] | rw [HD.out] | rw [HT.out] | rw [HI.out] | rw [HC.out] | rw [HL.out]); rintro e w' ⟨rfl, rfl⟩)
        have xq0 := extW_cell (w := (w.alloc (.cells #[.int .i64 r.M.kind, .int .i64 r.M.src, .int .i64 r.M.dst, .int .i64 r.M.term, .int .i64 r.M.index, .int .i64 r.M.lterm, .int .i64 r.M.commit, .bool r.M.ok, .slice (some ⟨b1, o1, none⟩) r.M.ents.length r.ce] 66))) (b := w.heap.size) (by (try simp) <;> (try omega))
        have xq1 := extW_cell (w := (w.alloc (.cells #[.int .i64 r.M.kind, .int .i64 r.M.src, .int .i64 r.M.dst, .int .i64 r.M.term, .int .i64 r.M.index, .int .i64 r.M.lterm, .int .i64 r.M.commit, .bool r.M.ok, .slice (some ⟨b1, o1, none⟩) r.M.ents.length r.ce] 66))) (b := b1) (by (try simp) <;> (try omega))
        refine wp_region_quietx ((w.alloc (.cells #[.int .i64 r.M.kind, .int .i64 r.M.src, .int .i64 r.M.dst, .int .i64 r.M.term, .int .i64 r.M.index, .int .i64 r.M.lterm, .int .i64 r.M.commit, .bool r.M.ok, .slice (some ⟨b1, o1, none⟩) r.M.ents.length r.ce] 66))) rfl (by kernel_rfl) (by kernel_rfl) ?_
        repeat (go_big_quiet_step ((go_at_call 104; exact Calls.quietx (HAE.out _ ((ha.alloc _).keep (extW_below _ _))))))
        refine wpQuiet_nil ?_
        intro _ hw'
        obtain ⟨xq, hw''⟩ := hw'
        subst hw''
        have hbq := extW_below ((w.alloc (.cells #[.int .i64 r.M.kind, .int .i64 r.M.src, .int .i64 r.M.dst, .int .i64 r.M.term, .int .i64 r.M.index, .int .i64 r.M.lterm, .int .i64 r.M.commit, .bool r.M.ok, .slice (some ⟨b1, o1, none⟩) r.M.ents.length r.ce] 66))) xq
        generalize extW ((w.alloc (.cells #[.int .i64 r.M.kind, .int .i64 r.M.src, .int .i64 r.M.dst, .int .i64 r.M.term, .int .i64 r.M.index, .int .i64 r.M.lterm, .int .i64 r.M.commit, .bool r.M.ok, .slice (some ⟨b1, o1, none⟩) r.M.ents.length r.ce] 66))) xq = wq at hbq ⊢
        clear xq0
        clear xq1
        go_wp2_with fail
        go_ret
        exact ⟨rfl, (by repeat (first | exact Below.refl _ _ | (refine Below.alloc ?_ (by (try simp) <;> (try omega)) _) | (refine Below.setCell ?_ (by (try simp) <;> (try omega)) _) | (refine Below.drew ?_) | (refine Below.trans ?_ (Below.mono (by assumption) (by (try simp) <;> (try omega))))))⟩
      have d1 : decide ((r.M.ents.length : Int) ≤ 60 - r.M.index) = false := by simpa using l1
      have D1 := Lib.hid d1
      clear l1
      have hval : V = false := by
        rw [← HV.out]
        simp [msgOK, HH.out, msgTail, H3.out, C1.out, D1.out]
      subst hval
      go_enter Try.func77, Try.ntmps77
      go_wp2_with (go_at_call 55; refine (within_c _ _ _ _).mono ?_; (first | rw [HK.out] | rw [HS.out] | rw [HD.out] | rw [HT.out] | rw [HI.out] | rw [HC.out] | rw [HL.out]); rintro e w' ⟨rfl, rfl⟩)
      have xq0 := extW_cell (w := (w.alloc (.cells #[.int .i64 r.M.kind, .int .i64 r.M.src, .int .i64 r.M.dst, .int .i64 r.M.term, .int .i64 r.M.index, .int .i64 r.M.lterm, .int .i64 r.M.commit, .bool r.M.ok, .slice r.ae r.M.ents.length r.ce] 66))) (b := w.heap.size) (by (try simp) <;> (try omega))
      refine wp_region_quietx ((w.alloc (.cells #[.int .i64 r.M.kind, .int .i64 r.M.src, .int .i64 r.M.dst, .int .i64 r.M.term, .int .i64 r.M.index, .int .i64 r.M.lterm, .int .i64 r.M.commit, .bool r.M.ok, .slice r.ae r.M.ents.length r.ce] 66))) rfl (by kernel_rfl) (by kernel_rfl) ?_
      repeat (go_big_quiet_step ((go_at_call 104; exact Calls.quietx (HAE.out _ ((ha.alloc _).keep (extW_below _ _))))))
      refine wpQuiet_nil ?_
      intro _ hw'
      obtain ⟨xq, hw''⟩ := hw'
      subst hw''
      have hbq := extW_below ((w.alloc (.cells #[.int .i64 r.M.kind, .int .i64 r.M.src, .int .i64 r.M.dst, .int .i64 r.M.term, .int .i64 r.M.index, .int .i64 r.M.lterm, .int .i64 r.M.commit, .bool r.M.ok, .slice r.ae r.M.ents.length r.ce] 66))) xq
      generalize extW ((w.alloc (.cells #[.int .i64 r.M.kind, .int .i64 r.M.src, .int .i64 r.M.dst, .int .i64 r.M.term, .int .i64 r.M.index, .int .i64 r.M.lterm, .int .i64 r.M.commit, .bool r.M.ok, .slice r.ae r.M.ents.length r.ce] 66))) xq = wq at hbq ⊢
      clear xq0
      go_wp2_with fail
      go_ret
      exact ⟨rfl, (by repeat (first | exact Below.refl _ _ | (refine Below.alloc ?_ (by (try simp) <;> (try omega)) _) | (refine Below.setCell ?_ (by (try simp) <;> (try omega)) _) | (refine Below.drew ?_) | (refine Below.trans ?_ (Below.mono (by assumption) (by (try simp) <;> (try omega))))))⟩
  have f3 : (r.M.kind != 3) = true := by simp [h3]
  by_cases z0 : r.M.ents.length = 0
  · have dz : ((r.M.ents.length : Int) == 0) = true := beq_iff_eq.2 (by omega)
    have hval : V = true := by
      rw [← HV.out]
      simp [msgOK, HH.out, msgTail, h3, z0]
    subst hval
    clear z0
    go_enter Try.func77, Try.ntmps77
    go_wp2_with (go_at_call 55; refine (within_c _ _ _ _).mono ?_; (first | rw [HK.out] | rw [HS.out] | rw [HD.out] | rw [HT.out] | rw [HI.out] | rw [HC.out] | rw [HL.out]); rintro e w' ⟨rfl, rfl⟩)
    go_ret
    exact ⟨rfl, (by repeat (first | exact Below.refl _ _ | (refine Below.alloc ?_ (by (try simp) <;> (try omega)) _) | (refine Below.setCell ?_ (by (try simp) <;> (try omega)) _) | (refine Below.drew ?_) | (refine Below.trans ?_ (Below.mono (by assumption) (by (try simp) <;> (try omega))))))⟩
  have dz : ((r.M.ents.length : Int) == 0) = false := beq_eq_false_iff_ne.2 (by omega)
  have hval : V = false := by
    rw [← HV.out]
    simp [msgOK, HH.out, msgTail, h3, z0]
  subst hval
  clear z0
  go_enter Try.func77, Try.ntmps77
  go_wp2_with (go_at_call 55; refine (within_c _ _ _ _).mono ?_; (first | rw [HK.out] | rw [HS.out] | rw [HD.out] | rw [HT.out] | rw [HI.out] | rw [HC.out] | rw [HL.out]); rintro e w' ⟨rfl, rfl⟩)
  go_ret
  exact ⟨rfl, (by repeat (first | exact Below.refl _ _ | (refine Below.alloc ?_ (by (try simp) <;> (try omega)) _) | (refine Below.setCell ?_ (by (try simp) <;> (try omega)) _) | (refine Below.drew ?_) | (refine Below.trans ?_ (Below.mono (by assumption) (by (try simp) <;> (try omega))))))⟩
set_option maxRecDepth 100000 in
set_option maxHeartbeats 4000000 in
theorem specMessage_c (r : MsgA) (w : World) (h : r.okM w) (hZ : MsgSz r.M 1048576) :
    Calls Try.prog 36 #[.agg #[.int .i64 r.M.kind, .int .i64 r.M.src, .int .i64 r.M.dst, .int .i64 r.M.term, .int .i64 r.M.index, .int .i64 r.M.lterm, .int .i64 r.M.commit, .bool r.M.ok, .slice r.ae r.M.ents.length r.ce]] w fun e w' => e = .returned (.bool (msgOK r.M)) ∧ Below w.heap.size w w' := by
  have HZ := Lib.hid hZ
  have ha : Sl entE 2 w r.ae r.M.ents := h
  clear hZ h
  generalize hv : msgOK r.M = V
  have HV := Lib.hid hv
  clear hv
  obtain ⟨b_hk, hk⟩ : ∃ b, inB r.M.kind 1 4 = b := ⟨_, rfl⟩
  have HK := Lib.hid hk
  by_cases q_hk : b_hk = false
  · subst q_hk
    have hval : V = false := by
      rw [← HV.out]
      simp [msgOK, msgHead, HK.out]
    subst hval
    clear hk
    go_enter Try.func36, Try.ntmps36
    go_wp2_with (go_at_call 63; refine (l01In_c _ _ _ _).mono ?_; (first | rw [HK.out]); rintro e w' ⟨rfl, rfl⟩)
    go_ret
    exact ⟨rfl, (by repeat (first | exact Below.refl _ _ | (refine Below.alloc ?_ (by (try simp) <;> (try omega)) _) | (refine Below.setCell ?_ (by (try simp) <;> (try omega)) _) | (refine Below.drew ?_) | (refine Below.trans ?_ (Below.mono (by assumption) (by (try simp) <;> (try omega))))))⟩
  obtain rfl : b_hk = true := by cases b_hk <;> simp_all
  clear hk
  obtain ⟨b_hs, hs⟩ : ∃ b, inB r.M.src 0 4 = b := ⟨_, rfl⟩
  have HS := Lib.hid hs
  by_cases q_hs : b_hs = false
  · subst q_hs
    have hval : V = false := by
      rw [← HV.out]
      simp [msgOK, msgHead, HK.out, HS.out]
    subst hval
    clear hs
    go_enter Try.func36, Try.ntmps36
    go_wp2_with (go_at_call 63; refine (l01In_c _ _ _ _).mono ?_; (first | rw [HK.out] | rw [HS.out]); rintro e w' ⟨rfl, rfl⟩)
    go_ret
    exact ⟨rfl, (by repeat (first | exact Below.refl _ _ | (refine Below.alloc ?_ (by (try simp) <;> (try omega)) _) | (refine Below.setCell ?_ (by (try simp) <;> (try omega)) _) | (refine Below.drew ?_) | (refine Below.trans ?_ (Below.mono (by assumption) (by (try simp) <;> (try omega))))))⟩
  obtain rfl : b_hs = true := by cases b_hs <;> simp_all
  clear hs
  obtain ⟨b_hd, hd⟩ : ∃ b, inB r.M.dst 0 4 = b := ⟨_, rfl⟩
  have HD := Lib.hid hd
  by_cases q_hd : b_hd = false
  · subst q_hd
    have hval : V = false := by
      rw [← HV.out]
      simp [msgOK, msgHead, HK.out, HS.out, HD.out]
    subst hval
    clear hd
    go_enter Try.func36, Try.ntmps36
    go_wp2_with (go_at_call 63; refine (l01In_c _ _ _ _).mono ?_; (first | rw [HK.out] | rw [HS.out] | rw [HD.out]); rintro e w' ⟨rfl, rfl⟩)
    go_ret
    exact ⟨rfl, (by repeat (first | exact Below.refl _ _ | (refine Below.alloc ?_ (by (try simp) <;> (try omega)) _) | (refine Below.setCell ?_ (by (try simp) <;> (try omega)) _) | (refine Below.drew ?_) | (refine Below.trans ?_ (Below.mono (by assumption) (by (try simp) <;> (try omega))))))⟩
  obtain rfl : b_hd = true := by cases b_hd <;> simp_all
  clear hd
  obtain ⟨b_hq, hq⟩ : ∃ b, (r.M.src == r.M.dst) = b := ⟨_, rfl⟩
  have HQ := Lib.hid hq
  by_cases q_hq : b_hq = true
  · subst q_hq
    have hval : V = false := by
      rw [← HV.out]
      simp [msgOK, msgHead, HK.out, HS.out, HD.out, HQ.out]
    subst hval
    go_enter Try.func36, Try.ntmps36
    go_wp2_with (go_at_call 63; refine (l01In_c _ _ _ _).mono ?_; (first | rw [HK.out] | rw [HS.out] | rw [HD.out]); rintro e w' ⟨rfl, rfl⟩)
    go_ret
    exact ⟨rfl, (by repeat (first | exact Below.refl _ _ | (refine Below.alloc ?_ (by (try simp) <;> (try omega)) _) | (refine Below.setCell ?_ (by (try simp) <;> (try omega)) _) | (refine Below.drew ?_) | (refine Below.trans ?_ (Below.mono (by assumption) (by (try simp) <;> (try omega))))))⟩
  obtain rfl : b_hq = false := by cases b_hq <;> simp_all
  obtain ⟨b_ht, ht⟩ : ∃ b, inB r.M.term 1 1000 = b := ⟨_, rfl⟩
  have HT := Lib.hid ht
  by_cases q_ht : b_ht = false
  · subst q_ht
    have hval : V = false := by
      rw [← HV.out]
      simp [msgOK, msgHead, HK.out, HS.out, HD.out, HQ.out, HT.out]
    subst hval
    clear ht
    go_enter Try.func36, Try.ntmps36
    go_wp2_with (go_at_call 63; refine (l01In_c _ _ _ _).mono ?_; (first | rw [HK.out] | rw [HS.out] | rw [HD.out] | rw [HT.out]); rintro e w' ⟨rfl, rfl⟩)
    go_ret
    exact ⟨rfl, (by repeat (first | exact Below.refl _ _ | (refine Below.alloc ?_ (by (try simp) <;> (try omega)) _) | (refine Below.setCell ?_ (by (try simp) <;> (try omega)) _) | (refine Below.drew ?_) | (refine Below.trans ?_ (Below.mono (by assumption) (by (try simp) <;> (try omega))))))⟩
  obtain rfl : b_ht = true := by cases b_ht <;> simp_all
  clear ht
  obtain ⟨b_hi, hi⟩ : ∃ b, inB r.M.index 0 60 = b := ⟨_, rfl⟩
  have HI := Lib.hid hi
  by_cases q_hi : b_hi = false
  · subst q_hi
    have hval : V = false := by
      rw [← HV.out]
      simp [msgOK, msgHead, HK.out, HS.out, HD.out, HQ.out, HT.out, HI.out]
    subst hval
    clear hi
    go_enter Try.func36, Try.ntmps36
    go_wp2_with (go_at_call 63; refine (l01In_c _ _ _ _).mono ?_; (first | rw [HK.out] | rw [HS.out] | rw [HD.out] | rw [HT.out] | rw [HI.out]); rintro e w' ⟨rfl, rfl⟩)
    go_ret
    exact ⟨rfl, (by repeat (first | exact Below.refl _ _ | (refine Below.alloc ?_ (by (try simp) <;> (try omega)) _) | (refine Below.setCell ?_ (by (try simp) <;> (try omega)) _) | (refine Below.drew ?_) | (refine Below.trans ?_ (Below.mono (by assumption) (by (try simp) <;> (try omega))))))⟩
  obtain rfl : b_hi = true := by cases b_hi <;> simp_all
  clear hi
  obtain ⟨b_hl, hl⟩ : ∃ b, inB r.M.lterm 0 r.M.term = b := ⟨_, rfl⟩
  have HL := Lib.hid hl
  by_cases q_hl : b_hl = false
  · subst q_hl
    have hval : V = false := by
      rw [← HV.out]
      simp [msgOK, msgHead, HK.out, HS.out, HD.out, HQ.out, HT.out, HI.out, HL.out]
    subst hval
    clear hl
    go_enter Try.func36, Try.ntmps36
    go_wp2_with (go_at_call 63; refine (l01In_c _ _ _ _).mono ?_; (first | rw [HK.out] | rw [HS.out] | rw [HD.out] | rw [HT.out] | rw [HI.out] | rw [HL.out]); rintro e w' ⟨rfl, rfl⟩)
    go_ret
    exact ⟨rfl, (by repeat (first | exact Below.refl _ _ | (refine Below.alloc ?_ (by (try simp) <;> (try omega)) _) | (refine Below.setCell ?_ (by (try simp) <;> (try omega)) _) | (refine Below.drew ?_) | (refine Below.trans ?_ (Below.mono (by assumption) (by (try simp) <;> (try omega))))))⟩
  obtain rfl : b_hl = true := by cases b_hl <;> simp_all
  clear hl
  obtain ⟨b_hc, hc⟩ : ∃ b, inB r.M.commit 0 60 = b := ⟨_, rfl⟩
  have HC := Lib.hid hc
  by_cases q_hc : b_hc = false
  · subst q_hc
    have hval : V = false := by
      rw [← HV.out]
      simp [msgOK, msgHead, HK.out, HS.out, HD.out, HQ.out, HT.out, HI.out, HL.out, HC.out]
    subst hval
    clear hc
    go_enter Try.func36, Try.ntmps36
    go_wp2_with (go_at_call 63; refine (l01In_c _ _ _ _).mono ?_; (first | rw [HK.out] | rw [HS.out] | rw [HD.out] | rw [HT.out] | rw [HI.out] | rw [HL.out] | rw [HC.out]); rintro e w' ⟨rfl, rfl⟩)
    go_ret
    exact ⟨rfl, (by repeat (first | exact Below.refl _ _ | (refine Below.alloc ?_ (by (try simp) <;> (try omega)) _) | (refine Below.setCell ?_ (by (try simp) <;> (try omega)) _) | (refine Below.drew ?_) | (refine Below.trans ?_ (Below.mono (by assumption) (by (try simp) <;> (try omega))))))⟩
  obtain rfl : b_hc = true := by cases b_hc <;> simp_all
  clear hc
  have HH : Hid (msgHead r.M = true) := by show _ = _; simp [msgHead, HK.out, HS.out, HD.out, HQ.out, HT.out, HI.out, HL.out, HC.out]
  by_cases h3 : r.M.kind = 3
  · have f3 : (r.M.kind != 3) = false := by simp [h3]
    have H3 := Lib.hid h3
    have hix : 0 ≤ r.M.index ∧ r.M.index ≤ 60 := by have := HI.out; simpa [inB] using this
    have ew : IntKind.i64.wrap (60 - r.M.index) = 60 - r.M.index := IntWalk.i64_in _ ⟨by omega, by omega⟩
    clear h3
    have hs0 : stOK r.M.term 0 r.M.ents = entsOK r.M.ents r.M.term := stOK_ents (by have := HT.out; simp [inB] at this ⊢; omega) (by simp [inB])
    have HS0 := Lib.hid hs0
    clear hs0
    obtain ⟨v1, hv1⟩ : ∃ b, entsOK r.M.ents r.M.term = b := ⟨_, rfl⟩
    have C1 := Lib.hid hv1
    clear hv1
    cases v1
    case false =>
      have HAE : Hid (∀ w', Sl entE 2 w' r.ae r.M.ents → Calls Try.prog 64 #[.agg #[.int .i64 r.M.term, .int .i64 0, .slice r.ae r.M.ents.length r.ce]] w' fun e w'' => e = .returned (.bool false) ∧ Below w'.heap.size w' w'') := fun w' h => by
        have hh := specStateOK_c r.ae r.ce r.M.ents r.M.term 0 w' h HZ.out.ents HZ.out.data
        rw [HS0.out, C1.out] at hh
        exact hh
      by_cases l1 : (r.M.ents.length : Int) ≤ 60 - r.M.index
      · have d1 : decide ((r.M.ents.length : Int) ≤ 60 - r.M.index) = true := by simpa using l1
        have hval : V = false := by
          rw [← HV.out]
          simp [msgOK, HH.out, msgTail, H3.out, C1.out]
        subst hval
        go_enter Try.func36, Try.ntmps36
        go_wp2_with (go_at_call 63; refine (l01In_c _ _ _ _).mono ?_; (first | rw [HK.out] | rw [HS.out] | rw [HD.out] | rw [HT.out] | rw [HI.out] | rw [HL.out] | rw [HC.out]); rintro e w' ⟨rfl, rfl⟩)
        have xq0 := extW_cell (w := (w.alloc (.cells #[.int .i64 r.M.kind, .int .i64 r.M.src, .int .i64 r.M.dst, .int .i64 r.M.term, .int .i64 r.M.index, .int .i64 r.M.lterm, .int .i64 r.M.commit, .bool r.M.ok, .slice r.ae r.M.ents.length r.ce] 66))) (b := w.heap.size) (by (try simp) <;> (try omega))
        refine wp_region_quietx ((w.alloc (.cells #[.int .i64 r.M.kind, .int .i64 r.M.src, .int .i64 r.M.dst, .int .i64 r.M.term, .int .i64 r.M.index, .int .i64 r.M.lterm, .int .i64 r.M.commit, .bool r.M.ok, .slice r.ae r.M.ents.length r.ce] 66))) rfl (by kernel_rfl) (by kernel_rfl) ?_
        repeat (go_big_quiet_step ((go_at_call 64; exact Calls.quietx (HAE.out _ ((ha.alloc _).keep (extW_below _ _))))))
        refine wpQuiet_nil ?_
        intro _ hw'
        obtain ⟨xq, hw''⟩ := hw'
        subst hw''
        have hbq := extW_below ((w.alloc (.cells #[.int .i64 r.M.kind, .int .i64 r.M.src, .int .i64 r.M.dst, .int .i64 r.M.term, .int .i64 r.M.index, .int .i64 r.M.lterm, .int .i64 r.M.commit, .bool r.M.ok, .slice r.ae r.M.ents.length r.ce] 66))) xq
        generalize extW ((w.alloc (.cells #[.int .i64 r.M.kind, .int .i64 r.M.src, .int .i64 r.M.dst, .int .i64 r.M.term, .int .i64 r.M.index, .int .i64 r.M.lterm, .int .i64 r.M.commit, .bool r.M.ok, .slice r.ae r.M.ents.length r.ce] 66))) xq = wq at hbq ⊢
        clear xq0
        go_wp2_with fail
        go_ret
        exact ⟨rfl, (by repeat (first | exact Below.refl _ _ | (refine Below.alloc ?_ (by (try simp) <;> (try omega)) _) | (refine Below.setCell ?_ (by (try simp) <;> (try omega)) _) | (refine Below.drew ?_) | (refine Below.trans ?_ (Below.mono (by assumption) (by (try simp) <;> (try omega))))))⟩
      · have d1 : decide ((r.M.ents.length : Int) ≤ 60 - r.M.index) = false := by simpa using l1
        have hval : V = false := by
          rw [← HV.out]
          simp [msgOK, HH.out, msgTail, H3.out, C1.out]
        subst hval
        go_enter Try.func36, Try.ntmps36
        go_wp2_with (go_at_call 63; refine (l01In_c _ _ _ _).mono ?_; (first | rw [HK.out] | rw [HS.out] | rw [HD.out] | rw [HT.out] | rw [HI.out] | rw [HL.out] | rw [HC.out]); rintro e w' ⟨rfl, rfl⟩)
        have xq0 := extW_cell (w := (w.alloc (.cells #[.int .i64 r.M.kind, .int .i64 r.M.src, .int .i64 r.M.dst, .int .i64 r.M.term, .int .i64 r.M.index, .int .i64 r.M.lterm, .int .i64 r.M.commit, .bool r.M.ok, .slice r.ae r.M.ents.length r.ce] 66))) (b := w.heap.size) (by (try simp) <;> (try omega))
        refine wp_region_quietx ((w.alloc (.cells #[.int .i64 r.M.kind, .int .i64 r.M.src, .int .i64 r.M.dst, .int .i64 r.M.term, .int .i64 r.M.index, .int .i64 r.M.lterm, .int .i64 r.M.commit, .bool r.M.ok, .slice r.ae r.M.ents.length r.ce] 66))) rfl (by kernel_rfl) (by kernel_rfl) ?_
        repeat (go_big_quiet_step ((go_at_call 64; exact Calls.quietx (HAE.out _ ((ha.alloc _).keep (extW_below _ _))))))
        refine wpQuiet_nil ?_
        intro _ hw'
        obtain ⟨xq, hw''⟩ := hw'
        subst hw''
        have hbq := extW_below ((w.alloc (.cells #[.int .i64 r.M.kind, .int .i64 r.M.src, .int .i64 r.M.dst, .int .i64 r.M.term, .int .i64 r.M.index, .int .i64 r.M.lterm, .int .i64 r.M.commit, .bool r.M.ok, .slice r.ae r.M.ents.length r.ce] 66))) xq
        generalize extW ((w.alloc (.cells #[.int .i64 r.M.kind, .int .i64 r.M.src, .int .i64 r.M.dst, .int .i64 r.M.term, .int .i64 r.M.index, .int .i64 r.M.lterm, .int .i64 r.M.commit, .bool r.M.ok, .slice r.ae r.M.ents.length r.ce] 66))) xq = wq at hbq ⊢
        clear xq0
        go_wp2_with fail
        go_ret
        exact ⟨rfl, (by repeat (first | exact Below.refl _ _ | (refine Below.alloc ?_ (by (try simp) <;> (try omega)) _) | (refine Below.setCell ?_ (by (try simp) <;> (try omega)) _) | (refine Below.drew ?_) | (refine Below.trans ?_ (Below.mono (by assumption) (by (try simp) <;> (try omega))))))⟩
    case true =>
      have HAE : Hid (∀ w', Sl entE 2 w' r.ae r.M.ents → Calls Try.prog 64 #[.agg #[.int .i64 r.M.term, .int .i64 0, .slice r.ae r.M.ents.length r.ce]] w' fun e w'' => e = .returned (.bool true) ∧ Below w'.heap.size w' w'') := fun w' h => by
        have hh := specStateOK_c r.ae r.ce r.M.ents r.M.term 0 w' h HZ.out.ents HZ.out.data
        rw [HS0.out, C1.out] at hh
        exact hh
      by_cases l1 : (r.M.ents.length : Int) ≤ 60 - r.M.index
      · have d1 : decide ((r.M.ents.length : Int) ≤ 60 - r.M.index) = true := by simpa using l1
        have D1 := Lib.hid d1
        clear l1
        by_cases z0 : r.M.ents.length = 0
        · have dz : ((r.M.ents.length : Int) == 0) = true := beq_iff_eq.2 (by omega)
          have fg : firstGe r.M = true := by unfold firstGe; rw [List.length_eq_zero_iff.1 z0]
          have FG := Lib.hid fg
          clear z0 fg
          by_cases i0 : 0 < r.M.index
          · have d0 : decide (r.M.index > 0) = true := by simp; omega
            have d0' : decide (0 < r.M.index) = true := by simp; omega
            have D0 := Lib.hid d0'
            clear i0
            have hval : V = true := by
              rw [← HV.out]
              simp [msgOK, HH.out, msgTail, H3.out, C1.out, D1.out, FG.out, D0.out]
            subst hval
            go_enter Try.func36, Try.ntmps36
            go_wp2_with (go_at_call 63; refine (l01In_c _ _ _ _).mono ?_; (first | rw [HK.out] | rw [HS.out] | rw [HD.out] | rw [HT.out] | rw [HI.out] | rw [HL.out] | rw [HC.out]); rintro e w' ⟨rfl, rfl⟩)
            have xq0 := extW_cell (w := (w.alloc (.cells #[.int .i64 r.M.kind, .int .i64 r.M.src, .int .i64 r.M.dst, .int .i64 r.M.term, .int .i64 r.M.index, .int .i64 r.M.lterm, .int .i64 r.M.commit, .bool r.M.ok, .slice r.ae r.M.ents.length r.ce] 66))) (b := w.heap.size) (by (try simp) <;> (try omega))
            refine wp_region_quietx ((w.alloc (.cells #[.int .i64 r.M.kind, .int .i64 r.M.src, .int .i64 r.M.dst, .int .i64 r.M.term, .int .i64 r.M.index, .int .i64 r.M.lterm, .int .i64 r.M.commit, .bool r.M.ok, .slice r.ae r.M.ents.length r.ce] 66))) rfl (by kernel_rfl) (by kernel_rfl) ?_
            repeat (go_big_quiet_step ((go_at_call 64; exact Calls.quietx (HAE.out _ ((ha.alloc _).keep (extW_below _ _))))))
            refine wpQuiet_nil ?_
            intro _ hw'
            obtain ⟨xq, hw''⟩ := hw'
            subst hw''
            have hbq := extW_below ((w.alloc (.cells #[.int .i64 r.M.kind, .int .i64 r.M.src, .int .i64 r.M.dst, .int .i64 r.M.term, .int .i64 r.M.index, .int .i64 r.M.lterm, .int .i64 r.M.commit, .bool r.M.ok, .slice r.ae r.M.ents.length r.ce] 66))) xq
            generalize extW ((w.alloc (.cells #[.int .i64 r.M.kind, .int .i64 r.M.src, .int .i64 r.M.dst, .int .i64 r.M.term, .int .i64 r.M.index, .int .i64 r.M.lterm, .int .i64 r.M.commit, .bool r.M.ok, .slice r.ae r.M.ents.length r.ce] 66))) xq = wq at hbq ⊢
            clear xq0
            go_wp2_with fail
            go_ret
            exact ⟨rfl, (by repeat (first | exact Below.refl _ _ | (refine Below.alloc ?_ (by (try simp) <;> (try omega)) _) | (refine Below.setCell ?_ (by (try simp) <;> (try omega)) _) | (refine Below.drew ?_) | (refine Below.trans ?_ (Below.mono (by assumption) (by (try simp) <;> (try omega))))))⟩
          have d0 : decide (r.M.index > 0) = false := by simp; omega
          have d0' : decide (0 < r.M.index) = false := by simp; omega
          have D0 := Lib.hid d0'
          clear i0
          by_cases l0 : r.M.lterm = 0
          · have dl : (r.M.lterm == 0) = true := by simp [l0]
            have DL := Lib.hid dl
            clear l0
            have hval : V = true := by
              rw [← HV.out]
              simp [msgOK, HH.out, msgTail, H3.out, C1.out, D1.out, FG.out, D0.out, DL.out]
            subst hval
            go_enter Try.func36, Try.ntmps36
            go_wp2_with (go_at_call 63; refine (l01In_c _ _ _ _).mono ?_; (first | rw [HK.out] | rw [HS.out] | rw [HD.out] | rw [HT.out] | rw [HI.out] | rw [HL.out] | rw [HC.out]); rintro e w' ⟨rfl, rfl⟩)
            have xq0 := extW_cell (w := (w.alloc (.cells #[.int .i64 r.M.kind, .int .i64 r.M.src, .int .i64 r.M.dst, .int .i64 r.M.term, .int .i64 r.M.index, .int .i64 r.M.lterm, .int .i64 r.M.commit, .bool r.M.ok, .slice r.ae r.M.ents.length r.ce] 66))) (b := w.heap.size) (by (try simp) <;> (try omega))
            refine wp_region_quietx ((w.alloc (.cells #[.int .i64 r.M.kind, .int .i64 r.M.src, .int .i64 r.M.dst, .int .i64 r.M.term, .int .i64 r.M.index, .int .i64 r.M.lterm, .int .i64 r.M.commit, .bool r.M.ok, .slice r.ae r.M.ents.length r.ce] 66))) rfl (by kernel_rfl) (by kernel_rfl) ?_
            repeat (go_big_quiet_step ((go_at_call 64; exact Calls.quietx (HAE.out _ ((ha.alloc _).keep (extW_below _ _))))))
            refine wpQuiet_nil ?_
            intro _ hw'
            obtain ⟨xq, hw''⟩ := hw'
            subst hw''
            have hbq := extW_below ((w.alloc (.cells #[.int .i64 r.M.kind, .int .i64 r.M.src, .int .i64 r.M.dst, .int .i64 r.M.term, .int .i64 r.M.index, .int .i64 r.M.lterm, .int .i64 r.M.commit, .bool r.M.ok, .slice r.ae r.M.ents.length r.ce] 66))) xq
            generalize extW ((w.alloc (.cells #[.int .i64 r.M.kind, .int .i64 r.M.src, .int .i64 r.M.dst, .int .i64 r.M.term, .int .i64 r.M.index, .int .i64 r.M.lterm, .int .i64 r.M.commit, .bool r.M.ok, .slice r.ae r.M.ents.length r.ce] 66))) xq = wq at hbq ⊢
            clear xq0
            go_wp2_with fail
            go_ret
            exact ⟨rfl, (by repeat (first | exact Below.refl _ _ | (refine Below.alloc ?_ (by (try simp) <;> (try omega)) _) | (refine Below.setCell ?_ (by (try simp) <;> (try omega)) _) | (refine Below.drew ?_) | (refine Below.trans ?_ (Below.mono (by assumption) (by (try simp) <;> (try omega))))))⟩
          have dl : (r.M.lterm == 0) = false := by simp [l0]
          have DL := Lib.hid dl
          clear l0
          have hval : V = false := by
            rw [← HV.out]
            simp [msgOK, HH.out, msgTail, H3.out, C1.out, D1.out, FG.out, D0.out, DL.out]
          subst hval
          go_enter Try.func36, Try.ntmps36
          go_wp2_with (go_at_call 63; refine (l01In_c _ _ _ _).mono ?_; (first | rw [HK.out] | rw [HS.out] | rw [HD.out] | rw [HT.out] | rw [HI.out] | rw [HL.out] | rw [HC.out]); rintro e w' ⟨rfl, rfl⟩)
          have xq0 := extW_cell (w := (w.alloc (.cells #[.int .i64 r.M.kind, .int .i64 r.M.src, .int .i64 r.M.dst, .int .i64 r.M.term, .int .i64 r.M.index, .int .i64 r.M.lterm, .int .i64 r.M.commit, .bool r.M.ok, .slice r.ae r.M.ents.length r.ce] 66))) (b := w.heap.size) (by (try simp) <;> (try omega))
          refine wp_region_quietx ((w.alloc (.cells #[.int .i64 r.M.kind, .int .i64 r.M.src, .int .i64 r.M.dst, .int .i64 r.M.term, .int .i64 r.M.index, .int .i64 r.M.lterm, .int .i64 r.M.commit, .bool r.M.ok, .slice r.ae r.M.ents.length r.ce] 66))) rfl (by kernel_rfl) (by kernel_rfl) ?_
          repeat (go_big_quiet_step ((go_at_call 64; exact Calls.quietx (HAE.out _ ((ha.alloc _).keep (extW_below _ _))))))
          refine wpQuiet_nil ?_
          intro _ hw'
          obtain ⟨xq, hw''⟩ := hw'
          subst hw''
          have hbq := extW_below ((w.alloc (.cells #[.int .i64 r.M.kind, .int .i64 r.M.src, .int .i64 r.M.dst, .int .i64 r.M.term, .int .i64 r.M.index, .int .i64 r.M.lterm, .int .i64 r.M.commit, .bool r.M.ok, .slice r.ae r.M.ents.length r.ce] 66))) xq
          generalize extW ((w.alloc (.cells #[.int .i64 r.M.kind, .int .i64 r.M.src, .int .i64 r.M.dst, .int .i64 r.M.term, .int .i64 r.M.index, .int .i64 r.M.lterm, .int .i64 r.M.commit, .bool r.M.ok, .slice r.ae r.M.ents.length r.ce] 66))) xq = wq at hbq ⊢
          clear xq0
          go_wp2_with fail
          go_ret
          exact ⟨rfl, (by repeat (first | exact Below.refl _ _ | (refine Below.alloc ?_ (by (try simp) <;> (try omega)) _) | (refine Below.setCell ?_ (by (try simp) <;> (try omega)) _) | (refine Below.drew ?_) | (refine Below.trans ?_ (Below.mono (by assumption) (by (try simp) <;> (try omega))))))⟩
        have dz : ((r.M.ents.length : Int) == 0) = false := beq_eq_false_iff_ne.2 (by omega)
        obtain ⟨b1, o1, hae1, hb1, hc1⟩ := ha.at (i := 0) (by omega)
        have e0 := hc1 0 (by omega) 0 (by omega)
        simp only [entE, Nat.zero_mul, Nat.add_zero, List.getElem?_cons_zero] at e0
        have r0 : ∀ x, (w.alloc x).cell? ⟨b1, o1, none⟩ = some (.int .i64 (r.M.ents[0]'(by omega)).1) := fun x => (World.cell?_alloc_lt _ _ _ hb1).trans e0
        have fg : firstGe r.M = decide (r.M.lterm ≤ (r.M.ents[0]'(by omega)).1) := firstGe_at r.M (by omega)
        have FG0 := Lib.hid fg
        generalize (r.M.ents[0]'(by omega)).1 = f0 at r0 FG0
        have hl0 : 0 < r.M.ents.length := by omega
        rw [hae1] at HAE ha
        clear hc1 e0 fg
        by_cases g0 : r.M.lterm ≤ f0
        · have dg : decide (f0 ≥ r.M.lterm) = true := by simpa using g0
          have dg' : decide (r.M.lterm ≤ f0) = true := by simpa using g0
          have FG : Hid (firstGe r.M = true) := by show _ = _; rw [FG0.out, dg']
          clear g0 FG0 z0
          by_cases i0 : 0 < r.M.index
          · have d0 : decide (r.M.index > 0) = true := by simp; omega
            have d0' : decide (0 < r.M.index) = true := by simp; omega
            have D0 := Lib.hid d0'
            clear i0
            have hval : V = true := by
              rw [← HV.out]
              simp [msgOK, HH.out, msgTail, H3.out, C1.out, D1.out, FG.out, D0.out]
            subst hval
            go_enter Try.func36, Try.ntmps36
            go_wp2_with (go_at_call 63; refine (l01In_c _ _ _ _).mono ?_; (first | rw [HK.out] | rw [HS.out] | rw [HD.out] | rw [HT.out] | rw [HI.out] | rw [HL.out] | rw [HC.out]); rintro e w' ⟨rfl, rfl⟩)
            have xq0 := extW_cell (w := (w.alloc (.cells #[.int .i64 r.M.kind, .int .i64 r.M.src, .int .i64 r.M.dst, .int .i64 r.M.term, .int .i64 r.M.index, .int .i64 r.M.lterm, .int .i64 r.M.commit, .bool r.M.ok, .slice (some ⟨b1, o1, none⟩) r.M.ents.length r.ce] 66))) (b := w.heap.size) (by (try simp) <;> (try omega))
            have xq1 := extW_cell (w := (w.alloc (.cells #[.int .i64 r.M.kind, .int .i64 r.M.src, .int .i64 r.M.dst, .int .i64 r.M.term, .int .i64 r.M.index, .int .i64 r.M.lterm, .int .i64 r.M.commit, .bool r.M.ok, .slice (some ⟨b1, o1, none⟩) r.M.ents.length r.ce] 66))) (b := b1) (by (try simp) <;> (try omega))
            refine wp_region_quietx ((w.alloc (.cells #[.int .i64 r.M.kind, .int .i64 r.M.src, .int .i64 r.M.dst, .int .i64 r.M.term, .int .i64 r.M.index, .int .i64 r.M.lterm, .int .i64 r.M.commit, .bool r.M.ok, .slice (some ⟨b1, o1, none⟩) r.M.ents.length r.ce] 66))) rfl (by kernel_rfl) (by kernel_rfl) ?_
            repeat (go_big_quiet_step ((go_at_call 64; exact Calls.quietx (HAE.out _ ((ha.alloc _).keep (extW_below _ _))))))
            refine wpQuiet_nil ?_
            intro _ hw'
            obtain ⟨xq, hw''⟩ := hw'
            subst hw''
            have hbq := extW_below ((w.alloc (.cells #[.int .i64 r.M.kind, .int .i64 r.M.src, .int .i64 r.M.dst, .int .i64 r.M.term, .int .i64 r.M.index, .int .i64 r.M.lterm, .int .i64 r.M.commit, .bool r.M.ok, .slice (some ⟨b1, o1, none⟩) r.M.ents.length r.ce] 66))) xq
            generalize extW ((w.alloc (.cells #[.int .i64 r.M.kind, .int .i64 r.M.src, .int .i64 r.M.dst, .int .i64 r.M.term, .int .i64 r.M.index, .int .i64 r.M.lterm, .int .i64 r.M.commit, .bool r.M.ok, .slice (some ⟨b1, o1, none⟩) r.M.ents.length r.ce] 66))) xq = wq at hbq ⊢
            clear xq0
            clear xq1
            go_wp2_with fail
            go_ret
            exact ⟨rfl, (by repeat (first | exact Below.refl _ _ | (refine Below.alloc ?_ (by (try simp) <;> (try omega)) _) | (refine Below.setCell ?_ (by (try simp) <;> (try omega)) _) | (refine Below.drew ?_) | (refine Below.trans ?_ (Below.mono (by assumption) (by (try simp) <;> (try omega))))))⟩
          have d0 : decide (r.M.index > 0) = false := by simp; omega
          have d0' : decide (0 < r.M.index) = false := by simp; omega
          have D0 := Lib.hid d0'
          clear i0
          by_cases l0 : r.M.lterm = 0
          · have dl : (r.M.lterm == 0) = true := by simp [l0]
            have DL := Lib.hid dl
            clear l0
            have hval : V = true := by
              rw [← HV.out]
              simp [msgOK, HH.out, msgTail, H3.out, C1.out, D1.out, FG.out, D0.out, DL.out]
            subst hval
            go_enter Try.func36, Try.ntmps36
            go_wp2_with (go_at_call 63; refine (l01In_c _ _ _ _).mono ?_; (first | rw [HK.out] | rw [HS.out] | rw [HD.out] | rw [HT.out] | rw [HI.out] | rw [HL.out] | rw [HC.out]); rintro e w' ⟨rfl, rfl⟩)
            have xq0 := extW_cell (w := (w.alloc (.cells #[.int .i64 r.M.kind, .int .i64 r.M.src, .int .i64 r.M.dst, .int .i64 r.M.term, .int .i64 r.M.index, .int .i64 r.M.lterm, .int .i64 r.M.commit, .bool r.M.ok, .slice (some ⟨b1, o1, none⟩) r.M.ents.length r.ce] 66))) (b := w.heap.size) (by (try simp) <;> (try omega))
            have xq1 := extW_cell (w := (w.alloc (.cells #[.int .i64 r.M.kind, .int .i64 r.M.src, .int .i64 r.M.dst, .int .i64 r.M.term, .int .i64 r.M.index, .int .i64 r.M.lterm, .int .i64 r.M.commit, .bool r.M.ok, .slice (some ⟨b1, o1, none⟩) r.M.ents.length r.ce] 66))) (b := b1) (by (try simp) <;> (try omega))
            refine wp_region_quietx ((w.alloc (.cells #[.int .i64 r.M.kind, .int .i64 r.M.src, .int .i64 r.M.dst, .int .i64 r.M.term, .int .i64 r.M.index, .int .i64 r.M.lterm, .int .i64 r.M.commit, .bool r.M.ok, .slice (some ⟨b1, o1, none⟩) r.M.ents.length r.ce] 66))) rfl (by kernel_rfl) (by kernel_rfl) ?_
            repeat (go_big_quiet_step ((go_at_call 64; exact Calls.quietx (HAE.out _ ((ha.alloc _).keep (extW_below _ _))))))
            refine wpQuiet_nil ?_
            intro _ hw'
            obtain ⟨xq, hw''⟩ := hw'
            subst hw''
            have hbq := extW_below ((w.alloc (.cells #[.int .i64 r.M.kind, .int .i64 r.M.src, .int .i64 r.M.dst, .int .i64 r.M.term, .int .i64 r.M.index, .int .i64 r.M.lterm, .int .i64 r.M.commit, .bool r.M.ok, .slice (some ⟨b1, o1, none⟩) r.M.ents.length r.ce] 66))) xq
            generalize extW ((w.alloc (.cells #[.int .i64 r.M.kind, .int .i64 r.M.src, .int .i64 r.M.dst, .int .i64 r.M.term, .int .i64 r.M.index, .int .i64 r.M.lterm, .int .i64 r.M.commit, .bool r.M.ok, .slice (some ⟨b1, o1, none⟩) r.M.ents.length r.ce] 66))) xq = wq at hbq ⊢
            clear xq0
            clear xq1
            go_wp2_with fail
            go_ret
            exact ⟨rfl, (by repeat (first | exact Below.refl _ _ | (refine Below.alloc ?_ (by (try simp) <;> (try omega)) _) | (refine Below.setCell ?_ (by (try simp) <;> (try omega)) _) | (refine Below.drew ?_) | (refine Below.trans ?_ (Below.mono (by assumption) (by (try simp) <;> (try omega))))))⟩
          have dl : (r.M.lterm == 0) = false := by simp [l0]
          have DL := Lib.hid dl
          clear l0
          have hval : V = false := by
            rw [← HV.out]
            simp [msgOK, HH.out, msgTail, H3.out, C1.out, D1.out, FG.out, D0.out, DL.out]
          subst hval
          go_enter Try.func36, Try.ntmps36
          go_wp2_with (go_at_call 63; refine (l01In_c _ _ _ _).mono ?_; (first | rw [HK.out] | rw [HS.out] | rw [HD.out] | rw [HT.out] | rw [HI.out] | rw [HL.out] | rw [HC.out]); rintro e w' ⟨rfl, rfl⟩)
          have xq0 := extW_cell (w := (w.alloc (.cells #[.int .i64 r.M.kind, .int .i64 r.M.src, .int .i64 r.M.dst, .int .i64 r.M.term, .int .i64 r.M.index, .int .i64 r.M.lterm, .int .i64 r.M.commit, .bool r.M.ok, .slice (some ⟨b1, o1, none⟩) r.M.ents.length r.ce] 66))) (b := w.heap.size) (by (try simp) <;> (try omega))
          have xq1 := extW_cell (w := (w.alloc (.cells #[.int .i64 r.M.kind, .int .i64 r.M.src, .int .i64 r.M.dst, .int .i64 r.M.term, .int .i64 r.M.index, .int .i64 r.M.lterm, .int .i64 r.M.commit, .bool r.M.ok, .slice (some ⟨b1, o1, none⟩) r.M.ents.length r.ce] 66))) (b := b1) (by (try simp) <;> (try omega))
          refine wp_region_quietx ((w.alloc (.cells #[.int .i64 r.M.kind, .int .i64 r.M.src, .int .i64 r.M.dst, .int .i64 r.M.term, .int .i64 r.M.index, .int .i64 r.M.lterm, .int .i64 r.M.commit, .bool r.M.ok, .slice (some ⟨b1, o1, none⟩) r.M.ents.length r.ce] 66))) rfl (by kernel_rfl) (by kernel_rfl) ?_
          repeat (go_big_quiet_step ((go_at_call 64; exact Calls.quietx (HAE.out _ ((ha.alloc _).keep (extW_below _ _))))))
          refine wpQuiet_nil ?_
          intro _ hw'
          obtain ⟨xq, hw''⟩ := hw'
          subst hw''
          have hbq := extW_below ((w.alloc (.cells #[.int .i64 r.M.kind, .int .i64 r.M.src, .int .i64 r.M.dst, .int .i64 r.M.term, .int .i64 r.M.index, .int .i64 r.M.lterm, .int .i64 r.M.commit, .bool r.M.ok, .slice (some ⟨b1, o1, none⟩) r.M.ents.length r.ce] 66))) xq
          generalize extW ((w.alloc (.cells #[.int .i64 r.M.kind, .int .i64 r.M.src, .int .i64 r.M.dst, .int .i64 r.M.term, .int .i64 r.M.index, .int .i64 r.M.lterm, .int .i64 r.M.commit, .bool r.M.ok, .slice (some ⟨b1, o1, none⟩) r.M.ents.length r.ce] 66))) xq = wq at hbq ⊢
          clear xq0
          clear xq1
          go_wp2_with fail
          go_ret
          exact ⟨rfl, (by repeat (first | exact Below.refl _ _ | (refine Below.alloc ?_ (by (try simp) <;> (try omega)) _) | (refine Below.setCell ?_ (by (try simp) <;> (try omega)) _) | (refine Below.drew ?_) | (refine Below.trans ?_ (Below.mono (by assumption) (by (try simp) <;> (try omega))))))⟩
        have dg : decide (f0 ≥ r.M.lterm) = false := by simpa using g0
        have dg' : decide (r.M.lterm ≤ f0) = false := by simpa using g0
        have FG : Hid (firstGe r.M = false) := by show _ = _; rw [FG0.out, dg']
        clear g0 FG0 z0
        have hval : V = false := by
          rw [← HV.out]
          simp [msgOK, HH.out, msgTail, H3.out, C1.out, D1.out, FG.out]
        subst hval
        go_enter Try.func36, Try.ntmps36
        go_wp2_with (go_at_call 63; refine (l01In_c _ _ _ _).mono ?_; (first | rw [HK.out] | rw [HS.out] | rw [HD.out] | rw [HT.out] | rw [HI.out] | rw [HL.out] | rw [HC.out]); rintro e w' ⟨rfl, rfl⟩)
        have xq0 := extW_cell (w := (w.alloc (.cells #[.int .i64 r.M.kind, .int .i64 r.M.src, .int .i64 r.M.dst, .int .i64 r.M.term, .int .i64 r.M.index, .int .i64 r.M.lterm, .int .i64 r.M.commit, .bool r.M.ok, .slice (some ⟨b1, o1, none⟩) r.M.ents.length r.ce] 66))) (b := w.heap.size) (by (try simp) <;> (try omega))
        have xq1 := extW_cell (w := (w.alloc (.cells #[.int .i64 r.M.kind, .int .i64 r.M.src, .int .i64 r.M.dst, .int .i64 r.M.term, .int .i64 r.M.index, .int .i64 r.M.lterm, .int .i64 r.M.commit, .bool r.M.ok, .slice (some ⟨b1, o1, none⟩) r.M.ents.length r.ce] 66))) (b := b1) (by (try simp) <;> (try omega))
        refine wp_region_quietx ((w.alloc (.cells #[.int .i64 r.M.kind, .int .i64 r.M.src, .int .i64 r.M.dst, .int .i64 r.M.term, .int .i64 r.M.index, .int .i64 r.M.lterm, .int .i64 r.M.commit, .bool r.M.ok, .slice (some ⟨b1, o1, none⟩) r.M.ents.length r.ce] 66))) rfl (by kernel_rfl) (by kernel_rfl) ?_
        repeat (go_big_quiet_step ((go_at_call 64; exact Calls.quietx (HAE.out _ ((ha.alloc _).keep (extW_below _ _))))))
        refine wpQuiet_nil ?_
        intro _ hw'
        obtain ⟨xq, hw''⟩ := hw'
        subst hw''
        have hbq := extW_below ((w.alloc (.cells #[.int .i64 r.M.kind, .int .i64 r.M.src, .int .i64 r.M.dst, .int .i64 r.M.term, .int .i64 r.M.index, .int .i64 r.M.lterm, .int .i64 r.M.commit, .bool r.M.ok, .slice (some ⟨b1, o1, none⟩) r.M.ents.length r.ce] 66))) xq
        generalize extW ((w.alloc (.cells #[.int .i64 r.M.kind, .int .i64 r.M.src, .int .i64 r.M.dst, .int .i64 r.M.term, .int .i64 r.M.index, .int .i64 r.M.lterm, .int .i64 r.M.commit, .bool r.M.ok, .slice (some ⟨b1, o1, none⟩) r.M.ents.length r.ce] 66))) xq = wq at hbq ⊢
        clear xq0
        clear xq1
        go_wp2_with fail
        go_ret
        exact ⟨rfl, (by repeat (first | exact Below.refl _ _ | (refine Below.alloc ?_ (by (try simp) <;> (try omega)) _) | (refine Below.setCell ?_ (by (try simp) <;> (try omega)) _) | (refine Below.drew ?_) | (refine Below.trans ?_ (Below.mono (by assumption) (by (try simp) <;> (try omega))))))⟩
      have d1 : decide ((r.M.ents.length : Int) ≤ 60 - r.M.index) = false := by simpa using l1
      have D1 := Lib.hid d1
      clear l1
      have hval : V = false := by
        rw [← HV.out]
        simp [msgOK, HH.out, msgTail, H3.out, C1.out, D1.out]
      subst hval
      go_enter Try.func36, Try.ntmps36
      go_wp2_with (go_at_call 63; refine (l01In_c _ _ _ _).mono ?_; (first | rw [HK.out] | rw [HS.out] | rw [HD.out] | rw [HT.out] | rw [HI.out] | rw [HL.out] | rw [HC.out]); rintro e w' ⟨rfl, rfl⟩)
      have xq0 := extW_cell (w := (w.alloc (.cells #[.int .i64 r.M.kind, .int .i64 r.M.src, .int .i64 r.M.dst, .int .i64 r.M.term, .int .i64 r.M.index, .int .i64 r.M.lterm, .int .i64 r.M.commit, .bool r.M.ok, .slice r.ae r.M.ents.length r.ce] 66))) (b := w.heap.size) (by (try simp) <;> (try omega))
      refine wp_region_quietx ((w.alloc (.cells #[.int .i64 r.M.kind, .int .i64 r.M.src, .int .i64 r.M.dst, .int .i64 r.M.term, .int .i64 r.M.index, .int .i64 r.M.lterm, .int .i64 r.M.commit, .bool r.M.ok, .slice r.ae r.M.ents.length r.ce] 66))) rfl (by kernel_rfl) (by kernel_rfl) ?_
      repeat (go_big_quiet_step ((go_at_call 64; exact Calls.quietx (HAE.out _ ((ha.alloc _).keep (extW_below _ _))))))
      refine wpQuiet_nil ?_
      intro _ hw'
      obtain ⟨xq, hw''⟩ := hw'
      subst hw''
      have hbq := extW_below ((w.alloc (.cells #[.int .i64 r.M.kind, .int .i64 r.M.src, .int .i64 r.M.dst, .int .i64 r.M.term, .int .i64 r.M.index, .int .i64 r.M.lterm, .int .i64 r.M.commit, .bool r.M.ok, .slice r.ae r.M.ents.length r.ce] 66))) xq
      generalize extW ((w.alloc (.cells #[.int .i64 r.M.kind, .int .i64 r.M.src, .int .i64 r.M.dst, .int .i64 r.M.term, .int .i64 r.M.index, .int .i64 r.M.lterm, .int .i64 r.M.commit, .bool r.M.ok, .slice r.ae r.M.ents.length r.ce] 66))) xq = wq at hbq ⊢
      clear xq0
      go_wp2_with fail
      go_ret
      exact ⟨rfl, (by repeat (first | exact Below.refl _ _ | (refine Below.alloc ?_ (by (try simp) <;> (try omega)) _) | (refine Below.setCell ?_ (by (try simp) <;> (try omega)) _) | (refine Below.drew ?_) | (refine Below.trans ?_ (Below.mono (by assumption) (by (try simp) <;> (try omega))))))⟩
  have f3 : (r.M.kind != 3) = true := by simp [h3]
  by_cases z0 : r.M.ents.length = 0
  · have dz : ((r.M.ents.length : Int) == 0) = true := beq_iff_eq.2 (by omega)
    have hval : V = true := by
      rw [← HV.out]
      simp [msgOK, HH.out, msgTail, h3, z0]
    subst hval
    clear z0
    go_enter Try.func36, Try.ntmps36
    go_wp2_with (go_at_call 63; refine (l01In_c _ _ _ _).mono ?_; (first | rw [HK.out] | rw [HS.out] | rw [HD.out] | rw [HT.out] | rw [HI.out] | rw [HL.out] | rw [HC.out]); rintro e w' ⟨rfl, rfl⟩)
    go_ret
    exact ⟨rfl, (by repeat (first | exact Below.refl _ _ | (refine Below.alloc ?_ (by (try simp) <;> (try omega)) _) | (refine Below.setCell ?_ (by (try simp) <;> (try omega)) _) | (refine Below.drew ?_) | (refine Below.trans ?_ (Below.mono (by assumption) (by (try simp) <;> (try omega))))))⟩
  have dz : ((r.M.ents.length : Int) == 0) = false := beq_eq_false_iff_ne.2 (by omega)
  have hval : V = false := by
    rw [← HV.out]
    simp [msgOK, HH.out, msgTail, h3, z0]
  subst hval
  clear z0
  go_enter Try.func36, Try.ntmps36
  go_wp2_with (go_at_call 63; refine (l01In_c _ _ _ _).mono ?_; (first | rw [HK.out] | rw [HS.out] | rw [HD.out] | rw [HT.out] | rw [HI.out] | rw [HL.out] | rw [HC.out]); rintro e w' ⟨rfl, rfl⟩)
  go_ret
  exact ⟨rfl, (by repeat (first | exact Below.refl _ _ | (refine Below.alloc ?_ (by (try simp) <;> (try omega)) _) | (refine Below.setCell ?_ (by (try simp) <;> (try omega)) _) | (refine Below.drew ?_) | (refine Below.trans ?_ (Below.mono (by assumption) (by (try simp) <;> (try omega))))))⟩
end
end Go.Proofs.Ytckaccadgbcohaa
