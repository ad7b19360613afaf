/- The reference's ParserOK, ParseBytes. No conditions but sizes. -/
import Derived.Test.YtlhhlmalihajcaaDoorQaC
namespace Go.Proofs.YtlhhlmalihajcaaDoor
set_option linter.unusedVariables false
set_option linter.unusedSimpArgs false
section
open Go.RowKit
theorem pvNo {p : PV} (h : PvOK p → False) : pvB p = false := by
  cases hv : pvB p with
  | false => rfl
  | true => exact (h (pvB_iff.1 hv)).elim
theorem pv_two {p : PV} (hs : p.state = 2) (h1 : 1 ≤ p.args.length) (h8 : p.args.length ≤ 8) (ha : ∀ x ∈ p.args, -1 ≤ x ∧ x ≤ 9999) (ht : p.text = e0) : pvB p = decide (p.utf.size = 0) := by
  unfold pvB
  rw [if_neg (by omega), if_pos hs]
  have hA : argsB p.args = true := by
    simp only [argsB, Bool.and_eq_true, decide_eq_true_eq, List.all_eq_true]
    exact ⟨⟨h1, h8⟩, ha⟩
  rw [hA, tE_iff.2 ht]
  rfl
theorem pv_osc {p : PV} (hs : p.state = 4 ∨ p.state = 5) (ha : p.args = []) (hv : p.priv = false) (h4 : p.text.size ≤ 40) (ht : ∀ x ∈ p.text.data.toList, 32 ≤ x.toNat ∧ x.toNat ≤ 126) : pvB p = decide (p.utf.size = 0) := by
  unfold pvB
  rw [if_neg (by omega), if_neg (by omega), if_pos hs]
  have hA : titB p.text = true := by
    simp only [titB, Bool.and_eq_true, decide_eq_true_eq, List.all_eq_true]
    exact ⟨h4, ht⟩
  rw [hA, cE_iff.2 ⟨ha, hv⟩]
  rfl
theorem pv_utf {p : PV} (hs : p.state = 6) (ha : p.args = []) (hv : p.priv = false) (ht : p.text = e0) : pvB p = begB p.utf.data.toList := by
  unfold pvB
  rw [if_neg (by omega), if_neg (by omega), if_neg (by omega), if_pos hs, cE_iff.2 ⟨ha, hv⟩, tE_iff.2 ht]
  rfl
theorem pv_gnd {p : PV} (hs : p.state = 0 ∨ p.state = 1 ∨ p.state = 3) (ha : p.args = []) (hv : p.priv = false) (ht : p.text = e0) : pvB p = decide (p.utf.size = 0) := by
  unfold pvB
  rw [if_pos hs, cE_iff.2 ⟨ha, hv⟩, tE_iff.2 ht]
  rfl
theorem PvOK.len {p : PV} (h : PvOK p) : p.args.length ≤ 8 := by
  by_cases h2 : p.state = 2
  · have := h.csi h2
    simp only [argsB, Bool.and_eq_true, decide_eq_true_eq] at this
    omega
  · rw [(h.nocsi h2).1]; simp
theorem PvOK.arg {p : PV} (h : PvOK p) : ∀ x ∈ p.args, -1 ≤ x ∧ x ≤ 9999 := by
  intro x hx
  by_cases h2 : p.state = 2
  · have := h.csi h2
    simp only [argsB, Bool.and_eq_true, decide_eq_true_eq, List.all_eq_true] at this
    exact this.2 x hx
  · rw [(h.nocsi h2).1] at hx; simp at hx
theorem PvOK.tit {p : PV} (h : PvOK p) : p.text.size ≤ 40 ∧ ∀ x ∈ p.text.data.toList, 32 ≤ x.toNat ∧ x.toNat ≤ 126 := by
  by_cases h2 : p.state = 4 ∨ p.state = 5
  · have := h.osc h2
    simp only [titB, Bool.and_eq_true, decide_eq_true_eq, List.all_eq_true] at this
    exact this
  · rw [h.noosc (by omega) (by omega)]
    exact ⟨by decide, by simp [e0]⟩
theorem begun0_r (w : World) : Calls Tryd.prog 71 #[.string e0] w fun e w' => e = .returned (.bool false) ∧ w = w' := by
  have HS : Hid (Calls Tryd.prog 88 #[.string e0] w fun e w' => e = .returned (.int .i64 0) ∧ w = w') := Lib.hid (by
    go_enter Tryd.func88, Tryd.ntmps88
    go_wp2_with fail
    go_ret
    exact ⟨rfl, rfl⟩)
  go_enter Tryd.func71, Tryd.ntmps71
  go_wp2_with (go_at_call 88; refine HS.out.mono ?_; rintro e w' ⟨rfl, rfl⟩)
  go_ret
  exact ⟨rfl, rfl⟩
theorem begunAll_r (s : ByteArray) (w : World) (hz : s.size ≤ 1048576) : Calls Tryd.prog 71 #[.string s] w fun e w' => e = .returned (.bool (begB s.data.toList)) ∧ w = w' := by
  by_cases h0 : 0 < s.size
  · exact begun_r s w hz h0
  · have : s = e0 := size_e0.1 (by omega)
    subst this
    exact begun0_r w
theorem decEmp (s : ByteArray) : decide (s.size = 0) = decide (s = ByteArray.empty) := by
  rw [Bool.eq_iff_iff, decide_eq_true_eq, decide_eq_true_eq]; exact size_e0
theorem isEmp (s : ByteArray) : s.toList.isEmpty = decide (s.size = 0) := by
  by_cases h : s.size = 0
  · rw [size_e0.1 h]; rw [Lib.toList_data]; rfl
  · rw [notEmpty h]; simp [h]
set_option maxRecDepth 100000 in
set_option maxHeartbeats 8000000 in
theorem parserOK_r (ap : Option Addr) (cp : Nat) (p : PV) (w : World) (ha : Sl intE 1 w ap p.args) (hZ : PvSz p 1048576) :
    Calls Tryd.prog 40 #[.agg #[.int .i64 p.state, .slice ap p.args.length cp, .bool p.priv, .string p.text, .string p.utf]] w fun e w' => e = .returned (.bool (pvB p)) ∧ Below w.heap.size w w' := by
  have HA := Lib.hid (ha.alloc (.cells #[.int .i64 p.state, .slice ap p.args.length cp, .bool p.priv, .string p.text, .string p.utf] 25))
  have z1 := hZ.args
  have z2 := hZ.text
  have z3 := hZ.utf
  obtain ⟨G, hG⟩ : ∃ G, pvB p = G := ⟨_, rfl⟩
  have HGG := Lib.hid hG
  rw [hG]
  have HNO : Hid ((PvOK p → False) → G = false) := Lib.hid (fun h => by rw [← hG]; exact pvNo h)
  clear ha hZ hG
  have HB : Hid (Below w.heap.size w (w.alloc (.cells #[.int .i64 p.state, .slice ap p.args.length cp, .bool p.priv, .string p.text, .string p.utf] 25))) := Lib.hid ((Below.refl w.heap.size w).alloc (Nat.le_refl _) _)
  obtain ⟨c0, hc0⟩ : ∃ c, inB p.state 0 6 = c := ⟨_, rfl⟩
  have HC0 := Lib.hid hc0
  clear hc0
  cases c0
  case false =>
    have HR : Hid (G = false) := Lib.hid (HNO.out (fun h => by have h1 := h.st; have := HC0.out; simp [inB] at this; omega))
    go_enter Tryd.func40, Tryd.ntmps40
    go_wp2_with (go_at_call 57; refine (l01In_c _ _ _ _).mono ?_; rw [HC0.out]; rintro e w' ⟨rfl, rfl⟩)
    go_ret
    exact ⟨by rw [HR.out]; rfl, HB.out⟩
  by_cases h8 : p.args.length ≤ 8
  case neg =>
    have HR : Hid (G = false) := Lib.hid (HNO.out (fun h => h8 h.len))
    have g8 : 8 < p.args.length := by omega
    have g8' : (8 : Int) < (p.args.length : Int) := by omega
    clear h8
    go_enter Tryd.func40, Tryd.ntmps40
    go_wp2_with (go_at_call 57; refine (l01In_c _ _ _ _).mono ?_; rw [HC0.out]; rintro e w' ⟨rfl, rfl⟩)
    go_ret
    exact ⟨by rw [HR.out]; rfl, HB.out⟩
  have g8 : ¬ 8 < p.args.length := by omega
  have g8' : ¬ (8 : Int) < (p.args.length : Int) := by omega
  by_cases h40 : p.text.size ≤ 40
  case neg =>
    have HR : Hid (G = false) := Lib.hid (HNO.out (fun h => h40 h.tit.1))
    have g40 : 40 < p.text.size := by omega
    have g40' : (40 : Int) < (p.text.size : Int) := by omega
    clear h40
    go_enter Tryd.func40, Tryd.ntmps40
    go_wp2_with (go_at_call 57; refine (l01In_c _ _ _ _).mono ?_; rw [HC0.out]; rintro e w' ⟨rfl, rfl⟩)
    go_ret
    exact ⟨by rw [HR.out]; rfl, HB.out⟩
  have g40 : ¬ 40 < p.text.size := by omega
  have g40' : ¬ (40 : Int) < (p.text.size : Int) := by omega
  go_enter Tryd.func40, Tryd.ntmps40
  go_wp2_with (go_at_call 57; refine (l01In_c _ _ _ _).mono ?_; rw [HC0.out]; rintro e w' ⟨rfl, rfl⟩)
  go_loop [3] (fun i => ∃ k : Nat, k ≤ p.args.length ∧ i = .int .i64 k ∧ Hid (∀ x ∈ p.args.take k, -1 ≤ x ∧ x ≤ 9999)) (fun i => p.args.length - (intOf i).toNat)
  case atStart => exact ⟨0, Nat.zero_le _, rfl, Lib.hid (by simp)⟩
  case round =>
    obtain ⟨k, hk, rfl, HP⟩ := hrel
    by_cases hlt : k < p.args.length
    · obtain ⟨b1, o1, rfl, hb1, hc1⟩ := HA.out.at hlt
      have c1 := hc1 k hlt 0 (by omega)
      simp only [intE, Nat.mul_one, Nat.add_zero, List.getElem?_cons_zero] at c1
      clear hc1
      obtain ⟨x, hx⟩ : ∃ x, p.args[k] = x := ⟨_, rfl⟩
      have HX := Lib.hid hx
      rw [hx] at c1
      clear hx
      obtain ⟨v, hv⟩ : ∃ v, inB x (-1) 9999 = v := ⟨_, rfl⟩
      have HV := Lib.hid hv
      clear hv
      cases v
      · have HR : Hid (G = false) := Lib.hid (HNO.out (fun h => by
          have h1 := h.arg _ (List.getElem_mem hlt)
          rw [HX.out] at h1
          have := HV.out
          simp [inB] at this
          omega))
        go_wp2_with (go_at_call 57; refine (l01In_c _ _ _ _).mono ?_; rw [HV.out]; rintro e w' ⟨rfl, rfl⟩)
        go_ret
        exact ⟨by rw [HR.out]; rfl, HB.out⟩
      · go_wp2_with (go_at_call 57; refine (l01In_c _ _ _ _).mono ?_; rw [HV.out]; rintro e w' ⟨rfl, rfl⟩)
        go_round
        case rel =>
          refine ⟨k + 1, by omega, by go_num, Lib.hid (fun y hy => ?_)⟩
          rw [List.take_succ_eq_append_getElem hlt] at hy
          rcases List.mem_append.1 hy with hy | hy
          · exact HP.out y hy
          · simp at hy
            subst hy
            rw [HX.out]
            have := HV.out
            simp [inB] at this
            omega
        case measure => simp [intOf]; omega
    · obtain rfl : k = p.args.length := by omega
      rw [List.take_length] at HP
      have HALL := HP
      clear HP hlt hk
      go_wp2_with fail
      go_loop [4] (fun i => ∃ k : Nat, k ≤ p.text.size ∧ i = .int .i64 k ∧ Hid (∀ x ∈ p.text.data.toList.take k, 32 ≤ x.toNat ∧ x.toNat ≤ 126)) (fun i => p.text.size - (intOf i).toNat)
      case atStart => exact ⟨0, Nat.zero_le _, rfl, Lib.hid (by simp)⟩
      case round =>
        obtain ⟨k, hk, rfl, HP⟩ := hrel
        have HSZ : Hid (p.text.data.toList.length = p.text.size) := Lib.hid rfl
        by_cases hlt : k < p.text.size
        · obtain ⟨x, hx⟩ : ∃ x, p.text[k] = x := ⟨_, rfl⟩
          have HX : Hid (p.text.data.toList[k]'(by rw [HSZ.out]; exact hlt) = x) := Lib.hid hx
          have h256 := x.toNat_lt
          have hu8 : IntKind.i64.wrap (x.toNat : Int) = (x.toNat : Int) := IntWalk.i64_in _ ⟨by omega, by omega⟩
          obtain ⟨v, hv⟩ : ∃ v, inB (x.toNat : Int) 32 126 = v := ⟨_, rfl⟩
          have HV := Lib.hid hv
          clear hv
          cases v
          · have HR : Hid (G = false) := Lib.hid (HNO.out (fun h => by
              have h1 := h.tit.2 _ (List.getElem_mem (by rw [HSZ.out]; exact hlt))
              rw [HX.out] at h1
              have := HV.out
              simp [inB] at this
              omega))
            go_wp2_with (go_at_call 57; refine (l01In_c _ _ _ _).mono ?_; rw [HV.out]; rintro e w' ⟨rfl, rfl⟩)
            go_ret
            exact ⟨by rw [HR.out]; rfl, HB.out⟩
          · go_wp2_with (go_at_call 57; refine (l01In_c _ _ _ _).mono ?_; rw [HV.out]; rintro e w' ⟨rfl, rfl⟩)
            go_round
            case rel =>
              refine ⟨k + 1, by omega, by go_num, Lib.hid (fun y hy => ?_)⟩
              rw [List.take_succ_eq_append_getElem (by rw [HSZ.out]; exact hlt)] at hy
              rcases List.mem_append.1 hy with hy | hy
              · exact HP.out y hy
              · simp at hy
                have hy2 := hy.trans HX.out
                subst hy2
                have := HV.out
                simp [inB] at this
                omega
            case measure => simp [intOf]; omega
        · obtain rfl : k = p.text.size := by omega
          have HTX : Hid (∀ x ∈ p.text.data.toList, 32 ≤ x.toNat ∧ x.toNat ≤ 126) := Lib.hid (by have := HP.out; rwa [← HSZ.out, List.take_length] at this)
          clear HP hlt hk HSZ
          have HS0 : Hid (0 ≤ p.state ∧ p.state ≤ 6) := Lib.hid (by have := HC0.out; simp [inB] at this; omega)
          have eT := isEmp p.text
          have eU := isEmp p.utf
          obtain ⟨pv, hpv⟩ : ∃ b, p.priv = b := ⟨_, rfl⟩
          have q2 : (w.alloc (.cells #[.int .i64 p.state, .slice ap p.args.length cp, .bool p.priv, .string p.text, .string p.utf] 25)).cell? ⟨w.heap.size, 2, none⟩ = some (.bool pv) := by rw [← hpv]; simp [go_sem]
          have HPV := Lib.hid hpv
          clear hpv
          skip
          by_cases hT : p.text.size = 0
          · skip
            have HTE : Hid (p.text = e0) := Lib.hid (size_e0.1 hT)
            rw [decide_eq_true hT] at eT
            clear hT
            by_cases ht : p.state = 2
            · skip
              have s2 : (p.state == 2) = true := beq_iff_eq.2 ht
              have s4 : (p.state == 4) = false := beq_eq_false_iff_ne.2 (by omega)
              have s5 : (p.state == 5) = false := beq_eq_false_iff_ne.2 (by omega)
              have s6 : (p.state == 6) = false := beq_eq_false_iff_ne.2 (by omega)
              have HST := Lib.hid ht
              by_cases hA : p.args.length = 0
              · skip
                have HAZ : Hid (p.args = []) := Lib.hid (List.length_eq_zero_iff.1 hA)
                have dA : ((p.args.length : Int) == 0) = true := by rw [hA]; rfl
                have dA2 : ¬ (0 : Int) < (p.args.length : Int) := by omega
                clear hA
                have HR : Hid (G = false) := Lib.hid (HNO.out (fun h => by have := h.csi HST.out; rw [HAZ.out] at this; cases this))
                go_wp2_with (go_at_call 71; refine (begunAll_r p.utf _ z3).mono ?_; rintro e w' ⟨rfl, rfl⟩)
                all_goals first
                  | (exfalso; omega)
                  | (exfalso; exact HAN.out (by rw [‹p.args = []›]; rfl))
                  | (go_ret; exact ⟨by rw [HR.out]; rfl, (Below.refl _ _).alloc (Nat.le_refl _) _⟩)
              · skip
                have HAN := Lib.hid hA
                have dA : ((p.args.length : Int) == 0) = false := beq_eq_false_iff_ne.2 (by omega)
                have dA2 : (0 : Int) < (p.args.length : Int) := by omega
                clear hA
                have HR : Hid (G = decide (p.utf = ByteArray.empty)) := Lib.hid (by rw [← HGG.out, ← decEmp]; exact pv_two HST.out (by have := HAN.out; omega) h8 (fun x hx => HALL.out x hx) HTE.out)
                go_wp2_with (go_at_call 71; refine (begunAll_r p.utf _ z3).mono ?_; rintro e w' ⟨rfl, rfl⟩)
                all_goals first
                  | (exfalso; omega)
                  | (exfalso; exact HAN.out (by rw [‹p.args = []›]; rfl))
                  | (go_ret; exact ⟨by rw [HR.out]; rfl, (Below.refl _ _).alloc (Nat.le_refl _) _⟩)
            · skip
              have ht2 := ht
              clear ht
              by_cases ht : p.state = 4
              · skip
                have s2 : (p.state == 2) = false := beq_eq_false_iff_ne.2 (by omega)
                have s4 : (p.state == 4) = true := beq_iff_eq.2 ht
                have s5 : (p.state == 5) = false := beq_eq_false_iff_ne.2 (by omega)
                have s6 : (p.state == 6) = false := beq_eq_false_iff_ne.2 (by omega)
                have HST := Lib.hid ht
                by_cases hA : p.args.length = 0
                · skip
                  have HAZ : Hid (p.args = []) := Lib.hid (List.length_eq_zero_iff.1 hA)
                  have dA : ((p.args.length : Int) == 0) = true := by rw [hA]; rfl
                  have dA2 : ¬ (0 : Int) < (p.args.length : Int) := by omega
                  clear hA
                  cases pv
                  · skip
                    have hpv := HPV.out
                    have HR : Hid (G = decide (p.utf = ByteArray.empty)) := Lib.hid (by rw [← HGG.out, ← decEmp]; exact pv_osc (.inl HST.out) HAZ.out HPV.out h40 HTX.out)
                    go_wp2_with (go_at_call 71; refine (begunAll_r p.utf _ z3).mono ?_; rintro e w' ⟨rfl, rfl⟩)
                    all_goals first
                      | (exfalso; omega)
                      | (exfalso; exact HAN.out (by rw [‹p.args = []›]; rfl))
                      | (go_ret; exact ⟨by rw [HR.out]; rfl, (Below.refl _ _).alloc (Nat.le_refl _) _⟩)
                  · skip
                    have hpv := HPV.out
                    have HR : Hid (G = false) := Lib.hid (HNO.out (fun h => by have := (h.nocsi (by have := HST.out; omega)).2; rw [HPV.out] at this; cases this))
                    go_wp2_with (go_at_call 71; refine (begunAll_r p.utf _ z3).mono ?_; rintro e w' ⟨rfl, rfl⟩)
                    all_goals first
                      | (exfalso; omega)
                      | (exfalso; exact HAN.out (by rw [‹p.args = []›]; rfl))
                      | (go_ret; exact ⟨by rw [HR.out]; rfl, (Below.refl _ _).alloc (Nat.le_refl _) _⟩)
                · skip
                  have HAN := Lib.hid hA
                  have dA : ((p.args.length : Int) == 0) = false := beq_eq_false_iff_ne.2 (by omega)
                  have dA2 : (0 : Int) < (p.args.length : Int) := by omega
                  clear hA
                  have HR : Hid (G = false) := Lib.hid (HNO.out (fun h => HAN.out (by rw [(h.nocsi (by have := HST.out; omega)).1]; rfl)))
                  go_wp2_with (go_at_call 71; refine (begunAll_r p.utf _ z3).mono ?_; rintro e w' ⟨rfl, rfl⟩)
                  all_goals first
                    | (exfalso; omega)
                    | (exfalso; exact HAN.out (by rw [‹p.args = []›]; rfl))
                    | (go_ret; exact ⟨by rw [HR.out]; rfl, (Below.refl _ _).alloc (Nat.le_refl _) _⟩)
              · skip
                have ht4 := ht
                clear ht
                by_cases ht : p.state = 5
                · skip
                  have s2 : (p.state == 2) = false := beq_eq_false_iff_ne.2 (by omega)
                  have s4 : (p.state == 4) = false := beq_eq_false_iff_ne.2 (by omega)
                  have s5 : (p.state == 5) = true := beq_iff_eq.2 ht
                  have s6 : (p.state == 6) = false := beq_eq_false_iff_ne.2 (by omega)
                  have HST := Lib.hid ht
                  by_cases hA : p.args.length = 0
                  · skip
                    have HAZ : Hid (p.args = []) := Lib.hid (List.length_eq_zero_iff.1 hA)
                    have dA : ((p.args.length : Int) == 0) = true := by rw [hA]; rfl
                    have dA2 : ¬ (0 : Int) < (p.args.length : Int) := by omega
                    clear hA
                    cases pv
                    · skip
                      have hpv := HPV.out
                      have HR : Hid (G = decide (p.utf = ByteArray.empty)) := Lib.hid (by rw [← HGG.out, ← decEmp]; exact pv_osc (.inr HST.out) HAZ.out HPV.out h40 HTX.out)
                      go_wp2_with (go_at_call 71; refine (begunAll_r p.utf _ z3).mono ?_; rintro e w' ⟨rfl, rfl⟩)
                      all_goals first
                        | (exfalso; omega)
                        | (exfalso; exact HAN.out (by rw [‹p.args = []›]; rfl))
                        | (go_ret; exact ⟨by rw [HR.out]; rfl, (Below.refl _ _).alloc (Nat.le_refl _) _⟩)
                    · skip
                      have hpv := HPV.out
                      have HR : Hid (G = false) := Lib.hid (HNO.out (fun h => by have := (h.nocsi (by have := HST.out; omega)).2; rw [HPV.out] at this; cases this))
                      go_wp2_with (go_at_call 71; refine (begunAll_r p.utf _ z3).mono ?_; rintro e w' ⟨rfl, rfl⟩)
                      all_goals first
                        | (exfalso; omega)
                        | (exfalso; exact HAN.out (by rw [‹p.args = []›]; rfl))
                        | (go_ret; exact ⟨by rw [HR.out]; rfl, (Below.refl _ _).alloc (Nat.le_refl _) _⟩)
                  · skip
                    have HAN := Lib.hid hA
                    have dA : ((p.args.length : Int) == 0) = false := beq_eq_false_iff_ne.2 (by omega)
                    have dA2 : (0 : Int) < (p.args.length : Int) := by omega
                    clear hA
                    have HR : Hid (G = false) := Lib.hid (HNO.out (fun h => HAN.out (by rw [(h.nocsi (by have := HST.out; omega)).1]; rfl)))
                    go_wp2_with (go_at_call 71; refine (begunAll_r p.utf _ z3).mono ?_; rintro e w' ⟨rfl, rfl⟩)
                    all_goals first
                      | (exfalso; omega)
                      | (exfalso; exact HAN.out (by rw [‹p.args = []›]; rfl))
                      | (go_ret; exact ⟨by rw [HR.out]; rfl, (Below.refl _ _).alloc (Nat.le_refl _) _⟩)
                · skip
                  have ht5 := ht
                  clear ht
                  by_cases ht : p.state = 6
                  · skip
                    have s2 : (p.state == 2) = false := beq_eq_false_iff_ne.2 (by omega)
                    have s4 : (p.state == 4) = false := beq_eq_false_iff_ne.2 (by omega)
                    have s5 : (p.state == 5) = false := beq_eq_false_iff_ne.2 (by omega)
                    have s6 : (p.state == 6) = true := beq_iff_eq.2 ht
                    have HST := Lib.hid ht
                    by_cases hA : p.args.length = 0
                    · skip
                      have HAZ : Hid (p.args = []) := Lib.hid (List.length_eq_zero_iff.1 hA)
                      have dA : ((p.args.length : Int) == 0) = true := by rw [hA]; rfl
                      have dA2 : ¬ (0 : Int) < (p.args.length : Int) := by omega
                      clear hA
                      cases pv
                      · skip
                        have hpv := HPV.out
                        have HR : Hid (G = begB p.utf.data.toList) := Lib.hid (by rw [← HGG.out]; exact pv_utf HST.out HAZ.out HPV.out HTE.out)
                        go_wp2_with (go_at_call 71; refine (begunAll_r p.utf _ z3).mono ?_; rintro e w' ⟨rfl, rfl⟩)
                        all_goals first
                          | (exfalso; omega)
                          | (exfalso; exact HAN.out (by rw [‹p.args = []›]; rfl))
                          | (go_ret; exact ⟨by rw [HR.out]; rfl, (Below.refl _ _).alloc (Nat.le_refl _) _⟩)
                      · skip
                        have hpv := HPV.out
                        have HR : Hid (G = false) := Lib.hid (HNO.out (fun h => by have := (h.nocsi (by have := HST.out; omega)).2; rw [HPV.out] at this; cases this))
                        go_wp2_with (go_at_call 71; refine (begunAll_r p.utf _ z3).mono ?_; rintro e w' ⟨rfl, rfl⟩)
                        all_goals first
                          | (exfalso; omega)
                          | (exfalso; exact HAN.out (by rw [‹p.args = []›]; rfl))
                          | (go_ret; exact ⟨by rw [HR.out]; rfl, (Below.refl _ _).alloc (Nat.le_refl _) _⟩)
                    · skip
                      have HAN := Lib.hid hA
                      have dA : ((p.args.length : Int) == 0) = false := beq_eq_false_iff_ne.2 (by omega)
                      have dA2 : (0 : Int) < (p.args.length : Int) := by omega
                      clear hA
                      have HR : Hid (G = false) := Lib.hid (HNO.out (fun h => HAN.out (by rw [(h.nocsi (by have := HST.out; omega)).1]; rfl)))
                      go_wp2_with (go_at_call 71; refine (begunAll_r p.utf _ z3).mono ?_; rintro e w' ⟨rfl, rfl⟩)
                      all_goals first
                        | (exfalso; omega)
                        | (exfalso; exact HAN.out (by rw [‹p.args = []›]; rfl))
                        | (go_ret; exact ⟨by rw [HR.out]; rfl, (Below.refl _ _).alloc (Nat.le_refl _) _⟩)
                  · skip
                    have ht6 := ht
                    clear ht
                    have ht : p.state ≠ 2 ∧ p.state ≠ 4 ∧ p.state ≠ 5 ∧ p.state ≠ 6 := ⟨ht2, ht4, ht5, ht6⟩
                    have s2 : (p.state == 2) = false := beq_eq_false_iff_ne.2 (by omega)
                    have s4 : (p.state == 4) = false := beq_eq_false_iff_ne.2 (by omega)
                    have s5 : (p.state == 5) = false := beq_eq_false_iff_ne.2 (by omega)
                    have s6 : (p.state == 6) = false := beq_eq_false_iff_ne.2 (by omega)
                    have HST := Lib.hid ht
                    by_cases hA : p.args.length = 0
                    · skip
                      have HAZ : Hid (p.args = []) := Lib.hid (List.length_eq_zero_iff.1 hA)
                      have dA : ((p.args.length : Int) == 0) = true := by rw [hA]; rfl
                      have dA2 : ¬ (0 : Int) < (p.args.length : Int) := by omega
                      clear hA
                      cases pv
                      · skip
                        have hpv := HPV.out
                        have HR : Hid (G = decide (p.utf = ByteArray.empty)) := Lib.hid (by rw [← HGG.out, ← decEmp]; exact pv_gnd (by have := HST.out; have := HS0.out; omega) HAZ.out HPV.out HTE.out)
                        go_wp2_with (go_at_call 71; refine (begunAll_r p.utf _ z3).mono ?_; rintro e w' ⟨rfl, rfl⟩)
                        all_goals first
                          | (exfalso; omega)
                          | (exfalso; exact HAN.out (by rw [‹p.args = []›]; rfl))
                          | (go_ret; exact ⟨by rw [HR.out]; rfl, (Below.refl _ _).alloc (Nat.le_refl _) _⟩)
                      · skip
                        have hpv := HPV.out
                        have HR : Hid (G = false) := Lib.hid (HNO.out (fun h => by have := (h.nocsi (by have := HST.out; omega)).2; rw [HPV.out] at this; cases this))
                        go_wp2_with (go_at_call 71; refine (begunAll_r p.utf _ z3).mono ?_; rintro e w' ⟨rfl, rfl⟩)
                        all_goals first
                          | (exfalso; omega)
                          | (exfalso; exact HAN.out (by rw [‹p.args = []›]; rfl))
                          | (go_ret; exact ⟨by rw [HR.out]; rfl, (Below.refl _ _).alloc (Nat.le_refl _) _⟩)
                    · skip
                      have HAN := Lib.hid hA
                      have dA : ((p.args.length : Int) == 0) = false := beq_eq_false_iff_ne.2 (by omega)
                      have dA2 : (0 : Int) < (p.args.length : Int) := by omega
                      clear hA
                      have HR : Hid (G = false) := Lib.hid (HNO.out (fun h => HAN.out (by rw [(h.nocsi (by have := HST.out; omega)).1]; rfl)))
                      go_wp2_with (go_at_call 71; refine (begunAll_r p.utf _ z3).mono ?_; rintro e w' ⟨rfl, rfl⟩)
                      all_goals first
                        | (exfalso; omega)
                        | (exfalso; exact HAN.out (by rw [‹p.args = []›]; rfl))
                        | (go_ret; exact ⟨by rw [HR.out]; rfl, (Below.refl _ _).alloc (Nat.le_refl _) _⟩)
          · skip
            have HTN := Lib.hid hT
            rw [decide_eq_false hT] at eT
            clear hT
            by_cases ht : p.state = 2
            · skip
              have s2 : (p.state == 2) = true := beq_iff_eq.2 ht
              have s4 : (p.state == 4) = false := beq_eq_false_iff_ne.2 (by omega)
              have s5 : (p.state == 5) = false := beq_eq_false_iff_ne.2 (by omega)
              have s6 : (p.state == 6) = false := beq_eq_false_iff_ne.2 (by omega)
              have HST := Lib.hid ht
              by_cases hA : p.args.length = 0
              · skip
                have HAZ : Hid (p.args = []) := Lib.hid (List.length_eq_zero_iff.1 hA)
                have dA : ((p.args.length : Int) == 0) = true := by rw [hA]; rfl
                have dA2 : ¬ (0 : Int) < (p.args.length : Int) := by omega
                clear hA
                have HR : Hid (G = false) := Lib.hid (HNO.out (fun h => by have := h.csi HST.out; rw [HAZ.out] at this; cases this))
                go_wp2_with (go_at_call 71; refine (begunAll_r p.utf _ z3).mono ?_; rintro e w' ⟨rfl, rfl⟩)
                all_goals first
                  | (exfalso; omega)
                  | (exfalso; exact HAN.out (by rw [‹p.args = []›]; rfl))
                  | (go_ret; exact ⟨by rw [HR.out]; rfl, (Below.refl _ _).alloc (Nat.le_refl _) _⟩)
              · skip
                have HAN := Lib.hid hA
                have dA : ((p.args.length : Int) == 0) = false := beq_eq_false_iff_ne.2 (by omega)
                have dA2 : (0 : Int) < (p.args.length : Int) := by omega
                clear hA
                have HR : Hid (G = false) := Lib.hid (HNO.out (fun h => HTN.out (by rw [h.noosc (by have := HST.out; omega) (by have := HST.out; omega)]; rfl)))
                go_wp2_with (go_at_call 71; refine (begunAll_r p.utf _ z3).mono ?_; rintro e w' ⟨rfl, rfl⟩)
                all_goals first
                  | (exfalso; omega)
                  | (exfalso; exact HAN.out (by rw [‹p.args = []›]; rfl))
                  | (go_ret; exact ⟨by rw [HR.out]; rfl, (Below.refl _ _).alloc (Nat.le_refl _) _⟩)
            · skip
              have ht2 := ht
              clear ht
              by_cases ht : p.state = 4
              · skip
                have s2 : (p.state == 2) = false := beq_eq_false_iff_ne.2 (by omega)
                have s4 : (p.state == 4) = true := beq_iff_eq.2 ht
                have s5 : (p.state == 5) = false := beq_eq_false_iff_ne.2 (by omega)
                have s6 : (p.state == 6) = false := beq_eq_false_iff_ne.2 (by omega)
                have HST := Lib.hid ht
                by_cases hA : p.args.length = 0
                · skip
                  have HAZ : Hid (p.args = []) := Lib.hid (List.length_eq_zero_iff.1 hA)
                  have dA : ((p.args.length : Int) == 0) = true := by rw [hA]; rfl
                  have dA2 : ¬ (0 : Int) < (p.args.length : Int) := by omega
                  clear hA
                  cases pv
                  · skip
                    have hpv := HPV.out
                    have HR : Hid (G = decide (p.utf = ByteArray.empty)) := Lib.hid (by rw [← HGG.out, ← decEmp]; exact pv_osc (.inl HST.out) HAZ.out HPV.out h40 HTX.out)
                    go_wp2_with (go_at_call 71; refine (begunAll_r p.utf _ z3).mono ?_; rintro e w' ⟨rfl, rfl⟩)
                    all_goals first
                      | (exfalso; omega)
                      | (exfalso; exact HAN.out (by rw [‹p.args = []›]; rfl))
                      | (go_ret; exact ⟨by rw [HR.out]; rfl, (Below.refl _ _).alloc (Nat.le_refl _) _⟩)
                  · skip
                    have hpv := HPV.out
                    have HR : Hid (G = false) := Lib.hid (HNO.out (fun h => by have := (h.nocsi (by have := HST.out; omega)).2; rw [HPV.out] at this; cases this))
                    go_wp2_with (go_at_call 71; refine (begunAll_r p.utf _ z3).mono ?_; rintro e w' ⟨rfl, rfl⟩)
                    all_goals first
                      | (exfalso; omega)
                      | (exfalso; exact HAN.out (by rw [‹p.args = []›]; rfl))
                      | (go_ret; exact ⟨by rw [HR.out]; rfl, (Below.refl _ _).alloc (Nat.le_refl _) _⟩)
                · skip
                  have HAN := Lib.hid hA
                  have dA : ((p.args.length : Int) == 0) = false := beq_eq_false_iff_ne.2 (by omega)
                  have dA2 : (0 : Int) < (p.args.length : Int) := by omega
                  clear hA
                  have HR : Hid (G = false) := Lib.hid (HNO.out (fun h => HAN.out (by rw [(h.nocsi (by have := HST.out; omega)).1]; rfl)))
                  go_wp2_with (go_at_call 71; refine (begunAll_r p.utf _ z3).mono ?_; rintro e w' ⟨rfl, rfl⟩)
                  all_goals first
                    | (exfalso; omega)
                    | (exfalso; exact HAN.out (by rw [‹p.args = []›]; rfl))
                    | (go_ret; exact ⟨by rw [HR.out]; rfl, (Below.refl _ _).alloc (Nat.le_refl _) _⟩)
              · skip
                have ht4 := ht
                clear ht
                by_cases ht : p.state = 5
                · skip
                  have s2 : (p.state == 2) = false := beq_eq_false_iff_ne.2 (by omega)
                  have s4 : (p.state == 4) = false := beq_eq_false_iff_ne.2 (by omega)
                  have s5 : (p.state == 5) = true := beq_iff_eq.2 ht
                  have s6 : (p.state == 6) = false := beq_eq_false_iff_ne.2 (by omega)
                  have HST := Lib.hid ht
                  by_cases hA : p.args.length = 0
                  · skip
                    have HAZ : Hid (p.args = []) := Lib.hid (List.length_eq_zero_iff.1 hA)
                    have dA : ((p.args.length : Int) == 0) = true := by rw [hA]; rfl
                    have dA2 : ¬ (0 : Int) < (p.args.length : Int) := by omega
                    clear hA
                    cases pv
                    · skip
                      have hpv := HPV.out
                      have HR : Hid (G = decide (p.utf = ByteArray.empty)) := Lib.hid (by rw [← HGG.out, ← decEmp]; exact pv_osc (.inr HST.out) HAZ.out HPV.out h40 HTX.out)
                      go_wp2_with (go_at_call 71; refine (begunAll_r p.utf _ z3).mono ?_; rintro e w' ⟨rfl, rfl⟩)
                      all_goals first
                        | (exfalso; omega)
                        | (exfalso; exact HAN.out (by rw [‹p.args = []›]; rfl))
                        | (go_ret; exact ⟨by rw [HR.out]; rfl, (Below.refl _ _).alloc (Nat.le_refl _) _⟩)
                    · skip
                      have hpv := HPV.out
                      have HR : Hid (G = false) := Lib.hid (HNO.out (fun h => by have := (h.nocsi (by have := HST.out; omega)).2; rw [HPV.out] at this; cases this))
                      go_wp2_with (go_at_call 71; refine (begunAll_r p.utf _ z3).mono ?_; rintro e w' ⟨rfl, rfl⟩)
                      all_goals first
                        | (exfalso; omega)
                        | (exfalso; exact HAN.out (by rw [‹p.args = []›]; rfl))
                        | (go_ret; exact ⟨by rw [HR.out]; rfl, (Below.refl _ _).alloc (Nat.le_refl _) _⟩)
                  · skip
                    have HAN := Lib.hid hA
                    have dA : ((p.args.length : Int) == 0) = false := beq_eq_false_iff_ne.2 (by omega)
                    have dA2 : (0 : Int) < (p.args.length : Int) := by omega
                    clear hA
                    have HR : Hid (G = false) := Lib.hid (HNO.out (fun h => HAN.out (by rw [(h.nocsi (by have := HST.out; omega)).1]; rfl)))
                    go_wp2_with (go_at_call 71; refine (begunAll_r p.utf _ z3).mono ?_; rintro e w' ⟨rfl, rfl⟩)
                    all_goals first
                      | (exfalso; omega)
                      | (exfalso; exact HAN.out (by rw [‹p.args = []›]; rfl))
                      | (go_ret; exact ⟨by rw [HR.out]; rfl, (Below.refl _ _).alloc (Nat.le_refl _) _⟩)
                · skip
                  have ht5 := ht
                  clear ht
                  by_cases ht : p.state = 6
                  · skip
                    have s2 : (p.state == 2) = false := beq_eq_false_iff_ne.2 (by omega)
                    have s4 : (p.state == 4) = false := beq_eq_false_iff_ne.2 (by omega)
                    have s5 : (p.state == 5) = false := beq_eq_false_iff_ne.2 (by omega)
                    have s6 : (p.state == 6) = true := beq_iff_eq.2 ht
                    have HST := Lib.hid ht
                    by_cases hA : p.args.length = 0
                    · skip
                      have HAZ : Hid (p.args = []) := Lib.hid (List.length_eq_zero_iff.1 hA)
                      have dA : ((p.args.length : Int) == 0) = true := by rw [hA]; rfl
                      have dA2 : ¬ (0 : Int) < (p.args.length : Int) := by omega
                      clear hA
                      cases pv
                      · skip
                        have hpv := HPV.out
                        have HR : Hid (G = false) := Lib.hid (HNO.out (fun h => HTN.out (by rw [h.noosc (by have := HST.out; omega) (by have := HST.out; omega)]; rfl)))
                        go_wp2_with (go_at_call 71; refine (begunAll_r p.utf _ z3).mono ?_; rintro e w' ⟨rfl, rfl⟩)
                        all_goals first
                          | (exfalso; omega)
                          | (exfalso; exact HAN.out (by rw [‹p.args = []›]; rfl))
                          | (go_ret; exact ⟨by rw [HR.out]; rfl, (Below.refl _ _).alloc (Nat.le_refl _) _⟩)
                      · skip
                        have hpv := HPV.out
                        have HR : Hid (G = false) := Lib.hid (HNO.out (fun h => by have := (h.nocsi (by have := HST.out; omega)).2; rw [HPV.out] at this; cases this))
                        go_wp2_with (go_at_call 71; refine (begunAll_r p.utf _ z3).mono ?_; rintro e w' ⟨rfl, rfl⟩)
                        all_goals first
                          | (exfalso; omega)
                          | (exfalso; exact HAN.out (by rw [‹p.args = []›]; rfl))
                          | (go_ret; exact ⟨by rw [HR.out]; rfl, (Below.refl _ _).alloc (Nat.le_refl _) _⟩)
                    · skip
                      have HAN := Lib.hid hA
                      have dA : ((p.args.length : Int) == 0) = false := beq_eq_false_iff_ne.2 (by omega)
                      have dA2 : (0 : Int) < (p.args.length : Int) := by omega
                      clear hA
                      have HR : Hid (G = false) := Lib.hid (HNO.out (fun h => HAN.out (by rw [(h.nocsi (by have := HST.out; omega)).1]; rfl)))
                      go_wp2_with (go_at_call 71; refine (begunAll_r p.utf _ z3).mono ?_; rintro e w' ⟨rfl, rfl⟩)
                      all_goals first
                        | (exfalso; omega)
                        | (exfalso; exact HAN.out (by rw [‹p.args = []›]; rfl))
                        | (go_ret; exact ⟨by rw [HR.out]; rfl, (Below.refl _ _).alloc (Nat.le_refl _) _⟩)
                  · skip
                    have ht6 := ht
                    clear ht
                    have ht : p.state ≠ 2 ∧ p.state ≠ 4 ∧ p.state ≠ 5 ∧ p.state ≠ 6 := ⟨ht2, ht4, ht5, ht6⟩
                    have s2 : (p.state == 2) = false := beq_eq_false_iff_ne.2 (by omega)
                    have s4 : (p.state == 4) = false := beq_eq_false_iff_ne.2 (by omega)
                    have s5 : (p.state == 5) = false := beq_eq_false_iff_ne.2 (by omega)
                    have s6 : (p.state == 6) = false := beq_eq_false_iff_ne.2 (by omega)
                    have HST := Lib.hid ht
                    by_cases hA : p.args.length = 0
                    · skip
                      have HAZ : Hid (p.args = []) := Lib.hid (List.length_eq_zero_iff.1 hA)
                      have dA : ((p.args.length : Int) == 0) = true := by rw [hA]; rfl
                      have dA2 : ¬ (0 : Int) < (p.args.length : Int) := by omega
                      clear hA
                      cases pv
                      · skip
                        have hpv := HPV.out
                        have HR : Hid (G = false) := Lib.hid (HNO.out (fun h => HTN.out (by rw [h.noosc (by have := HST.out; omega) (by have := HST.out; omega)]; rfl)))
                        go_wp2_with (go_at_call 71; refine (begunAll_r p.utf _ z3).mono ?_; rintro e w' ⟨rfl, rfl⟩)
                        all_goals first
                          | (exfalso; omega)
                          | (exfalso; exact HAN.out (by rw [‹p.args = []›]; rfl))
                          | (go_ret; exact ⟨by rw [HR.out]; rfl, (Below.refl _ _).alloc (Nat.le_refl _) _⟩)
                      · skip
                        have hpv := HPV.out
                        have HR : Hid (G = false) := Lib.hid (HNO.out (fun h => by have := (h.nocsi (by have := HST.out; omega)).2; rw [HPV.out] at this; cases this))
                        go_wp2_with (go_at_call 71; refine (begunAll_r p.utf _ z3).mono ?_; rintro e w' ⟨rfl, rfl⟩)
                        all_goals first
                          | (exfalso; omega)
                          | (exfalso; exact HAN.out (by rw [‹p.args = []›]; rfl))
                          | (go_ret; exact ⟨by rw [HR.out]; rfl, (Below.refl _ _).alloc (Nat.le_refl _) _⟩)
                    · skip
                      have HAN := Lib.hid hA
                      have dA : ((p.args.length : Int) == 0) = false := beq_eq_false_iff_ne.2 (by omega)
                      have dA2 : (0 : Int) < (p.args.length : Int) := by omega
                      clear hA
                      have HR : Hid (G = false) := Lib.hid (HNO.out (fun h => HAN.out (by rw [(h.nocsi (by have := HST.out; omega)).1]; rfl)))
                      go_wp2_with (go_at_call 71; refine (begunAll_r p.utf _ z3).mono ?_; rintro e w' ⟨rfl, rfl⟩)
                      all_goals first
                        | (exfalso; omega)
                        | (exfalso; exact HAN.out (by rw [‹p.args = []›]; rfl))
                        | (go_ret; exact ⟨by rw [HR.out]; rfl, (Below.refl _ _).alloc (Nat.le_refl _) _⟩)
end
section
open Go.RowKit
theorem convS {a : Option Addr} {ca : Nat} {xs : List UInt8} {w : World} (ha : Sl byteE 1 w a xs) : (convert 22 9 (.slice a xs.length ca)).run Tryd.prog w = .ok (.string ⟨xs.toArray⟩) w := by
  rcases ha with rfl | ⟨b, off, rfl, hlt, hc⟩
  · cases a with
    | none =>
      show (convert 22 9 (.slice none 0 ca)).run Tryd.prog w = _
      rw [run_convert_bytes_string w 22 9 5 none 0 ca Tryd.underlying22 Tryd.underlying5 Tryd.underlying9]
      rfl
    | some a => exact run_convert_bytes_back w _ _ 5 a ca [] Tryd.underlying22 Tryd.underlying5 Tryd.underlying9 (fun j hj => by simp at hj)
  · refine run_convert_bytes_back w _ _ 5 ⟨b, off, none⟩ ca xs Tryd.underlying22 Tryd.underlying5 Tryd.underlying9 (fun j hj => ?_)
    have := hc j hj 0 (by omega)
    simpa [byteE, Addr.add_lit] using this
theorem OutR.zeroA {G : (PV × List AV) × Int} {c : Int} {g : Nat} {M : Nat → Prop} {w w1 w' : World} (hG : G = ((pz, []), c)) (hg : g = w1.heap.size) (hb : Below w.heap.size w w1) (hc : Ch M (w1.alloc (.cells #[] 46)) w') (hM : ∀ k, M k → w.heap.size ≤ k ∧ k ≠ g) : OutR G w (.returned (.tuple #[.agg #[.int .i64 0, .slice none 0 0, .bool false, .string ⟨#[]⟩, .string ⟨#[]⟩], .slice (some ⟨g, 0, none⟩) 0 0, .int .i64 c])) w' := by
  subst hG
  have hz := hb.size
  exact ⟨none, 0, some ⟨g, 0, none⟩, 0, [], rfl, FreshIn.nil _ _ _ _ _ _, (actZero w.heap.size w1 g hg hb.size).ch actL hc (fun k hk hm => by simp [roB, blkOf] at hk; exact (hM k hm).2 hk), by simp [blkOf], rfl, (hb.alloc hb.size _).trans (hc.below (by simp; omega) (fun k hk => (hM k hk).1))⟩
set_option maxRecDepth 100000 in
set_option maxHeartbeats 8000000 in
theorem specParseBytes_c (ap : Option Addr) (cp : Nat) (p : PV) (a : Option Addr) (ca : Nat) (l : List UInt8) (w : World) (ha : Sl intE 1 w ap p.args) (hb : Sl byteE 1 w a l) (hl : l.length ≤ 1048576) (hZ : PvSz p 1048576) :
    Calls Tryd.prog 9 #[.agg #[.int .i64 p.state, .slice ap p.args.length cp, .bool p.priv, .string p.text, .string p.utf], .slice a l.length ca] w (OutR (pbytes p l) w) := by
  obtain ⟨G, hG⟩ : ∃ G, pbytes p l = G := ⟨_, rfl⟩
  have HGG := Lib.hid hG
  rw [hG]
  clear hG
  by_cases h1 : 65536 < l.length
  case pos =>
    have HR : Hid (G = ((pz, []), 2)) := Lib.hid (by rw [← HGG.out]; unfold pbytes; rw [if_pos h1])
    have g1 : (65536 : Int) < (l.length : Int) := by omega
    clear ha hb hZ
    go_enter Tryd.func9, Tryd.ntmps9
    go_wp2_with fail
    refine bodyPost_ret (v := .tuple #[.agg #[.int .i64 0, .slice none 0 0, .bool false, .string ⟨#[]⟩, .string ⟨#[]⟩], .slice (some ⟨w.heap.size + 1 + 1, 0, none⟩) 0 0, .int .i64 2]) (by simp [results, Tryd.results9, go_sem]) rfl ?_
    exact OutR.zeroA (w1 := ((w.alloc (.cells #[.int .i64 p.state, .slice ap p.args.length cp, .bool p.priv, .string p.text, .string p.utf] 25)).alloc (.cells #[.int .i64 0, .slice none 0 0, .bool false, .string ⟨#[]⟩, .string ⟨#[]⟩] 25))) (M := fun _ => False) HR.out (by simp) ((Below.refl w.heap.size w).alloc (Nat.le_refl _) _ |>.alloc (by simp) _) Ch.refl (fun _ h => h.elim)
  have hl65 : l.length ≤ 65536 := by omega
  have g1 : (l.length : Int) ≤ 65536 := by omega
  have HOKc := Lib.hid (parserOK_r ap cp p ((w.alloc (.cells #[.int .i64 p.state, .slice ap p.args.length cp, .bool p.priv, .string p.text, .string p.utf] 25)).alloc (.cells #[.int .i64 0, .slice none 0 0, .bool false, .string ⟨#[]⟩, .string ⟨#[]⟩] 25)) ((ha.alloc _).alloc _) hZ)
  go_enter Tryd.func9, Tryd.ntmps9
  go_wp2_with fail
  refine HOKc.out.mono ?_
  clear HOKc
  rintro e w1 ⟨rfl, hb1⟩
  have HB1 := Lib.hid hb1
  have hz1 := hb1.size
  simp only [World.size_alloc] at hz1
  have hl1 : w.heap.size + 1 < w1.heap.size := by omega
  have hl0 : w.heap.size < w1.heap.size := by omega
  have qa0_0 : w1.cell? ⟨w.heap.size, 0, none⟩ = some (.int .i64 p.state) := (hb1.cell (p := ⟨w.heap.size, 0, none⟩) (by show w.heap.size < _; (try simp) <;> omega)).trans (by simp [go_sem])
  have qa0_1 : w1.cell? ⟨w.heap.size, 1, none⟩ = some (.slice ap p.args.length cp) := (hb1.cell (p := ⟨w.heap.size, 1, none⟩) (by show w.heap.size < _; (try simp) <;> omega)).trans (by simp [go_sem])
  have qa0_2 : w1.cell? ⟨w.heap.size, 2, none⟩ = some (.bool p.priv) := (hb1.cell (p := ⟨w.heap.size, 2, none⟩) (by show w.heap.size < _; (try simp) <;> omega)).trans (by simp [go_sem])
  have qa0_3 : w1.cell? ⟨w.heap.size, 3, none⟩ = some (.string p.text) := (hb1.cell (p := ⟨w.heap.size, 3, none⟩) (by show w.heap.size < _; (try simp) <;> omega)).trans (by simp [go_sem])
  have qa0_4 : w1.cell? ⟨w.heap.size, 4, none⟩ = some (.string p.utf) := (hb1.cell (p := ⟨w.heap.size, 4, none⟩) (by show w.heap.size < _; (try simp) <;> omega)).trans (by simp [go_sem])
  have fa0 : ∀ o, w1.frozen? ⟨w.heap.size, o, none⟩ = false := fun o => (hb1.frozen (p := ⟨w.heap.size, o, none⟩) (by show w.heap.size < _; (try simp) <;> omega)).trans (by simp [go_sem])
  have qa1_0 : w1.cell? ⟨w.heap.size + 1, 0, none⟩ = some (.int .i64 0) := (hb1.cell (p := ⟨w.heap.size + 1, 0, none⟩) (by show w.heap.size + 1 < _; (try simp) <;> omega)).trans (by simp [go_sem])
  have qa1_1 : w1.cell? ⟨w.heap.size + 1, 1, none⟩ = some (.slice none 0 0) := (hb1.cell (p := ⟨w.heap.size + 1, 1, none⟩) (by show w.heap.size + 1 < _; (try simp) <;> omega)).trans (by simp [go_sem])
  have qa1_2 : w1.cell? ⟨w.heap.size + 1, 2, none⟩ = some (.bool false) := (hb1.cell (p := ⟨w.heap.size + 1, 2, none⟩) (by show w.heap.size + 1 < _; (try simp) <;> omega)).trans (by simp [go_sem])
  have qa1_3 : w1.cell? ⟨w.heap.size + 1, 3, none⟩ = some (.string ⟨#[]⟩) := (hb1.cell (p := ⟨w.heap.size + 1, 3, none⟩) (by show w.heap.size + 1 < _; (try simp) <;> omega)).trans (by simp [go_sem])
  have qa1_4 : w1.cell? ⟨w.heap.size + 1, 4, none⟩ = some (.string ⟨#[]⟩) := (hb1.cell (p := ⟨w.heap.size + 1, 4, none⟩) (by show w.heap.size + 1 < _; (try simp) <;> omega)).trans (by simp [go_sem])
  have fa1 : ∀ o, w1.frozen? ⟨w.heap.size + 1, o, none⟩ = false := fun o => (hb1.frozen (p := ⟨w.heap.size + 1, o, none⟩) (by show w.heap.size + 1 < _; (try simp) <;> omega)).trans (by simp [go_sem])
  have hbw : Below w.heap.size w w1 := (((Below.refl w.heap.size w).alloc (Nat.le_refl _) _).alloc (by simp) _).trans (hb1.mono (by simp only [World.size_alloc]; omega))
  have HBW := Lib.hid hbw
  have HA1 := Lib.hid (ha.keep hbw)
  have HS1 := Lib.hid (hb.keep hbw)
  clear hb1 hbw ha hb
  obtain ⟨c, hc⟩ : ∃ c, pvB p = c := ⟨_, rfl⟩
  have HC := Lib.hid hc
  rw [hc]
  clear hc
  cases c
  case false =>
    have HR : Hid (G = ((pz, []), 1)) := Lib.hid (by rw [← HGG.out]; unfold pbytes; rw [if_neg h1, if_pos HC.out])
    go_wp2_with fail
    refine bodyPost_ret (v := .tuple #[.agg #[.int .i64 0, .slice none 0 0, .bool false, .string ⟨#[]⟩, .string ⟨#[]⟩], .slice (some ⟨w1.heap.size, 0, none⟩) 0 0, .int .i64 1]) (by simp [results, Tryd.results9, go_sem, qa1_0, qa1_1, qa1_2, qa1_3, qa1_4, hl1]) rfl ?_
    refine OutR.zeroA (M := fun _ => False) HR.out (by simp [World.setCell]) ?_ Ch.refl (fun _ h => h.elim)
    refine HBW.out.trans ?_
    repeat (first | (with_reducible exact Below.refl _ _) | (with_reducible refine Below.setCell ?_ ?_ _; rotate_left; ((try simp) <;> (try omega))))
  have HR : Hid (G = (prun p l, 0)) := Lib.hid (by rw [← HGG.out]; unfold pbytes; rw [if_neg h1, if_neg (by rw [HC.out]; simp)])
  have HOK : Hid (PvOK p) := Lib.hid (pvB_iff.1 HC.out)
  have HRUN : Hid (Calls Tryd.prog 41 #[.agg #[.int .i64 p.state, .slice ap p.args.length cp, .bool p.priv, .string p.text, .string p.utf], .string ⟨l.toArray⟩] w1 (OutP (prun p l) w1)) := Lib.hid (run_r ap cp p ⟨l.toArray⟩ w1 HA1.out (by show l.toArray.size ≤ _; simp; omega) HOK.out)
  have hcv := convS (ca := ca) HS1.out
  clear h1
  go_wp2_with fail
  refine HRUN.out.mono ?_
  clear HRUN
  rintro e w2 ⟨ap2, cp2, al2, cl2, L2, rfl, hf, hro, hd, hL, hb⟩
  obtain ⟨R, hR⟩ : ∃ R, prun p l = R := ⟨_, rfl⟩
  rw [hR] at HR hf hL ⊢
  clear hR
  have HF := Lib.hid hf
  have HRO := Lib.hid hro
  have HD := Lib.hid hd
  have HL := Lib.hid hL
  have HB2 := Lib.hid hb
  have hz2 := hb.size
  have qb1_0 : w2.cell? ⟨w.heap.size + 1, 0, none⟩ = some (.int .i64 0) := (hb.cell (p := ⟨w.heap.size + 1, 0, none⟩) (by show w.heap.size + 1 < _; (try simp) <;> omega)).trans (qa1_0)
  have qb1_1 : w2.cell? ⟨w.heap.size + 1, 1, none⟩ = some (.slice none 0 0) := (hb.cell (p := ⟨w.heap.size + 1, 1, none⟩) (by show w.heap.size + 1 < _; (try simp) <;> omega)).trans (qa1_1)
  have qb1_2 : w2.cell? ⟨w.heap.size + 1, 2, none⟩ = some (.bool false) := (hb.cell (p := ⟨w.heap.size + 1, 2, none⟩) (by show w.heap.size + 1 < _; (try simp) <;> omega)).trans (qa1_2)
  have qb1_3 : w2.cell? ⟨w.heap.size + 1, 3, none⟩ = some (.string ⟨#[]⟩) := (hb.cell (p := ⟨w.heap.size + 1, 3, none⟩) (by show w.heap.size + 1 < _; (try simp) <;> omega)).trans (qa1_3)
  have qb1_4 : w2.cell? ⟨w.heap.size + 1, 4, none⟩ = some (.string ⟨#[]⟩) := (hb.cell (p := ⟨w.heap.size + 1, 4, none⟩) (by show w.heap.size + 1 < _; (try simp) <;> omega)).trans (qa1_4)
  have fb1 : ∀ o, w2.frozen? ⟨w.heap.size + 1, o, none⟩ = false := fun o => (hb.frozen (p := ⟨w.heap.size + 1, o, none⟩) (by show w.heap.size + 1 < _; (try simp) <;> omega)).trans (fa1 o)
  have ul1 : w.heap.size + 1 < w2.heap.size := by omega
  clear hf hro hd hL hb hcv
  go_wp2_with fail
  refine bodyPost_ret (v := .tuple #[.agg #[.int .i64 R.1.state, .slice ap2 R.1.args.length cp2, .bool R.1.priv, .string R.1.text, .string R.1.utf], .slice al2 L2.length cl2, .int .i64 0]) (by simp [results, Tryd.results9, go_sem, qb1_0, qb1_1, qb1_2, qb1_3, qb1_4, ul1]) rfl ?_
  have hc : ∀ y0 y1 y2 y3 y4 o, Ch (fun k => k = w.heap.size + 1) w2 ((((((w2.setCell ⟨w.heap.size + 1, 0, none⟩ y0).setCell ⟨w.heap.size + 1, 1, none⟩ y1).setCell ⟨w.heap.size + 1, 2, none⟩ y2).setCell ⟨w.heap.size + 1, 3, none⟩ y3).setCell ⟨w.heap.size + 1, 4, none⟩ y4).alloc o) := fun y0 y1 y2 y3 y4 o => (((((Ch.set1 _ _ _ _).setB _ _).setB _ _).setB _ _).setB _ _).alloc _
  have hcx := hc (.int .i64 R.1.state) (.slice ap2 R.1.args.length cp2) (.bool R.1.priv) (.string R.1.text) (.string R.1.utf) (.cells #[.int .i64 R.1.state, .slice ap2 R.1.args.length cp2, .bool R.1.priv, .string R.1.text, .string R.1.utf] 25)
  rw [HR.out]
  refine ⟨ap2, cp2, al2, cl2, L2, rfl, ?_, ?_, HD.out, HL.out, ?_⟩
  · exact (HF.out.ch hcx (fun k hk h => by have := (FreshIn.blks HF.out k hk).1; omega)).mono (by omega) (Nat.le_refl _)
  · exact (HRO.out.ch actL hcx (fun k hk h => by have := (HRO.out.bd actL k hk).1; omega)).low actL (by omega)
  · exact (HBW.out.trans (HB2.out.mono (by omega))).trans (hcx.below (by omega) (fun k h => by omega))
end
end Go.Proofs.YtlhhlmalihajcaaDoor
