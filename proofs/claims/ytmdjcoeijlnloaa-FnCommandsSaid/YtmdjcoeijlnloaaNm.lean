/- Names: impl.isName, spec.l00Word, isWindowName. No conditions but sizes. -/
import Derived.Test.YtmdjcoeijlnloaaScalar
import Derived.Test.YtmdjcoeijlnloaaSl
import Derived.Test.YtmdjcoeijlnloaaCut
import Derived.Lib.Hide
import Derived.BigQuiet
import Derived.Deep.DeepCutAuto
namespace Go.Proofs.Ytmdjcoeijlnloaa
set_option linter.unusedVariables false
set_option linter.unusedSimpArgs false
open Go.RowKit
def letB (c : Nat) : Bool := (decide (97 ≤ c) && decide (c ≤ 122)) || ((decide (65 ≤ c) && decide (c ≤ 90)) || decide (c = 95))
def digB (c : Nat) : Bool := decide (48 ≤ c) && decide (c ≤ 57)
def nmB (first : Bool) (c : Nat) : Bool := letB c || (!first && digB c)
def nmAt (l : List UInt8) (j : Nat) : Bool := nmB (decide (j = 0)) (l.getD j 0).toNat
def nmAll (l : List UInt8) (n : Nat) : Bool := (List.range n).all (nmAt l)
def nameP (s : ByteArray) : Bool := nmAll s.data.toList s.size && inB s.size 1 40
def winP (s : ByteArray) : Bool := nameP s && decide (s.size ≤ 12)
theorem nmAll_succ (l : List UInt8) (k : Nat) : nmAll l (k + 1) = (nmAll l k && nmAt l k) := by
  simp [nmAll, List.range_succ]
theorem nmAll_no {l : List UInt8} {k n : Nat} (hk : k < n) (h : nmAt l k = false) : nmAll l n = false := by
  simp only [nmAll, List.all_eq_false]
  exact ⟨k, List.mem_range.2 hk, by simp [h]⟩
/-- Where a byte lies. -/
theorem byte_ranges (n : Nat) : n < 48 ∨ (48 ≤ n ∧ n ≤ 57) ∨ (58 ≤ n ∧ n ≤ 64) ∨ (65 ≤ n ∧ n ≤ 90) ∨ (91 ≤ n ∧ n ≤ 94) ∨ n = 95 ∨ n = 96 ∨ (97 ≤ n ∧ n ≤ 122) ∨ 122 < n := by omega
theorem str_byte (s : ByteArray) (k : Nat) (h : k < s.size) : (s[k]'h) = s.data.toList.getD k 0 := by
  show s.data[k] = _
  rw [List.getD_eq_getElem?_getD, Array.getElem?_toList, Array.getElem?_eq_getElem h]
  rfl
set_option maxHeartbeats 1000000 in
theorem l00Letter_c (n : Nat) (w : World) :
    Calls Try.prog 180 #[.int .u8 n] w fun e w' => e = .returned (.bool (letB n)) ∧ w = w' := by
  by_cases h1 : 97 ≤ n
  all_goals by_cases h2 : n ≤ 122
  all_goals by_cases h3 : 65 ≤ n
  all_goals by_cases h4 : n ≤ 90
  all_goals by_cases h5 : n = 95
  all_goals first | (exfalso; omega) | skip
  all_goals
    have i1 : ((97 : Int) ≤ (n : Int)) = (97 ≤ n) := by simp; omega
    have i2 : ((n : Int) ≤ (122 : Int)) = (n ≤ 122) := by simp; omega
    have i3 : ((65 : Int) ≤ (n : Int)) = (65 ≤ n) := by simp; omega
    have i4 : ((n : Int) ≤ (90 : Int)) = (n ≤ 90) := by simp; omega
    try have j5 : ¬ (n : Int) = (95 : Int) := by omega
    try have j5 : (n : Int) = (95 : Int) := by omega
    go_enter Try.func180, Try.ntmps180
    go_wp2_with fail
    go_ret
    exact ⟨by simp [letB, h1, h2, h3, h4, h5, j5], rfl⟩
set_option maxHeartbeats 1000000 in
theorem l00Digit_c (n : Nat) (w : World) :
    Calls Try.prog 181 #[.int .u8 n] w fun e w' => e = .returned (.bool (digB n)) ∧ w = w' := by
  by_cases h1 : 48 ≤ n
  all_goals by_cases h2 : n ≤ 57
  all_goals first | (exfalso; omega) | skip
  all_goals
    have i1 : ((48 : Int) ≤ (n : Int)) = (48 ≤ n) := by simp; omega
    have i2 : ((n : Int) ≤ (57 : Int)) = (n ≤ 57) := by simp; omega
    go_enter Try.func181, Try.ntmps181
    go_wp2_with fail
    go_ret
    exact ⟨by simp [digB, h1, h2], rfl⟩
set_option maxRecDepth 100000 in
set_option maxHeartbeats 4000000 in
theorem isName_c (s : ByteArray) (w : World) (hs : s.size ≤ 1099511627776) :
    Calls Try.prog 172 #[.string s] w fun e w' => e = .returned (.bool (nameP s)) ∧ w = w' := by
  go_enter Try.func172, Try.ntmps172
  go_wp2_with fail
  go_loopw [8] (fun iv wr => ∃ k : Nat, iv = .int .i64 k ∧ k ≤ s.size ∧ Hid (nmAll s.data.toList k = true) ∧ w = wr) (fun iv _ => s.size - (intOf iv).toNat)
  case atStart => exact ⟨0, rfl, Nat.zero_le _, rfl, rfl⟩
  case round =>
    obtain ⟨k, rfl, hk, hall, rfl⟩ := hrel
    by_cases hlt : k < s.size
    · have hlt' : (k : Int) < (s.size : Int) := by omega
      have hi0 : (0 : Int) ≤ (k : Int) := by omega
      have hb := str_byte s k hlt
      obtain ⟨n, hn⟩ : ∃ n, n = (s.data.toList.getD k 0).toNat := ⟨_, rfl⟩
      have HN : Hid (n = (s.data.toList.getD k 0).toNat) := hn
      have hb2 : (s[k]'hlt).toNat = n := by rw [hb, hn]
      clear hb hn
      have HAT : Hid (nmAt s.data.toList k = nmB (decide (k = 0)) n) := by
        show _ = _
        rw [nmAt, ← HN.out]
      have HK := hall
      clear hall HN
      go_upto_region 5 with fail
      go_cut [5] (fun v wx => v = .bool (letB n) ∧ wx = w)
      case first =>
        by_cases h1 : 97 ≤ n
        all_goals by_cases h2 : n ≤ 122
        all_goals by_cases h3 : 65 ≤ n
        all_goals by_cases h4 : n ≤ 90
        all_goals by_cases h5 : n = 95
        all_goals first | (exfalso; omega) | skip
        all_goals
          have i1 : ((97 : Int) ≤ (n : Int)) = (97 ≤ n) := by simp; omega
          have i2 : ((n : Int) ≤ (122 : Int)) = (n ≤ 122) := by simp; omega
          have i3 : ((65 : Int) ≤ (n : Int)) = (65 ≤ n) := by simp; omega
          have i4 : ((n : Int) ≤ (90 : Int)) = (n ≤ 90) := by simp; omega
          try have j5 : ¬ (n : Int) = (95 : Int) := by omega
          try have j5 : (n : Int) = (95 : Int) := by omega
          go_wp2_with fail
          go_meet
          exact ⟨by simp [letB, h1, h2, h3, h4, h5, j5], rfl⟩
      case rest =>
        obtain ⟨rfl, rfl⟩ := hcut
        obtain ⟨lb, hlb⟩ : ∃ lb, letB n = lb := ⟨_, rfl⟩
        rw [hlb]
        have HLB := Lib.hid hlb
        clear hlb
        cases lb
        case true =>
          go_wp2_with fail
          go_roundw
          case rel => exact ⟨k + 1, by go_num, by omega, (by show _ = _; rw [nmAll_succ, HK.out, HAT.out]; simp [nmB, HLB.out]), by first | exact trivial | rfl⟩
          case measure => simp [intOf]; omega
        case false =>
          by_cases h0 : k = 0
          · have h0' : (k : Int) = 0 := by omega
            go_wp2_with fail
            go_ret
            exact ⟨by simp [nameP, nmAll_no hlt (by rw [HAT.out, nmB, HLB.out, h0]; rfl)], rfl⟩
          · have h0' : ¬ (k : Int) = 0 := by omega
            by_cases h6 : n < 48
            · have i6 : (n : Int) < (48 : Int) := by omega
              go_wp2_with fail
              go_ret
              exact ⟨by simp [nameP, nmAll_no hlt (by rw [HAT.out, nmB, HLB.out]; simp [digB]; omega)], rfl⟩
            · have i6 : ¬ (n : Int) < (48 : Int) := by omega
              by_cases h7 : 57 < n
              · have i7 : (57 : Int) < (n : Int) := by omega
                go_wp2_with fail
                go_ret
                exact ⟨by simp [nameP, nmAll_no hlt (by rw [HAT.out, nmB, HLB.out]; simp [digB]; omega)], rfl⟩
              · have i7 : ¬ (57 : Int) < (n : Int) := by omega
                go_wp2_with fail
                go_roundw
                case rel => exact ⟨k + 1, by go_num, by omega, (by show _ = _; rw [nmAll_succ, HK.out, HAT.out]; simp [nmB, HLB.out, digB, h0]; omega), by first | exact trivial | rfl⟩
                case measure => simp [intOf]; omega
    · obtain rfl : k = s.size := by omega
      have HK := hall
      clear hall
      go_wp2_with (go_at_call 91; refine (within_c _ _ _ _).mono ?_; rintro e w' ⟨rfl, rfl⟩)
      go_ret
      exact ⟨by simp [nameP, HK.out], rfl⟩
set_option maxHeartbeats 1000000 in
theorem isWindowName_c (s : ByteArray) (w : World) (hs : s.size ≤ 1099511627776) :
    Calls Try.prog 143 #[.string s] w fun e w' => e = .returned (.bool (winP s)) ∧ w = w' := by
  have HC := Lib.hid (isName_c s w hs)
  obtain ⟨b, hb⟩ : ∃ b, nameP s = b := ⟨_, rfl⟩
  have HB : Hid (nameP s = b) := hb
  cases b
  case false =>
    go_enter Try.func143, Try.ntmps143
    go_wp2_with fail
    refine HC.out.mono ?_
    rw [hb]
    clear hb
    rintro e w' ⟨rfl, rfl⟩
    go_wp2_with fail
    go_ret
    exact ⟨by simp [winP, HB.out], rfl⟩
  case true =>
    by_cases h : s.size ≤ 12
    · have h' : (s.size : Int) ≤ 12 := by omega
      go_enter Try.func143, Try.ntmps143
      go_wp2_with fail
      refine HC.out.mono ?_
      rw [hb]
      clear hb
      rintro e w' ⟨rfl, rfl⟩
      go_wp2_with fail
      go_ret
      exact ⟨by simp [winP, HB.out, h], rfl⟩
    · have h' : ¬ (s.size : Int) ≤ 12 := by omega
      go_enter Try.func143, Try.ntmps143
      go_wp2_with fail
      refine HC.out.mono ?_
      rw [hb]
      clear hb
      rintro e w' ⟨rfl, rfl⟩
      go_wp2_with fail
      go_ret
      exact ⟨by simp [winP, HB.out]; omega, rfl⟩
set_option maxRecDepth 100000 in
set_option maxHeartbeats 4000000 in
theorem l00Word_c (s : ByteArray) (w : World) (hs : s.size ≤ 1099511627776) :
    Calls Try.prog 173 #[.string s] w fun e w' => e = .returned (.bool (nameP s)) ∧ w = w' := by
  by_cases h1 : s.size < 1
  · have h1' : (s.size : Int) < 1 := by omega
    go_enter Try.func173, Try.ntmps173
    go_wp2_with fail
    go_ret
    exact ⟨by simp [nameP, inB]; omega, rfl⟩
  have h1' : ¬ (s.size : Int) < 1 := by omega
  by_cases h2 : 40 < s.size
  · have h2' : (40 : Int) < (s.size : Int) := by omega
    go_enter Try.func173, Try.ntmps173
    go_wp2_with fail
    go_ret
    exact ⟨by simp [nameP, inB]; omega, rfl⟩
  have h2' : ¬ (40 : Int) < (s.size : Int) := by omega
  have h00 : 0 < s.size := by omega
  have hb := str_byte s 0 h00
  obtain ⟨n0, hn0⟩ : ∃ n, n = (s.data.toList.getD 0 0).toNat := ⟨_, rfl⟩
  have HN0 : Hid (n0 = (s.data.toList.getD 0 0).toNat) := hn0
  have hb2 : (s[0]'h00).toNat = n0 := by rw [hb, hn0]
  clear hb hn0
  have HAT0 : Hid (nmAt s.data.toList 0 = letB n0) := by
    show _ = _
    rw [nmAt, ← HN0.out]
    simp [nmB]
  clear HN0
  obtain ⟨lb, hlb⟩ : ∃ lb, letB n0 = lb := ⟨_, rfl⟩
  have HLB : Hid (letB n0 = lb) := hlb
  have HLET : Hid (∀ w', Calls Try.prog 180 #[.int .u8 n0] w' fun e w'' => e = .returned (.bool lb) ∧ w' = w'') := Lib.hid (fun w' => by
    have := l00Letter_c n0 w'
    rw [hlb] at this
    exact this)
  clear hlb
  cases lb
  case false =>
    go_enter Try.func173, Try.ntmps173
    go_wp2_with (go_at_call 180; refine (HLET.out _).mono ?_; rintro e w' ⟨rfl, rfl⟩)
    go_ret
    exact ⟨by simp [nameP, nmAll_no h00 (by rw [HAT0.out, HLB.out])], rfl⟩
  case true =>
    go_enter Try.func173, Try.ntmps173
    go_wp2_with (go_at_call 180; refine (HLET.out _).mono ?_; rintro e w' ⟨rfl, rfl⟩)
    clear hb2 HLET
    go_loopw [3] (fun iv wr => ∃ k : Nat, iv = .int .i64 k ∧ 1 ≤ k ∧ k ≤ s.size ∧ Hid (nmAll s.data.toList k = true) ∧ w = wr) (fun iv _ => s.size - (intOf iv).toNat)
    case atStart => exact ⟨1, rfl, Nat.le_refl _, h00, (by show _ = _; rw [nmAll_succ, HAT0.out, HLB.out]; rfl), rfl⟩
    case round =>
      obtain ⟨k, rfl, hk1, hk, hall, rfl⟩ := hrel
      by_cases hlt : k < s.size
      · have hlt' : (k : Int) < (s.size : Int) := by omega
        have hi0 : (0 : Int) ≤ (k : Int) := by omega
        have hb := str_byte s k hlt
        obtain ⟨n, hn⟩ : ∃ n, n = (s.data.toList.getD k 0).toNat := ⟨_, rfl⟩
        have HN : Hid (n = (s.data.toList.getD k 0).toNat) := hn
        have hb2 : (s[k]'hlt).toNat = n := by rw [hb, hn]
        clear hb hn
        have HAT : Hid (nmAt s.data.toList k = (letB n || digB n)) := by
          show _ = _
          rw [nmAt, ← HN.out, nmB, decide_eq_false (by omega)]
          rfl
        clear HN
        obtain ⟨l1, hl1⟩ : ∃ lb, letB n = lb := ⟨_, rfl⟩
        obtain ⟨d1, hd1⟩ : ∃ lb, digB n = lb := ⟨_, rfl⟩
        have HL1 : Hid (letB n = l1) := hl1
        have HD1 : Hid (digB n = d1) := hd1
        have HLET : Hid (∀ w', Calls Try.prog 180 #[.int .u8 n] w' fun e w'' => e = .returned (.bool l1) ∧ w' = w'') := Lib.hid (fun w' => by
          have := l00Letter_c n w'
          rw [hl1] at this
          exact this)
        have HDIG : Hid (∀ w', Calls Try.prog 181 #[.int .u8 n] w' fun e w'' => e = .returned (.bool d1) ∧ w' = w'') := Lib.hid (fun w' => by
          have := l00Digit_c n w'
          rw [hd1] at this
          exact this)
        clear hl1 hd1
        cases l1 <;> cases d1
        all_goals
          go_wp2_with (first | (go_at_call 180; refine (HLET.out _).mono ?_; rintro e w' ⟨rfl, rfl⟩) | (go_at_call 181; refine (HDIG.out _).mono ?_; rintro e w' ⟨rfl, rfl⟩))
        · go_ret
          exact ⟨by simp [nameP, nmAll_no hlt (by rw [HAT.out, HL1.out, HD1.out]; rfl)], rfl⟩
        all_goals
          go_roundw
          case rel => exact ⟨k + 1, by go_num, by omega, by omega, (by show _ = _; rw [nmAll_succ, hall.out, HAT.out, HL1.out, HD1.out]; rfl), by first | exact trivial | rfl⟩
          case measure => simp [intOf]; omega
      · obtain rfl : k = s.size := by omega
        go_wp2_with fail
        go_ret
        exact ⟨by simp [nameP, hall.out, inB]; omega, rfl⟩
set_option maxHeartbeats 1000000 in
theorem specNameOK_c (s : ByteArray) (w : World) (hs : s.size ≤ 1099511627776) :
    Calls Try.prog 147 #[.string s] w fun e w' => e = .returned (.bool (nameP s)) ∧ w = w' := by
  go_enter Try.func147, Try.ntmps147
  go_wp2_with fail
  refine (l00Word_c s w hs).mono ?_
  rintro e w' ⟨rfl, rfl⟩
  go_wp2_with fail
  go_ret
  exact ⟨rfl, rfl⟩
end Go.Proofs.Ytmdjcoeijlnloaa
