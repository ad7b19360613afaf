/- An action's text, of both sides. No conditions but sizes. -/
import Derived.Shelf.Strconv.Itoa3
import Derived.Lib.AppendIntMem
import Derived.Test.YtlhhlmalihajcaaDoorAcA
import Derived.Test.YtlhhlmalihajcaaDoorPaB
import Derived.Test.YtlhhlmalihajcaaDoorSqA
namespace Go.Proofs.YtlhhlmalihajcaaDoor
set_option linter.unusedVariables false
set_option linter.unusedSimpArgs false
section
open Go.Shelf Go.RowKit
def Tryd.laysM171_ren : Go.Shelf.Ren := ⟨fun | 171 => 76 | 243 => 97 | 246 => 103 | 283 => 105 | 284 => 106 | 285 => 107 | 286 => 108 | 129 => 110 | 317 => 109 | 318 => 111 | 319 => 112 | 320 => 113 | 337 => 114 | 338 => 115 | n => n, fun | 3 => 3 | 9 => 9 | 2 => 2 | 4 => 4 | 171 => 101 | 0 => 0 | 53 => 102 | 37 => 22 | 5 => 5 | 173 => 105 | 212 => 108 | 51 => 109 | 20 => 20 | 213 => 110 | 46 => 97 | 232 => 113 | 233 => 114 | n => n, fun | 17 => 3 | 18 => 4 | 19 => 5 | n => n⟩
theorem Tryd.laysM171 : Go.Proofs.LaysM.n171 Tryd.prog Tryd.laysM171_ren where
  mixed := by kernel_rfl
  f129 := Tryd.func110.trans (congrArg some (by kernel_rfl))
  f171 := Tryd.func76.trans (congrArg some (by kernel_rfl))
  f243 := Tryd.func97.trans (congrArg some (by kernel_rfl))
  f246 := Tryd.func103.trans (congrArg some (by kernel_rfl))
  f283 := Tryd.func105.trans (congrArg some (by kernel_rfl))
  f284 := Tryd.func106.trans (congrArg some (by kernel_rfl))
  f285 := Tryd.func107.trans (congrArg some (by kernel_rfl))
  f286 := Tryd.func108.trans (congrArg some (by kernel_rfl))
  f317 := Tryd.func109.trans (congrArg some (by kernel_rfl))
  f318 := Tryd.func111.trans (congrArg some (by kernel_rfl))
  f319 := Tryd.func112.trans (congrArg some (by kernel_rfl))
  f320 := Tryd.func113.trans (congrArg some (by kernel_rfl))
  f337 := Tryd.func114.trans (congrArg some (by kernel_rfl))
  f338 := Tryd.func115.trans (congrArg some (by kernel_rfl))
  t0 := Tryd.underlying0
  a0 := Tryd.isAgg0
  z0 := Tryd.sizeOf0
  v0 := Tryd.zeroValue0
  t2 := Tryd.underlying2
  a2 := Tryd.isAgg2
  z2 := Tryd.sizeOf2
  v2 := Tryd.zeroValue2
  t3 := Tryd.underlying3
  a3 := Tryd.isAgg3
  z3 := Tryd.sizeOf3
  v3 := Tryd.zeroValue3
  t4 := Tryd.underlying4
  a4 := Tryd.isAgg4
  z4 := Tryd.sizeOf4
  v4 := Tryd.zeroValue4
  t5 := Tryd.underlying5
  a5 := Tryd.isAgg5
  z5 := Tryd.sizeOf5
  v5 := Tryd.zeroValue5
  t9 := Tryd.underlying9
  a9 := Tryd.isAgg9
  z9 := Tryd.sizeOf9
  v9 := Tryd.zeroValue9
  t20 := Tryd.underlying20
  a20 := Tryd.isAgg20
  z20 := Tryd.sizeOf20
  v20 := Tryd.zeroValue20
  t37 := Tryd.underlying22
  a37 := Tryd.isAgg22
  z37 := Tryd.sizeOf22
  v37 := Tryd.zeroValue22
  t46 := Tryd.underlying97
  a46 := Tryd.isAgg97
  z46 := Tryd.sizeOf97
  v46 := Tryd.zeroValue97
  t51 := Tryd.underlying109
  a51 := Tryd.isAgg109
  z51 := Tryd.sizeOf109
  v51 := Tryd.zeroValue109
  t53 := Tryd.underlying102
  a53 := Tryd.isAgg102
  z53 := Tryd.sizeOf102
  v53 := Tryd.zeroValue102
  t171 := Tryd.underlying101
  a171 := Tryd.isAgg101
  z171 := Tryd.sizeOf101
  v171 := Tryd.zeroValue101
  t173 := Tryd.underlying105
  a173 := Tryd.isAgg105
  z173 := Tryd.sizeOf105
  v173 := Tryd.zeroValue105
  t212 := Tryd.underlying108
  a212 := Tryd.isAgg108
  z212 := Tryd.sizeOf108
  v212 := Tryd.zeroValue108
  t213 := Tryd.underlying110
  a213 := Tryd.isAgg110
  z213 := Tryd.sizeOf110
  t232 := Tryd.underlying113
  a232 := Tryd.isAgg113
  z232 := Tryd.sizeOf113
  v232 := Tryd.zeroValue113
  t233 := Tryd.underlying114
  a233 := Tryd.isAgg114
  z233 := Tryd.sizeOf114
  v233 := Tryd.zeroValue114
  g17 := by kernel_rfl
  g18 := by kernel_rfl
  g19 := by kernel_rfl
  i0 := by kernel_rfl
  i2 := by kernel_rfl
  i3 := by kernel_rfl
  i4 := by kernel_rfl
  i5 := by kernel_rfl
  i9 := by kernel_rfl
  i20 := by kernel_rfl
  i37 := by kernel_rfl
  i46 := by kernel_rfl
  i51 := by kernel_rfl
  i53 := by kernel_rfl
  i171 := by kernel_rfl
  i173 := by kernel_rfl
  i212 := by kernel_rfl
  i232 := by kernel_rfl
  i233 := by kernel_rfl
  m17 := by kernel_rfl
  m18 := by kernel_rfl
  m19 := by kernel_rfl
def PT (B : Nat) (w : World) : Prop := Lib.TabBelow Tryd.prog B w "internal/strconv.uint64pow10" .u64 Lib.pow10Tab
theorem itoa_c (B : Nat) (n : Int) (w : World) (hp : PT B w) (h0 : 0 ≤ n) (h1 : n ≤ 9223372036854775807) :
    Calls Tryd.prog 76 #[.int .i64 n] w fun e w' => e = .returned (.string ⟨(Lib.decDigits n.toNat).toArray⟩) ∧ Below w.heap.size w w' := by
  refine (Any.strconv_Itoa Tryd.laysM171 n (by omega) h1 w hp.here).mono ?_
  rintro e w' ⟨rfl, k, os, rfl⟩
  refine ⟨?_, Lib.below_grow _ _ (Nat.le_refl _) k os⟩
  unfold Lib.itoa
  rw [if_neg (by omega)]
theorem enc_rn {n : Int} (h : rnOK n) : Utf8.encode n = ⟨(utfB n.toNat).toArray⟩ := by
  obtain ⟨h1, h2, h3, h4⟩ := h
  unfold Utf8.encode utfB
  have hv : Utf8.valid n = true := by
    simp only [Utf8.valid, Bool.and_eq_true, Bool.or_eq_true, decide_eq_true_eq]
    omega
  rw [hv]
  simp only [if_true]
  repeat' split
  all_goals first | rfl | (exfalso; omega)
theorem enc_lo {n : Int} (h : 0 ≤ n ∧ n < 128) : Utf8.encode n = ⟨#[u8 n.toNat]⟩ := by
  obtain ⟨m, rfl⟩ : ∃ m : Nat, n = m := ⟨n.toNat, by omega⟩
  exact enc_low m (by omega)
end
section
open Go.RowKit
theorem bytes_eq {s : ByteArray} {l : List UInt8} (h : s.data.toList = l) : s = ⟨l.toArray⟩ := by
  subst h
  cases s
  simp
theorem argsR_app (a b : List Int) : argsR (a ++ b) = argsR a ++ argsR b := by
  induction a with
  | nil => rfl
  | cons x xs ih => simp [argsR, ih]
theorem argsT_next (xs : List Int) (k : Nat) (h : k < xs.length) : argsT (xs.take (k + 1)) = argsT (xs.take k) ++ ((if k = 0 then [] else [59]) ++ argT xs[k]) := by
  rw [List.take_succ_eq_append_getElem h]
  match xs, k with
  | x :: xs, 0 => simp [argsT, argsR]
  | x :: xs, k + 1 =>
    simp only [List.take_succ_cons, List.cons_append, argsT, argsR_app, if_neg (Nat.succ_ne_zero k), List.getElem_cons_succ]
    simp [argsR]
theorem argsT_len (xs : List Int) (h : ∀ x ∈ xs, x ≤ 9999) : (argsT xs).length ≤ 5 * xs.length := by
  match xs with
  | [] => simp [argsT]
  | x :: xs =>
    have h1 := argT_len (h x (by simp))
    have h2 := argsR_len xs (fun y hy => h y (by simp [hy]))
    simp [argsT]
    omega
theorem conv_i32 {n : Int} {s : ByteArray} (w : World) (h : Utf8.encode n = s) : (convert 21 9 (.int .i32 n)).run Tryd.prog w = .ok (.string s) w := by
  rw [run_convert_int_string w 21 9 .i32 n (by rw [Tryd.underlying21]; rfl) Tryd.underlying9, h]

set_option maxRecDepth 100000 in
set_option maxHeartbeats 2000000 in
theorem text1_c (n : Int) (pv : Bool) (tx : ByteArray) (ln : Nat) (aa : Option Addr) (ca : Nat) (w : World) (h : rnOK n) :
    Calls Tryd.prog 53 #[.agg #[.int .i64 1, .int .i64 n, .bool pv, .slice aa ln ca, .string tx]] w fun e w' => e = .returned (.string ⟨(utfB n.toNat).toArray⟩) ∧ Below w.heap.size w w' := by
  have hcv := fun w => conv_i32 w (enc_rn h)
  have hw2 : IntKind.i32.wrap n = n := IntWalk.i32_in _ (by have := h.1; have := h.2.1; exact ⟨by omega, by omega⟩)
  clear h
  go_enter Tryd.func53, Tryd.ntmps53
  go_wp2_with fail
  go_ret
  exact ⟨rfl, (Below.refl _ _).alloc (Nat.le_refl _) _⟩
set_option maxRecDepth 100000 in
set_option maxHeartbeats 2000000 in
theorem text2_c (n : Int) (pv : Bool) (tx : ByteArray) (ln : Nat) (aa : Option Addr) (ca : Nat) (w : World) (h : 0 ≤ n ∧ n < 128) :
    Calls Tryd.prog 53 #[.agg #[.int .i64 2, .int .i64 n, .bool pv, .slice aa ln ca, .string tx]] w fun e w' => e = .returned (.string ⟨#[u8 n.toNat]⟩) ∧ Below w.heap.size w w' := by
  have hcv := fun w => conv_i32 w (enc_lo h)
  have hw2 : IntKind.i32.wrap n = n := IntWalk.i32_in _ (by exact ⟨by omega, by omega⟩)
  clear h
  go_enter Tryd.func53, Tryd.ntmps53
  go_wp2_with fail
  go_ret
  exact ⟨rfl, (Below.refl _ _).alloc (Nat.le_refl _) _⟩
set_option maxRecDepth 100000 in
set_option maxHeartbeats 2000000 in
theorem text3_c (n : Int) (pv : Bool) (tx : ByteArray) (ln : Nat) (aa : Option Addr) (ca : Nat) (w : World) (h : 0 ≤ n ∧ n < 128) :
    Calls Tryd.prog 53 #[.agg #[.int .i64 3, .int .i64 n, .bool pv, .slice aa ln ca, .string tx]] w fun e w' => e = .returned (.string ⟨#[27, u8 n.toNat]⟩) ∧ Below w.heap.size w w' := by
  have hcv := fun w => conv_i32 w (enc_lo h)
  have hw2 : IntKind.i32.wrap n = n := IntWalk.i32_in _ (by exact ⟨by omega, by omega⟩)
  clear h
  go_enter Tryd.func53, Tryd.ntmps53
  go_wp2_with fail
  go_ret
  exact ⟨rfl, (Below.refl _ _).alloc (Nat.le_refl _) _⟩
set_option maxRecDepth 100000 in
set_option maxHeartbeats 2000000 in
theorem text5_c (n : Int) (pv : Bool) (tx : ByteArray) (ln : Nat) (aa : Option Addr) (ca : Nat) (w : World) (h : tx.size ≤ 40) :
    Calls Tryd.prog 53 #[.agg #[.int .i64 5, .int .i64 n, .bool pv, .slice aa ln ca, .string tx]] w fun e w' => e = .returned (.string ⟨([27, 93] ++ tx.data.toList ++ [7]).toArray⟩) ∧ Below w.heap.size w w' := by
  go_enter Tryd.func53, Tryd.ntmps53
  go_wp2_with fail
  go_ret
  have hq : ∀ R : ByteArray, R.data.toList = 27 :: 93 :: (tx.data.toList ++ [7]) → (⟨#[27, 93]⟩ : ByteArray) ++ tx ++ ⟨#[7]⟩ = R := fun R hR => by
    rw [bytes_eq hR, bytes_eq (s := (⟨#[27, 93]⟩ : ByteArray) ++ tx ++ ⟨#[7]⟩) (l := 27 :: 93 :: (tx.data.toList ++ [7])) (by simp [ByteArray.data_append])]
  exact ⟨congrArg (fun s => Ending.returned (Value.string s)) (hq _ (by simp)), (Below.refl _ _).alloc (Nat.le_refl _) _⟩
set_option maxRecDepth 100000 in
set_option maxHeartbeats 4000000 in
theorem text4f_c (n : Int) (tx : ByteArray) (xs : List Int) (aa : Option Addr) (ca : Nat) (w : World) (hn : 0 ≤ n ∧ n < 128) (hl : xs.length ≤ 8) (hx : ∀ x ∈ xs, -1 ≤ x ∧ x ≤ 9999) (ha : Sl intE 1 w aa xs) (hp : PT w.heap.size w) :
    Calls Tryd.prog 53 #[.agg #[.int .i64 4, .int .i64 n, .bool false, .slice aa xs.length ca, .string tx]] w fun e w' => e = .returned (.string ⟨([27, 91] ++ [] ++ argsT xs ++ [u8 n.toNat]).toArray⟩) ∧ Below w.heap.size w w' := by
  have hcv := fun w => conv_i32 w (enc_lo hn)
  have hw2 : IntKind.i32.wrap n = n := IntWalk.i32_in _ ⟨by omega, by omega⟩
  have HX := Lib.hid hx
  have HA := Lib.hid (ha.alloc (.cells #[.int .i64 4, .int .i64 n, .bool false, .slice aa xs.length ca, .string tx] 46))
  have HP : Hid (PT w.heap.size (w.alloc (.cells #[.int .i64 4, .int .i64 n, .bool false, .slice aa xs.length ca, .string tx] 46))) := Lib.hid (hp.on ((Below.refl _ _).alloc (Nat.le_refl _) _))
  have HT : ∀ k, Hid ((argsT (xs.take k)).length ≤ 40) := fun k => Lib.hid (by
    have h1 := argsT_len (xs.take k) (fun x h => (hx x (List.mem_of_mem_take h)).2)
    have h2 : (xs.take k).length ≤ 8 := by simp; omega
    omega)
  clear hx ha hp hn
  go_enter Tryd.func53, Tryd.ntmps53
  go_wp2_with fail
  go_loopw [3, 40] (fun ov iv wr => ∃ (s : ByteArray) (k : Nat), ov = .string s ∧ iv = .int .i64 k ∧ k ≤ xs.length ∧ Hid (s.data.toList = [27, 91] ++ [] ++ argsT (xs.take k)) ∧ Below (w.heap.size + 1) (w.alloc (.cells #[.int .i64 4, .int .i64 n, .bool false, .slice aa xs.length ca, .string tx] 46)) wr) (fun _ iv _ => xs.length - (intOf iv).toNat)
  case atStart => exact ⟨_, 0, rfl, rfl, Nat.zero_le _, Lib.hid (by rfl), Below.refl _ _⟩
  case round =>
    obtain ⟨s, k, rfl, rfl, hk, hs, hb⟩ := hrel
    have HS := hs
    have hsz : s.size ≤ 50 := by
      have h1 : s.size = s.data.toList.length := by rw [Array.length_toList]; rfl
      have h2 := (HT k).out
      rw [h1, HS.out]
      simp
      omega
    have HAr := Lib.hid (HA.out.keep (hb.mono (by simp)))
    have HPr := Lib.hid (HP.out.on (hb.mono (by omega)))
    have hzr := hb.size
    try simp at hzr
    have qr_0_0 : wr.cell? ⟨w.heap.size, 0, none⟩ = some (.int .i64 4) := by
      rw [hb.cell (p := ⟨w.heap.size, 0, none⟩) (show w.heap.size < _ by (try simp) <;> (try omega))]
      first | assumption | (simp [go_sem, *])
    have qr_0_1 : wr.cell? ⟨w.heap.size, 1, none⟩ = some (.int .i64 n) := by
      rw [hb.cell (p := ⟨w.heap.size, 1, none⟩) (show w.heap.size < _ by (try simp) <;> (try omega))]
      first | assumption | (simp [go_sem, *])
    have qr_0_2 : wr.cell? ⟨w.heap.size, 2, none⟩ = some (.bool false) := by
      rw [hb.cell (p := ⟨w.heap.size, 2, none⟩) (show w.heap.size < _ by (try simp) <;> (try omega))]
      first | assumption | (simp [go_sem, *])
    have qr_0_3 : wr.cell? ⟨w.heap.size, 3, none⟩ = some (.slice aa xs.length ca) := by
      rw [hb.cell (p := ⟨w.heap.size, 3, none⟩) (show w.heap.size < _ by (try simp) <;> (try omega))]
      first | assumption | (simp [go_sem, *])
    have qr_0_4 : wr.cell? ⟨w.heap.size, 4, none⟩ = some (.string tx) := by
      rw [hb.cell (p := ⟨w.heap.size, 4, none⟩) (show w.heap.size < _ by (try simp) <;> (try omega))]
      first | assumption | (simp [go_sem, *])
    have hlr_0 : w.heap.size < wr.heap.size := by omega
    have HB := Lib.hid hb
    clear hb hs
    by_cases hlt : k < xs.length
    · obtain ⟨b1, o1, rfl, hb1, hc1⟩ := HAr.out.at hlt
      have c1 := hc1 k hlt 0 (by omega)
      simp only [intE, Nat.mul_one, Nat.add_zero, List.getElem?_cons_zero] at c1
      clear hc1
      have hxk := HX.out _ (List.getElem_mem hlt)
      have HN := Lib.hid (argsT_next xs k hlt)
      obtain ⟨x, hxe⟩ : ∃ x, xs[k] = x := ⟨_, rfl⟩
      rw [hxe] at c1 hxk HN
      clear hxe
      by_cases hx0 : x < 0
      · by_cases hk0 : k = 0
        · obtain rfl : k = 0 := hk0
          simp only [Nat.add_zero] at c1
          have HV : Hid (argT x = []) := Lib.hid (if_pos hx0)
          go_wp2_with fail
          go_roundw
          case rel => exact ⟨s, 0 + 1, rfl, (by go_num), by omega, Lib.hid (by rw [HN.out, HV.out]; simp [ByteArray.data_append, HS.out]), HB.out⟩
          case measure => simp [intOf]; omega
        · have hk1 : (0 : Int) < (k : Int) := by omega
          have HV : Hid (argT x = []) := Lib.hid (if_pos hx0)
          go_wp2_with fail
          go_roundw
          case rel => exact ⟨(s ++ ⟨#[59]⟩), k + 1, rfl, (by go_num), by omega, Lib.hid (by rw [HN.out, HV.out]; simp [ByteArray.data_append, HS.out, hk0]), HB.out⟩
          case measure => simp [intOf]; omega
      · by_cases hk0 : k = 0
        · obtain rfl : k = 0 := hk0
          simp only [Nat.add_zero] at c1
          have HV : Hid (argT x = Lib.decDigits x.toNat) := Lib.hid (if_neg hx0)
          go_wp2_with fail
          refine (itoa_c _ x _ HPr.out (by omega) (by omega)).mono ?_
          rintro e w3 ⟨rfl, hb3⟩
          have HB3 := Lib.hid hb3
          clear hb3
          obtain ⟨D, hD⟩ : ∃ D : ByteArray, D = ⟨(Lib.decDigits x.toNat).toArray⟩ := ⟨_, rfl⟩
          have HD : Hid (D.data.toList = Lib.decDigits x.toNat) := Lib.hid (by rw [hD])
          have hDz : D.size ≤ 4 := by rw [hD]; exact dig_len _ (by omega)
          rw [← hD]
          clear hD
          go_wp2_with fail
          go_roundw
          case rel => exact ⟨s ++ D, 0 + 1, rfl, (by go_num), by omega, Lib.hid (by rw [HN.out, HV.out, ← HD.out]; simp [ByteArray.data_append, HS.out]), HB.out.trans (HB3.out.mono (by have := HB.out.size; simp at this; omega))⟩
          case measure => simp [intOf]; omega
        · have hk1 : (0 : Int) < (k : Int) := by omega
          have HV : Hid (argT x = Lib.decDigits x.toNat) := Lib.hid (if_neg hx0)
          go_wp2_with fail
          refine (itoa_c _ x _ HPr.out (by omega) (by omega)).mono ?_
          rintro e w3 ⟨rfl, hb3⟩
          have HB3 := Lib.hid hb3
          clear hb3
          obtain ⟨D, hD⟩ : ∃ D : ByteArray, D = ⟨(Lib.decDigits x.toNat).toArray⟩ := ⟨_, rfl⟩
          have HD : Hid (D.data.toList = Lib.decDigits x.toNat) := Lib.hid (by rw [hD])
          have hDz : D.size ≤ 4 := by rw [hD]; exact dig_len _ (by omega)
          rw [← hD]
          clear hD
          go_wp2_with fail
          go_roundw
          case rel => exact ⟨(s ++ ⟨#[59]⟩) ++ D, k + 1, rfl, (by go_num), by omega, Lib.hid (by rw [HN.out, HV.out, ← HD.out]; simp [ByteArray.data_append, HS.out, hk0]), HB.out.trans (HB3.out.mono (by have := HB.out.size; simp at this; omega))⟩
          case measure => simp [intOf]; omega
    · obtain rfl : k = xs.length := by omega
      go_wp2_with fail
      go_ret
      refine ⟨?_, ((Below.refl w.heap.size w).alloc (Nat.le_refl _) _).trans (HB.out.mono (by omega))⟩
      have hE := HS.out
      rw [List.take_length] at hE
      exact congrArg (fun s => Ending.returned (Value.string s)) (bytes_eq (by simp [ByteArray.data_append, hE]))
set_option maxRecDepth 100000 in
set_option maxHeartbeats 4000000 in
theorem text4t_c (n : Int) (tx : ByteArray) (xs : List Int) (aa : Option Addr) (ca : Nat) (w : World) (hn : 0 ≤ n ∧ n < 128) (hl : xs.length ≤ 8) (hx : ∀ x ∈ xs, -1 ≤ x ∧ x ≤ 9999) (ha : Sl intE 1 w aa xs) (hp : PT w.heap.size w) :
    Calls Tryd.prog 53 #[.agg #[.int .i64 4, .int .i64 n, .bool true, .slice aa xs.length ca, .string tx]] w fun e w' => e = .returned (.string ⟨([27, 91] ++ [63] ++ argsT xs ++ [u8 n.toNat]).toArray⟩) ∧ Below w.heap.size w w' := by
  have hcv := fun w => conv_i32 w (enc_lo hn)
  have hw2 : IntKind.i32.wrap n = n := IntWalk.i32_in _ ⟨by omega, by omega⟩
  have HX := Lib.hid hx
  have HA := Lib.hid (ha.alloc (.cells #[.int .i64 4, .int .i64 n, .bool true, .slice aa xs.length ca, .string tx] 46))
  have HP : Hid (PT w.heap.size (w.alloc (.cells #[.int .i64 4, .int .i64 n, .bool true, .slice aa xs.length ca, .string tx] 46))) := Lib.hid (hp.on ((Below.refl _ _).alloc (Nat.le_refl _) _))
  have HT : ∀ k, Hid ((argsT (xs.take k)).length ≤ 40) := fun k => Lib.hid (by
    have h1 := argsT_len (xs.take k) (fun x h => (hx x (List.mem_of_mem_take h)).2)
    have h2 : (xs.take k).length ≤ 8 := by simp; omega
    omega)
  clear hx ha hp hn
  go_enter Tryd.func53, Tryd.ntmps53
  go_wp2_with fail
  go_loopw [3, 40] (fun ov iv wr => ∃ (s : ByteArray) (k : Nat), ov = .string s ∧ iv = .int .i64 k ∧ k ≤ xs.length ∧ Hid (s.data.toList = [27, 91] ++ [63] ++ argsT (xs.take k)) ∧ Below (w.heap.size + 1) (w.alloc (.cells #[.int .i64 4, .int .i64 n, .bool true, .slice aa xs.length ca, .string tx] 46)) wr) (fun _ iv _ => xs.length - (intOf iv).toNat)
  case atStart => exact ⟨_, 0, rfl, rfl, Nat.zero_le _, Lib.hid (by rfl), Below.refl _ _⟩
  case round =>
    obtain ⟨s, k, rfl, rfl, hk, hs, hb⟩ := hrel
    have HS := hs
    have hsz : s.size ≤ 50 := by
      have h1 : s.size = s.data.toList.length := by rw [Array.length_toList]; rfl
      have h2 := (HT k).out
      rw [h1, HS.out]
      simp
      omega
    have HAr := Lib.hid (HA.out.keep (hb.mono (by simp)))
    have HPr := Lib.hid (HP.out.on (hb.mono (by omega)))
    have hzr := hb.size
    try simp at hzr
    have qr_0_0 : wr.cell? ⟨w.heap.size, 0, none⟩ = some (.int .i64 4) := by
      rw [hb.cell (p := ⟨w.heap.size, 0, none⟩) (show w.heap.size < _ by (try simp) <;> (try omega))]
      first | assumption | (simp [go_sem, *])
    have qr_0_1 : wr.cell? ⟨w.heap.size, 1, none⟩ = some (.int .i64 n) := by
      rw [hb.cell (p := ⟨w.heap.size, 1, none⟩) (show w.heap.size < _ by (try simp) <;> (try omega))]
      first | assumption | (simp [go_sem, *])
    have qr_0_2 : wr.cell? ⟨w.heap.size, 2, none⟩ = some (.bool true) := by
      rw [hb.cell (p := ⟨w.heap.size, 2, none⟩) (show w.heap.size < _ by (try simp) <;> (try omega))]
      first | assumption | (simp [go_sem, *])
    have qr_0_3 : wr.cell? ⟨w.heap.size, 3, none⟩ = some (.slice aa xs.length ca) := by
      rw [hb.cell (p := ⟨w.heap.size, 3, none⟩) (show w.heap.size < _ by (try simp) <;> (try omega))]
      first | assumption | (simp [go_sem, *])
    have qr_0_4 : wr.cell? ⟨w.heap.size, 4, none⟩ = some (.string tx) := by
      rw [hb.cell (p := ⟨w.heap.size, 4, none⟩) (show w.heap.size < _ by (try simp) <;> (try omega))]
      first | assumption | (simp [go_sem, *])
    have hlr_0 : w.heap.size < wr.heap.size := by omega
    have HB := Lib.hid hb
    clear hb hs
    by_cases hlt : k < xs.length
    · obtain ⟨b1, o1, rfl, hb1, hc1⟩ := HAr.out.at hlt
      have c1 := hc1 k hlt 0 (by omega)
      simp only [intE, Nat.mul_one, Nat.add_zero, List.getElem?_cons_zero] at c1
      clear hc1
      have hxk := HX.out _ (List.getElem_mem hlt)
      have HN := Lib.hid (argsT_next xs k hlt)
      obtain ⟨x, hxe⟩ : ∃ x, xs[k] = x := ⟨_, rfl⟩
      rw [hxe] at c1 hxk HN
      clear hxe
      by_cases hx0 : x < 0
      · by_cases hk0 : k = 0
        · obtain rfl : k = 0 := hk0
          simp only [Nat.add_zero] at c1
          have HV : Hid (argT x = []) := Lib.hid (if_pos hx0)
          go_wp2_with fail
          go_roundw
          case rel => exact ⟨s, 0 + 1, rfl, (by go_num), by omega, Lib.hid (by rw [HN.out, HV.out]; simp [ByteArray.data_append, HS.out]), HB.out⟩
          case measure => simp [intOf]; omega
        · have hk1 : (0 : Int) < (k : Int) := by omega
          have HV : Hid (argT x = []) := Lib.hid (if_pos hx0)
          go_wp2_with fail
          go_roundw
          case rel => exact ⟨(s ++ ⟨#[59]⟩), k + 1, rfl, (by go_num), by omega, Lib.hid (by rw [HN.out, HV.out]; simp [ByteArray.data_append, HS.out, hk0]), HB.out⟩
          case measure => simp [intOf]; omega
      · by_cases hk0 : k = 0
        · obtain rfl : k = 0 := hk0
          simp only [Nat.add_zero] at c1
          have HV : Hid (argT x = Lib.decDigits x.toNat) := Lib.hid (if_neg hx0)
          go_wp2_with fail
          refine (itoa_c _ x _ HPr.out (by omega) (by omega)).mono ?_
          rintro e w3 ⟨rfl, hb3⟩
          have HB3 := Lib.hid hb3
          clear hb3
          obtain ⟨D, hD⟩ : ∃ D : ByteArray, D = ⟨(Lib.decDigits x.toNat).toArray⟩ := ⟨_, rfl⟩
          have HD : Hid (D.data.toList = Lib.decDigits x.toNat) := Lib.hid (by rw [hD])
          have hDz : D.size ≤ 4 := by rw [hD]; exact dig_len _ (by omega)
          rw [← hD]
          clear hD
          go_wp2_with fail
          go_roundw
          case rel => exact ⟨s ++ D, 0 + 1, rfl, (by go_num), by omega, Lib.hid (by rw [HN.out, HV.out, ← HD.out]; simp [ByteArray.data_append, HS.out]), HB.out.trans (HB3.out.mono (by have := HB.out.size; simp at this; omega))⟩
          case measure => simp [intOf]; omega
        · have hk1 : (0 : Int) < (k : Int) := by omega
          have HV : Hid (argT x = Lib.decDigits x.toNat) := Lib.hid (if_neg hx0)
          go_wp2_with fail
          refine (itoa_c _ x _ HPr.out (by omega) (by omega)).mono ?_
          rintro e w3 ⟨rfl, hb3⟩
          have HB3 := Lib.hid hb3
          clear hb3
          obtain ⟨D, hD⟩ : ∃ D : ByteArray, D = ⟨(Lib.decDigits x.toNat).toArray⟩ := ⟨_, rfl⟩
          have HD : Hid (D.data.toList = Lib.decDigits x.toNat) := Lib.hid (by rw [hD])
          have hDz : D.size ≤ 4 := by rw [hD]; exact dig_len _ (by omega)
          rw [← hD]
          clear hD
          go_wp2_with fail
          go_roundw
          case rel => exact ⟨(s ++ ⟨#[59]⟩) ++ D, k + 1, rfl, (by go_num), by omega, Lib.hid (by rw [HN.out, HV.out, ← HD.out]; simp [ByteArray.data_append, HS.out, hk0]), HB.out.trans (HB3.out.mono (by have := HB.out.size; simp at this; omega))⟩
          case measure => simp [intOf]; omega
    · obtain rfl : k = xs.length := by omega
      go_wp2_with fail
      go_ret
      refine ⟨?_, ((Below.refl w.heap.size w).alloc (Nat.le_refl _) _).trans (HB.out.mono (by omega))⟩
      have hE := HS.out
      rw [List.take_length] at hE
      exact congrArg (fun s => Ending.returned (Value.string s)) (bytes_eq (by simp [ByteArray.data_append, hE]))
end
section
open Go.RowKit
theorem convB (l : List UInt8) (v : Array Value) (hv : v.toList = l.flatMap byteE) (w : World) (n : Nat) (hn : n = l.length) : (convert 22 9 (.slice (some ⟨w.heap.size, 0, none⟩) n n)).run Tryd.prog (w.alloc (.cells v 5)) = .ok (.string ⟨l.toArray⟩) (w.alloc (.cells v 5)) := by
  subst hn
  exact convS (Sl.boxM (enc := byteE) (sz := 1) (fun _ => rfl) l v 5 hv w.heap.size rfl)

set_option maxRecDepth 100000 in
set_option maxHeartbeats 2000000 in
theorem utf1_c (m : Nat) (w : World) (h : m < 128) :
    Calls Tryd.prog 79 #[.int .i64 m] w fun e w' => e = .returned (.string ⟨#[u8 (m)]⟩) ∧ Below w.heap.size w w' := by
  have hb0 : ((m : Int)) % 256 = ((u8 (m)).toNat : Int) := by have := u8N (n := m) (by omega); omega
  obtain ⟨x0, hx0⟩ : ∃ x : UInt8, u8 (m) = x := ⟨_, rfl⟩
  rw [hx0] at hb0 ⊢
  clear hx0
  have HB := Lib.hid (And.intro hb0 trivial)
  clear hb0
  have g1 : (m : Int) < 128 := by omega
  go_enter Tryd.func79, Tryd.ntmps79
  go_wp2_with fail
  rw [convB [x0] _ (by have := HB.out; simp [byteE]; omega) w 1 rfl]
  go_wp2_with fail
  go_ret
  exact ⟨rfl, (Below.refl _ _).alloc (Nat.le_refl _) _⟩
set_option maxRecDepth 100000 in
set_option maxHeartbeats 2000000 in
theorem utf2_c (m : Nat) (w : World) (h1 : ¬ m < 128) (h : m < 2048) :
    Calls Tryd.prog 79 #[.int .i64 m] w fun e w' => e = .returned (.string ⟨#[u8 (192 + m / 64), u8 (128 + m % 64)]⟩) ∧ Below w.heap.size w w' := by
  have hb0 : (192 + (m : Int) / 64) % 256 = ((u8 (192 + m / 64)).toNat : Int) := by have := u8N (n := 192 + m / 64) (by omega); omega
  obtain ⟨x0, hx0⟩ : ∃ x : UInt8, u8 (192 + m / 64) = x := ⟨_, rfl⟩
  rw [hx0] at hb0 ⊢
  clear hx0
  have hb1 : (128 + (m : Int) % 64) % 256 = ((u8 (128 + m % 64)).toNat : Int) := by have := u8N (n := 128 + m % 64) (by omega); omega
  obtain ⟨x1, hx1⟩ : ∃ x : UInt8, u8 (128 + m % 64) = x := ⟨_, rfl⟩
  rw [hx1] at hb1 ⊢
  clear hx1
  have HB := Lib.hid (And.intro hb0 hb1)
  clear hb0 hb1
  have g1 : ¬ (m : Int) < 128 := by omega
  have g2 : (m : Int) < 2048 := by omega
  go_enter Tryd.func79, Tryd.ntmps79
  go_wp2_with fail
  rw [convB [x0, x1] _ (by have := HB.out; simp [byteE]; omega) w 2 rfl]
  go_wp2_with fail
  go_ret
  exact ⟨rfl, (Below.refl _ _).alloc (Nat.le_refl _) _⟩
set_option maxRecDepth 100000 in
set_option maxHeartbeats 2000000 in
theorem utf3_c (m : Nat) (w : World) (h1 : ¬ m < 128) (h2 : ¬ m < 2048) (h : m < 65536) :
    Calls Tryd.prog 79 #[.int .i64 m] w fun e w' => e = .returned (.string ⟨#[u8 (224 + m / 4096), u8 (128 + m / 64 % 64), u8 (128 + m % 64)]⟩) ∧ Below w.heap.size w w' := by
  have hb0 : (224 + (m : Int) / 4096) % 256 = ((u8 (224 + m / 4096)).toNat : Int) := by have := u8N (n := 224 + m / 4096) (by omega); omega
  obtain ⟨x0, hx0⟩ : ∃ x : UInt8, u8 (224 + m / 4096) = x := ⟨_, rfl⟩
  rw [hx0] at hb0 ⊢
  clear hx0
  have hb1 : (128 + (m : Int) / 64 % 64) % 256 = ((u8 (128 + m / 64 % 64)).toNat : Int) := by have := u8N (n := 128 + m / 64 % 64) (by omega); omega
  obtain ⟨x1, hx1⟩ : ∃ x : UInt8, u8 (128 + m / 64 % 64) = x := ⟨_, rfl⟩
  rw [hx1] at hb1 ⊢
  clear hx1
  have hb2 : (128 + (m : Int) % 64) % 256 = ((u8 (128 + m % 64)).toNat : Int) := by have := u8N (n := 128 + m % 64) (by omega); omega
  obtain ⟨x2, hx2⟩ : ∃ x : UInt8, u8 (128 + m % 64) = x := ⟨_, rfl⟩
  rw [hx2] at hb2 ⊢
  clear hx2
  have HB := Lib.hid (And.intro hb0 (And.intro hb1 hb2))
  clear hb0 hb1 hb2
  have g1 : ¬ (m : Int) < 128 := by omega
  have g2 : ¬ (m : Int) < 2048 := by omega
  have g3 : (m : Int) < 65536 := by omega
  go_enter Tryd.func79, Tryd.ntmps79
  go_wp2_with fail
  rw [convB [x0, x1, x2] _ (by have := HB.out; simp [byteE]; omega) w 3 rfl]
  go_wp2_with fail
  go_ret
  exact ⟨rfl, (Below.refl _ _).alloc (Nat.le_refl _) _⟩
set_option maxRecDepth 100000 in
set_option maxHeartbeats 2000000 in
theorem utf4_c (m : Nat) (w : World) (h1 : ¬ m < 128) (h2 : ¬ m < 2048) (h3 : ¬ m < 65536) (h : m ≤ 1114111) :
    Calls Tryd.prog 79 #[.int .i64 m] w fun e w' => e = .returned (.string ⟨#[u8 (240 + m / 262144), u8 (128 + m / 4096 % 64), u8 (128 + m / 64 % 64), u8 (128 + m % 64)]⟩) ∧ Below w.heap.size w w' := by
  have hb0 : (240 + (m : Int) / 262144) % 256 = ((u8 (240 + m / 262144)).toNat : Int) := by have := u8N (n := 240 + m / 262144) (by omega); omega
  obtain ⟨x0, hx0⟩ : ∃ x : UInt8, u8 (240 + m / 262144) = x := ⟨_, rfl⟩
  rw [hx0] at hb0 ⊢
  clear hx0
  have hb1 : (128 + (m : Int) / 4096 % 64) % 256 = ((u8 (128 + m / 4096 % 64)).toNat : Int) := by have := u8N (n := 128 + m / 4096 % 64) (by omega); omega
  obtain ⟨x1, hx1⟩ : ∃ x : UInt8, u8 (128 + m / 4096 % 64) = x := ⟨_, rfl⟩
  rw [hx1] at hb1 ⊢
  clear hx1
  have hb2 : (128 + (m : Int) / 64 % 64) % 256 = ((u8 (128 + m / 64 % 64)).toNat : Int) := by have := u8N (n := 128 + m / 64 % 64) (by omega); omega
  obtain ⟨x2, hx2⟩ : ∃ x : UInt8, u8 (128 + m / 64 % 64) = x := ⟨_, rfl⟩
  rw [hx2] at hb2 ⊢
  clear hx2
  have hb3 : (128 + (m : Int) % 64) % 256 = ((u8 (128 + m % 64)).toNat : Int) := by have := u8N (n := 128 + m % 64) (by omega); omega
  obtain ⟨x3, hx3⟩ : ∃ x : UInt8, u8 (128 + m % 64) = x := ⟨_, rfl⟩
  rw [hx3] at hb3 ⊢
  clear hx3
  have HB := Lib.hid (And.intro hb0 (And.intro hb1 (And.intro hb2 hb3)))
  clear hb0 hb1 hb2 hb3
  have g1 : ¬ (m : Int) < 128 := by omega
  have g2 : ¬ (m : Int) < 2048 := by omega
  have g3 : ¬ (m : Int) < 65536 := by omega
  go_enter Tryd.func79, Tryd.ntmps79
  go_wp2_with fail
  rw [convB [x0, x1, x2, x3] _ (by have := HB.out; simp [byteE]; omega) w 4 rfl]
  go_wp2_with fail
  go_ret
  exact ⟨rfl, (Below.refl _ _).alloc (Nat.le_refl _) _⟩
theorem l03Utf_c (n : Int) (w : World) (h : rnOK n) :
    Calls Tryd.prog 79 #[.int .i64 n] w fun e w' => e = .returned (.string ⟨(utfB n.toNat).toArray⟩) ∧ Below w.heap.size w w' := by
  obtain ⟨m, rfl⟩ : ∃ m : Nat, n = m := ⟨n.toNat, by have := h.1; omega⟩
  have hm := h.2.1
  show Calls Tryd.prog 79 #[.int .i64 m] w fun e w' => e = .returned (.string ⟨(utfB m).toArray⟩) ∧ Below w.heap.size w w'
  unfold utfB
  by_cases a1 : m < 128
  · rw [if_pos a1]; exact utf1_c m w a1
  rw [if_neg a1]
  by_cases a2 : m < 2048
  · rw [if_pos a2]; exact utf2_c m w a1 a2
  rw [if_neg a2]
  by_cases a3 : m < 65536
  · rw [if_pos a3]; exact utf3_c m w a1 a2 a3
  rw [if_neg a3]
  exact utf4_c m w a1 a2 a3 (by omega)
end
section
open Go.RowKit

set_option maxRecDepth 100000 in
set_option maxHeartbeats 4000000 in
theorem digits_c : ∀ (k m : Nat), m ≤ k → m ≤ 9223372036854775807 → ∀ w, Calls Tryd.prog 80 #[.int .i64 m] w fun e w' => e = .returned (.string ⟨(Lib.decDigits m).toArray⟩) ∧ Below w.heap.size w w' := by
  intro k
  induction k using Nat.strongRecOn with
  | _ k ih =>
  intro m hm hmax w
  have e1 : ((m : Int) == -9223372036854775808) = false := beq_eq_false_iff_ne.2 (by omega)
  have e2 : ¬ (m : Int) < 0 := by omega
  by_cases h : m < 10
  · rw [Lib.decDigits, dif_pos h]
    have e3 : (m : Int) < 10 := by omega
    have hb0 : (48 + (m : Int)) % 256 = ((u8 (48 + m)).toNat : Int) := by have := u8N (n := 48 + m) (by omega); omega
    show Calls Tryd.prog _ _ w fun e w' => e = .returned (.string ⟨[u8 (48 + m)].toArray⟩) ∧ _
    obtain ⟨x0, hx0⟩ : ∃ x : UInt8, u8 (48 + m) = x := ⟨_, rfl⟩
    rw [hx0] at hb0 ⊢
    clear hx0
    have HB := Lib.hid hb0
    clear hb0 ih
    go_enter Tryd.func80, Tryd.ntmps80
    go_wp2_with fail
    rw [convB [x0] _ (by have := HB.out; simp [byteE]; omega) w 1 rfl]
    go_wp2_with fail
    go_ret
    exact ⟨rfl, (Below.refl _ _).alloc (Nat.le_refl _) _⟩
  rw [Lib.decDigits, dif_neg h]
  have e3 : ¬ (m : Int) < 10 := by omega
  have HC : ∀ w', Calls Tryd.prog 80 #[.int .i64 ((m : Int) / 10)] w' fun e w'' => e = .returned (.string ⟨(Lib.decDigits (m / 10)).toArray⟩) ∧ Below w'.heap.size w' w'' := fun w' => by
    rw [show ((m : Int) / 10) = ((m / 10 : Nat) : Int) by omega]
    exact ih (m / 10) (by omega) (m / 10) (Nat.le_refl _) (by omega) w'
  obtain ⟨D, hD⟩ : ∃ D : ByteArray, D = ⟨(Lib.decDigits (m / 10)).toArray⟩ := ⟨_, rfl⟩
  have hb0 : 48 + (m : Int) % 10 = ((u8 (48 + m % 10)).toNat : Int) := by have := u8N (n := 48 + m % 10) (by omega); omega
  show Calls Tryd.prog _ _ w fun e w' => e = .returned (.string ⟨(Lib.decDigits (m / 10) ++ [u8 (48 + m % 10)]).toArray⟩) ∧ _
  rw [← bytes_eq (s := D ++ ⟨#[u8 (48 + m % 10)]⟩) (l := Lib.decDigits (m / 10) ++ [u8 (48 + m % 10)]) (by rw [hD]; simp [ByteArray.data_append])]
  rw [← hD] at HC
  have hDz : D.size ≤ 30 := by
    rw [hD]
    show (Lib.decDigits (m / 10)).length ≤ 30
    rw [Lib.decDigits_length]
    have := (Lib.numDigits_eq (m / 10) (by omega) (by omega))
    split at this <;> omega
  clear hD
  obtain ⟨x0, hx0⟩ : ∃ x : UInt8, u8 (48 + m % 10) = x := ⟨_, rfl⟩
  rw [hx0] at hb0 ⊢
  clear hx0
  have hlt8 : x0.toNat < 256 := x0.toNat_lt
  have HN := Lib.hid hb0
  have hq1 : IntKind.i64.wrap ((m : Int) / 10) = (m : Int) / 10 := IntWalk.i64_in _ ⟨by omega, by omega⟩
  have hr1 : (m : Int).tmod 10 = (m : Int) % 10 := Int.tmod_eq_emod_of_nonneg (by omega)
  have hi1 : IntKind.i64.wrap (48 + (m : Int) % 10) = (x0.toNat : Int) := by rw [← hb0]; exact IntWalk.i64_in _ ⟨by omega, by omega⟩
  have hw8 : IntKind.u8.wrap (x0.toNat : Int) = (x0.toNat : Int) := u8_in (by omega) (by omega)
  clear hb0 ih
  have hbig : ¬ 9223372036854775807 < D.size + 1 := by omega
  go_enter Tryd.func80, Tryd.ntmps80
  go_upto_region 7 with fail
  refine wp_region_G (fun w' => True) (fun i => false) (by kernel_rfl) trivial ?_
  refine wpAnyG_takeW (i := 0) (v := ?_) rfl (by kernel_rfl) (by kernel_rfl) (by kernel_rfl) (fun _ _ _ h => h) (Or.inl ⟨by rfl, ?_⟩) ?_
  rotate_left
  · intro w' hSw
    go_simp
    try (with_reducible rfl)
  try simp only [Act.put, List.getElem_toArray, List.getElem_cons_zero, List.getElem_cons_succ, List.setIfInBounds_toArray, List.set_cons_zero, List.set_cons_succ]
  refine wpAnyG_takeW (i := 1) (v := ?_) rfl (by kernel_rfl) (by kernel_rfl) (by kernel_rfl) (fun _ _ _ h => h) (Or.inl ⟨by rfl, ?_⟩) ?_
  rotate_left
  · intro w' hSw
    go_simp
    try (with_reducible rfl)
  try simp only [Act.put, List.getElem_toArray, List.getElem_cons_zero, List.getElem_cons_succ, List.setIfInBounds_toArray, List.set_cons_zero, List.set_cons_succ]
  refine wpAnyG_takeW (i := 3) (v := ?_) rfl (by kernel_rfl) (by kernel_rfl) (by kernel_rfl) (fun _ _ _ h => h) (Or.inl ⟨by rfl, ?_⟩) ?_
  rotate_left
  · intro w' hSw
    go_simp
    try (with_reducible rfl)
  try simp only [Act.put, List.getElem_toArray, List.getElem_cons_zero, List.getElem_cons_succ, List.setIfInBounds_toArray, List.set_cons_zero, List.set_cons_succ]
  refine wpAnyG_takeW (i := 4) (v := ?_) rfl (by kernel_rfl) (by kernel_rfl) (by kernel_rfl) (fun _ _ _ h => h) (Or.inl ⟨by rfl, ?_⟩) ?_
  rotate_left
  · intro w' hSw
    go_simp
    try (with_reducible rfl)
  try simp only [Act.put, List.getElem_toArray, List.getElem_cons_zero, List.getElem_cons_succ, List.setIfInBounds_toArray, List.set_cons_zero, List.set_cons_succ]
  refine wpAnyG_takeW (i := 5) (v := ?_) rfl (by kernel_rfl) (by kernel_rfl) (by kernel_rfl) (fun _ _ _ h => h) (Or.inl ⟨by rfl, ?_⟩) ?_
  rotate_left
  · intro w' hSw
    go_simp
    try (with_reducible rfl)
  try simp only [Act.put, List.getElem_toArray, List.getElem_cons_zero, List.getElem_cons_succ, List.setIfInBounds_toArray, List.set_cons_zero, List.set_cons_succ]
  refine wpAnyG_takeW (i := 6) (v := ?_) rfl (by kernel_rfl) (by kernel_rfl) (by kernel_rfl) (fun _ _ _ h => h) (Or.inl ⟨by rfl, ?_⟩) ?_
  rotate_left
  · intro w' hSw
    go_simp
    try (with_reducible rfl)
  try simp only [Act.put, List.getElem_toArray, List.getElem_cons_zero, List.getElem_cons_succ, List.setIfInBounds_toArray, List.set_cons_zero, List.set_cons_succ]
  refine wpAnyG_br (rs := [2, 7]) (by kernel_rfl) (by simp) ?_
  intro j hj
  simp only [List.mem_cons, List.not_mem_nil, or_false] at hj
  rcases hj with rfl | rfl
  · skip
    refine ⟨_, rfl, fun K' hK => ?_⟩
    simp only [List.getElem_toArray, List.getElem_cons_zero, List.getElem_cons_succ]
    go_simp
    go_at_call 80
    refine (HC _).mono ?_
    rintro e x1 ⟨rfl, hbc⟩
    have HBx1 : Hid (Below w.heap.size w x1) := Lib.hid (((Below.refl _ _).drew).trans (by simpa using hbc))
    clear hbc
    refine hK.out _ _ (Or.inr trivial) ?_
    clear hK K'
    try simp only [Act.put, List.getElem_toArray, List.getElem_cons_zero, List.getElem_cons_succ, List.setIfInBounds_toArray, List.set_cons_zero, List.set_cons_succ]
    refine wpAnyG_one (i := 7) (by kernel_rfl) rfl trivial (fun K' hK => ?_)
    simp only [List.getElem_toArray, List.getElem_cons_zero, List.getElem_cons_succ]
    go_simp
    have hcv := convAt x1.heap.size (x1.alloc (.cells #[.int .u8 (x0.toNat : Int)] 5)) x0 x0.toNat (by simp [go_sem]) rfl
    refine hK.out _ _ (Or.inr trivial) ?_
    clear hK K'
    try simp only [Act.put, List.getElem_toArray, List.getElem_cons_zero, List.getElem_cons_succ, List.setIfInBounds_toArray, List.set_cons_zero, List.set_cons_succ]
    refine wpAnyG_one (i := 8) (by kernel_rfl) rfl trivial (fun K' hK => ?_)
    simp only [List.getElem_toArray, List.getElem_cons_zero, List.getElem_cons_succ]
    go_simp
    refine hK.out _ _ (Or.inr trivial) ?_
    clear hK K'
    try simp only [Act.put, List.getElem_toArray, List.getElem_cons_zero, List.getElem_cons_succ, List.setIfInBounds_toArray, List.set_cons_zero, List.set_cons_succ]
    refine wpAnyG_takeW (i := 9) (v := ?_) rfl (by kernel_rfl) (by kernel_rfl) (by kernel_rfl) (fun _ _ _ h => h) (Or.inl ⟨by rfl, ?_⟩) ?_
    rotate_left
    · intro w' hSw
      go_simp
      try (with_reducible rfl)
    try simp only [Act.put, List.getElem_toArray, List.getElem_cons_zero, List.getElem_cons_succ, List.setIfInBounds_toArray, List.set_cons_zero, List.set_cons_succ]
    refine wpAnyG_takeW (i := 10) (v := ?_) rfl (by kernel_rfl) (by kernel_rfl) (by kernel_rfl) (fun _ _ _ h => h) (Or.inl ⟨by rfl, ?_⟩) ?_
    rotate_left
    · intro w' hSw
      go_simp
      try (with_reducible rfl)
    try simp only [Act.put, List.getElem_toArray, List.getElem_cons_zero, List.getElem_cons_succ, List.setIfInBounds_toArray, List.set_cons_zero, List.set_cons_succ]
    refine wpAnyG_done (by kernel_rfl) ?_ _
    go_wp2_with fail
    go_ret
    exact ⟨rfl, (HBx1.out.trans (((Below.refl _ _).alloc (Nat.le_refl _) _).mono HBx1.out.size))⟩
  · skip
    refine ⟨_, rfl, fun K' hK => ?_⟩
    simp only [List.getElem_toArray, List.getElem_cons_zero, List.getElem_cons_succ]
    go_simp
    obtain ⟨x1, hx1⟩ : ∃ x, (w.alloc (.cells #[.int .u8 (x0.toNat : Int)] 5)).drew = x := ⟨_, rfl⟩
    have HB1 : Hid (Below w.heap.size w x1) := Lib.hid (by rw [← hx1]; exact (((Below.refl _ _).alloc (Nat.le_refl _) _).drew))
    have hz1 : w.heap.size < x1.heap.size := by rw [← hx1]; simp
    have b_0 : x1.cell? ⟨w.heap.size, 0, none⟩ = some (.int .u8 (x0.toNat : Int)) := by rw [← hx1]; simp [go_sem]
    rw [hx1]
    clear hx1
    refine hK.out _ _ (Or.inr trivial) ?_
    clear hK K'
    try simp only [Act.put, List.getElem_toArray, List.getElem_cons_zero, List.getElem_cons_succ, List.setIfInBounds_toArray, List.set_cons_zero, List.set_cons_succ]
    refine wpAnyG_br (rs := [2, 8]) (by kernel_rfl) (by simp) ?_
    intro j hj
    simp only [List.mem_cons, List.not_mem_nil, or_false] at hj
    rcases hj with rfl | rfl
    · skip
      refine ⟨_, rfl, fun K' hK => ?_⟩
      simp only [List.getElem_toArray, List.getElem_cons_zero, List.getElem_cons_succ]
      go_simp
      go_at_call 80
      refine (HC _).mono ?_
      rintro e x2 ⟨rfl, hbc⟩
      have HBx2 : Hid (Below w.heap.size w x2) := Lib.hid (HB1.out.trans ((show Below x1.heap.size x1 x2 from by simpa using hbc).mono (by omega)))
      have hq2 : x2.cell? ⟨w.heap.size, 0, none⟩ = some (.int .u8 (x0.toNat : Int)) := ((show Below x1.heap.size x1 x2 from by simpa using hbc).cell (p := ⟨w.heap.size, 0, none⟩) (by show w.heap.size < _; omega)).trans b_0
      clear hbc
      have hcv := convAt w.heap.size x2 x0 x0.toNat hq2 rfl
      refine hK.out _ _ (Or.inr trivial) ?_
      clear hK K'
      try simp only [Act.put, List.getElem_toArray, List.getElem_cons_zero, List.getElem_cons_succ, List.setIfInBounds_toArray, List.set_cons_zero, List.set_cons_succ]
      refine wpAnyG_one (i := 8) (by kernel_rfl) rfl trivial (fun K' hK => ?_)
      simp only [List.getElem_toArray, List.getElem_cons_zero, List.getElem_cons_succ]
      go_simp
      refine hK.out _ _ (Or.inr trivial) ?_
      clear hK K'
      try simp only [Act.put, List.getElem_toArray, List.getElem_cons_zero, List.getElem_cons_succ, List.setIfInBounds_toArray, List.set_cons_zero, List.set_cons_succ]
      refine wpAnyG_takeW (i := 9) (v := ?_) rfl (by kernel_rfl) (by kernel_rfl) (by kernel_rfl) (fun _ _ _ h => h) (Or.inl ⟨by rfl, ?_⟩) ?_
      rotate_left
      · intro w' hSw
        go_simp
        try (with_reducible rfl)
      try simp only [Act.put, List.getElem_toArray, List.getElem_cons_zero, List.getElem_cons_succ, List.setIfInBounds_toArray, List.set_cons_zero, List.set_cons_succ]
      refine wpAnyG_takeW (i := 10) (v := ?_) rfl (by kernel_rfl) (by kernel_rfl) (by kernel_rfl) (fun _ _ _ h => h) (Or.inl ⟨by rfl, ?_⟩) ?_
      rotate_left
      · intro w' hSw
        go_simp
        try (with_reducible rfl)
      try simp only [Act.put, List.getElem_toArray, List.getElem_cons_zero, List.getElem_cons_succ, List.setIfInBounds_toArray, List.set_cons_zero, List.set_cons_succ]
      refine wpAnyG_done (by kernel_rfl) ?_ _
      go_wp2_with fail
      go_ret
      exact ⟨rfl, HBx2.out⟩
    · skip
      have hcv := fun x h => convAt w.heap.size x x0 x0.toNat h rfl
      refine ⟨_, rfl, fun K' hK => ?_⟩
      simp only [List.getElem_toArray, List.getElem_cons_zero, List.getElem_cons_succ]
      go_simp
      refine hK.out _ _ (Or.inr trivial) ?_
      clear hK K'
      try simp only [Act.put, List.getElem_toArray, List.getElem_cons_zero, List.getElem_cons_succ, List.setIfInBounds_toArray, List.set_cons_zero, List.set_cons_succ]
      refine wpAnyG_one (i := 2) (by kernel_rfl) rfl trivial (fun K' hK => ?_)
      simp only [List.getElem_toArray, List.getElem_cons_zero, List.getElem_cons_succ]
      go_simp
      go_at_call 80
      refine (HC _).mono ?_
      rintro e x2 ⟨rfl, hbc⟩
      have HBx2 : Hid (Below w.heap.size w x2) := Lib.hid (HB1.out.trans ((show Below x1.heap.size x1 x2 from by simpa using hbc).mono (by omega)))
      have hq2 : x2.cell? ⟨w.heap.size, 0, none⟩ = some (.int .u8 (x0.toNat : Int)) := ((show Below x1.heap.size x1 x2 from by simpa using hbc).cell (p := ⟨w.heap.size, 0, none⟩) (by show w.heap.size < _; omega)).trans b_0
      clear hbc
      refine hK.out _ _ (Or.inr trivial) ?_
      clear hK K'
      try simp only [Act.put, List.getElem_toArray, List.getElem_cons_zero, List.getElem_cons_succ, List.setIfInBounds_toArray, List.set_cons_zero, List.set_cons_succ]
      refine wpAnyG_takeW (i := 9) (v := ?_) rfl (by kernel_rfl) (by kernel_rfl) (by kernel_rfl) (fun _ _ _ h => h) (Or.inl ⟨by rfl, ?_⟩) ?_
      rotate_left
      · intro w' hSw
        go_simp
        try (with_reducible rfl)
      try simp only [Act.put, List.getElem_toArray, List.getElem_cons_zero, List.getElem_cons_succ, List.setIfInBounds_toArray, List.set_cons_zero, List.set_cons_succ]
      refine wpAnyG_takeW (i := 10) (v := ?_) rfl (by kernel_rfl) (by kernel_rfl) (by kernel_rfl) (fun _ _ _ h => h) (Or.inl ⟨by rfl, ?_⟩) ?_
      rotate_left
      · intro w' hSw
        go_simp
        try (with_reducible rfl)
      try simp only [Act.put, List.getElem_toArray, List.getElem_cons_zero, List.getElem_cons_succ, List.setIfInBounds_toArray, List.set_cons_zero, List.set_cons_succ]
      refine wpAnyG_done (by kernel_rfl) ?_ _
      go_wp2_with fail
      go_ret
      exact ⟨rfl, HBx2.out⟩
end
section
open Go.RowKit

set_option maxRecDepth 100000 in
set_option maxHeartbeats 2000000 in
theorem stext1_c (n : Int) (pv : Bool) (tx : ByteArray) (ln : Nat) (aa : Option Addr) (ca : Nat) (w : World) (h : rnOK n) :
    Calls Tryd.prog 55 #[.agg #[.int .i64 1, .int .i64 n, .bool pv, .slice aa ln ca, .string tx]] w fun e w' => e = .returned (.string ⟨(utfB n.toNat).toArray⟩) ∧ Below w.heap.size w w' := by
  have HN := Lib.hid h
  clear h
  go_enter Tryd.func55, Tryd.ntmps55
  go_wp2_with fail
  refine (l03Utf_c n _ HN.out).mono ?_
  rintro e w1 ⟨rfl, hb⟩
  have HB := Lib.hid hb
  clear hb
  go_wp2_with fail
  go_ret
  exact ⟨rfl, ((Below.refl w.heap.size w).alloc (Nat.le_refl _) _).trans (HB.out.mono (by simp))⟩
set_option maxRecDepth 100000 in
set_option maxHeartbeats 2000000 in
theorem stext2_c (n : Int) (pv : Bool) (tx : ByteArray) (ln : Nat) (aa : Option Addr) (ca : Nat) (w : World) (h : 0 ≤ n ∧ n < 128) :
    Calls Tryd.prog 55 #[.agg #[.int .i64 2, .int .i64 n, .bool pv, .slice aa ln ca, .string tx]] w fun e w' => e = .returned (.string ⟨#[u8 n.toNat]⟩) ∧ Below w.heap.size w w' := by
  have hb0 : n = ((u8 n.toNat).toNat : Int) := by have := u8N (n := n.toNat) (by omega); omega
  obtain ⟨x0, hx0⟩ : ∃ x : UInt8, u8 n.toNat = x := ⟨_, rfl⟩
  rw [hx0] at hb0 ⊢
  clear hx0
  have HB := Lib.hid (And.intro h hb0)
  clear h hb0
  go_enter Tryd.func55, Tryd.ntmps55
  go_wp2_with fail
  rw [convAt (w.heap.size + 1) _ x0 x0.toNat (by have := HB.out; simp [go_sem]; omega) rfl]
  go_wp2_with fail
  go_ret
  exact ⟨rfl, ((Below.refl w.heap.size w).alloc (Nat.le_refl _) _).alloc (by simp) _⟩
set_option maxRecDepth 100000 in
set_option maxHeartbeats 2000000 in
theorem stext3_c (n : Int) (pv : Bool) (tx : ByteArray) (ln : Nat) (aa : Option Addr) (ca : Nat) (w : World) (h : 0 ≤ n ∧ n < 128) :
    Calls Tryd.prog 55 #[.agg #[.int .i64 3, .int .i64 n, .bool pv, .slice aa ln ca, .string tx]] w fun e w' => e = .returned (.string ⟨#[27, u8 n.toNat]⟩) ∧ Below w.heap.size w w' := by
  have hb0 : n = ((u8 n.toNat).toNat : Int) := by have := u8N (n := n.toNat) (by omega); omega
  obtain ⟨x0, hx0⟩ : ∃ x : UInt8, u8 n.toNat = x := ⟨_, rfl⟩
  rw [hx0] at hb0 ⊢
  clear hx0
  have HB := Lib.hid (And.intro h hb0)
  clear h hb0
  go_enter Tryd.func55, Tryd.ntmps55
  go_wp2_with fail
  rw [convAt (w.heap.size + 1) _ x0 x0.toNat (by have := HB.out; simp [go_sem]; omega) rfl]
  go_wp2_with fail
  go_ret
  exact ⟨rfl, ((Below.refl w.heap.size w).alloc (Nat.le_refl _) _).alloc (by simp) _⟩
set_option maxRecDepth 100000 in
set_option maxHeartbeats 2000000 in
theorem stext5_c (n : Int) (pv : Bool) (tx : ByteArray) (ln : Nat) (aa : Option Addr) (ca : Nat) (w : World) (h : tx.size ≤ 40) :
    Calls Tryd.prog 55 #[.agg #[.int .i64 5, .int .i64 n, .bool pv, .slice aa ln ca, .string tx]] w fun e w' => e = .returned (.string ⟨([27, 93] ++ tx.data.toList ++ [7]).toArray⟩) ∧ Below w.heap.size w w' := by
  go_enter Tryd.func55, Tryd.ntmps55
  go_wp2_with fail
  go_ret
  have hq : ∀ R : ByteArray, R.data.toList = 27 :: 93 :: (tx.data.toList ++ [7]) → (⟨#[27, 93]⟩ : ByteArray) ++ tx ++ ⟨#[7]⟩ = R := fun R hR => by
    rw [bytes_eq hR, bytes_eq (s := (⟨#[27, 93]⟩ : ByteArray) ++ tx ++ ⟨#[7]⟩) (l := 27 :: 93 :: (tx.data.toList ++ [7])) (by simp [ByteArray.data_append])]
  exact ⟨congrArg (fun s => Ending.returned (Value.string s)) (hq _ (by simp)), (Below.refl _ _).alloc (Nat.le_refl _) _⟩
set_option maxRecDepth 100000 in
set_option maxHeartbeats 4000000 in
theorem stext4f_c (n : Int) (tx : ByteArray) (xs : List Int) (aa : Option Addr) (ca : Nat) (w : World) (hn : 0 ≤ n ∧ n < 128) (hl : xs.length ≤ 8) (hx : ∀ x ∈ xs, -1 ≤ x ∧ x ≤ 9999) (ha : Sl intE 1 w aa xs) :
    Calls Tryd.prog 55 #[.agg #[.int .i64 4, .int .i64 n, .bool false, .slice aa xs.length ca, .string tx]] w fun e w' => e = .returned (.string ⟨([27, 91] ++ [] ++ argsT xs ++ [u8 n.toNat]).toArray⟩) ∧ Below w.heap.size w w' := by
  have hb0 : n = ((u8 n.toNat).toNat : Int) := by have := u8N (n := n.toNat) (by omega); omega
  obtain ⟨x0, hx0⟩ : ∃ x : UInt8, u8 n.toNat = x := ⟨_, rfl⟩
  rw [hx0] at hb0 ⊢
  clear hx0
  have HBN := Lib.hid (And.intro hn hb0)
  clear hb0
  have HX := Lib.hid hx
  have HA := Lib.hid (ha.alloc (.cells #[.int .i64 4, .int .i64 n, .bool false, .slice aa xs.length ca, .string tx] 46))
  have HT : ∀ k, Hid ((argsT (xs.take k)).length ≤ 40) := fun k => Lib.hid (by
    have h1 := argsT_len (xs.take k) (fun x h => (hx x (List.mem_of_mem_take h)).2)
    have h2 : (xs.take k).length ≤ 8 := by simp; omega
    omega)
  have HDC : Hid (∀ x : Int, 0 ≤ x → x ≤ 9999 → ∀ w, Calls Tryd.prog 80 #[.int .i64 x] w fun e w' => e = .returned (.string ⟨(Lib.decDigits x.toNat).toArray⟩) ∧ Below w.heap.size w w') := Lib.hid (fun x h0 h1 w => by
    obtain ⟨m, rfl⟩ : ∃ m : Nat, x = m := ⟨x.toNat, by omega⟩
    exact digits_c m m (Nat.le_refl _) (by omega) w)
  clear hx ha hn
  go_enter Tryd.func55, Tryd.ntmps55
  go_wp2_with fail
  go_loopw [3, 4] (fun ov iv wr => ∃ (s : ByteArray) (k : Nat), ov = .string s ∧ iv = .int .i64 k ∧ k ≤ xs.length ∧ Hid (s.data.toList = [27, 91] ++ [] ++ argsT (xs.take k)) ∧ Below (w.heap.size + 1) (w.alloc (.cells #[.int .i64 4, .int .i64 n, .bool false, .slice aa xs.length ca, .string tx] 46)) wr) (fun _ iv _ => xs.length - (intOf iv).toNat)
  case atStart => exact ⟨_, 0, rfl, rfl, Nat.zero_le _, Lib.hid (by rfl), Below.refl _ _⟩
  case round =>
    obtain ⟨s, k, rfl, rfl, hk, hs, hb⟩ := hrel
    have HS := hs
    have hsz : s.size ≤ 50 := by
      have h1 : s.size = s.data.toList.length := by rw [Array.length_toList]; rfl
      have h2 := (HT k).out
      rw [h1, HS.out]
      simp
      omega
    have HAr := Lib.hid (HA.out.keep (hb.mono (by simp)))
    have hzr := hb.size
    try simp at hzr
    have qr_0_0 : wr.cell? ⟨w.heap.size, 0, none⟩ = some (.int .i64 4) := by
      rw [hb.cell (p := ⟨w.heap.size, 0, none⟩) (show w.heap.size < _ by (try simp) <;> (try omega))]
      first | assumption | (simp [go_sem, *])
    have qr_0_1 : wr.cell? ⟨w.heap.size, 1, none⟩ = some (.int .i64 n) := by
      rw [hb.cell (p := ⟨w.heap.size, 1, none⟩) (show w.heap.size < _ by (try simp) <;> (try omega))]
      first | assumption | (simp [go_sem, *])
    have qr_0_2 : wr.cell? ⟨w.heap.size, 2, none⟩ = some (.bool false) := by
      rw [hb.cell (p := ⟨w.heap.size, 2, none⟩) (show w.heap.size < _ by (try simp) <;> (try omega))]
      first | assumption | (simp [go_sem, *])
    have qr_0_3 : wr.cell? ⟨w.heap.size, 3, none⟩ = some (.slice aa xs.length ca) := by
      rw [hb.cell (p := ⟨w.heap.size, 3, none⟩) (show w.heap.size < _ by (try simp) <;> (try omega))]
      first | assumption | (simp [go_sem, *])
    have qr_0_4 : wr.cell? ⟨w.heap.size, 4, none⟩ = some (.string tx) := by
      rw [hb.cell (p := ⟨w.heap.size, 4, none⟩) (show w.heap.size < _ by (try simp) <;> (try omega))]
      first | assumption | (simp [go_sem, *])
    have hlr_0 : w.heap.size < wr.heap.size := by omega
    have HB := Lib.hid hb
    clear hb hs
    by_cases hlt : k < xs.length
    · obtain ⟨b1, o1, rfl, hb1, hc1⟩ := HAr.out.at hlt
      have c1 := hc1 k hlt 0 (by omega)
      simp only [intE, Nat.mul_one, Nat.add_zero, List.getElem?_cons_zero] at c1
      clear hc1
      have hxk := HX.out _ (List.getElem_mem hlt)
      have HN := Lib.hid (argsT_next xs k hlt)
      obtain ⟨x, hxe⟩ : ∃ x, xs[k] = x := ⟨_, rfl⟩
      rw [hxe] at c1 hxk HN
      clear hxe
      by_cases hx0 : x < 0
      · by_cases hk0 : k = 0
        · obtain rfl : k = 0 := hk0
          simp only [Nat.add_zero] at c1
          have HV : Hid (argT x = []) := Lib.hid (if_pos hx0)
          go_wp2_with fail
          go_roundw
          case rel => exact ⟨s, 0 + 1, rfl, (by go_num), by omega, Lib.hid (by rw [HN.out, HV.out]; simp [ByteArray.data_append, HS.out]), HB.out⟩
          case measure => simp [intOf]; omega
        · have hk1 : (0 : Int) < (k : Int) := by omega
          have HV : Hid (argT x = []) := Lib.hid (if_pos hx0)
          go_wp2_with fail
          go_roundw
          case rel => exact ⟨(s ++ ⟨#[59]⟩), k + 1, rfl, (by go_num), by omega, Lib.hid (by rw [HN.out, HV.out]; simp [ByteArray.data_append, HS.out, hk0]), HB.out⟩
          case measure => simp [intOf]; omega
      · by_cases hk0 : k = 0
        · obtain rfl : k = 0 := hk0
          simp only [Nat.add_zero] at c1
          have HV : Hid (argT x = Lib.decDigits x.toNat) := Lib.hid (if_neg hx0)
          go_wp2_with fail
          refine (HDC.out x (by omega) (by omega) _).mono ?_
          rintro e w3 ⟨rfl, hb3⟩
          have HB3 := Lib.hid hb3
          clear hb3
          obtain ⟨D, hD⟩ : ∃ D : ByteArray, D = ⟨(Lib.decDigits x.toNat).toArray⟩ := ⟨_, rfl⟩
          have HD : Hid (D.data.toList = Lib.decDigits x.toNat) := Lib.hid (by rw [hD])
          have hDz : D.size ≤ 4 := by rw [hD]; exact dig_len _ (by omega)
          rw [← hD]
          clear hD
          go_wp2_with fail
          go_roundw
          case rel => exact ⟨s ++ D, 0 + 1, rfl, (by go_num), by omega, Lib.hid (by rw [HN.out, HV.out, ← HD.out]; simp [ByteArray.data_append, HS.out]), HB.out.trans (HB3.out.mono (by have := HB.out.size; simp at this; omega))⟩
          case measure => simp [intOf]; omega
        · have hk1 : (0 : Int) < (k : Int) := by omega
          have HV : Hid (argT x = Lib.decDigits x.toNat) := Lib.hid (if_neg hx0)
          go_wp2_with fail
          refine (HDC.out x (by omega) (by omega) _).mono ?_
          rintro e w3 ⟨rfl, hb3⟩
          have HB3 := Lib.hid hb3
          clear hb3
          obtain ⟨D, hD⟩ : ∃ D : ByteArray, D = ⟨(Lib.decDigits x.toNat).toArray⟩ := ⟨_, rfl⟩
          have HD : Hid (D.data.toList = Lib.decDigits x.toNat) := Lib.hid (by rw [hD])
          have hDz : D.size ≤ 4 := by rw [hD]; exact dig_len _ (by omega)
          rw [← hD]
          clear hD
          go_wp2_with fail
          go_roundw
          case rel => exact ⟨(s ++ ⟨#[59]⟩) ++ D, k + 1, rfl, (by go_num), by omega, Lib.hid (by rw [HN.out, HV.out, ← HD.out]; simp [ByteArray.data_append, HS.out, hk0]), HB.out.trans (HB3.out.mono (by have := HB.out.size; simp at this; omega))⟩
          case measure => simp [intOf]; omega
    · obtain rfl : k = xs.length := by omega
      go_wp2_with fail
      rw [convB [x0] _ (by have := HBN.out; simp [byteE]; omega) wr 1 rfl]
      go_wp2_with fail
      go_ret
      refine ⟨?_, (((Below.refl w.heap.size w).alloc (Nat.le_refl _) _).trans (HB.out.mono (by omega))).alloc (by have := HB.out.size; simp at this; omega) _⟩
      have hE := HS.out
      rw [List.take_length] at hE
      exact congrArg (fun s => Ending.returned (Value.string s)) (bytes_eq (by simp [ByteArray.data_append, hE]))
set_option maxRecDepth 100000 in
set_option maxHeartbeats 4000000 in
theorem stext4t_c (n : Int) (tx : ByteArray) (xs : List Int) (aa : Option Addr) (ca : Nat) (w : World) (hn : 0 ≤ n ∧ n < 128) (hl : xs.length ≤ 8) (hx : ∀ x ∈ xs, -1 ≤ x ∧ x ≤ 9999) (ha : Sl intE 1 w aa xs) :
    Calls Tryd.prog 55 #[.agg #[.int .i64 4, .int .i64 n, .bool true, .slice aa xs.length ca, .string tx]] w fun e w' => e = .returned (.string ⟨([27, 91] ++ [63] ++ argsT xs ++ [u8 n.toNat]).toArray⟩) ∧ Below w.heap.size w w' := by
  have hb0 : n = ((u8 n.toNat).toNat : Int) := by have := u8N (n := n.toNat) (by omega); omega
  obtain ⟨x0, hx0⟩ : ∃ x : UInt8, u8 n.toNat = x := ⟨_, rfl⟩
  rw [hx0] at hb0 ⊢
  clear hx0
  have HBN := Lib.hid (And.intro hn hb0)
  clear hb0
  have HX := Lib.hid hx
  have HA := Lib.hid (ha.alloc (.cells #[.int .i64 4, .int .i64 n, .bool true, .slice aa xs.length ca, .string tx] 46))
  have HT : ∀ k, Hid ((argsT (xs.take k)).length ≤ 40) := fun k => Lib.hid (by
    have h1 := argsT_len (xs.take k) (fun x h => (hx x (List.mem_of_mem_take h)).2)
    have h2 : (xs.take k).length ≤ 8 := by simp; omega
    omega)
  have HDC : Hid (∀ x : Int, 0 ≤ x → x ≤ 9999 → ∀ w, Calls Tryd.prog 80 #[.int .i64 x] w fun e w' => e = .returned (.string ⟨(Lib.decDigits x.toNat).toArray⟩) ∧ Below w.heap.size w w') := Lib.hid (fun x h0 h1 w => by
    obtain ⟨m, rfl⟩ : ∃ m : Nat, x = m := ⟨x.toNat, by omega⟩
    exact digits_c m m (Nat.le_refl _) (by omega) w)
  clear hx ha hn
  go_enter Tryd.func55, Tryd.ntmps55
  go_wp2_with fail
  go_loopw [3, 4] (fun ov iv wr => ∃ (s : ByteArray) (k : Nat), ov = .string s ∧ iv = .int .i64 k ∧ k ≤ xs.length ∧ Hid (s.data.toList = [27, 91] ++ [63] ++ argsT (xs.take k)) ∧ Below (w.heap.size + 1) (w.alloc (.cells #[.int .i64 4, .int .i64 n, .bool true, .slice aa xs.length ca, .string tx] 46)) wr) (fun _ iv _ => xs.length - (intOf iv).toNat)
  case atStart => exact ⟨_, 0, rfl, rfl, Nat.zero_le _, Lib.hid (by rfl), Below.refl _ _⟩
  case round =>
    obtain ⟨s, k, rfl, rfl, hk, hs, hb⟩ := hrel
    have HS := hs
    have hsz : s.size ≤ 50 := by
      have h1 : s.size = s.data.toList.length := by rw [Array.length_toList]; rfl
      have h2 := (HT k).out
      rw [h1, HS.out]
      simp
      omega
    have HAr := Lib.hid (HA.out.keep (hb.mono (by simp)))
    have hzr := hb.size
    try simp at hzr
    have qr_0_0 : wr.cell? ⟨w.heap.size, 0, none⟩ = some (.int .i64 4) := by
      rw [hb.cell (p := ⟨w.heap.size, 0, none⟩) (show w.heap.size < _ by (try simp) <;> (try omega))]
      first | assumption | (simp [go_sem, *])
    have qr_0_1 : wr.cell? ⟨w.heap.size, 1, none⟩ = some (.int .i64 n) := by
      rw [hb.cell (p := ⟨w.heap.size, 1, none⟩) (show w.heap.size < _ by (try simp) <;> (try omega))]
      first | assumption | (simp [go_sem, *])
    have qr_0_2 : wr.cell? ⟨w.heap.size, 2, none⟩ = some (.bool true) := by
      rw [hb.cell (p := ⟨w.heap.size, 2, none⟩) (show w.heap.size < _ by (try simp) <;> (try omega))]
      first | assumption | (simp [go_sem, *])
    have qr_0_3 : wr.cell? ⟨w.heap.size, 3, none⟩ = some (.slice aa xs.length ca) := by
      rw [hb.cell (p := ⟨w.heap.size, 3, none⟩) (show w.heap.size < _ by (try simp) <;> (try omega))]
      first | assumption | (simp [go_sem, *])
    have qr_0_4 : wr.cell? ⟨w.heap.size, 4, none⟩ = some (.string tx) := by
      rw [hb.cell (p := ⟨w.heap.size, 4, none⟩) (show w.heap.size < _ by (try simp) <;> (try omega))]
      first | assumption | (simp [go_sem, *])
    have hlr_0 : w.heap.size < wr.heap.size := by omega
    have HB := Lib.hid hb
    clear hb hs
    by_cases hlt : k < xs.length
    · obtain ⟨b1, o1, rfl, hb1, hc1⟩ := HAr.out.at hlt
      have c1 := hc1 k hlt 0 (by omega)
      simp only [intE, Nat.mul_one, Nat.add_zero, List.getElem?_cons_zero] at c1
      clear hc1
      have hxk := HX.out _ (List.getElem_mem hlt)
      have HN := Lib.hid (argsT_next xs k hlt)
      obtain ⟨x, hxe⟩ : ∃ x, xs[k] = x := ⟨_, rfl⟩
      rw [hxe] at c1 hxk HN
      clear hxe
      by_cases hx0 : x < 0
      · by_cases hk0 : k = 0
        · obtain rfl : k = 0 := hk0
          simp only [Nat.add_zero] at c1
          have HV : Hid (argT x = []) := Lib.hid (if_pos hx0)
          go_wp2_with fail
          go_roundw
          case rel => exact ⟨s, 0 + 1, rfl, (by go_num), by omega, Lib.hid (by rw [HN.out, HV.out]; simp [ByteArray.data_append, HS.out]), HB.out⟩
          case measure => simp [intOf]; omega
        · have hk1 : (0 : Int) < (k : Int) := by omega
          have HV : Hid (argT x = []) := Lib.hid (if_pos hx0)
          go_wp2_with fail
          go_roundw
          case rel => exact ⟨(s ++ ⟨#[59]⟩), k + 1, rfl, (by go_num), by omega, Lib.hid (by rw [HN.out, HV.out]; simp [ByteArray.data_append, HS.out, hk0]), HB.out⟩
          case measure => simp [intOf]; omega
      · by_cases hk0 : k = 0
        · obtain rfl : k = 0 := hk0
          simp only [Nat.add_zero] at c1
          have HV : Hid (argT x = Lib.decDigits x.toNat) := Lib.hid (if_neg hx0)
          go_wp2_with fail
          refine (HDC.out x (by omega) (by omega) _).mono ?_
          rintro e w3 ⟨rfl, hb3⟩
          have HB3 := Lib.hid hb3
          clear hb3
          obtain ⟨D, hD⟩ : ∃ D : ByteArray, D = ⟨(Lib.decDigits x.toNat).toArray⟩ := ⟨_, rfl⟩
          have HD : Hid (D.data.toList = Lib.decDigits x.toNat) := Lib.hid (by rw [hD])
          have hDz : D.size ≤ 4 := by rw [hD]; exact dig_len _ (by omega)
          rw [← hD]
          clear hD
          go_wp2_with fail
          go_roundw
          case rel => exact ⟨s ++ D, 0 + 1, rfl, (by go_num), by omega, Lib.hid (by rw [HN.out, HV.out, ← HD.out]; simp [ByteArray.data_append, HS.out]), HB.out.trans (HB3.out.mono (by have := HB.out.size; simp at this; omega))⟩
          case measure => simp [intOf]; omega
        · have hk1 : (0 : Int) < (k : Int) := by omega
          have HV : Hid (argT x = Lib.decDigits x.toNat) := Lib.hid (if_neg hx0)
          go_wp2_with fail
          refine (HDC.out x (by omega) (by omega) _).mono ?_
          rintro e w3 ⟨rfl, hb3⟩
          have HB3 := Lib.hid hb3
          clear hb3
          obtain ⟨D, hD⟩ : ∃ D : ByteArray, D = ⟨(Lib.decDigits x.toNat).toArray⟩ := ⟨_, rfl⟩
          have HD : Hid (D.data.toList = Lib.decDigits x.toNat) := Lib.hid (by rw [hD])
          have hDz : D.size ≤ 4 := by rw [hD]; exact dig_len _ (by omega)
          rw [← hD]
          clear hD
          go_wp2_with fail
          go_roundw
          case rel => exact ⟨(s ++ ⟨#[59]⟩) ++ D, k + 1, rfl, (by go_num), by omega, Lib.hid (by rw [HN.out, HV.out, ← HD.out]; simp [ByteArray.data_append, HS.out, hk0]), HB.out.trans (HB3.out.mono (by have := HB.out.size; simp at this; omega))⟩
          case measure => simp [intOf]; omega
    · obtain rfl : k = xs.length := by omega
      go_wp2_with fail
      rw [convB [x0] _ (by have := HBN.out; simp [byteE]; omega) wr 1 rfl]
      go_wp2_with fail
      go_ret
      refine ⟨?_, (((Below.refl w.heap.size w).alloc (Nat.le_refl _) _).trans (HB.out.mono (by omega))).alloc (by have := HB.out.size; simp at this; omega) _⟩
      have hE := HS.out
      rw [List.take_length] at hE
      exact congrArg (fun s => Ending.returned (Value.string s)) (bytes_eq (by simp [ByteArray.data_append, hE]))
theorem AcOK.xs {xs : List Int} (h : argsB xs = true) : xs.length ≤ 8 ∧ ∀ x ∈ xs, -1 ≤ x ∧ x ≤ 9999 := by
  simp only [argsB, Bool.and_eq_true, decide_eq_true_eq, List.all_eq_true] at h
  exact ⟨h.1.2, fun x hx => by have := h.2 x hx; simpa [inB] using this⟩
theorem actionText_c (a : AV) (aa : Option Addr) (ca : Nat) (w : World) (h : AcOK a) (ha : Sl intE 1 w aa a.args) (hp : PT w.heap.size w) :
    Calls Tryd.prog 53 #[.agg #[.int .i64 a.kind, .int .i64 a.n, .bool a.priv, .slice aa a.args.length ca, .string a.text]] w fun e w' => e = .returned (.string ⟨(textOf a).toArray⟩) ∧ Below w.heap.size w w' := by
  obtain ⟨kd, n, pv, xs, tx⟩ := a
  rcases h with ⟨hk, ht, hA, h1, h2⟩ | ⟨hp', hA, ⟨hk, hn, ht⟩ | ⟨ht, ⟨hk, hn⟩ | ⟨hk, hn⟩ | ⟨hk, hn⟩⟩⟩
  all_goals simp only at hk
  all_goals subst hk
  · simp only at hA h1 h2 ha ⊢
    obtain ⟨l8, hall⟩ := AcOK.xs hA
    cases pv
    · exact text4f_c n tx xs aa ca w (by omega) l8 hall ha hp
    · exact text4t_c n tx xs aa ca w (by omega) l8 hall ha hp
  · have : tx.size ≤ 40 := by
      simp only [titB, Bool.and_eq_true, decide_eq_true_eq] at ht
      exact ht.1
    exact text5_c n pv tx xs.length aa ca w this
  · exact text1_c n pv tx xs.length aa ca w hn
  · exact text2_c n pv tx xs.length aa ca w (by unfold ctlN at hn; simp only at hn; omega)
  · exact text3_c n pv tx xs.length aa ca w (by unfold escN at hn; simp only at hn; omega)
theorem l03Text_c (a : AV) (aa : Option Addr) (ca : Nat) (w : World) (h : AcOK a) (ha : Sl intE 1 w aa a.args) :
    Calls Tryd.prog 55 #[.agg #[.int .i64 a.kind, .int .i64 a.n, .bool a.priv, .slice aa a.args.length ca, .string a.text]] w fun e w' => e = .returned (.string ⟨(textOf a).toArray⟩) ∧ Below w.heap.size w w' := by
  obtain ⟨kd, n, pv, xs, tx⟩ := a
  rcases h with ⟨hk, ht, hA, h1, h2⟩ | ⟨hp', hA, ⟨hk, hn, ht⟩ | ⟨ht, ⟨hk, hn⟩ | ⟨hk, hn⟩ | ⟨hk, hn⟩⟩⟩
  all_goals simp only at hk
  all_goals subst hk
  · simp only at hA h1 h2 ha ⊢
    obtain ⟨l8, hall⟩ := AcOK.xs hA
    cases pv
    · exact stext4f_c n tx xs aa ca w (by omega) l8 hall ha
    · exact stext4t_c n tx xs aa ca w (by omega) l8 hall ha
  · have : tx.size ≤ 40 := by
      simp only [titB, Bool.and_eq_true, decide_eq_true_eq] at ht
      exact ht.1
    exact stext5_c n pv tx xs.length aa ca w this
  · exact stext1_c n pv tx xs.length aa ca w hn
  · exact stext2_c n pv tx xs.length aa ca w (by unfold ctlN at hn; simp only at hn; omega)
  · exact stext3_c n pv tx xs.length aa ca w (by unfold escN at hn; simp only at hn; omega)
set_option maxRecDepth 100000 in
set_option maxHeartbeats 2000000 in
theorem implActionText_c (a : AV) (aa : Option Addr) (ca : Nat) (w : World) (h : AcOK a) (ha : Sl intE 1 w aa a.args) (hp : PT w.heap.size w) :
    Calls Tryd.prog 27 #[.agg #[.int .i64 a.kind, .int .i64 a.n, .bool a.priv, .slice aa a.args.length ca, .string a.text]] w fun e w' => e = .returned (.tuple #[.string ⟨(textOf a).toArray⟩, .int .i64 0]) ∧ Below w.heap.size w w' := by
  have HC := Lib.hid (isAction_t a aa ca (w.alloc (.cells #[.int .i64 a.kind, .int .i64 a.n, .bool a.priv, .slice aa a.args.length ca, .string a.text] 46)) h (ha.alloc _))
  have HT : Hid (∀ w1, Below (w.heap.size + 1) (w.alloc (.cells #[.int .i64 a.kind, .int .i64 a.n, .bool a.priv, .slice aa a.args.length ca, .string a.text] 46)) w1 → Calls Tryd.prog _ #[.agg #[.int .i64 a.kind, .int .i64 a.n, .bool a.priv, .slice aa a.args.length ca, .string a.text]] w1 _) := Lib.hid (fun w1 hb => actionText_c a aa ca w1 h ((ha.alloc _).keep (hb.mono (by simp))) (fun w' h' => hp w' (((Below.refl w.heap.size w).alloc (Nat.le_refl _) _).trans ((hb.mono (by omega)).trans (h'.mono (by have := hb.size; simp at this; omega))))))
  obtain ⟨T, hT⟩ : ∃ T : ByteArray, (⟨(textOf a).toArray⟩ : ByteArray) = T := ⟨_, rfl⟩
  rw [hT] at HT ⊢
  clear ha h hT
  go_enter Tryd.func27, Tryd.ntmps27
  go_wp2_with fail
  refine HC.out.mono ?_
  rintro e w1 ⟨rfl, hb⟩
  have hz1 := hb.size
  try simp at hz1
  have q1_0_0 : w1.cell? ⟨w.heap.size, 0, none⟩ = some (.int .i64 a.kind) := by
    rw [hb.cell (p := ⟨w.heap.size, 0, none⟩) (show w.heap.size < _ by (try simp) <;> (try omega))]
    first | assumption | (simp [go_sem, *])
  have q1_0_1 : w1.cell? ⟨w.heap.size, 1, none⟩ = some (.int .i64 a.n) := by
    rw [hb.cell (p := ⟨w.heap.size, 1, none⟩) (show w.heap.size < _ by (try simp) <;> (try omega))]
    first | assumption | (simp [go_sem, *])
  have q1_0_2 : w1.cell? ⟨w.heap.size, 2, none⟩ = some (.bool a.priv) := by
    rw [hb.cell (p := ⟨w.heap.size, 2, none⟩) (show w.heap.size < _ by (try simp) <;> (try omega))]
    first | assumption | (simp [go_sem, *])
  have q1_0_3 : w1.cell? ⟨w.heap.size, 3, none⟩ = some (.slice aa a.args.length ca) := by
    rw [hb.cell (p := ⟨w.heap.size, 3, none⟩) (show w.heap.size < _ by (try simp) <;> (try omega))]
    first | assumption | (simp [go_sem, *])
  have q1_0_4 : w1.cell? ⟨w.heap.size, 4, none⟩ = some (.string a.text) := by
    rw [hb.cell (p := ⟨w.heap.size, 4, none⟩) (show w.heap.size < _ by (try simp) <;> (try omega))]
    first | assumption | (simp [go_sem, *])
  have hl1_0 : w.heap.size < w1.heap.size := by omega
  have HB := Lib.hid hb
  clear hb
  go_wp2_with fail
  refine (HT.out w1 (by have := HB.out; simpa using this)).mono ?_
  rintro e w2 ⟨rfl, hb2⟩
  have HB2 := Lib.hid hb2
  clear hb2
  go_wp2_with fail
  refine bodyPost_ret (v := .tuple #[.string T, .int .i64 0]) (by simp [results, Tryd.results27, go_sem]) rfl ?_
  exact ⟨rfl, (((Below.refl w.heap.size w).alloc (Nat.le_refl _) _).trans (HB.out.mono (by simp))).trans (HB2.out.mono (by have := HB.out.size; simp at this ⊢; omega))⟩
set_option maxRecDepth 100000 in
set_option maxHeartbeats 2000000 in
theorem specActionText_c (a : AV) (aa : Option Addr) (ca : Nat) (w : World) (h : AcOK a) (ha : Sl intE 1 w aa a.args) :
    Calls Tryd.prog 28 #[.agg #[.int .i64 a.kind, .int .i64 a.n, .bool a.priv, .slice aa a.args.length ca, .string a.text]] w fun e w' => e = .returned (.tuple #[.string ⟨(textOf a).toArray⟩, .int .i64 0]) ∧ Below w.heap.size w w' := by
  have HC := Lib.hid (specActionOK_t a aa ca (w.alloc (.cells #[.int .i64 a.kind, .int .i64 a.n, .bool a.priv, .slice aa a.args.length ca, .string a.text] 46)) h (ha.alloc _))
  have HT : Hid (∀ w1, Below (w.heap.size + 1) (w.alloc (.cells #[.int .i64 a.kind, .int .i64 a.n, .bool a.priv, .slice aa a.args.length ca, .string a.text] 46)) w1 → Calls Tryd.prog _ #[.agg #[.int .i64 a.kind, .int .i64 a.n, .bool a.priv, .slice aa a.args.length ca, .string a.text]] w1 _) := Lib.hid (fun w1 hb => l03Text_c a aa ca w1 h ((ha.alloc _).keep (hb.mono (by simp))))
  obtain ⟨T, hT⟩ : ∃ T : ByteArray, (⟨(textOf a).toArray⟩ : ByteArray) = T := ⟨_, rfl⟩
  rw [hT] at HT ⊢
  clear ha h hT
  go_enter Tryd.func28, Tryd.ntmps28
  go_wp2_with fail
  refine HC.out.mono ?_
  rintro e w1 ⟨rfl, hb⟩
  have hz1 := hb.size
  try simp at hz1
  have q1_0_0 : w1.cell? ⟨w.heap.size, 0, none⟩ = some (.int .i64 a.kind) := by
    rw [hb.cell (p := ⟨w.heap.size, 0, none⟩) (show w.heap.size < _ by (try simp) <;> (try omega))]
    first | assumption | (simp [go_sem, *])
  have q1_0_1 : w1.cell? ⟨w.heap.size, 1, none⟩ = some (.int .i64 a.n) := by
    rw [hb.cell (p := ⟨w.heap.size, 1, none⟩) (show w.heap.size < _ by (try simp) <;> (try omega))]
    first | assumption | (simp [go_sem, *])
  have q1_0_2 : w1.cell? ⟨w.heap.size, 2, none⟩ = some (.bool a.priv) := by
    rw [hb.cell (p := ⟨w.heap.size, 2, none⟩) (show w.heap.size < _ by (try simp) <;> (try omega))]
    first | assumption | (simp [go_sem, *])
  have q1_0_3 : w1.cell? ⟨w.heap.size, 3, none⟩ = some (.slice aa a.args.length ca) := by
    rw [hb.cell (p := ⟨w.heap.size, 3, none⟩) (show w.heap.size < _ by (try simp) <;> (try omega))]
    first | assumption | (simp [go_sem, *])
  have q1_0_4 : w1.cell? ⟨w.heap.size, 4, none⟩ = some (.string a.text) := by
    rw [hb.cell (p := ⟨w.heap.size, 4, none⟩) (show w.heap.size < _ by (try simp) <;> (try omega))]
    first | assumption | (simp [go_sem, *])
  have hl1_0 : w.heap.size < w1.heap.size := by omega
  have HB := Lib.hid hb
  clear hb
  go_wp2_with fail
  refine (HT.out w1 (by have := HB.out; simpa using this)).mono ?_
  rintro e w2 ⟨rfl, hb2⟩
  have HB2 := Lib.hid hb2
  clear hb2
  go_wp2_with fail
  refine bodyPost_ret (v := .tuple #[.string T, .int .i64 0]) (by simp [results, Tryd.results28, go_sem]) rfl ?_
  exact ⟨rfl, (((Below.refl w.heap.size w).alloc (Nat.le_refl _) _).trans (HB.out.mono (by simp))).trans (HB2.out.mono (by have := HB.out.size; simp at this ⊢; omega))⟩
end
end Go.Proofs.YtlhhlmalihajcaaDoor
