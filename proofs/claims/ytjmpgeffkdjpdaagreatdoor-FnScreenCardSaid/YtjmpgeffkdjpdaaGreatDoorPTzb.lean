/- Contracts of the functions that the claim reaches. No conditions but sizes. -/
import Derived.Test.YtjmpgeffkdjpdaaGreatDoorPTza
import Derived.Deep.DeepCutAuto
import Derived.Deep.RegionHeld3
import Derived.StillTailTactics
import Derived.Lib.Hide
import Derived.BigQuiet
import Derived.OwnWalk
import Derived.Laws.IdiomStrings
import Derived.Laws.ShiftsVar
import Derived.Lib.Builder
import Derived.Lib.AppendStr
import Derived.Lib.UnsafeStr
import Derived.Lib.MakeNoZero
import Derived.Laws.Externs
import Derived.RegionTactic
import Derived.BigRegion
import Derived.Shelf.Strings.Builder1
import Derived.Laws.CopyOwn
namespace Go.Proofs.YtjmpgeffkdjpdaaGreatDoor
set_option linter.unusedVariables false
set_option linter.unusedSimpArgs false
set_option maxRecDepth 100000
set_option maxHeartbeats 16000000
section
open Go.RowKit
def rnO (n : Nat) : Int := if n = 2 then 192 else if n = 3 then 224 else 240
def rnA (l : List UInt8) : Nat → Int
  | 0 => ((l.headD 0).toNat : Int) - rnO l.length
  | k + 1 => rnA l k * 64 + (l.getD (k + 1) 0).toNat - 128
theorem rnA_bd (l : List UInt8) (k : Nat) : -(512 * 128 ^ k) ≤ rnA l k ∧ rnA l k ≤ 512 * 128 ^ k := by
  induction k with
  | zero =>
    have h1 : (l.headD 0).toNat < 256 := (l.headD 0).toNat_lt
    unfold rnA rnO
    (repeat' split) <;> omega
  | succ k ih =>
    have h1 : (l.getD (k + 1) 0).toNat < 256 := (l.getD (k + 1) 0).toNat_lt
    have h2 : (0 : Int) < 128 ^ k := Int.pow_pos (by decide)
    rw [rnA, Int.pow_succ]
    omega
theorem rnA_end (l : List UInt8) (h : l.length = 2 ∨ l.length = 3 ∨ l.length = 4) : rnA l (l.length - 1) = rnV l := by
  match l, h with
  | [a, b], _ => simp [rnA, rnV, rnO]; omega
  | [a, b, c], _ => simp [rnA, rnV, rnO]; omega
  | [a, b, c, d], _ => simp [rnA, rnV, rnO]; omega
theorem rune_r (s : ByteArray) (w : World) (hz : s.size = 2 ∨ s.size = 3 ∨ s.size = 4) : Calls Tryz.prog 151 #[.string s] w fun e w' => e = .returned (.int .i64 (rnV s.data.toList)) ∧ w = w' := by
  have hls : s.data.toList.length = s.size := rfl
  have HLS := Lib.hid hls
  have HZ := Lib.hid hz
  have HE : Hid (rnA s.data.toList (s.size - 1) = rnV s.data.toList) := Lib.hid (rnA_end _ hz)
  have h0 : 0 < s.size := by omega
  have hs4 : s.size ≤ 4 := by omega
  obtain ⟨y, hy⟩ : ∃ y, s[0]'h0 = y := ⟨_, rfl⟩
  have hy256 : y.toNat < 256 := y.toNat_lt
  have H0 : Hid (rnA s.data.toList 0 = (y.toNat : Int) - rnO s.size) := Lib.hid (by
    rw [rnA, headL h0, hy, hls])
  clear hls hz
  have HW : Hid (s.size = 2 ∨ s.size = 3 ∨ s.size = 4) := HZ
  have hq : ∃ a b c : Bool, ((s.size : Int) == 2) = a ∧ ((s.size : Int) == 3) = b ∧ ((s.size : Int) == 4) = c ∧ rnO s.size = (if a then 192 else if b then 224 else 240) ∧ (a = false → b = false → c = true) := by
    refine ⟨_, _, _, rfl, rfl, rfl, ?_, ?_⟩
    · unfold rnO
      rcases HZ.out with h | h | h <;> rw [h] <;> rfl
    · intro h1 h2
      simp only [beq_eq_false_iff_ne, beq_iff_eq] at h1 h2 ⊢
      have := HZ.out
      omega
  obtain ⟨qa, qb, qc, q1, q2, q3, q4, q5⟩ := hq
  rw [q4] at H0
  have HQ := Lib.hid q5
  clear q4 q5
  cases qa
  all_goals cases qb
  all_goals cases qc
  all_goals first
    | (exact absurd (HQ.out rfl rfl : false = true) Bool.false_ne_true)
    | (have H1 : Hid (∃ z : Int, z = rnA s.data.toList 0) := Lib.hid ⟨_, rfl⟩
       go_enter Tryz.func151, Tryz.ntmps151
       go_wp2_with fail
       go_loop [3, 4] (fun m i => ∃ k : Nat, (1 ≤ k ∧ k ≤ s.size) ∧ i = .int .i64 k ∧ m = .int .i64 (rnA s.data.toList (k - 1))) (fun _ i => s.size - (intOf i).toNat)
       case atStart => exact ⟨1, ⟨by omega, by omega⟩, rfl, by show _ = Value.int .i64 (rnA s.data.toList 0); rw [H0.out]; rfl⟩
       case round =>
         obtain ⟨k, ⟨hk1, hk⟩, rfl, rfl⟩ := hrel
         by_cases hlt : k < s.size
         · obtain ⟨x, hx⟩ : ∃ x, s[k] = x := ⟨_, rfl⟩
           have h256 : x.toNat < 256 := x.toNat_lt
           have HN : Hid (rnA s.data.toList k = rnA s.data.toList (k - 1) * 64 + x.toNat - 128) := Lib.hid (by
             obtain ⟨j, rfl⟩ : ∃ j, k = j + 1 := ⟨k - 1, by omega⟩
             rw [rnA, getDL hlt, hx]; rfl)
           obtain ⟨m, hm⟩ : ∃ m, rnA s.data.toList (k - 1) = m := ⟨_, rfl⟩
           have hmb : -1073741824 ≤ m ∧ m ≤ 1073741824 := by
             rw [← hm]
             have h1 := rnA_bd s.data.toList (k - 1)
             have h2 : k - 1 = 0 ∨ k - 1 = 1 ∨ k - 1 = 2 := by omega
             rcases h2 with h2 | h2 | h2 <;> rw [h2] at h1 ⊢ <;> omega
           rw [hm] at HN ⊢
           clear hm
           have w1 : IntKind.i64.wrap (m * 64) = m * 64 := IntWalk.i64_in _ ⟨by omega, by omega⟩
           have w2 : IntKind.i64.wrap (m * 64 + x.toNat) = m * 64 + x.toNat := IntWalk.i64_in _ ⟨by omega, by omega⟩
           have w3 : IntKind.i64.wrap (m * 64 + x.toNat - 128) = m * 64 + x.toNat - 128 := IntWalk.i64_in _ ⟨by omega, by omega⟩
           go_wp2_with fail
           go_round
           case rel => exact ⟨k + 1, ⟨by omega, by omega⟩, by go_num, by rw [Nat.add_sub_cancel, HN.out]⟩
           case measure => simp [intOf]; omega
         · have HF : Hid (rnA s.data.toList (k - 1) = rnV s.data.toList) := Lib.hid (by
             obtain rfl : k = s.size := by omega
             exact HE.out)
           go_wp2_with fail
           go_ret
           exact ⟨ret_i HF.out, rfl⟩)
end
section
open Go.RowKit
theorem utfLen_low {b : Nat} (h : b < 128) : utfLen b = 0 := by unfold utfLen; rw [if_pos (.inl (by omega))]
end
section
open Go.RowKit
theorem fit_snoc {l : List UInt8} {b : UInt8} (h : fitK l l.length) (h0 : 0 < l.length) : fitK (l ++ [b]) (l.length + 1) ↔ mayF l b.toNat = true := by
  constructor
  · intro h1
    have h2 := h1 l.length (by omega) (by omega)
    rw [List.take_left] at h2
    simpa using h2
  · intro h1
    refine fit_step (fun j h2 h3 => ?_) (by rw [List.take_left]; simpa using h1)
    have h4 := h j h2 h3
    rw [List.take_append_of_le_length (by omega)]
    rw [List.getD_eq_getElem?_getD, List.getElem?_append_left h3, ← List.getD_eq_getElem?_getD]
    exact h4
theorem utf_r (t : ByteArray) (X lo : Nat) (ap al : Option Addr) (cp cl : Nat) (L : List ActA) (b : UInt8) (w : World) (h : QS X lo ⟨6, [], false, e0, t⟩ ap cp L al cl w) (hL : L.length ≤ 1048575) (hT : begB t.data.toList = true) :
    Calls Tryz.prog 139 #[.pointer (some ⟨X, 0, none⟩), .int .i64 b.toNat] w (fun e w' => QR X lo (ustep ⟨6, [], false, e0, t⟩ b) L e w w') := by
  have HP := Lib.hid h
  have k_0 := h.ps.c0
  have k_1 := h.ps.c1
  have k_2 := h.ps.c2
  have k_3 := h.ps.c3
  have k_4 := h.ps.c4
  have k_5 := h.c5
  have kf := h.ps.fz
  have klt := h.ps.lt
  have hlo : lo ≤ w.heap.size := by have := h.lo; omega
  have h256 : b.toNat < 256 := b.toNat_lt
  clear h
  obtain ⟨Gr, hG⟩ : ∃ G, ustep ⟨6, [], false, e0, t⟩ b = G := ⟨_, rfl⟩
  have HGG := Lib.hid hG
  rw [hG]
  clear hG
  obtain ⟨n, hn⟩ : ∃ n, b.toNat = n := ⟨_, rfl⟩
  rw [hn] at h256 ⊢
  have HN := Lib.hid hn
  clear hn
  obtain ⟨u1, u2, u3⟩ := begB_iff.1 hT
  have hls : t.data.toList.length = t.size := rfl
  have ht4 : t.size ≤ 3 := by
    have : ∀ n, utfLen n ≤ 4 := fun n => by unfold utfLen; (repeat' split) <;> omega
    have := this (t.data.toList.headD 0).toNat
    omega
  have ht0 : 0 < t.size := by omega
  have HFK : Hid (fitK (t.data.toList ++ [b]) (t.size + 1) ↔ mayF t.data.toList b.toNat = true) := Lib.hid (fit_snoc u3 u1)
  obtain ⟨U, hU⟩ : ∃ U, t ++ (⟨#[b]⟩ : ByteArray) = U := ⟨_, rfl⟩
  have HU := Lib.hid hU
  have HUL : Hid (U.data.toList = t.data.toList ++ [b]) := Lib.hid (by rw [← hU]; simp)
  have HUS : Hid (U.size = t.size + 1) := Lib.hid (by rw [← hU, ByteArray.size_append]; rfl)
  have hU4 : U.size ≤ 4 := by rw [HUS.out]; omega
  have hU0 : 0 < U.size := by rw [HUS.out]; omega
  have HU0 : Hid ((U[0]'hU0) = t.data.toList.headD 0) := Lib.hid (by
    rw [← headL hU0, HUL.out]
    cases hc : t.data.toList with
    | nil => rw [hc] at hls; simp at hls; omega
    | cons a l => rfl)
  obtain ⟨z, hz⟩ : ∃ z, utfLen (t.data.toList.headD 0).toNat = z := ⟨_, rfl⟩
  have HZ := Lib.hid hz
  have hz4 : t.size < z ∧ z ≤ 4 := by
    refine ⟨by omega, ?_⟩
    rw [← hz]
    unfold utfLen; (repeat' split) <;> omega
  have HSZ : Hid (szR (U[0]'hU0).toNat = z) := Lib.hid (by
    rw [HU0.out]
    unfold szR
    rw [if_neg, hz]
    intro h
    rw [utfLen_low h] at hz
    omega)
  have hbig : ¬ 9223372036854775807 < t.size + 1 := by omega
  have hw8 : IntKind.u8.wrap (n : Int) = n := u8_in (by omega) (by omega)
  have hcv := convAt w.heap.size (w.alloc (.cells #[.int .u8 n] 5)).drew b n (by simp [go_sem]) HN.out
  obtain ⟨v, hv⟩ : ∃ v, mayF t.data.toList b.toNat = v := ⟨_, rfl⟩
  have HV := Lib.hid hv
  have HFT : Hid (∀ w, Calls Tryz.prog 149 #[.string U] w fun e w' => e = .returned (.bool v) ∧ w = w') := Lib.hid (fun w => (fits_r U w (by omega)).mono (fun e w' h => by
    obtain ⟨v', rfl, hv', rfl⟩ := h
    refine ⟨ret_b ?_, rfl⟩
    rw [HUL.out, HUS.out, HFK.out, hv] at hv'
    exact Bool.eq_iff_iff.2 hv'))
  clear hv hz hT u1 u2 u3 hls
  go_enter Tryz.func139, Tryz.ntmps139
  go_upto_region 0 with fail
  refine wp_region_G (fun w' => w'.cell? ⟨X, 4, none⟩ = some (.string t)) (fun i => false) (by kernel_rfl) k_4 ?_
  refine tW ?_ 0 rfl ?_ ?_; rotate_left
  · intro w' hSw; go_simp; try rfl
  try simp only [Act.put,j1,j2,j3,j4,j5,j6]
  refine tW ?_ 1 rfl ?_ ?_; rotate_left
  · intro w' hSw; go_simp; try rfl
  try simp only [Act.put,j1,j2,j3,j4,j5,j6]
  refine tW ?_ 2 rfl ?_ ?_; rotate_left
  · intro w' hSw; go_simp; try rfl
  try simp only [Act.put,j1,j2,j3,j4,j5,j6]
  refine tW ?_ 3 rfl ?_ ?_; rotate_left
  · intro w' hSw; go_simp; try rfl
  try simp only [Act.put,j1,j2,j3,j4,j5,j6]
  refine tL ?_ 4 rfl k_4 ?_ ?_; rotate_left
  · intro w' hSw; go_simp; try rfl
  try simp only [Act.put,j1,j2,j3,j4,j5,j6]
  refine tW ?_ 5 rfl ?_ ?_; rotate_left
  · intro w' hSw; go_simp; try rfl
  try simp only [Act.put,j1,j2,j3,j4,j5,j6]
  refine tW ?_ 6 rfl ?_ ?_; rotate_left
  · intro w' hSw; go_simp; try rfl
  try simp only [Act.put,j1,j2,j3,j4,j5,j6]
  refine wpAnyG_one (i := 7) (by kernel_rfl) rfl k_4 (fun K' hK => ?_)
  simp only [j1,j2,j3]
  go_simp
  have hS1 : (w.alloc (.cells #[.int .u8 n] 5)).cell? ⟨X, 4, none⟩ = some (.string t) := (World.cell?_alloc_lt _ _ _ klt).trans k_4
  refine hK.out _ _ (Or.inr hS1) ?_
  clear hK K'
  try simp only [Act.put,j1,j2,j3,j4,j5,j6]
  refine wpAnyG_one (i := 8) (by kernel_rfl) rfl hS1 (fun K' hK => ?_)
  simp only [j1,j2,j3]
  go_simp
  refine hK.out _ _ (Or.inr hS1) ?_
  clear hK K'
  try simp only [Act.put,j1,j2,j3,j4,j5,j6]
  refine tW ?_ 9 rfl ?_ ?_; rotate_left
  · intro w' hSw; go_simp; try rfl
  try simp only [Act.put,j1,j2,j3,j4,j5,j6]
  refine tW ?_ 10 rfl ?_ ?_; rotate_left
  · intro w' hSw; go_simp; try rfl
  try simp only [Act.put,j1,j2,j3,j4,j5,j6]
  refine wpAnyG_done (by kernel_rfl) ?_ _
  clear hcv hbig hw8 hU
  have hb1 : Below w.heap.size w (w.alloc (.cells #[.int .u8 n] 5)).drew := ((Below.refl _ _).alloc (Nat.le_refl _) _).drew
  obtain ⟨x, hx⟩ : ∃ x, (w.alloc (.cells #[.int .u8 n] 5)).drew = x := ⟨_, rfl⟩
  rw [hx] at hb1 ⊢
  clear hx
  have HBX : Hid (Below lo w x) := Lib.hid (hb1.mono hlo)
  have HP1 := Lib.hid (HP.out.keep hb1)
  have x_0 := HP1.out.ps.c0
  have x_1 := HP1.out.ps.c1
  have x_2 := HP1.out.ps.c2
  have x_3 := HP1.out.ps.c3
  have x_4 := HP1.out.ps.c4
  have x_5 := HP1.out.c5
  have xf := HP1.out.ps.fz
  have xlt := HP1.out.ps.lt
  clear hb1
  cases v
  case false =>
    have HR : Hid (Gr = ((gstep b).1, pr 65533 :: (gstep b).2)) := Lib.hid (by rw [← HGG.out]; exact us1 HV.out)
    go_wp2_with (go_at_call 149; refine (HFT.out _).mono ?_; rintro e w' ⟨rfl, rfl⟩)
    refine (ground_r X lo _ ap al cp cl L _ HP1.out).mono ?_
    rintro e w1 ⟨rfl, g, hg, hq, hc⟩
    have HQ := Lib.hid hq
    have HC := Lib.hid hc
    clear hq hc
    go_wp2_with fail
    refine (tell_r X lo pz (some ⟨g, 0, none⟩) al none 0 cl 0 L ⟨1, 65533, false, [], e0⟩ _ HQ.out (FreshIn.nil _ _ _ _ _ _) (by simp [blkOf]) (by omega) (by simp)).mono ?_
    rintro e w2 ⟨rfl, ap', cp', L', al', cl', g1, g2, g3⟩
    have G2 := Lib.hid g2
    have hL' : L'.length ≤ 1048576 := by
      have := congrArg List.length g2
      simp at this
      omega
    have HB2 : Hid (Below lo w w2) := Lib.hid (HBX.out.trans ((HP1.out.below1 HC.out).trans g3))
    have h1 := takeG_r X lo ap' al' cp' cl' L' b _ g1 hL'
    rw [HN.out] at h1
    have H1 := Lib.hid h1
    clear g1 g2 g3 h1
    go_wp2_with fail
    refine H1.out.mono ?_
    rintro e w3 hq
    have HQ4 := Lib.hid (hq.after HB2.out G2.out)
    obtain ⟨rfl, _⟩ := hq
    go_wp2_with fail
    refine bodyPost_ret (v := .tuple #[]) (by simp [results, Tryz.results139]) rfl ?_
    rw [HR.out]
    exact HQ4.out
  by_cases hlt : U.size < z
  case pos =>
    have HR : Hid (Gr = (⟨6, [], false, e0, U⟩, [])) := Lib.hid (by
      rw [← HGG.out, ← HU.out]
      exact us2 (p := ⟨6, [], false, e0, t⟩) HV.out (by have := HUS.out; have := HZ.out; show t.size + 1 < utfLen (t.data.toList.headD 0).toNat; omega))
    have gz : (U.size : Int) < (z : Int) := by omega
    go_wp2_with (first | (go_at_call 149; refine (HFT.out _).mono ?_; rintro e w' ⟨rfl, rfl⟩) | (go_at_call 150; refine (size_r U _ hU0).mono ?_; rw [HSZ.out]; rintro e w' ⟨rfl, rfl⟩))
    refine bodyPost_ret (v := .tuple #[]) (by simp [results, Tryz.results139]) rfl ?_
    refine QR.base (QR.only (p' := ⟨6, [], false, e0, U⟩) (HP1.out.cells ?hc ?_ ?_ ?_ ?_ ?_ ?_ ?_ (.inl ⟨rfl, rfl, rfl⟩)) HP1.out ?hc HR.out) HBX.out
    case hc => repeat (first | (with_reducible exact Ch.refl) | (with_reducible refine Ch.alloc ?_ _) | (with_reducible refine Ch.drew ?_) | (with_reducible refine Ch.setB ?_ _ _))
    all_goals first | (intro o; simp [go_sem, xf, xlt]; done) | (simp [go_sem, x_0, x_1, x_2, x_3, x_4, x_5, xlt]; done)
  have HR : Hid (Gr = (pz, [⟨1, rnV U.data.toList, false, [], e0⟩])) := Lib.hid (by
    rw [← HGG.out, HUL.out]
    exact us3 (p := ⟨6, [], false, e0, t⟩) HV.out (by have := HUS.out; have := HZ.out; show ¬ t.size + 1 < utfLen (t.data.toList.headD 0).toNat; omega))
  have gz : ¬ (U.size : Int) < (z : Int) := by omega
  have HRU : Hid (U.size = 2 ∨ U.size = 3 ∨ U.size = 4) := Lib.hid (by have := HUS.out; omega)
  go_wp2_with (first | (go_at_call 149; refine (HFT.out _).mono ?_; rintro e w' ⟨rfl, rfl⟩) | (go_at_call 150; refine (size_r U _ hU0).mono ?_; rw [HSZ.out]; rintro e w' ⟨rfl, rfl⟩))
  refine (ground_r X lo _ ap al cp cl L _ HP1.out).mono ?_
  rintro e w1 ⟨rfl, g, hg, hq, hc⟩
  have HQ := Lib.hid hq
  have HC := Lib.hid hc
  clear hq hc
  go_wp2_with (go_at_call 151; refine (rune_r U _ HRU.out).mono ?_; rintro e w' ⟨rfl, rfl⟩)
  refine (tell_r X lo pz (some ⟨g, 0, none⟩) al none 0 cl 0 L ⟨1, rnV U.data.toList, false, [], e0⟩ _ HQ.out (FreshIn.nil _ _ _ _ _ _) (by simp [blkOf]) (by omega) (by simp)).mono ?_
  rintro e w2 hq
  have HQ2 := Lib.hid (hq.base (HBX.out.trans (HP1.out.below1 HC.out)))
  obtain ⟨rfl, _⟩ := hq
  go_wp2_with fail
  refine bodyPost_end (v := .tuple #[]) (by simp [results, Tryz.results139]) rfl ?_
  rw [HR.out]
  exact HQ2.out
end
section
open Go.RowKit
theorem takeO_r (t : ByteArray) (X lo : Nat) (ap al : Option Addr) (cp cl : Nat) (L : List ActA) (b : UInt8) (w : World) (h : QS X lo ⟨4, [], false, t, e0⟩ ap cp L al cl w) (hL : L.length ≤ 1048576) (hT : t.size ≤ 40) :
    Calls Tryz.prog 106 #[.pointer (some ⟨X, 0, none⟩), .int .i64 b.toNat] w (fun e w' => QR X lo (ostep ⟨4, [], false, t, e0⟩ b) L e w w') := by
  have HCA := Lib.hid (osc_r t X lo ap al cp cl L b w h hL hT)
  have k_0 : w.cell? ⟨X, 0, none⟩ = some (.int .i64 4) := h.ps.c0
  have kf := h.ps.fz
  have klt := h.ps.lt
  clear h
  go_enter Tryz.func106, Tryz.ntmps106
  go_wp2_with fail
  refine HCA.out.mono ?_
  rintro e w1 hq
  have HQ := Lib.hid hq
  obtain ⟨rfl, _⟩ := hq
  go_wp2_with fail
  refine bodyPost_end (v := .tuple #[]) (by simp [results, Tryz.results106]) rfl ?_
  exact HQ.out
theorem takeQ_r (t : ByteArray) (X lo : Nat) (ap al : Option Addr) (cp cl : Nat) (L : List ActA) (b : UInt8) (w : World) (h : QS X lo ⟨5, [], false, t, e0⟩ ap cp L al cl w) (hL : L.length ≤ 1048576) :
    Calls Tryz.prog 106 #[.pointer (some ⟨X, 0, none⟩), .int .i64 b.toNat] w (fun e w' => QR X lo (qstep ⟨5, [], false, t, e0⟩ b) L e w w') := by
  have HCA := Lib.hid (oscEnd_r t X lo ap al cp cl L b w h hL)
  have k_0 : w.cell? ⟨X, 0, none⟩ = some (.int .i64 5) := h.ps.c0
  have kf := h.ps.fz
  have klt := h.ps.lt
  clear h
  go_enter Tryz.func106, Tryz.ntmps106
  go_wp2_with fail
  refine HCA.out.mono ?_
  rintro e w1 hq
  have HQ := Lib.hid hq
  obtain ⟨rfl, _⟩ := hq
  go_wp2_with fail
  refine bodyPost_end (v := .tuple #[]) (by simp [results, Tryz.results106]) rfl ?_
  exact HQ.out
theorem takeU_r (t : ByteArray) (X lo : Nat) (ap al : Option Addr) (cp cl : Nat) (L : List ActA) (b : UInt8) (w : World) (h : QS X lo ⟨6, [], false, e0, t⟩ ap cp L al cl w) (hL : L.length ≤ 1048575) (hT : begB t.data.toList = true) :
    Calls Tryz.prog 106 #[.pointer (some ⟨X, 0, none⟩), .int .i64 b.toNat] w (fun e w' => QR X lo (ustep ⟨6, [], false, e0, t⟩ b) L e w w') := by
  have HCA := Lib.hid (utf_r t X lo ap al cp cl L b w h hL hT)
  have k_0 : w.cell? ⟨X, 0, none⟩ = some (.int .i64 6) := h.ps.c0
  have kf := h.ps.fz
  have klt := h.ps.lt
  clear h
  go_enter Tryz.func106, Tryz.ntmps106
  go_wp2_with fail
  refine HCA.out.mono ?_
  rintro e w1 hq
  have HQ := Lib.hid hq
  obtain ⟨rfl, _⟩ := hq
  go_wp2_with fail
  refine bodyPost_end (v := .tuple #[]) (by simp [results, Tryz.results106]) rfl ?_
  exact HQ.out
end
section
open Go.RowKit
theorem own_r (ap : Option Addr) (cp : Nat) (p : PV) (w : World) (ha : Sl intE 1 w ap p.args) (hl : p.args.length ≤ 1048576) :
    Calls Tryz.prog 105 #[.agg #[.int .i64 p.state, .slice ap p.args.length cp, .bool p.priv, .string p.text, .string p.utf]] w (ParR p w) := by
  obtain ⟨i0, hi, hz0, hz1, hz2⟩ := info_parts Tryz.infoInt
  have la := hl
  have HA := Lib.hid (((ha.alloc (.cells #[.int .i64 p.state, .slice ap p.args.length cp, .bool p.priv, .string p.text, .string p.utf] 42)).alloc (.cells #[.int .i64 0, .slice none 0 0, .bool false, .string ⟨#[]⟩, .string ⟨#[]⟩] 42)).alloc (.cells #[] 3))
  have h0 := (fresh_mdI ((w.alloc (.cells #[.int .i64 p.state, .slice ap p.args.length cp, .bool p.priv, .string p.text, .string p.utf] 42)).alloc (.cells #[.int .i64 0, .slice none 0 0, .bool false, .string ⟨#[]⟩, .string ⟨#[]⟩] 42)) (w.heap.size + 2) (by simp)).here
  simp only [World.size_alloc] at h0
  have HFR := Lib.hid h0
  clear h0
  go_enter Tryz.func105, Tryz.ntmps105
  go_wp2_with (first
    | (skip
       at_builtin
       refine wpList_append_fresh rfl (.tmp 3) (.tmp 5) 36 36 rfl (w.heap.size + 2) (w.heap.size + 2 + 1) 3 i0 (.int .i64 0) 1 8 Tryz.underlying36 hi hz0 hz1 hz2 rfl (by decide) (.slice (some ⟨w.heap.size + 2, 0, none⟩) 0 0) ([]) rfl (HFR.out) _ (p.args) rfl (Src.ofSl (enc := intE) (sz := 1) (xs := p.args) Tryz.underlying36 (fun _ => rfl) intOne HA.out cp) (by (try simp) <;> (try omega)) (by (try simp) <;> (try omega)) ?_
       intro a1 c1 w1 L1 hL1 hf1 hm1
       have HLL := hL1
       have hf := Lib.hid hf1
       have hmm := Lib.hid hm1
       have hz := hm1.size
       simp only [World.size_alloc] at hz
       have hl1 : w.heap.size + 1 < w1.heap.size := by omega
       have hl0 : w.heap.size < w1.heap.size := by omega
       have q0_0 : w1.cell? ⟨w.heap.size, 0, none⟩ = some (.int .i64 p.state) := (hm1.cell (p := ⟨w.heap.size, 0, none⟩) (by show w.heap.size < _; simp; try omega) (.inl (by show w.heap.size < _; omega))).trans (by simp [go_sem])
       have f0_0 : w1.frozen? ⟨w.heap.size, 0, none⟩ = false := (hm1.frozen (p := ⟨w.heap.size, 0, none⟩) (by show w.heap.size < _; simp; try omega) (.inl (by show w.heap.size < _; omega))).trans (by simp [go_sem])
       have q0_1 : w1.cell? ⟨w.heap.size, 1, none⟩ = some (.slice ap p.args.length cp) := (hm1.cell (p := ⟨w.heap.size, 1, none⟩) (by show w.heap.size < _; simp; try omega) (.inl (by show w.heap.size < _; omega))).trans (by simp [go_sem])
       have f0_1 : w1.frozen? ⟨w.heap.size, 1, none⟩ = false := (hm1.frozen (p := ⟨w.heap.size, 1, none⟩) (by show w.heap.size < _; simp; try omega) (.inl (by show w.heap.size < _; omega))).trans (by simp [go_sem])
       have q0_2 : w1.cell? ⟨w.heap.size, 2, none⟩ = some (.bool p.priv) := (hm1.cell (p := ⟨w.heap.size, 2, none⟩) (by show w.heap.size < _; simp; try omega) (.inl (by show w.heap.size < _; omega))).trans (by simp [go_sem])
       have f0_2 : w1.frozen? ⟨w.heap.size, 2, none⟩ = false := (hm1.frozen (p := ⟨w.heap.size, 2, none⟩) (by show w.heap.size < _; simp; try omega) (.inl (by show w.heap.size < _; omega))).trans (by simp [go_sem])
       have q0_3 : w1.cell? ⟨w.heap.size, 3, none⟩ = some (.string p.text) := (hm1.cell (p := ⟨w.heap.size, 3, none⟩) (by show w.heap.size < _; simp; try omega) (.inl (by show w.heap.size < _; omega))).trans (by simp [go_sem])
       have f0_3 : w1.frozen? ⟨w.heap.size, 3, none⟩ = false := (hm1.frozen (p := ⟨w.heap.size, 3, none⟩) (by show w.heap.size < _; simp; try omega) (.inl (by show w.heap.size < _; omega))).trans (by simp [go_sem])
       have q0_4 : w1.cell? ⟨w.heap.size, 4, none⟩ = some (.string p.utf) := (hm1.cell (p := ⟨w.heap.size, 4, none⟩) (by show w.heap.size < _; simp; try omega) (.inl (by show w.heap.size < _; omega))).trans (by simp [go_sem])
       have f0_4 : w1.frozen? ⟨w.heap.size, 4, none⟩ = false := (hm1.frozen (p := ⟨w.heap.size, 4, none⟩) (by show w.heap.size < _; simp; try omega) (.inl (by show w.heap.size < _; omega))).trans (by simp [go_sem])
       have q1_0 : w1.cell? ⟨w.heap.size + 1, 0, none⟩ = some (.int .i64 0) := (hm1.cell (p := ⟨w.heap.size + 1, 0, none⟩) (by show w.heap.size + 1 < _; simp; try omega) (.inl (by show w.heap.size + 1 < _; omega))).trans (by simp [go_sem])
       have f1_0 : w1.frozen? ⟨w.heap.size + 1, 0, none⟩ = false := (hm1.frozen (p := ⟨w.heap.size + 1, 0, none⟩) (by show w.heap.size + 1 < _; simp; try omega) (.inl (by show w.heap.size + 1 < _; omega))).trans (by simp [go_sem])
       have q1_1 : w1.cell? ⟨w.heap.size + 1, 1, none⟩ = some (.slice none 0 0) := (hm1.cell (p := ⟨w.heap.size + 1, 1, none⟩) (by show w.heap.size + 1 < _; simp; try omega) (.inl (by show w.heap.size + 1 < _; omega))).trans (by simp [go_sem])
       have f1_1 : w1.frozen? ⟨w.heap.size + 1, 1, none⟩ = false := (hm1.frozen (p := ⟨w.heap.size + 1, 1, none⟩) (by show w.heap.size + 1 < _; simp; try omega) (.inl (by show w.heap.size + 1 < _; omega))).trans (by simp [go_sem])
       have q1_2 : w1.cell? ⟨w.heap.size + 1, 2, none⟩ = some (.bool false) := (hm1.cell (p := ⟨w.heap.size + 1, 2, none⟩) (by show w.heap.size + 1 < _; simp; try omega) (.inl (by show w.heap.size + 1 < _; omega))).trans (by simp [go_sem])
       have f1_2 : w1.frozen? ⟨w.heap.size + 1, 2, none⟩ = false := (hm1.frozen (p := ⟨w.heap.size + 1, 2, none⟩) (by show w.heap.size + 1 < _; simp; try omega) (.inl (by show w.heap.size + 1 < _; omega))).trans (by simp [go_sem])
       have q1_3 : w1.cell? ⟨w.heap.size + 1, 3, none⟩ = some (.string ⟨#[]⟩) := (hm1.cell (p := ⟨w.heap.size + 1, 3, none⟩) (by show w.heap.size + 1 < _; simp; try omega) (.inl (by show w.heap.size + 1 < _; omega))).trans (by simp [go_sem])
       have f1_3 : w1.frozen? ⟨w.heap.size + 1, 3, none⟩ = false := (hm1.frozen (p := ⟨w.heap.size + 1, 3, none⟩) (by show w.heap.size + 1 < _; simp; try omega) (.inl (by show w.heap.size + 1 < _; omega))).trans (by simp [go_sem])
       have q1_4 : w1.cell? ⟨w.heap.size + 1, 4, none⟩ = some (.string ⟨#[]⟩) := (hm1.cell (p := ⟨w.heap.size + 1, 4, none⟩) (by show w.heap.size + 1 < _; simp; try omega) (.inl (by show w.heap.size + 1 < _; omega))).trans (by simp [go_sem])
       have f1_4 : w1.frozen? ⟨w.heap.size + 1, 4, none⟩ = false := (hm1.frozen (p := ⟨w.heap.size + 1, 4, none⟩) (by show w.heap.size + 1 < _; simp; try omega) (.inl (by show w.heap.size + 1 < _; omega))).trans (by simp [go_sem])
       clear hf1 hm1 hz
       skip))
  obtain rfl : L1 = p.args := by simpa using HLL.out
  refine bodyPost_ret (v := .agg #[.int .i64 p.state, .slice a1 p.args.length c1, .bool p.priv, .string p.text, .string p.utf]) (by simp [results, Tryz.results105, go_sem, q0_0, q0_1, q0_2, q0_3, q0_4, q1_0, q1_1, q1_2, q1_3, q1_4, hl0, hl1]) rfl ?_
  have hc : ∀ x1 y0 y1 y2 y3 y4, Ch (fun k => k = w.heap.size ∨ k = w.heap.size + 1) w1 ((((((w1.setCell ⟨w.heap.size, 1, none⟩ x1).setCell ⟨w.heap.size + 1, 0, none⟩ y0).setCell ⟨w.heap.size + 1, 1, none⟩ y1).setCell ⟨w.heap.size + 1, 2, none⟩ y2).setCell ⟨w.heap.size + 1, 3, none⟩ y3).setCell ⟨w.heap.size + 1, 4, none⟩ y4) := fun x1 y0 y1 y2 y3 y4 =>
    (((((Ch.refl.setCell (M := fun k => k = w.heap.size ∨ k = w.heap.size + 1) (p := ⟨w.heap.size, 1, none⟩) (.inl (.inl rfl)) x1).setCell (p := ⟨w.heap.size + 1, 0, none⟩) (.inl (.inr rfl)) y0).setCell (p := ⟨w.heap.size + 1, 1, none⟩) (.inl (.inr rfl)) y1).setCell (p := ⟨w.heap.size + 1, 2, none⟩) (.inl (.inr rfl)) y2).setCell (p := ⟨w.heap.size + 1, 3, none⟩) (.inl (.inr rfl)) y3).setCell (p := ⟨w.heap.size + 1, 4, none⟩) (.inl (.inr rfl)) y4
  have hB := (((((Below.refl w.heap.size w).alloc (Nat.le_refl _) _).alloc (by simp) _).alloc (by simp; omega) _).trans (hmm.out.below (by omega) (by simp; try omega)))
  have hF := hf.out.mono (lo' := w.heap.size + 2) (Nat.le_refl _) (Nat.le_refl _)
  have hcx := hc (.slice a1 p.args.length c1) (.int .i64 p.state) (.slice a1 p.args.length c1) (.bool p.priv) (.string p.text) (.string p.utf)
  refine ⟨a1, c1, rfl, ?_, ?_⟩
  · have h1 := FreshIn.ch hF hcx (fun k hk h => by
      have := (FreshIn.blks hF k hk).1
      omega)
    exact h1.mono (by omega) (Nat.le_refl _)
  · exact hB.trans (hcx.below (by omega) (fun k h => by omega))
end
section
open Go.RowKit
section
variable {P : Program} {md : Region.Mode} {ops : Array Oper} {Q : Exit → Act → World → Prop} {S : World → Prop} {ex : Nat → Bool}
theorem stepG {i : Nat} {o : Oper} {fuel : Nat} {listed : Array Bool} {a : Act} {w : World} (ho : ops[i]? = some o)
    (h : ∀ K' : Act → World → Prop, Shut (∀ a w, (ex i = true ∨ S w) → wpAnyG P md ops Q S ex fuel (listed.setIfInBounds i true) a w → K' a w) → if Region.wanted o (yielded ops a.tmps) = true then Oper.wp P o a w K' Q else K' (a.put o.dst undef) w) :
    wpOp P ops Q i (fun a' w' => (ex i = true ∨ (S w → S w')) ∧ wpAnyG P md ops Q S ex fuel (listed.setIfInBounds i true) a' w') a w :=
  wpOp_step ho (fun K' hK => h K' (fun a w h1 h2 => hK a w ⟨h1.imp id (fun h3 _ => h3), h2⟩))
theorem wpAnyG_br {rs : List Nat} {fuel : Nat} {listed : Array Bool} {a : Act} {w : World} (hr : Region.ready md ops listed = rs) (hne : rs ≠ [])
    (h : ∀ j ∈ rs, ∃ o, ops[j]? = some o ∧ ∀ K' : Act → World → Prop, Shut (∀ a w, (ex j = true ∨ S w) → wpAnyG P md ops Q S ex fuel (listed.setIfInBounds j true) a w → K' a w) → if Region.wanted o (yielded ops a.tmps) = true then Oper.wp P o a w K' Q else K' (a.put o.dst undef) w) : wpAnyG P md ops Q S ex (fuel + 1) listed a w :=
  ⟨fun h0 => absurd (hr.symm.trans h0) hne, fun j hj => by
    rw [hr] at hj
    obtain ⟨o, ho, h1⟩ := h j hj
    exact stepG ho h1⟩
end
theorem QS.arg2 {X lo : Nat} {p : PV} {ap ap' al : Option Addr} {cp cp' cl : Nat} {L : List ActA} {w w1 : World} {xs : List Int} {v : Value} (h : QS X lo p ap cp L al cl w) (hc : Ch (· ∈ blkOf ap) w w1) (ha : FreshIn intE 3 1 w.heap.size w1.heap.size (.slice ap' xs.length cp') xs w1) (hv : v = .slice ap' xs.length cp') : QS X lo { p with args := xs } ap' cp' L al cl (w1.setCell ⟨X, 1, none⟩ v) := by
  subst hv
  have hk : ∀ k ∈ blkOf ap', k ∈ blkOf ap ∨ w.heap.size ≤ k := fun k hk => .inr (FreshIn.blks ha k hk).1
  have hX : ¬ X ∈ blkOf ap := fun hb => h.ps.nB (by simp [hb])
  have h5 := (hc.cell (p := ⟨X, 5, none⟩) h.ps.lt hX).trans h.c5
  have hlt := Nat.lt_of_lt_of_le h.ps.lt hc.size
  refine ⟨h.ps.arg2 hc (ha.mono (by have := h.lo; have := h.ps.lt; omega) (Nat.le_refl _)) hk, ?_, h.lo⟩
  simp [go_sem, h5, hlt]
def CsiR (p : PV) (n m : Nat) (w : World) (s : Value) (wx : World) : Prop :=
  ∃ (H : Nat) (a : Option Addr) (c : Nat), s = .pointer (some ⟨H, 0, none⟩) ∧ w.heap.size ≤ H ∧ H < wx.heap.size ∧ H ∉ blkOf a ∧ wx.cell? ⟨H, 0, none⟩ = some (.int .i64 4) ∧ wx.cell? ⟨H, 1, none⟩ = some (.int .i64 n) ∧ wx.cell? ⟨H, 2, none⟩ = some (.bool p.priv) ∧
    wx.cell? ⟨H, 3, none⟩ = some (.slice a (m + 1) c) ∧ wx.cell? ⟨H, 4, none⟩ = some (.string ⟨#[]⟩) ∧ FreshIn intE 3 1 w.heap.size wx.heap.size (.slice a p.args.length c) p.args wx ∧ Below w.heap.size w wx
theorem csiR_store {p : PV} {n m H c : Nat} {a : Option Addr} {w w3 : World} (hH : w.heap.size ≤ H) (hlt : H < w3.heap.size) (hn : H ∉ blkOf a) (h0 : ∃ v, w3.cell? ⟨H, 0, none⟩ = some v) (h1 : ∃ v, w3.cell? ⟨H, 1, none⟩ = some v) (h2 : ∃ v, w3.cell? ⟨H, 2, none⟩ = some v) (h3 : ∃ v, w3.cell? ⟨H, 3, none⟩ = some v) (h4 : ∃ v, w3.cell? ⟨H, 4, none⟩ = some v)
    (hf : FreshIn intE 3 1 w.heap.size w3.heap.size (.slice a p.args.length c) p.args w3) (hm : p.args.length = m + 1) (hb : Below w.heap.size w w3) :
    CsiR p n m w (.pointer (some ⟨H, 0, none⟩)) (((((w3.setCell ⟨H, 0, none⟩ (.int .i64 4)).setCell ⟨H, 1, none⟩ (.int .i64 n)).setCell ⟨H, 2, none⟩ (.bool p.priv)).setCell ⟨H, 3, none⟩ (.slice a (m + 1) c)).setCell ⟨H, 4, none⟩ (.string ⟨#[]⟩)) := by
  obtain ⟨v0, h0⟩ := h0
  obtain ⟨v1, h1⟩ := h1
  obtain ⟨v2, h2⟩ := h2
  obtain ⟨v3, h3⟩ := h3
  obtain ⟨v4, h4⟩ := h4
  have hc : Ch (fun k => k = H) w3 (((((w3.setCell ⟨H, 0, none⟩ (.int .i64 4)).setCell ⟨H, 1, none⟩ (.int .i64 n)).setCell ⟨H, 2, none⟩ (.bool p.priv)).setCell ⟨H, 3, none⟩ (.slice a (m + 1) c)).setCell ⟨H, 4, none⟩ (.string ⟨#[]⟩)) := ((((Ch.set1 _ _ _ _).setB _ _).setB _ _).setB _ _).setB _ _
  refine ⟨H, a, c, rfl, hH, Nat.lt_of_lt_of_le hlt hc.size, hn, ?_, ?_, ?_, ?_, ?_, hf.ch hc (fun k hk e => hn (e ▸ hk)), hb.trans (hc.below (Nat.le_trans hH (by omega)) (fun k hk => by omega))⟩
  all_goals simp [go_sem, h0, h1, h2, h3, h4, hlt]
theorem csiR_alloc {p : PV} {n m c : Nat} {a : Option Addr} {w w3 : World} (hb : Below w.heap.size w w3) (hf : FreshIn intE 3 1 w.heap.size w3.heap.size (.slice a p.args.length c) p.args w3) (hm : p.args.length = m + 1) :
    CsiR p n m w (.pointer (some ⟨w3.heap.size, 0, none⟩)) (w3.alloc (.cells #[.int .i64 4, .int .i64 n, .bool p.priv, .slice a (m + 1) c, .string ⟨#[]⟩] 38)) := by
  have hc : Ch (fun _ => False) w3 (w3.alloc (.cells #[.int .i64 4, .int .i64 n, .bool p.priv, .slice a (m + 1) c, .string ⟨#[]⟩] 38)) := Ch.refl.alloc _
  refine ⟨w3.heap.size, a, c, rfl, hb.size, by simp, fun h => by have := (FreshIn.blks hf _ h).2; omega, ?_, ?_, ?_, ?_, ?_, hf.ch hc (fun _ _ h => h), hb.alloc hb.size _⟩
  all_goals simp [go_sem]
theorem csi_r (p : PV) (X lo : Nat) (ap al : Option Addr) (cp cl : Nat) (L : List ActA) (b : UInt8) (w : World) (h : QS X lo p ap cp L al cl w) (hL : L.length ≤ 1048576) (hs : p.state = 2) (hAA : argsB p.args = true) (hT : p.text = e0) (hU : p.utf = e0) :
    Calls Tryz.prog 135 #[.pointer (some ⟨X, 0, none⟩), .int .i64 b.toNat] w (fun e w' => QR X lo (cstep p b) L e w w') := by
  obtain ⟨iI, hI, hI0, hI1, hI2⟩ := info_parts Tryz.infoInt
  have HP := Lib.hid h
  have k_0 : w.cell? ⟨X, 0, none⟩ = some (.int .i64 2) := by rw [h.ps.c0, hs]
  have k_2 : w.cell? ⟨X, 2, none⟩ = some (.bool p.priv) := h.ps.c2
  have k_3 : w.cell? ⟨X, 3, none⟩ = some (.string ⟨#[]⟩) := by rw [h.ps.c3, hT]
  have k_4 : w.cell? ⟨X, 4, none⟩ = some (.string ⟨#[]⟩) := by rw [h.ps.c4, hU]
  have k_5 := h.c5
  simp only [argsB, Bool.and_eq_true, decide_eq_true_eq, List.all_eq_true] at hAA
  obtain ⟨⟨hl1, hl8⟩, hall⟩ := hAA
  obtain ⟨g, rfl, hg1, _, hg3, ho⟩ := h.ps.args.block (by omega)
  obtain ⟨m, hm⟩ : ∃ m, p.args.length = m + 1 := ⟨p.args.length - 1, by omega⟩
  have k_1 : w.cell? ⟨X, 1, none⟩ = some (.slice (some ⟨g, 0, none⟩) (m + 1) cp) := by rw [h.ps.c1, hm]
  have HLM := Lib.hid hm
  have HST := Lib.hid hs
  have HTX := Lib.hid hT
  have HUX := Lib.hid hU
  have hXg : ¬ X = g := fun e => h.ps.nB (by simp [blkOf, e])
  have hgX : ¬ g = X := fun e => hXg e.symm
  have hlm : m < p.args.length := by omega
  obtain ⟨x, hx⟩ : ∃ x, p.args[m]'hlm = x := ⟨_, rfl⟩
  have HXE := Lib.hid hx
  have a_m : w.cell? ⟨g, m, none⟩ = some (.int .i64 x) := by
    have := (h.ps.args.sl (fun _ => rfl) : Sl intE 1 w (some ⟨g, 0, none⟩) p.args)
    obtain ⟨b1, o1, he, _, hc⟩ := this.at hlm
    cases he
    have h2 := hc m hlm 0 (by omega)
    simpa [intE, hx] using h2
  have HSL : Hid (Sl intE 1 w (some ⟨g, 0, none⟩) p.args) := Lib.hid (h.ps.args.sl (fun _ => rfl))
  have hxb : -1 ≤ x ∧ x ≤ 9999 := by
    rw [← hx]
    exact hall _ (List.getElem_mem _)
  obtain ⟨hx1, hx2⟩ := hxb
  have HX : Hid (lastA p.args = x) := Lib.hid (by rw [last_at hm]; exact hx)
  have HX0 : Hid (m = 0 → x = -1 → p.args = [-1]) := Lib.hid (fun h0 h1 => by
    subst h0
    exact one_at hm (by rw [hx]; exact h1))
  have HX1 : Hid (p.args = [-1] → m = 0 ∧ x = -1) := Lib.hid (fun h0 => by
    have e1 : m = 0 := by rw [h0] at hm; simp at hm; omega
    subst e1
    refine ⟨rfl, ?_⟩
    rw [← hx]
    simp [h0])
  have hm7 : m ≤ 7 := by omega
  clear ho hall hs hT hU hx hl1 hm
  have kf := h.ps.fz
  have klt := h.ps.lt
  have hlo : lo ≤ w.heap.size := by have := h.lo; omega
  have h256 : b.toNat < 256 := b.toNat_lt
  clear h
  obtain ⟨Gr, hG⟩ : ∃ G, cstep p b = G := ⟨_, rfl⟩
  have HGG := Lib.hid hG
  rw [hG]
  clear hG
  obtain ⟨n, hn⟩ : ∃ n, b.toNat = n := ⟨_, rfl⟩
  rw [hn] at h256 ⊢
  have HN := Lib.hid hn
  clear hn
  by_cases h27 : n = 27
  case pos =>
    have HR : Hid (Gr = (pst 1, [])) := Lib.hid (by rw [← HGG.out]; exact cs1 HN.out h27)
    have g27 : ((n : Int) == 27) = true := by subst h27; rfl
    clear h27
    go_enter Tryz.func135, Tryz.ntmps135
    go_wp2_with fail
    refine (ground_r X lo _ (some ⟨g, 0, none⟩) al cp cl L _ HP.out).mono ?_
    rintro e w1 ⟨rfl, g', hg', hq, hc⟩
    have HQ := Lib.hid hq
    have HC := Lib.hid hc
    have y_0 := hq.ps.c0
    have y_1 := hq.ps.c1
    have y_2 := hq.ps.c2
    have y_3 := hq.ps.c3
    have y_4 := hq.ps.c4
    have y_5 := hq.c5
    have yf := hq.ps.fz
    have ylt := hq.ps.lt
    clear hq hc
    go_wp2_with fail
    refine bodyPost_end (v := .tuple #[]) (by simp [results, Tryz.results135]) rfl ?_
    refine QR.only (p' := pst 1) (HQ.out.cells ?hc ?_ ?_ ?_ ?_ ?_ ?_ ?_ (.inl ⟨rfl, rfl, rfl⟩)) HP.out (HC.out.trans ?hc (fun i hi => .inl hi)) HR.out
    case hc => repeat (first | (with_reducible exact Ch.refl) | (with_reducible refine Ch.alloc ?_ _) | (with_reducible refine Ch.drew ?_) | (with_reducible refine Ch.setB ?_ _ _))
    all_goals first | (intro o; simp [go_sem, yf, ylt]; done) | (simp [go_sem, y_0, y_1, y_2, y_3, y_4, y_5, ylt, pst, pz]; done)
  have g27 : ((n : Int) == 27) = false := beq_eq_false_iff_ne.2 (by omega)
  obtain ⟨c, hc⟩ : ∃ c, ctl n = c := ⟨_, rfl⟩
  have HCT : Hid (ctlI (n : Int) = c) := Lib.hid (by rw [ctl_eq]; exact hc)
  have HCC := Lib.hid hc
  clear hc
  cases c
  case true =>
    have HR : Hid (Gr = (p, [⟨2, n, false, [], e0⟩])) := Lib.hid (by rw [← HGG.out]; exact cs2 HN.out h27 HCC.out)
    go_enter Tryz.func135, Tryz.ntmps135
    go_wp2_with (go_at_call 78; refine (control_r _ _).mono ?_; rw [HCT.out]; rintro e w' ⟨rfl, rfl⟩)
    refine (tell_r X lo p (some ⟨g, 0, none⟩) al none cp cl 0 L ⟨2, n, false, [], e0⟩ _ HP.out (FreshIn.nil _ _ _ _ _ _) (by simp [blkOf]) hL (by simp)).mono ?_
    rintro e w1 hq
    have HQ := Lib.hid hq
    obtain ⟨rfl, _⟩ := hq
    go_wp2_with fail
    refine bodyPost_end (v := .tuple #[]) (by simp [results, Tryz.results135]) rfl ?_
    rw [HR.out]
    exact HQ.out
  obtain ⟨v8, hv8⟩ : ∃ v, inB (n : Int) 48 57 = v := ⟨_, rfl⟩
  have HV8 := Lib.hid hv8
  clear hv8
  cases v8
  case true =>
    have h3 : 48 ≤ n ∧ n ≤ 57 := by have := HV8.out; simp [inB] at this; omega
    have HR : Hid (Gr = ({ p with args := p.args.dropLast ++ [min 9999 (max 0 x * 10 + ((n : Int) - 48))] }, [])) := Lib.hid (by rw [← HGG.out, cs3 HN.out HCC.out h3, HX.out])
    obtain ⟨h31, h32⟩ := h3
    have g31 : (48 : Int) ≤ (n : Int) := by omega
    have g32 : (n : Int) ≤ 57 := by omega
    obtain ⟨y, hy⟩ : ∃ y, max 0 x = y := ⟨_, rfl⟩
    have hy0 : 0 ≤ y := by omega
    have hy1 : y ≤ 9999 := by omega
    rw [hy] at HR
    have HY := Lib.hid hy
    clear h31 h32 hy
    go_enter Tryz.func135, Tryz.ntmps135
    go_upto_region 9 with (first | (go_at_call 78; refine (control_r _ _).mono ?_; rw [HCT.out]; rintro e w' ⟨rfl, rfl⟩) | (go_at_call 60; refine (l01In_c _ _ _ _).mono ?_; (first | rw [HV8.out] | rw [HV6.out]); rintro e w' ⟨rfl, rfl⟩))
    have HSRC : Hid (Src Tryz.prog 1 36 (.slice (some ⟨g, 0, none⟩) (m + 1) cp) p.args.length (p.args.flatMap intE) (w.alloc (.cells #[] 3))) := Lib.hid (by
      have h1 := Src.ofSl (P := Tryz.prog) (tx := 36) (enc := intE) (sz := 1) (xs := p.args) Tryz.underlying36 (fun _ => rfl) intOne (HSL.out.alloc (.cells #[] 3)) cp
      rwa [HLM.out] at h1 ⊢)
    have HFZ : Hid (FreshIn intE 3 1 w.heap.size (w.alloc (.cells #[] 3)).heap.size (.slice (some ⟨w.heap.size, 0, none⟩) 0 0) ([] : List Int) (w.alloc (.cells #[] 3))) := Lib.hid (fresh_zero _ _ _ rfl (Nat.le_refl _))
    go_wp2_with (at_builtin; refine wpList_append_ch (.tmp 39) (.tmp 44) 36 36 w.heap.size 3 iI (.int .i64 0) 1 8 Tryz.underlying36 hI hI0 hI1 hI2 rfl (by decide) (some ⟨w.heap.size, 0, none⟩) 0 0 ([] : List Int) HFZ.out (.slice (some ⟨g, 0, none⟩) (m + 1) cp) p.args HSRC.out (by simp; omega) (by simp) rfl rfl rfl rfl ?_)
    intro a1 c1 w1 us hus hf hc hk
    have HUS : Hid (us = p.args) := Lib.hid (by simpa using hus.out)
    rw [HUS.out] at hf
    have HLS : Hid (us.length = m + 1) := Lib.hid (by rw [HUS.out]; exact HLM.out)
    rw [HLS.out]
    have HF := Lib.hid hf
    have HC1 : Hid (Ch (fun _ => False) w w1) := Lib.hid ((Ch.refl.alloc _).trans hc (fun i hi => .inr (by simp [blkOf] at hi; omega)))
    obtain ⟨g1, rfl, hg11, hg12, hg13, ho1⟩ := hf.block (by rw [HLM.out]; omega)
    have ym : w1.cell? ⟨g1, m, none⟩ = some (.int .i64 x) := by
      have := (hf.sl (fun _ => rfl) : Sl intE 1 w1 (some ⟨g1, 0, none⟩) p.args)
      obtain ⟨b1, o1, he, _, hc2⟩ := this.at hlm
      cases he
      have h2 := hc2 m hlm 0 (by omega)
      simpa [intE, HXE.out] using h2
    have gf1 : ∀ o, w1.frozen? ⟨g1, o, none⟩ = false := fun o => ho1.frozenAt o
    have hX1 : ¬ X = g1 := by omega
    have h1X : ¬ g1 = X := by omega
    have ylt : X < w1.heap.size := by omega
    have y_0 := (HC1.out.cell (p := ⟨X, 0, none⟩) klt (fun h => h)).trans k_0
    have y_1 := (HC1.out.cell (p := ⟨X, 1, none⟩) klt (fun h => h)).trans k_1
    have y_2 := (HC1.out.cell (p := ⟨X, 2, none⟩) klt (fun h => h)).trans k_2
    have y_5 := (HC1.out.cell (p := ⟨X, 5, none⟩) klt (fun h => h)).trans k_5
    have yf : ∀ o, w1.frozen? ⟨X, o, none⟩ = false := fun o => (HC1.out.frozen (p := ⟨X, o, none⟩) klt (fun h => h)).trans (kf o)
    have em : (m : Int) < (m : Int) + 1 := by omega
    clear hus hf hc hk ho1
    have HVE : Hid (min 9999 (max 0 x * 10 + (n : Int) - 48) = min 9999 (y * 10 + ((n : Int) - 48))) := Lib.hid (by rw [HY.out]; omega)
    go_wp2_with fail
    all_goals
      rw [HVE.out]
      have hset := set_last HLM.out (min 9999 (y * 10 + ((n : Int) - 48)))
      refine bodyPost_end (v := .tuple #[]) (by simp [results, Tryz.results135]) rfl ?_
      refine QR.only (p' := { p with args := p.args.set m (min 9999 (y * 10 + ((n : Int) - 48))) }) (HP.out.arg2 (w1 := w1.setCell ⟨g1, m, none⟩ (.int .i64 (min 9999 (y * 10 + ((n : Int) - 48))))) ((HC1.out.mono (fun i hi => hi.elim)).setCell (p := ⟨g1, m, none⟩) (.inr hg11) _) (HF.out.setI hlm _) (by rw [List.length_set, HLM.out])) HP.out ?_ (by rw [HR.out, hset])
      exact ((HC1.out.mono (M := fun k => k = X) (fun i hi => hi.elim)).setCell (p := ⟨g1, m, none⟩) (.inr hg11) _).setB 1 _
  have h3 : ¬ (48 ≤ n ∧ n ≤ 57) := by have := HV8.out; simp [inB] at this; omega
  by_cases h59 : n = 59
  case pos =>
    have g59 : ((n : Int) == 59) = true := by subst h59; rfl
    have H59 := Lib.hid h59
    have HV6 : Hid (inB (n : Int) 64 126 = false) := Lib.hid (by subst h59; rfl)
    have HH63 : Hid (¬ (n = 63 ∧ p.args = [-1] ∧ p.priv = false)) := Lib.hid (fun h => by omega)
    have HH64 : Hid (¬ (64 ≤ n ∧ n ≤ 126)) := Lib.hid (by omega)
    have g63 : ((n : Int) == 63) = false := beq_eq_false_iff_ne.2 (by omega)
    clear h59
    by_cases hm8 : m < 7
    case neg =>
      have gm8 : ¬ (m : Int) + 1 < 8 := by omega
      have HH59 : Hid (¬ (n = 59 ∧ p.args.length < 8)) := Lib.hid (fun h => by rw [HLM.out] at h; omega)
      have HR : Hid (Gr = (pst 3, [])) := Lib.hid (by rw [← HGG.out]; exact cs7 HN.out h27 HCC.out h3 HH59.out HH63.out HH64.out)
      go_enter Tryz.func135, Tryz.ntmps135
      go_wp2_with (first | (go_at_call 78; refine (control_r _ _).mono ?_; rw [HCT.out]; rintro e w' ⟨rfl, rfl⟩) | (go_at_call 60; refine (l01In_c _ _ _ _).mono ?_; (first | rw [HV8.out] | rw [HV6.out]); rintro e w' ⟨rfl, rfl⟩))
      refine (ground_r X lo _ (some ⟨g, 0, none⟩) al cp cl L _ HP.out).mono ?_
      rintro e w1 ⟨rfl, g', hg', hq, hc⟩
      have HQ := Lib.hid hq
      have HC := Lib.hid hc
      have y_0 := hq.ps.c0
      have y_1 := hq.ps.c1
      have y_2 := hq.ps.c2
      have y_3 := hq.ps.c3
      have y_4 := hq.ps.c4
      have y_5 := hq.c5
      have yf := hq.ps.fz
      have ylt := hq.ps.lt
      clear hq hc
      go_wp2_with fail
      refine bodyPost_end (v := .tuple #[]) (by simp [results, Tryz.results135]) rfl ?_
      refine QR.only (p' := pst 3) (HQ.out.cells ?hc ?_ ?_ ?_ ?_ ?_ ?_ ?_ (.inl ⟨rfl, rfl, rfl⟩)) HP.out (HC.out.trans ?hc (fun i hi => .inl hi)) HR.out
      case hc => repeat (first | (with_reducible exact Ch.refl) | (with_reducible refine Ch.alloc ?_ _) | (with_reducible refine Ch.drew ?_) | (with_reducible refine Ch.setB ?_ _ _))
      all_goals first | (intro o; simp [go_sem, yf, ylt]; done) | (simp [go_sem, y_0, y_1, y_2, y_3, y_4, y_5, ylt, pst, pz]; done)
    have HR : Hid (Gr = ({ p with args := p.args ++ [-1] }, [])) := Lib.hid (by rw [← HGG.out]; exact cs4 HN.out HCC.out ⟨H59.out, by rw [HLM.out]; omega⟩)
    have gm8 : (m : Int) + 1 < 8 := by omega
    go_enter Tryz.func135, Tryz.ntmps135
    go_upto_region 13 with (first | (go_at_call 78; refine (control_r _ _).mono ?_; rw [HCT.out]; rintro e w' ⟨rfl, rfl⟩) | (go_at_call 60; refine (l01In_c _ _ _ _).mono ?_; (first | rw [HV8.out] | rw [HV6.out]); rintro e w' ⟨rfl, rfl⟩))
    have HSRC : Hid (Src Tryz.prog 1 36 (.slice (some ⟨g, 0, none⟩) (m + 1) cp) p.args.length (p.args.flatMap intE) (w.alloc (.cells #[] 3))) := Lib.hid (by
      have h1 := Src.ofSl (P := Tryz.prog) (tx := 36) (enc := intE) (sz := 1) (xs := p.args) Tryz.underlying36 (fun _ => rfl) intOne (HSL.out.alloc (.cells #[] 3)) cp
      rwa [HLM.out] at h1 ⊢)
    have HFZ : Hid (FreshIn intE 3 1 w.heap.size (w.alloc (.cells #[] 3)).heap.size (.slice (some ⟨w.heap.size, 0, none⟩) 0 0) ([] : List Int) (w.alloc (.cells #[] 3))) := Lib.hid (fresh_zero _ _ _ rfl (Nat.le_refl _))
    go_wp2_with (at_builtin; refine wpList_append_ch (.tmp 73) (.tmp 78) 36 36 w.heap.size 3 iI (.int .i64 0) 1 8 Tryz.underlying36 hI hI0 hI1 hI2 rfl (by decide) (some ⟨w.heap.size, 0, none⟩) 0 0 ([] : List Int) HFZ.out (.slice (some ⟨g, 0, none⟩) (m + 1) cp) p.args HSRC.out (by simp; omega) (by simp) rfl rfl rfl rfl ?_)
    intro a1 c1 w1 us hus hf hc hk
    have HUS : Hid (us = p.args) := Lib.hid (by simpa using hus.out)
    rw [HUS.out] at hf
    have HLS : Hid (us.length = m + 1) := Lib.hid (by rw [HUS.out]; exact HLM.out)
    rw [HLS.out]
    have HF := Lib.hid hf
    have HC1 : Hid (Ch (fun _ => False) w w1) := Lib.hid ((Ch.refl.alloc _).trans hc (fun i hi => .inr (by simp [blkOf] at hi; omega)))
    obtain ⟨g1, rfl, hg11, hg12, hg13, ho1⟩ := hf.block (by rw [HLM.out]; omega)
    have ylt : X < w1.heap.size := by omega
    have HSR2 : Hid (Src Tryz.prog 1 36 (.slice (some ⟨w1.heap.size, 0, none⟩) 1 1) [(-1 : Int)].length ([(-1 : Int)].flatMap intE) (w1.alloc (.cells #[.int .i64 (-1)] 3))) := Lib.hid (Src.ofBox (enc := intE) Tryz.underlying36 (fun _ => rfl) intOne (-1 : Int) _ _ (by first | rfl | simp [intE]) _ rfl)
    have hrow := hf.ch (M := fun _ => False) (Ch.of_below ((Below.refl _ _).alloc (Nat.le_refl _) (.cells #[.int .i64 (-1)] 3))) (fun _ _ h => h)
    rw [HLM.out] at hrow
    have HROW := Lib.hid hrow
    clear hus hf hc hk ho1 hrow
    go_wp2_with (at_builtin; refine wpList_append_ch (.tmp 79) (.tmp 80) 36 36 w.heap.size 3 iI (.int .i64 0) 1 8 Tryz.underlying36 hI hI0 hI1 hI2 rfl (by decide) (some ⟨g1, 0, none⟩) (m + 1) c1 p.args HROW.out (.slice (some ⟨w1.heap.size, 0, none⟩) 1 1) [(-1 : Int)] HSR2.out (by rw [HLM.out]; simp; omega) (by simp; omega) rfl rfl rfl rfl ?_)
    intro a2 c2 w2 vs hus hf hc hk
    have HVS := hus
    have HF2 := Lib.hid hf
    have HC2 : Hid (Ch (fun _ => False) w w2) := Lib.hid ((HC1.out.alloc _).trans hc (fun i hi => .inr (by simp [blkOf] at hi; omega)))
    have y_1 := (HC2.out.cell (p := ⟨X, 1, none⟩) klt (fun h => h)).trans k_1
    have yf : ∀ o, w2.frozen? ⟨X, o, none⟩ = false := fun o => (HC2.out.frozen (p := ⟨X, o, none⟩) klt (fun h => h)).trans (kf o)
    have ylt2 := Nat.lt_of_lt_of_le klt HC2.out.size
    clear hus hf hc hk
    go_wp2_with fail
    refine bodyPost_end (v := .tuple #[]) (by simp [results, Tryz.results135]) rfl ?_
    refine QR.only (p' := { p with args := vs }) (HP.out.arg2 (HC2.out.mono (fun i hi => hi.elim)) HF2.out rfl) HP.out ?_ (by rw [HR.out, HVS.out])
    exact (HC2.out.mono (fun i hi => hi.elim)).setB 1 _
  have g59 : ((n : Int) == 59) = false := beq_eq_false_iff_ne.2 (by omega)
  have HH59 : Hid (¬ (n = 59 ∧ p.args.length < 8)) := Lib.hid (fun h => h59 h.1)
  by_cases h63 : n = 63
  case pos =>
    have g63 : ((n : Int) == 63) = true := by subst h63; rfl
    have HV6 : Hid (inB (n : Int) 64 126 = false) := Lib.hid (by subst h63; rfl)
    have HH64 : Hid (¬ (64 ≤ n ∧ n ≤ 126)) := Lib.hid (by omega)
    have H63 := Lib.hid h63
    clear h63
    by_cases hm0 : m = 0
    case neg =>
      have gm0 : ((m : Int) == 0) = false := beq_eq_false_iff_ne.2 (by omega)
      have HH63 : Hid (¬ (n = 63 ∧ p.args = [-1] ∧ p.priv = false)) := Lib.hid (fun h => hm0 (HX1.out h.2.1).1)
      have HR : Hid (Gr = (pst 3, [])) := Lib.hid (by rw [← HGG.out]; exact cs7 HN.out h27 HCC.out h3 HH59.out HH63.out HH64.out)
      go_enter Tryz.func135, Tryz.ntmps135
      go_wp2_with (first | (go_at_call 78; refine (control_r _ _).mono ?_; rw [HCT.out]; rintro e w' ⟨rfl, rfl⟩) | (go_at_call 60; refine (l01In_c _ _ _ _).mono ?_; (first | rw [HV8.out] | rw [HV6.out]); rintro e w' ⟨rfl, rfl⟩))
      refine (ground_r X lo _ (some ⟨g, 0, none⟩) al cp cl L _ HP.out).mono ?_
      rintro e w1 ⟨rfl, g', hg', hq, hc⟩
      have HQ := Lib.hid hq
      have HC := Lib.hid hc
      have y_0 := hq.ps.c0
      have y_1 := hq.ps.c1
      have y_2 := hq.ps.c2
      have y_3 := hq.ps.c3
      have y_4 := hq.ps.c4
      have y_5 := hq.c5
      have yf := hq.ps.fz
      have ylt := hq.ps.lt
      clear hq hc
      go_wp2_with fail
      refine bodyPost_end (v := .tuple #[]) (by simp [results, Tryz.results135]) rfl ?_
      refine QR.only (p' := pst 3) (HQ.out.cells ?hc ?_ ?_ ?_ ?_ ?_ ?_ ?_ (.inl ⟨rfl, rfl, rfl⟩)) HP.out (HC.out.trans ?hc (fun i hi => .inl hi)) HR.out
      case hc => repeat (first | (with_reducible exact Ch.refl) | (with_reducible refine Ch.alloc ?_ _) | (with_reducible refine Ch.drew ?_) | (with_reducible refine Ch.setB ?_ _ _))
      all_goals first | (intro o; simp [go_sem, yf, ylt]; done) | (simp [go_sem, y_0, y_1, y_2, y_3, y_4, y_5, ylt, pst, pz]; done)
    have gm0 : ((m : Int) == 0) = true := by subst hm0; rfl
    have a_0 : w.cell? ⟨g, 0, none⟩ = some (.int .i64 x) := by rw [← a_m, hm0]
    have HM0 := Lib.hid hm0
    clear hm0
    by_cases hxm : x = -1
    case neg =>
      have gx : ¬ x < 0 := by omega
      have HH63 : Hid (¬ (n = 63 ∧ p.args = [-1] ∧ p.priv = false)) := Lib.hid (fun h => hxm (HX1.out h.2.1).2)
      have HR : Hid (Gr = (pst 3, [])) := Lib.hid (by rw [← HGG.out]; exact cs7 HN.out h27 HCC.out h3 HH59.out HH63.out HH64.out)
      go_enter Tryz.func135, Tryz.ntmps135
      go_wp2_with (first | (go_at_call 78; refine (control_r _ _).mono ?_; rw [HCT.out]; rintro e w' ⟨rfl, rfl⟩) | (go_at_call 60; refine (l01In_c _ _ _ _).mono ?_; (first | rw [HV8.out] | rw [HV6.out]); rintro e w' ⟨rfl, rfl⟩))
      refine (ground_r X lo _ (some ⟨g, 0, none⟩) al cp cl L _ HP.out).mono ?_
      rintro e w1 ⟨rfl, g', hg', hq, hc⟩
      have HQ := Lib.hid hq
      have HC := Lib.hid hc
      have y_0 := hq.ps.c0
      have y_1 := hq.ps.c1
      have y_2 := hq.ps.c2
      have y_3 := hq.ps.c3
      have y_4 := hq.ps.c4
      have y_5 := hq.c5
      have yf := hq.ps.fz
      have ylt := hq.ps.lt
      clear hq hc
      go_wp2_with fail
      refine bodyPost_end (v := .tuple #[]) (by simp [results, Tryz.results135]) rfl ?_
      refine QR.only (p' := pst 3) (HQ.out.cells ?hc ?_ ?_ ?_ ?_ ?_ ?_ ?_ (.inl ⟨rfl, rfl, rfl⟩)) HP.out (HC.out.trans ?hc (fun i hi => .inl hi)) HR.out
      case hc => repeat (first | (with_reducible exact Ch.refl) | (with_reducible refine Ch.alloc ?_ _) | (with_reducible refine Ch.drew ?_) | (with_reducible refine Ch.setB ?_ _ _))
      all_goals first | (intro o; simp [go_sem, yf, ylt]; done) | (simp [go_sem, y_0, y_1, y_2, y_3, y_4, y_5, ylt, pst, pz]; done)
    have gx : x < 0 := by omega
    have HXM := Lib.hid hxm
    clear hxm
    obtain ⟨pv, hpv⟩ : ∃ b, p.priv = b := ⟨_, rfl⟩
    rw [hpv] at k_2
    have HPV := Lib.hid hpv
    clear hpv
    cases pv
    case true =>
      have HH63 : Hid (¬ (n = 63 ∧ p.args = [-1] ∧ p.priv = false)) := Lib.hid (fun h => by rw [HPV.out] at h; exact absurd h.2.2 (by simp))
      have HR : Hid (Gr = (pst 3, [])) := Lib.hid (by rw [← HGG.out]; exact cs7 HN.out h27 HCC.out h3 HH59.out HH63.out HH64.out)
      go_enter Tryz.func135, Tryz.ntmps135
      go_wp2_with (first | (go_at_call 78; refine (control_r _ _).mono ?_; rw [HCT.out]; rintro e w' ⟨rfl, rfl⟩) | (go_at_call 60; refine (l01In_c _ _ _ _).mono ?_; (first | rw [HV8.out] | rw [HV6.out]); rintro e w' ⟨rfl, rfl⟩))
      refine (ground_r X lo _ (some ⟨g, 0, none⟩) al cp cl L _ HP.out).mono ?_
      rintro e w1 ⟨rfl, g', hg', hq, hc⟩
      have HQ := Lib.hid hq
      have HC := Lib.hid hc
      have y_0 := hq.ps.c0
      have y_1 := hq.ps.c1
      have y_2 := hq.ps.c2
      have y_3 := hq.ps.c3
      have y_4 := hq.ps.c4
      have y_5 := hq.c5
      have yf := hq.ps.fz
      have ylt := hq.ps.lt
      clear hq hc
      go_wp2_with fail
      refine bodyPost_end (v := .tuple #[]) (by simp [results, Tryz.results135]) rfl ?_
      refine QR.only (p' := pst 3) (HQ.out.cells ?hc ?_ ?_ ?_ ?_ ?_ ?_ ?_ (.inl ⟨rfl, rfl, rfl⟩)) HP.out (HC.out.trans ?hc (fun i hi => .inl hi)) HR.out
      case hc => repeat (first | (with_reducible exact Ch.refl) | (with_reducible refine Ch.alloc ?_ _) | (with_reducible refine Ch.drew ?_) | (with_reducible refine Ch.setB ?_ _ _))
      all_goals first | (intro o; simp [go_sem, yf, ylt]; done) | (simp [go_sem, y_0, y_1, y_2, y_3, y_4, y_5, ylt, pst, pz]; done)
    have HR : Hid (Gr = ({ p with priv := true }, [])) := Lib.hid (by rw [← HGG.out]; exact cs5 HN.out HCC.out ⟨H63.out, HX0.out HM0.out HXM.out, HPV.out⟩)
    go_enter Tryz.func135, Tryz.ntmps135
    go_wp2_with (first | (go_at_call 78; refine (control_r _ _).mono ?_; rw [HCT.out]; rintro e w' ⟨rfl, rfl⟩) | (go_at_call 60; refine (l01In_c _ _ _ _).mono ?_; (first | rw [HV8.out] | rw [HV6.out]); rintro e w' ⟨rfl, rfl⟩))
    refine bodyPost_end (v := .tuple #[]) (by simp [results, Tryz.results135]) rfl ?_
    refine QR.only (p' := { p with priv := true }) (HP.out.cells ?hc ?_ ?_ ?_ ?_ ?_ ?_ ?_ (.inl ⟨rfl, rfl, rfl⟩)) HP.out ?hc HR.out
    case hc => repeat (first | (with_reducible exact Ch.refl) | (with_reducible refine Ch.alloc ?_ _) | (with_reducible refine Ch.drew ?_) | (with_reducible refine Ch.setB ?_ _ _))
    all_goals first | (intro o; simp [go_sem, kf, klt]; done) | (simp [go_sem, k_0, k_1, k_2, k_3, k_4, k_5, klt, HST.out, HTX.out, HUX.out, HLM.out]; done)
  have g63 : ((n : Int) == 63) = false := beq_eq_false_iff_ne.2 (by omega)
  have HH63 : Hid (¬ (n = 63 ∧ p.args = [-1] ∧ p.priv = false)) := Lib.hid (fun h => h63 h.1)
  obtain ⟨v6, hv6⟩ : ∃ v, inB (n : Int) 64 126 = v := ⟨_, rfl⟩
  have HV6 := Lib.hid hv6
  clear hv6
  cases v6
  case false =>
    have HH64 : Hid (¬ (64 ≤ n ∧ n ≤ 126)) := Lib.hid (by have := HV6.out; simp [inB] at this; omega)
    have HR : Hid (Gr = (pst 3, [])) := Lib.hid (by rw [← HGG.out]; exact cs7 HN.out h27 HCC.out h3 HH59.out HH63.out HH64.out)
    go_enter Tryz.func135, Tryz.ntmps135
    go_wp2_with (first | (go_at_call 78; refine (control_r _ _).mono ?_; rw [HCT.out]; rintro e w' ⟨rfl, rfl⟩) | (go_at_call 60; refine (l01In_c _ _ _ _).mono ?_; (first | rw [HV8.out] | rw [HV6.out]); rintro e w' ⟨rfl, rfl⟩))
    refine (ground_r X lo _ (some ⟨g, 0, none⟩) al cp cl L _ HP.out).mono ?_
    rintro e w1 ⟨rfl, g', hg', hq, hc⟩
    have HQ := Lib.hid hq
    have HC := Lib.hid hc
    have y_0 := hq.ps.c0
    have y_1 := hq.ps.c1
    have y_2 := hq.ps.c2
    have y_3 := hq.ps.c3
    have y_4 := hq.ps.c4
    have y_5 := hq.c5
    have yf := hq.ps.fz
    have ylt := hq.ps.lt
    clear hq hc
    go_wp2_with fail
    refine bodyPost_end (v := .tuple #[]) (by simp [results, Tryz.results135]) rfl ?_
    refine QR.only (p' := pst 3) (HQ.out.cells ?hc ?_ ?_ ?_ ?_ ?_ ?_ ?_ (.inl ⟨rfl, rfl, rfl⟩)) HP.out (HC.out.trans ?hc (fun i hi => .inl hi)) HR.out
    case hc => repeat (first | (with_reducible exact Ch.refl) | (with_reducible refine Ch.alloc ?_ _) | (with_reducible refine Ch.drew ?_) | (with_reducible refine Ch.setB ?_ _ _))
    all_goals first | (intro o; simp [go_sem, yf, ylt]; done) | (simp [go_sem, y_0, y_1, y_2, y_3, y_4, y_5, ylt, pst, pz]; done)
  have HR : Hid (Gr = (pz, [⟨4, n, p.priv, p.args, e0⟩])) := Lib.hid (by rw [← HGG.out]; exact cs6 HN.out HCC.out (by have := HV6.out; simp [inB] at this; omega))
  go_enter Tryz.func135, Tryz.ntmps135
  go_upto_region 17 with (first | (go_at_call 78; refine (control_r _ _).mono ?_; rw [HCT.out]; rintro e w' ⟨rfl, rfl⟩) | (go_at_call 60; refine (l01In_c _ _ _ _).mono ?_; (first | rw [HV8.out] | rw [HV6.out]); rintro e w' ⟨rfl, rfl⟩))
  go_cut [6] (fun s wx => CsiR p n m w s wx)
  case first =>
    have hS0 : w.cell? ⟨X, 2, none⟩ = some (.bool p.priv) ∧ w.cell? ⟨X, 1, none⟩ = some (.slice (some ⟨g, 0, none⟩) (m + 1) cp) := ⟨k_2, k_1⟩
    refine wp_region_G (fun w' => w'.cell? ⟨X, 2, none⟩ = some (.bool p.priv) ∧ w'.cell? ⟨X, 1, none⟩ = some (.slice (some ⟨g, 0, none⟩) (m + 1) cp)) (fun i => i == 15) (by kernel_rfl) hS0 ?_
    refine tW ?_ 0 rfl ?_ ?_; rotate_left
    · intro w' hSw; go_simp; try rfl
    try simp only [Act.put,j1,j2,j3,j4,j5,j6]
    refine tW ?_ 1 rfl ?_ ?_; rotate_left
    · intro w' hSw; go_simp; try rfl
    try simp only [Act.put,j1,j2,j3,j4,j5,j6]
    refine tW ?_ 2 rfl ?_ ?_; rotate_left
    · intro w' hSw; go_simp; try rfl
    try simp only [Act.put,j1,j2,j3,j4,j5,j6]
    refine tW ?_ 3 rfl ?_ ?_; rotate_left
    · intro w' hSw; go_simp; try rfl
    try simp only [Act.put,j1,j2,j3,j4,j5,j6]
    refine tW ?_ 4 rfl ?_ ?_; rotate_left
    · intro w' hSw; go_simp; try rfl
    try simp only [Act.put,j1,j2,j3,j4,j5,j6]
    refine tL ?_ 5 rfl hS0 ?_ ?_; rotate_left
    · intro w' hSw; obtain ⟨s0, s1⟩ := hSw; go_simp; try rfl
    try simp only [Act.put,j1,j2,j3,j4,j5,j6]
    refine tW ?_ 7 rfl ?_ ?_; rotate_left
    · intro w' hSw; go_simp; try rfl
    try simp only [Act.put,j1,j2,j3,j4,j5,j6]
    refine tW ?_ 8 rfl ?_ ?_; rotate_left
    · intro w' hSw; go_simp; try rfl
    try simp only [Act.put,j1,j2,j3,j4,j5,j6]
    refine tW ?_ 9 rfl ?_ ?_; rotate_left
    · intro w' hSw; go_simp; try rfl
    try simp only [Act.put,j1,j2,j3,j4,j5,j6]
    refine tW ?_ 10 rfl ?_ ?_; rotate_left
    · intro w' hSw; go_simp; try rfl
    try simp only [Act.put,j1,j2,j3,j4,j5,j6]
    refine tL ?_ 11 rfl hS0 ?_ ?_; rotate_left
    · intro w' hSw; obtain ⟨s0, s1⟩ := hSw; go_simp; try rfl
    try simp only [Act.put,j1,j2,j3,j4,j5,j6]
    refine wpAnyG_br (rs := [6, 14]) (by kernel_rfl) (by simp) ?_
    intro j hj
    simp only [List.mem_cons, List.not_mem_nil, or_false] at hj
    rcases hj with rfl | rfl
    · skip
      refine ⟨_, rfl, fun K' hK => ?_⟩
      simp only [j1,j2,j3]
      go_simp
      obtain ⟨x1, hx1⟩ : ∃ x, (w.alloc (.cells #[] 3)).drew = x := ⟨_, rfl⟩
      have HB1 : Hid (Below w.heap.size w x1) := Lib.hid (by rw [← hx1]; exact (((Below.refl _ _).alloc (Nat.le_refl _) _).drew))
      have hz1 : w.heap.size < x1.heap.size := by rw [← hx1]; simp
      have hlt1 := Nat.lt_of_lt_of_le klt HB1.out.size
      have hS1 : x1.cell? ⟨X, 2, none⟩ = some (.bool p.priv) ∧ x1.cell? ⟨X, 1, none⟩ = some (.slice (some ⟨g, 0, none⟩) (m + 1) cp) := ⟨(HB1.out.cell (p := ⟨X, 2, none⟩) klt).trans k_2, (HB1.out.cell (p := ⟨X, 1, none⟩) klt).trans k_1⟩
      have HFZ : Hid (FreshIn intE 3 1 w.heap.size x1.heap.size (.slice (some ⟨w.heap.size, 0, none⟩) 0 0) ([] : List Int) x1) := Lib.hid (by rw [← hx1]; exact (fresh_zero w.heap.size w _ rfl (by omega)).ch (M := fun _ => False) (Ch.of_below ((Below.refl _ _).drew)) (fun _ _ h => h))
      have HBW := HB1
      rw [hx1]
      clear hx1
      refine hK.out _ _ (Or.inr hS1) ?_
      clear hK K'
      try simp only [Act.put,j1,j2,j3,j4,j5,j6]
      refine wpAnyG_br (rs := [12, 14]) (by kernel_rfl) (by simp) ?_
      intro j hj
      simp only [List.mem_cons, List.not_mem_nil, or_false] at hj
      rcases hj with rfl | rfl
      · skip
        refine ⟨_, rfl, fun K' hK => ?_⟩
        simp only [j1,j2,j3]
        have HSRC : Hid (Src Tryz.prog 1 36 (.slice (some ⟨g, 0, none⟩) (m + 1) cp) p.args.length (p.args.flatMap intE) x1) := Lib.hid (by
          have h1 := Src.ofSl (P := Tryz.prog) (tx := 36) (enc := intE) (sz := 1) (xs := p.args) Tryz.underlying36 (fun _ => rfl) intOne (HSL.out.keep HBW.out) cp
          rwa [HLM.out] at h1 ⊢)
        rw [if_pos (by rfl)]
        refine step_append_ch (.tmp 123) (.tmp 128) 36 36 w.heap.size 3 iI (.int .i64 0) 1 8 Tryz.underlying36 hI hI0 hI1 hI2 rfl (by decide) (some ⟨w.heap.size, 0, none⟩) 0 0 ([] : List Int) HFZ.out (.slice (some ⟨g, 0, none⟩) (m + 1) cp) p.args HSRC.out (by simp; omega) (by omega) ?_ ?_ ?_ ?_
        · rfl
        · rfl
        · rfl
        intro a1 c1 x2 us hus hf hc hk
        have HUS : Hid (us = p.args) := Lib.hid (by simpa using hus.out)
        rw [HUS.out] at hf
        have HLS : Hid (us.length = m + 1) := Lib.hid (by rw [HUS.out]; exact HLM.out)
        rw [HLS.out]
        have HF := Lib.hid hf
        have HK := Lib.hid hk
        have HC := Lib.hid hc
        have HBX : Hid (Below w.heap.size w x2) := Lib.hid (HBW.out.trans (hc.below (by omega) (fun i hi => by simp [blkOf] at hi; omega)))
        have hz2 := hc.size
        have hlt2 : X < x2.heap.size := by omega
        have hS2 : x2.cell? ⟨X, 2, none⟩ = some (.bool p.priv) ∧ x2.cell? ⟨X, 1, none⟩ = some (.slice (some ⟨g, 0, none⟩) (m + 1) cp) := ⟨(HBX.out.cell (p := ⟨X, 2, none⟩) klt).trans k_2, (HBX.out.cell (p := ⟨X, 1, none⟩) klt).trans k_1⟩
        clear hus hf hc hk
        refine hK.out _ _ (Or.inr hS2) ?_
        clear hK K'
        try simp only [Act.put,j1,j2,j3,j4,j5,j6]
        refine tW ?_ 13 rfl ?_ ?_; rotate_left
        · intro w' hSw; go_simp; try rfl
        try simp only [Act.put,j1,j2,j3,j4,j5,j6]
        refine wpAnyG_one (i := 14) (by kernel_rfl) rfl hS2 (fun K' hK => ?_)
        simp only [j1,j2,j3]
        go_simp
        obtain ⟨x3, hx3⟩ : ∃ x, (x2.alloc (.cells #[.int .i64 0, .int .i64 0, .bool false, .slice none 0 0, .string ⟨#[]⟩] 38)) = x := ⟨_, rfl⟩
        have HB3 : Hid (Below x2.heap.size x2 x3) := Lib.hid (by rw [← hx3]; exact (((Below.refl _ _).alloc (Nat.le_refl _) _)))
        have hz3 : x2.heap.size < x3.heap.size := by rw [← hx3]; simp
        have hlt3 := Nat.lt_of_lt_of_le hlt2 HB3.out.size
        have hS3 : x3.cell? ⟨X, 2, none⟩ = some (.bool p.priv) ∧ x3.cell? ⟨X, 1, none⟩ = some (.slice (some ⟨g, 0, none⟩) (m + 1) cp) := ⟨(HB3.out.cell (p := ⟨X, 2, none⟩) hlt2).trans hS2.1, (HB3.out.cell (p := ⟨X, 1, none⟩) hlt2).trans hS2.2⟩
        have b3_0 : x3.cell? ⟨x2.heap.size, 0, none⟩ = some (.int .i64 0) := by rw [← hx3]; simp [go_sem]
        have b3_1 : x3.cell? ⟨x2.heap.size, 1, none⟩ = some (.int .i64 0) := by rw [← hx3]; simp [go_sem]
        have b3_2 : x3.cell? ⟨x2.heap.size, 2, none⟩ = some (.bool false) := by rw [← hx3]; simp [go_sem]
        have b3_3 : x3.cell? ⟨x2.heap.size, 3, none⟩ = some (.slice none 0 0) := by rw [← hx3]; simp [go_sem]
        have b3_4 : x3.cell? ⟨x2.heap.size, 4, none⟩ = some (.string ⟨#[]⟩) := by rw [← hx3]; simp [go_sem]
        have bf3 : ∀ o, x3.frozen? ⟨x2.heap.size, o, none⟩ = false := by intro o; rw [← hx3]; simp [go_sem]
        clear hx3
        refine hK.out _ _ (Or.inr ⟨by simpa [go_sem, hlt2] using hS2.1, by simpa [go_sem, hlt2] using hS2.2⟩) ?_
        clear hK K'
        try simp only [Act.put,j1,j2,j3,j4,j5,j6]
        refine wpAnyG_one (i := 15) (by kernel_rfl) rfl (⟨by simpa [go_sem, hlt2] using hS2.1, by simpa [go_sem, hlt2] using hS2.2⟩) (fun K' hK => ?_)
        simp only [j1,j2,j3]
        go_simp
        refine hK.out _ _ (Or.inl rfl) ?_
        clear hK K'
        try simp only [Act.put,j1,j2,j3,j4,j5,j6]
        refine wpAnyG_done (by kernel_rfl) ?_ _
        go_wp2_with fail
        go_meet
        exact csiR_alloc HBX.out HF.out HLM.out
      · skip
        refine ⟨_, rfl, fun K' hK => ?_⟩
        simp only [j1,j2,j3]
        go_simp
        obtain ⟨x2, hx2⟩ : ∃ x, (x1.alloc (.cells #[.int .i64 0, .int .i64 0, .bool false, .slice none 0 0, .string ⟨#[]⟩] 38)) = x := ⟨_, rfl⟩
        have HB2 : Hid (Below x1.heap.size x1 x2) := Lib.hid (by rw [← hx2]; exact (((Below.refl _ _).alloc (Nat.le_refl _) _)))
        have hz2 : x1.heap.size < x2.heap.size := by rw [← hx2]; simp
        have hlt2 := Nat.lt_of_lt_of_le hlt1 HB2.out.size
        have hS2 : x2.cell? ⟨X, 2, none⟩ = some (.bool p.priv) ∧ x2.cell? ⟨X, 1, none⟩ = some (.slice (some ⟨g, 0, none⟩) (m + 1) cp) := ⟨(HB2.out.cell (p := ⟨X, 2, none⟩) hlt1).trans hS1.1, (HB2.out.cell (p := ⟨X, 1, none⟩) hlt1).trans hS1.2⟩
        have b2_0 : x2.cell? ⟨x1.heap.size, 0, none⟩ = some (.int .i64 0) := by rw [← hx2]; simp [go_sem]
        have b2_1 : x2.cell? ⟨x1.heap.size, 1, none⟩ = some (.int .i64 0) := by rw [← hx2]; simp [go_sem]
        have b2_2 : x2.cell? ⟨x1.heap.size, 2, none⟩ = some (.bool false) := by rw [← hx2]; simp [go_sem]
        have b2_3 : x2.cell? ⟨x1.heap.size, 3, none⟩ = some (.slice none 0 0) := by rw [← hx2]; simp [go_sem]
        have b2_4 : x2.cell? ⟨x1.heap.size, 4, none⟩ = some (.string ⟨#[]⟩) := by rw [← hx2]; simp [go_sem]
        have bf2 : ∀ o, x2.frozen? ⟨x1.heap.size, o, none⟩ = false := by intro o; rw [← hx2]; simp [go_sem]
        have c2_0 := b2_0
        have c2_1 := b2_1
        have c2_2 := b2_2
        have c2_3 := b2_3
        have c2_4 := b2_4
        have cf2 := bf2
        have HBW : Hid (Below w.heap.size w x2) := Lib.hid (HB1.out.trans (HB2.out.mono (by omega)))
        have HFZ : Hid (FreshIn intE 3 1 w.heap.size x2.heap.size (.slice (some ⟨w.heap.size, 0, none⟩) 0 0) ([] : List Int) x2) := Lib.hid (HFZ.out.ch (M := fun _ => False) (Ch.of_below HB2.out) (fun _ _ h => h))
        rw [hx2]
        clear hx2
        refine hK.out _ _ (Or.inr hS2) ?_
        clear hK K'
        try simp only [Act.put,j1,j2,j3,j4,j5,j6]
        refine wpAnyG_one (i := 12) (by kernel_rfl) rfl hS2 (fun K' hK => ?_)
        simp only [j1,j2,j3]
        have HSRC : Hid (Src Tryz.prog 1 36 (.slice (some ⟨g, 0, none⟩) (m + 1) cp) p.args.length (p.args.flatMap intE) x2) := Lib.hid (by
          have h1 := Src.ofSl (P := Tryz.prog) (tx := 36) (enc := intE) (sz := 1) (xs := p.args) Tryz.underlying36 (fun _ => rfl) intOne (HSL.out.keep HBW.out) cp
          rwa [HLM.out] at h1 ⊢)
        rw [if_pos (by rfl)]
        refine step_append_ch (.tmp 123) (.tmp 128) 36 36 w.heap.size 3 iI (.int .i64 0) 1 8 Tryz.underlying36 hI hI0 hI1 hI2 rfl (by decide) (some ⟨w.heap.size, 0, none⟩) 0 0 ([] : List Int) HFZ.out (.slice (some ⟨g, 0, none⟩) (m + 1) cp) p.args HSRC.out (by simp; omega) (by omega) ?_ ?_ ?_ ?_
        · rfl
        · rfl
        · rfl
        intro a1 c1 x3 us hus hf hc hk
        have HUS : Hid (us = p.args) := Lib.hid (by simpa using hus.out)
        rw [HUS.out] at hf
        have HLS : Hid (us.length = m + 1) := Lib.hid (by rw [HUS.out]; exact HLM.out)
        rw [HLS.out]
        have HF := Lib.hid hf
        have HK := Lib.hid hk
        have HC := Lib.hid hc
        have HBX : Hid (Below w.heap.size w x3) := Lib.hid (HBW.out.trans (hc.below (by omega) (fun i hi => by simp [blkOf] at hi; omega)))
        have hz3 := hc.size
        have hlt3 : X < x3.heap.size := by omega
        have hS3 : x3.cell? ⟨X, 2, none⟩ = some (.bool p.priv) ∧ x3.cell? ⟨X, 1, none⟩ = some (.slice (some ⟨g, 0, none⟩) (m + 1) cp) := ⟨(HBX.out.cell (p := ⟨X, 2, none⟩) klt).trans k_2, (HBX.out.cell (p := ⟨X, 1, none⟩) klt).trans k_1⟩
        clear hus hf hc hk
        have hHE : ¬ x1.heap.size = w.heap.size := by omega
        have q_0 : x3.cell? ⟨x1.heap.size, 0, none⟩ = some (.int .i64 0) := (HC.out.cell (p := ⟨x1.heap.size, 0, none⟩) (by show x1.heap.size < _; omega) (by simpa [blkOf] using hHE)).trans c2_0
        have q_1 : x3.cell? ⟨x1.heap.size, 1, none⟩ = some (.int .i64 0) := (HC.out.cell (p := ⟨x1.heap.size, 1, none⟩) (by show x1.heap.size < _; omega) (by simpa [blkOf] using hHE)).trans c2_1
        have q_2 : x3.cell? ⟨x1.heap.size, 2, none⟩ = some (.bool false) := (HC.out.cell (p := ⟨x1.heap.size, 2, none⟩) (by show x1.heap.size < _; omega) (by simpa [blkOf] using hHE)).trans c2_2
        have q_3 : x3.cell? ⟨x1.heap.size, 3, none⟩ = some (.slice none 0 0) := (HC.out.cell (p := ⟨x1.heap.size, 3, none⟩) (by show x1.heap.size < _; omega) (by simpa [blkOf] using hHE)).trans c2_3
        have q_4 : x3.cell? ⟨x1.heap.size, 4, none⟩ = some (.string ⟨#[]⟩) := (HC.out.cell (p := ⟨x1.heap.size, 4, none⟩) (by show x1.heap.size < _; omega) (by simpa [blkOf] using hHE)).trans c2_4
        have qf : ∀ o, x3.frozen? ⟨x1.heap.size, o, none⟩ = false := fun o => (HC.out.frozen (p := ⟨x1.heap.size, o, none⟩) (by show x1.heap.size < _; omega) (by simpa [blkOf] using hHE)).trans (cf2 o)
        have hHlt : x1.heap.size < x3.heap.size := by omega
        refine hK.out _ _ (Or.inr hS3) ?_
        clear hK K'
        try simp only [Act.put,j1,j2,j3,j4,j5,j6]
        refine tW ?_ 13 rfl ?_ ?_; rotate_left
        · intro w' hSw; go_simp; try rfl
        try simp only [Act.put,j1,j2,j3,j4,j5,j6]
        refine wpAnyG_one (i := 15) (by kernel_rfl) rfl hS3 (fun K' hK => ?_)
        simp only [j1,j2,j3]
        go_simp
        refine hK.out _ _ (Or.inl rfl) ?_
        clear hK K'
        try simp only [Act.put,j1,j2,j3,j4,j5,j6]
        refine wpAnyG_done (by kernel_rfl) ?_ _
        go_wp2_with fail
        go_meet
        exact csiR_store (by omega) (by omega) (fun hb => by have := HK.out _ hb; simp [blkOf] at this; omega) ⟨_, q_0⟩ ⟨_, q_1⟩ ⟨_, q_2⟩ ⟨_, q_3⟩ ⟨_, q_4⟩ HF.out HLM.out HBX.out
    · skip
      refine ⟨_, rfl, fun K' hK => ?_⟩
      simp only [j1,j2,j3]
      go_simp
      obtain ⟨x1, hx1⟩ : ∃ x, (w.alloc (.cells #[.int .i64 0, .int .i64 0, .bool false, .slice none 0 0, .string ⟨#[]⟩] 38)).drew = x := ⟨_, rfl⟩
      have HB1 : Hid (Below w.heap.size w x1) := Lib.hid (by rw [← hx1]; exact (((Below.refl _ _).alloc (Nat.le_refl _) _).drew))
      have hz1 : w.heap.size < x1.heap.size := by rw [← hx1]; simp
      have hlt1 := Nat.lt_of_lt_of_le klt HB1.out.size
      have hS1 : x1.cell? ⟨X, 2, none⟩ = some (.bool p.priv) ∧ x1.cell? ⟨X, 1, none⟩ = some (.slice (some ⟨g, 0, none⟩) (m + 1) cp) := ⟨(HB1.out.cell (p := ⟨X, 2, none⟩) klt).trans k_2, (HB1.out.cell (p := ⟨X, 1, none⟩) klt).trans k_1⟩
      have b1_0 : x1.cell? ⟨w.heap.size, 0, none⟩ = some (.int .i64 0) := by rw [← hx1]; simp [go_sem]
      have b1_1 : x1.cell? ⟨w.heap.size, 1, none⟩ = some (.int .i64 0) := by rw [← hx1]; simp [go_sem]
      have b1_2 : x1.cell? ⟨w.heap.size, 2, none⟩ = some (.bool false) := by rw [← hx1]; simp [go_sem]
      have b1_3 : x1.cell? ⟨w.heap.size, 3, none⟩ = some (.slice none 0 0) := by rw [← hx1]; simp [go_sem]
      have b1_4 : x1.cell? ⟨w.heap.size, 4, none⟩ = some (.string ⟨#[]⟩) := by rw [← hx1]; simp [go_sem]
      have bf1 : ∀ o, x1.frozen? ⟨w.heap.size, o, none⟩ = false := by intro o; rw [← hx1]; simp [go_sem]
      rw [hx1]
      clear hx1
      refine hK.out _ _ (Or.inr hS1) ?_
      clear hK K'
      try simp only [Act.put,j1,j2,j3,j4,j5,j6]
      refine wpAnyG_one (i := 6) (by kernel_rfl) rfl hS1 (fun K' hK => ?_)
      simp only [j1,j2,j3]
      go_simp
      obtain ⟨x2, hx2⟩ : ∃ x, (x1.alloc (.cells #[] 3)) = x := ⟨_, rfl⟩
      have HB2 : Hid (Below x1.heap.size x1 x2) := Lib.hid (by rw [← hx2]; exact (((Below.refl _ _).alloc (Nat.le_refl _) _)))
      have hz2 : x1.heap.size < x2.heap.size := by rw [← hx2]; simp
      have hlt2 := Nat.lt_of_lt_of_le hlt1 HB2.out.size
      have hS2 : x2.cell? ⟨X, 2, none⟩ = some (.bool p.priv) ∧ x2.cell? ⟨X, 1, none⟩ = some (.slice (some ⟨g, 0, none⟩) (m + 1) cp) := ⟨(HB2.out.cell (p := ⟨X, 2, none⟩) hlt1).trans hS1.1, (HB2.out.cell (p := ⟨X, 1, none⟩) hlt1).trans hS1.2⟩
      have HFZ : Hid (FreshIn intE 3 1 w.heap.size x2.heap.size (.slice (some ⟨x1.heap.size, 0, none⟩) 0 0) ([] : List Int) x2) := Lib.hid (by rw [← hx2]; exact fresh_zero w.heap.size x1 _ rfl (by omega))
      have c2_0 := (HB2.out.cell (p := ⟨w.heap.size, 0, none⟩) (by show w.heap.size < _; omega)).trans b1_0
      have c2_1 := (HB2.out.cell (p := ⟨w.heap.size, 1, none⟩) (by show w.heap.size < _; omega)).trans b1_1
      have c2_2 := (HB2.out.cell (p := ⟨w.heap.size, 2, none⟩) (by show w.heap.size < _; omega)).trans b1_2
      have c2_3 := (HB2.out.cell (p := ⟨w.heap.size, 3, none⟩) (by show w.heap.size < _; omega)).trans b1_3
      have c2_4 := (HB2.out.cell (p := ⟨w.heap.size, 4, none⟩) (by show w.heap.size < _; omega)).trans b1_4
      have cf2 : ∀ o, x2.frozen? ⟨w.heap.size, o, none⟩ = false := fun o => (HB2.out.frozen (p := ⟨w.heap.size, o, none⟩) (by show w.heap.size < _; omega)).trans (bf1 o)
      have HBW : Hid (Below w.heap.size w x2) := Lib.hid (HB1.out.trans (HB2.out.mono (by omega)))
      rw [hx2]
      clear hx2
      refine hK.out _ _ (Or.inr hS2) ?_
      clear hK K'
      try simp only [Act.put,j1,j2,j3,j4,j5,j6]
      refine wpAnyG_one (i := 12) (by kernel_rfl) rfl hS2 (fun K' hK => ?_)
      simp only [j1,j2,j3]
      have HSRC : Hid (Src Tryz.prog 1 36 (.slice (some ⟨g, 0, none⟩) (m + 1) cp) p.args.length (p.args.flatMap intE) x2) := Lib.hid (by
        have h1 := Src.ofSl (P := Tryz.prog) (tx := 36) (enc := intE) (sz := 1) (xs := p.args) Tryz.underlying36 (fun _ => rfl) intOne (HSL.out.keep HBW.out) cp
        rwa [HLM.out] at h1 ⊢)
      rw [if_pos (by rfl)]
      refine step_append_ch (.tmp 123) (.tmp 128) 36 36 w.heap.size 3 iI (.int .i64 0) 1 8 Tryz.underlying36 hI hI0 hI1 hI2 rfl (by decide) (some ⟨x1.heap.size, 0, none⟩) 0 0 ([] : List Int) HFZ.out (.slice (some ⟨g, 0, none⟩) (m + 1) cp) p.args HSRC.out (by simp; omega) (by omega) ?_ ?_ ?_ ?_
      · rfl
      · rfl
      · rfl
      intro a1 c1 x3 us hus hf hc hk
      have HUS : Hid (us = p.args) := Lib.hid (by simpa using hus.out)
      rw [HUS.out] at hf
      have HLS : Hid (us.length = m + 1) := Lib.hid (by rw [HUS.out]; exact HLM.out)
      rw [HLS.out]
      have HF := Lib.hid hf
      have HK := Lib.hid hk
      have HC := Lib.hid hc
      have HBX : Hid (Below w.heap.size w x3) := Lib.hid (HBW.out.trans (hc.below (by omega) (fun i hi => by simp [blkOf] at hi; omega)))
      have hz3 := hc.size
      have hlt3 : X < x3.heap.size := by omega
      have hS3 : x3.cell? ⟨X, 2, none⟩ = some (.bool p.priv) ∧ x3.cell? ⟨X, 1, none⟩ = some (.slice (some ⟨g, 0, none⟩) (m + 1) cp) := ⟨(HBX.out.cell (p := ⟨X, 2, none⟩) klt).trans k_2, (HBX.out.cell (p := ⟨X, 1, none⟩) klt).trans k_1⟩
      clear hus hf hc hk
      have hHE : ¬ w.heap.size = x1.heap.size := by omega
      have q_0 : x3.cell? ⟨w.heap.size, 0, none⟩ = some (.int .i64 0) := (HC.out.cell (p := ⟨w.heap.size, 0, none⟩) (by show w.heap.size < _; omega) (by simpa [blkOf] using hHE)).trans c2_0
      have q_1 : x3.cell? ⟨w.heap.size, 1, none⟩ = some (.int .i64 0) := (HC.out.cell (p := ⟨w.heap.size, 1, none⟩) (by show w.heap.size < _; omega) (by simpa [blkOf] using hHE)).trans c2_1
      have q_2 : x3.cell? ⟨w.heap.size, 2, none⟩ = some (.bool false) := (HC.out.cell (p := ⟨w.heap.size, 2, none⟩) (by show w.heap.size < _; omega) (by simpa [blkOf] using hHE)).trans c2_2
      have q_3 : x3.cell? ⟨w.heap.size, 3, none⟩ = some (.slice none 0 0) := (HC.out.cell (p := ⟨w.heap.size, 3, none⟩) (by show w.heap.size < _; omega) (by simpa [blkOf] using hHE)).trans c2_3
      have q_4 : x3.cell? ⟨w.heap.size, 4, none⟩ = some (.string ⟨#[]⟩) := (HC.out.cell (p := ⟨w.heap.size, 4, none⟩) (by show w.heap.size < _; omega) (by simpa [blkOf] using hHE)).trans c2_4
      have qf : ∀ o, x3.frozen? ⟨w.heap.size, o, none⟩ = false := fun o => (HC.out.frozen (p := ⟨w.heap.size, o, none⟩) (by show w.heap.size < _; omega) (by simpa [blkOf] using hHE)).trans (cf2 o)
      have hHlt : w.heap.size < x3.heap.size := by omega
      refine hK.out _ _ (Or.inr hS3) ?_
      clear hK K'
      try simp only [Act.put,j1,j2,j3,j4,j5,j6]
      refine tW ?_ 13 rfl ?_ ?_; rotate_left
      · intro w' hSw; go_simp; try rfl
      try simp only [Act.put,j1,j2,j3,j4,j5,j6]
      refine wpAnyG_one (i := 15) (by kernel_rfl) rfl hS3 (fun K' hK => ?_)
      simp only [j1,j2,j3]
      go_simp
      refine hK.out _ _ (Or.inl rfl) ?_
      clear hK K'
      try simp only [Act.put,j1,j2,j3,j4,j5,j6]
      refine wpAnyG_done (by kernel_rfl) ?_ _
      go_wp2_with fail
      go_meet
      exact csiR_store (by omega) (by omega) (fun hb => by have := HK.out _ hb; simp [blkOf] at this; omega) ⟨_, q_0⟩ ⟨_, q_1⟩ ⟨_, q_2⟩ ⟨_, q_3⟩ ⟨_, q_4⟩ HF.out HLM.out HBX.out
  case rest =>
    obtain ⟨H, a1, c1, rfl, hH1, hH2, hHa, h_0, h_1, h_2, h_3, h_4, hf, hb⟩ := hcut
    have HF := Lib.hid hf
    have HB := Lib.hid hb
    have HQ0 := Lib.hid (HP.out.keep hb)
    have HHA := Lib.hid hHa
    have hHX : ¬ H = X := by omega
    clear hf hb hHa
    go_wp2_with fail
    refine (ground_r X lo _ (some ⟨g, 0, none⟩) al cp cl L _ HQ0.out).mono ?_
    rintro e w1 ⟨rfl, g', hg', hq, hc⟩
    have HQ := Lib.hid hq
    have HC := Lib.hid hc
    have hz1 := hc.size
    have hHl : H < w1.heap.size := by omega
    have b_0 : w1.cell? ⟨H, 0, none⟩ = some (.int .i64 4) := (hc.cell (p := ⟨H, 0, none⟩) hH2 hHX).trans h_0
    have b_1 : w1.cell? ⟨H, 1, none⟩ = some (.int .i64 n) := (hc.cell (p := ⟨H, 1, none⟩) hH2 hHX).trans h_1
    have b_2 : w1.cell? ⟨H, 2, none⟩ = some (.bool p.priv) := (hc.cell (p := ⟨H, 2, none⟩) hH2 hHX).trans h_2
    have b_3 : w1.cell? ⟨H, 3, none⟩ = some (.slice a1 (m + 1) c1) := (hc.cell (p := ⟨H, 3, none⟩) hH2 hHX).trans h_3
    have b_4 : w1.cell? ⟨H, 4, none⟩ = some (.string ⟨#[]⟩) := (hc.cell (p := ⟨H, 4, none⟩) hH2 hHX).trans h_4
    have hfa := HF.out.ch hc (fun k hk e => by have := (FreshIn.blks HF.out k hk).1; omega)
    have HFA : Hid (FreshIn intE 3 1 lo w1.heap.size (.slice a1 p.args.length c1) p.args w1) := Lib.hid (hfa.mono hlo (Nat.le_refl _))
    have HD : Hid (∀ k ∈ blkOf a1, k ≠ X ∧ k ∉ blkOf (some (⟨g', 0, none⟩ : Addr)) ∧ k ∉ acB al L) := Lib.hid (fun k hk => by
      have h1 := FreshIn.blks HF.out k hk
      refine ⟨by omega, fun h => ?_, fun h => ?_⟩
      · simp [blkOf] at h; omega
      · have := (HP.out.ps.ro.bd actL k h).2; omega)
    have HT : Hid (Calls Tryz.prog 148 #[.pointer (some ⟨X, 0, none⟩), .agg #[.int .i64 4, .int .i64 n, .bool p.priv, .slice a1 (m + 1) c1, .string ⟨#[]⟩]] w1 (fun e w' => QR X lo (pz, [⟨4, n, p.priv, p.args, e0⟩]) L e w1 w')) := Lib.hid (by
      have h1 := tell_r X lo pz (some ⟨g', 0, none⟩) al a1 0 cl c1 L ⟨4, n, p.priv, p.args, e0⟩ w1 HQ.out HFA.out HD.out hL (by show p.args.length ≤ _; omega)
      rw [show (⟨4, n, p.priv, p.args, e0⟩ : AV).args.length = m + 1 from HLM.out] at h1
      exact h1)
    clear hq hc hfa h_0 h_1 h_2 h_3 h_4
    go_wp2_with fail
    refine HT.out.mono ?_
    rintro e w2 hq
    have HQ2 := Lib.hid (hq.base ((HB.out.mono hlo).trans (HQ0.out.below1 HC.out)))
    obtain ⟨rfl, _⟩ := hq
    go_wp2_with fail
    refine bodyPost_end (v := .tuple #[]) (by simp [results, Tryz.results135]) rfl ?_
    rw [HR.out]
    exact HQ2.out
end
section
open Go.RowKit
theorem takeC_r (p : PV) (X lo : Nat) (ap al : Option Addr) (cp cl : Nat) (L : List ActA) (b : UInt8) (w : World) (h : QS X lo p ap cp L al cl w) (hL : L.length ≤ 1048576) (hs : p.state = 2) (hAA : argsB p.args = true) (hT : p.text = e0) (hU : p.utf = e0) :
    Calls Tryz.prog 106 #[.pointer (some ⟨X, 0, none⟩), .int .i64 b.toNat] w (fun e w' => QR X lo (cstep p b) L e w w') := by
  have HCA := Lib.hid (csi_r p X lo ap al cp cl L b w h hL hs hAA hT hU)
  have k_0 : w.cell? ⟨X, 0, none⟩ = some (.int .i64 2) := by rw [h.ps.c0, hs]
  have kf := h.ps.fz
  have klt := h.ps.lt
  clear h hs hAA hT hU
  go_enter Tryz.func106, Tryz.ntmps106
  go_wp2_with fail
  refine HCA.out.mono ?_
  rintro e w1 hq
  have HQ := Lib.hid hq
  obtain ⟨rfl, _⟩ := hq
  go_wp2_with fail
  refine bodyPost_end (v := .tuple #[]) (by simp [results, Tryz.results106]) rfl ?_
  exact HQ.out
theorem take_r (p : PV) (X lo : Nat) (ap al : Option Addr) (cp cl : Nat) (L : List ActA) (b : UInt8) (w : World) (h : QS X lo p ap cp L al cl w) (hL : L.length ≤ 1048575) (ok : PvOK p) :
    Calls Tryz.prog 106 #[.pointer (some ⟨X, 0, none⟩), .int .i64 b.toNat] w (fun e w' => QR X lo (pstep p b) L e w w') := by
  obtain ⟨k1, k2, k3, k4, k5, k6, k7⟩ := ok
  have hL' : L.length ≤ 1048576 := by omega
  unfold pstep
  obtain ⟨s, a, v, t, u⟩ := p
  simp only at k1 k2 k3 k4 k5 k6 k7 ⊢
  by_cases s0 : s = 0
  · rw [if_pos s0]
    obtain ⟨a1, a4⟩ := k3 (by omega)
    have a2 := k5 (by omega) (by omega)
    have a3 := k7 (by omega)
    subst s0 a1 a2 a3 a4
    exact takeG_r X lo ap al cp cl L b w h hL'
  rw [if_neg s0]
  by_cases s1 : s = 1
  · rw [if_pos s1]
    obtain ⟨a1, a4⟩ := k3 (by omega)
    have a2 := k5 (by omega) (by omega)
    have a3 := k7 (by omega)
    subst s1 a1 a2 a3 a4
    exact takeE_r X lo ap al cp cl L b w h hL'
  rw [if_neg s1]
  by_cases s2 : s = 2
  · rw [if_pos s2]
    exact takeC_r _ X lo ap al cp cl L b w h hL' s2 (k2 s2) (k5 (by omega) (by omega)) (k7 (by omega))
  rw [if_neg s2]
  by_cases s3 : s = 3
  · rw [if_pos s3]
    obtain ⟨a1, a4⟩ := k3 (by omega)
    have a2 := k5 (by omega) (by omega)
    have a3 := k7 (by omega)
    subst s3 a1 a2 a3 a4
    exact takeS_r X lo ap al cp cl L b w h hL'
  rw [if_neg s3]
  by_cases s4 : s = 4
  · rw [if_pos s4]
    obtain ⟨a1, a4⟩ := k3 (by omega)
    have a3 := k7 (by omega)
    have hT := titB_sz (k4 (by omega))
    subst s4 a1 a3 a4
    exact takeO_r t X lo ap al cp cl L b w h hL' hT
  rw [if_neg s4]
  by_cases s5 : s = 5
  · rw [if_pos s5]
    obtain ⟨a1, a4⟩ := k3 (by omega)
    have a3 := k7 (by omega)
    subst s5 a1 a3 a4
    exact takeQ_r t X lo ap al cp cl L b w h hL'
  rw [if_neg s5]
  have s6 : s = 6 := by omega
  obtain ⟨a1, a4⟩ := k3 (by omega)
  have a2 := k5 (by omega) (by omega)
  have hT := k6 s6
  subst s6 a1 a2 a4
  exact takeU_r u X lo ap al cp cl L b w h hL hT
end
section
open Go.RowKit
theorem fresh_zeroA (lo : Nat) (w : World) (g : Nat) (hg : g = w.heap.size) (h : lo ≤ w.heap.size) : FreshIn actE 38 5 lo (w.alloc (.cells #[] 38)).heap.size (.slice (some ⟨g, 0, none⟩) 0 0) [] (w.alloc (.cells #[] 38)) := by
  subst hg
  exact (Fresh.of_own (World.ownsRow_made (base := lo) w #[] 0 h (by decide) rfl) rfl rfl).here
theorem actZero (lo : Nat) (w : World) (g : Nat) (hg : g = w.heap.size) (h : lo ≤ w.heap.size) : ActO lo [] (some ⟨g, 0, none⟩) 0 (w.alloc (.cells #[] 38)) :=
  ⟨fresh_zeroA lo w g hg h, by simp, by simp [roB, blkOf]⟩
def OutP (G : PV × List AV) (w : World) (e : Ending) (w' : World) : Prop :=
  ∃ (ap : Option Addr) (cp : Nat) (al : Option Addr) (cl : Nat) (L : List ActA), e = .returned (.tuple #[.agg #[.int .i64 G.1.state, .slice ap G.1.args.length cp, .bool G.1.priv, .string G.1.text, .string G.1.utf], .slice al L.length cl]) ∧ FreshIn intE 3 1 w.heap.size w'.heap.size (.slice ap G.1.args.length cp) G.1.args w' ∧ ActO w.heap.size L al cl w' ∧ (∀ k ∈ blkOf ap, k ∉ acB al L) ∧ L.map (·.A) = G.2 ∧ Below w.heap.size w w'
theorem QS.box {X lo : Nat} {p : PV} {ap al : Option Addr} {cp cl : Nat} {w : World} (hlo : lo ≤ X) (hlt : X < w.heap.size) (ha : FreshIn intE 3 1 lo w.heap.size (.slice ap p.args.length cp) p.args w) (hro : ActO lo [] al cl w)
    (c0 : w.cell? ⟨X, 0, none⟩ = some (.int .i64 p.state)) (c1 : w.cell? ⟨X, 1, none⟩ = some (.slice ap p.args.length cp)) (c2 : w.cell? ⟨X, 2, none⟩ = some (.bool p.priv))
    (c3 : w.cell? ⟨X, 3, none⟩ = some (.string p.text)) (c4 : w.cell? ⟨X, 4, none⟩ = some (.string p.utf)) (c5 : w.cell? ⟨X, 5, none⟩ = some (.slice al 0 cl)) (fz : ∀ o, w.frozen? ⟨X, o, none⟩ = false) (hn : X ∉ blkOf ap ++ blkOf al) (hd : ∀ k ∈ blkOf ap, k ∉ blkOf al) : QS X lo p ap cp [] al cl w :=
  ⟨⟨c0, c1, c2, c3, c4, fz, hlt, ha, hro, by simpa [acB, roB] using hn, fun k hk => by simpa [acB, roB] using hd k hk⟩, c5, hlo⟩
theorem run_r (ap : Option Addr) (cp : Nat) (p : PV) (s : ByteArray) (w : World) (ha : Sl intE 1 w ap p.args) (hs : s.size ≤ 131072) (ok : PvOK p) :
    Calls Tryz.prog 68 #[.agg #[.int .i64 p.state, .slice ap p.args.length cp, .bool p.priv, .string p.text, .string p.utf], .string s] w (OutP (prun p s.data.toList) w) := by
  have hl8 : p.args.length ≤ 1048576 := by
    by_cases h2 : p.state = 2
    · have := ok.csi h2
      simp only [argsB, Bool.and_eq_true, decide_eq_true_eq] at this
      omega
    · rw [(ok.nocsi h2).1]; simp
  have HOK := Lib.hid ok
  have HSZ : Hid (s.data.toList.length = s.size) := Lib.hid rfl
  have HOWN := Lib.hid (own_r ap cp p ((w.alloc (.cells #[.int .i64 p.state, .slice ap p.args.length cp, .bool p.priv, .string p.text, .string p.utf] 42)).alloc (.cells #[.int .i64 0, .slice none 0 0, .bool false, .string ⟨#[]⟩, .string ⟨#[]⟩] 42)) ((ha.alloc _).alloc _) hl8)
  clear ok ha
  obtain ⟨R, hR⟩ : ∃ R, prun p s.data.toList = R := ⟨_, rfl⟩
  have HRE := Lib.hid hR
  rw [hR]
  clear hR
  go_enter Tryz.func68, Tryz.ntmps68
  go_wp2_with fail
  refine HOWN.out.mono ?_
  clear HOWN
  rintro e w1 ⟨a1, c1, rfl, hf, hb⟩
  have HF := Lib.hid hf
  have HB := Lib.hid hb
  have hz := hb.size
  simp only [World.size_alloc] at hz
  have hl0 : w.heap.size < w1.heap.size := by omega
  have hl1 : w.heap.size + 1 < w1.heap.size := by omega
  have r1_0 : w1.cell? ⟨w.heap.size + 1, 0, none⟩ = some (.int .i64 0) := (hb.cell (p := ⟨w.heap.size + 1, 0, none⟩) (by show w.heap.size + 1 < _; (try simp) <;> omega)).trans (by simp [go_sem])
  have r1_1 : w1.cell? ⟨w.heap.size + 1, 1, none⟩ = some (.slice none 0 0) := (hb.cell (p := ⟨w.heap.size + 1, 1, none⟩) (by show w.heap.size + 1 < _; (try simp) <;> omega)).trans (by simp [go_sem])
  have r1_2 : w1.cell? ⟨w.heap.size + 1, 2, none⟩ = some (.bool false) := (hb.cell (p := ⟨w.heap.size + 1, 2, none⟩) (by show w.heap.size + 1 < _; (try simp) <;> omega)).trans (by simp [go_sem])
  have r1_3 : w1.cell? ⟨w.heap.size + 1, 3, none⟩ = some (.string ⟨#[]⟩) := (hb.cell (p := ⟨w.heap.size + 1, 3, none⟩) (by show w.heap.size + 1 < _; (try simp) <;> omega)).trans (by simp [go_sem])
  have r1_4 : w1.cell? ⟨w.heap.size + 1, 4, none⟩ = some (.string ⟨#[]⟩) := (hb.cell (p := ⟨w.heap.size + 1, 4, none⟩) (by show w.heap.size + 1 < _; (try simp) <;> omega)).trans (by simp [go_sem])
  have rf1 : ∀ o, w1.frozen? ⟨w.heap.size + 1, o, none⟩ = false := fun o => (hb.frozen (p := ⟨w.heap.size + 1, o, none⟩) (by show w.heap.size + 1 < _; (try simp) <;> omega)).trans (by simp [go_sem])
  have HBW : Hid (Below w.heap.size w w1) := Lib.hid (((Below.refl w.heap.size w).alloc (Nat.le_refl _) _ |>.alloc (by simp) _).trans (hb.mono (by simp only [World.size_alloc]; omega)))
  clear hf hb
  go_upto_region 2 with fail
  obtain ⟨x, hx⟩ : ∃ x, ((w1.alloc (.cells #[] 38)).alloc (.cells #[.int .i64 p.state, .slice a1 p.args.length c1, .bool p.priv, .string p.text, .string p.utf, .slice (some ⟨w1.heap.size, 0, none⟩) 0 0] 130)) = x := ⟨_, rfl⟩
  have HBX : Hid (Below w1.heap.size w1 x) := Lib.hid (by rw [← hx]; exact ((Below.refl _ _).alloc (Nat.le_refl _) _).alloc (by simp) _)
  have hzx : w1.heap.size + 1 < x.heap.size := by rw [← hx]; simp
  have HQ0 : Hid (QS (w1.heap.size + 1) (w.heap.size + 2) p a1 c1 [] (some ⟨w1.heap.size, 0, none⟩) 0 x) := Lib.hid (by
    have h1 := HF.out.ch (M := fun _ => False) (Ch.of_below HBX.out) (fun _ _ h => h)
    have hb1 := FreshIn.blks HF.out
    simp only [World.size_alloc] at h1 hb1
    refine QS.box (by omega) hzx h1 ?_ ?_ ?_ ?_ ?_ ?_ ?_ ?_ ?_ ?_
    · rw [← hx]
      exact (actZero (w.heap.size + 2) w1 w1.heap.size rfl (by omega)).keep actL ((Below.refl _ _).alloc (Nat.le_refl _) _)
    · rw [← hx]; simp [go_sem]
    · rw [← hx]; simp [go_sem]
    · rw [← hx]; simp [go_sem]
    · rw [← hx]; simp [go_sem]
    · rw [← hx]; simp [go_sem]
    · rw [← hx]; simp [go_sem]
    · intro o; rw [← hx]; simp [go_sem]
    · intro h
      rcases List.mem_append.1 h with h | h
      · have := (hb1 _ h).2; omega
      · simp [blkOf] at h
    · intro k hk h
      have := (hb1 _ hk).2
      simp [blkOf] at h
      omega)
  rw [hx]
  clear hx
  have HBWX : Hid (Below w.heap.size w x) := Lib.hid (HBW.out.trans (HBX.out.mono (by omega)))
  have hx1 : w.heap.size + 1 < x.heap.size := by omega
  have x1_0 := kC HBX.out (by omega) r1_0
  have x1_1 := kC HBX.out (by omega) r1_1
  have x1_2 := kC HBX.out (by omega) r1_2
  have x1_3 := kC HBX.out (by omega) r1_3
  have x1_4 := kC HBX.out (by omega) r1_4
  have xf1 : ∀ o, x.frozen? ⟨w.heap.size + 1, o, none⟩ = false := fun o => (HBX.out.frozen (p := ⟨w.heap.size + 1, o, none⟩) (by show w.heap.size + 1 < _; omega)).trans (rf1 o)
  clear r1_0 r1_1 r1_2 r1_3 r1_4 rf1
  obtain ⟨X, hX⟩ : ∃ X, w1.heap.size + 1 = X := ⟨_, rfl⟩
  have hXlo : w.heap.size + 2 < X := by omega
  have hXx : X < x.heap.size := by omega
  rw [hX] at HQ0 ⊢
  clear hX hzx hl0 hl1 hz
  go_wp2_with fail
  go_loopw [7] (fun i wr => ∃ (k : Nat) (a5 : Option Addr) (c5 : Nat) (L5 : List ActA) (al5 : Option Addr) (cl5 : Nat), k ≤ s.size ∧ i = .int .i64 k ∧ Hid (QS X (w.heap.size + 2) (prun p (s.data.toList.take k)).1 a5 c5 L5 al5 cl5 wr ∧ L5.map (·.A) = (prun p (s.data.toList.take k)).2 ∧ Below (w.heap.size + 2) x wr)) (fun i _ => s.size - (intOf i).toNat)
  case atStart => exact ⟨0, a1, c1, [], some ⟨w1.heap.size, 0, none⟩, 0, Nat.zero_le _, rfl, Lib.hid ⟨HQ0.out, rfl, Below.refl _ _⟩⟩
  case round =>
    obtain ⟨k, a5, c5, L5, al5, cl5, hk, rfl, HPP⟩ := hrel
    have hsz := HPP.out.2.2.size
    by_cases hlt : k < s.size
    · obtain ⟨b, hbk⟩ : ∃ b, s[k] = b := ⟨_, rfl⟩
      have HBK : Hid (s.data.toList[k]'(by rw [HSZ.out]; exact hlt) = b) := Lib.hid hbk
      have h256 := b.toNat_lt
      have HLL : Hid (L5.length ≤ 1048575) := Lib.hid (by
        have h1 := congrArg List.length HPP.out.2.1
        have h2 := run_len (s.data.toList.take k) p
        have h3 := HSZ.out
        simp only [List.length_map, List.length_take] at h1 h2
        omega)
      obtain ⟨Pk, hPk⟩ : ∃ P, prun p (s.data.toList.take k) = P := ⟨_, rfl⟩
      have HPK := Lib.hid hPk
      rw [hPk] at HPP
      clear hPk
      have hu8 : IntKind.i64.wrap (b.toNat : Int) = (b.toNat : Int) := IntWalk.i64_in _ ⟨by omega, by omega⟩
      have HTK := Lib.hid (take_r Pk.1 X (w.heap.size + 2) a5 al5 c5 cl5 L5 b wr HPP.out.1 HLL.out (by rw [← HPK.out]; exact prun_ok _ HOK.out))
      go_wp2_with fail
      refine HTK.out.mono ?_
      clear HTK
      rintro e w6 ⟨rfl, a7, c7, L7, al7, cl7, g1, g2, g3⟩
      have G1 := Lib.hid g1
      have G2 := Lib.hid g2
      have G3 := Lib.hid g3
      clear g1 g2 g3
      go_wp2_with fail
      go_roundw
      case rel =>
        have hs : prun p (s.data.toList.take (k + 1)) = ((pstep Pk.1 b).1, Pk.2 ++ (pstep Pk.1 b).2) := by
          rw [List.take_succ_eq_append_getElem (by rw [HSZ.out]; exact hlt), prun_snoc, HPK.out, HBK.out]
        exact ⟨k + 1, a7, c7, L7, al7, cl7, by omega, by go_num, Lib.hid ⟨by rw [hs]; exact G1.out, by rw [hs, G2.out, HPP.out.2.1], HPP.out.2.2.trans G3.out⟩⟩
      case measure => simp [intOf]; omega
    · obtain rfl : k = s.size := by omega
      rw [← HSZ.out, List.take_length] at HPP
      rw [HRE.out] at HPP
      have g1 := HPP.out.1
      have g3 := HPP.out.2.2
      have v0 := g1.ps.c0
      have v1 := g1.ps.c1
      have v2 := g1.ps.c2
      have v3 := g1.ps.c3
      have v4 := g1.ps.c4
      have v5 := g1.c5
      have vlt := g1.ps.lt
      have u0 : wr.cell? ⟨w.heap.size + 1, 0, none⟩ = some (.int .i64 0) := (g3.cell (p := ⟨w.heap.size + 1, 0, none⟩) (by show w.heap.size + 1 < _; omega)).trans x1_0
      have u1 : wr.cell? ⟨w.heap.size + 1, 1, none⟩ = some (.slice none 0 0) := (g3.cell (p := ⟨w.heap.size + 1, 1, none⟩) (by show w.heap.size + 1 < _; omega)).trans x1_1
      have u2 : wr.cell? ⟨w.heap.size + 1, 2, none⟩ = some (.bool false) := (g3.cell (p := ⟨w.heap.size + 1, 2, none⟩) (by show w.heap.size + 1 < _; omega)).trans x1_2
      have u3 : wr.cell? ⟨w.heap.size + 1, 3, none⟩ = some (.string ⟨#[]⟩) := (g3.cell (p := ⟨w.heap.size + 1, 3, none⟩) (by show w.heap.size + 1 < _; omega)).trans x1_3
      have u4 : wr.cell? ⟨w.heap.size + 1, 4, none⟩ = some (.string ⟨#[]⟩) := (g3.cell (p := ⟨w.heap.size + 1, 4, none⟩) (by show w.heap.size + 1 < _; omega)).trans x1_4
      have uf : ∀ o, wr.frozen? ⟨w.heap.size + 1, o, none⟩ = false := fun o => (g3.frozen (p := ⟨w.heap.size + 1, o, none⟩) (by show w.heap.size + 1 < _; omega)).trans (xf1 o)
      have ul : w.heap.size + 1 < wr.heap.size := by omega
      have hRl : R.1.args.length ≤ 1048576 := by
        have h1 := prun_ok s.data.toList HOK.out
        rw [HRE.out] at h1
        by_cases h2 : R.1.state = 2
        · have := h1.csi h2
          simp only [argsB, Bool.and_eq_true, decide_eq_true_eq] at this
          omega
        · rw [(h1.nocsi h2).1]; simp
      have HOW : Hid (∀ W, Below wr.heap.size wr W → Calls Tryz.prog 105 #[.agg #[.int .i64 R.1.state, .slice a5 R.1.args.length c5, .bool R.1.priv, .string R.1.text, .string R.1.utf]] W (ParR R.1 W)) := Lib.hid (fun W hW => own_r a5 c5 R.1 W (Sl.keep (w := wr) (FreshIn.sl (enc := intE) (fun _ => rfl) HPP.out.1.ps.args) hW) hRl)
      clear g1 g3
      go_upto_region 6 with fail
      have hS0 : wr.cell? ⟨X, 0, none⟩ = some (.int .i64 R.1.state) ∧ wr.cell? ⟨X, 1, none⟩ = some (.slice a5 R.1.args.length c5) ∧ wr.cell? ⟨X, 2, none⟩ = some (.bool R.1.priv) ∧ wr.cell? ⟨X, 3, none⟩ = some (.string R.1.text) ∧ wr.cell? ⟨X, 4, none⟩ = some (.string R.1.utf) ∧ wr.cell? ⟨X, 5, none⟩ = some (.slice al5 L5.length cl5) := ⟨v0, v1, v2, v3, v4, v5⟩
      refine wp_region_G (fun w' => w'.cell? ⟨X, 0, none⟩ = some (.int .i64 R.1.state) ∧ w'.cell? ⟨X, 1, none⟩ = some (.slice a5 R.1.args.length c5) ∧ w'.cell? ⟨X, 2, none⟩ = some (.bool R.1.priv) ∧ w'.cell? ⟨X, 3, none⟩ = some (.string R.1.text) ∧ w'.cell? ⟨X, 4, none⟩ = some (.string R.1.utf) ∧ w'.cell? ⟨X, 5, none⟩ = some (.slice al5 L5.length cl5)) (fun i => false) (by kernel_rfl) hS0 ?_
      refine tW ?_ 0 rfl ?_ ?_; rotate_left
      · intro w' hSw; go_simp; try rfl
      try simp only [Act.put,j1,j2,j3,j4,j5,j6]
      refine tW ?_ 1 rfl ?_ ?_; rotate_left
      · intro w' hSw; go_simp; try rfl
      try simp only [Act.put,j1,j2,j3,j4,j5,j6]
      refine tW ?_ 2 rfl ?_ ?_; rotate_left
      · intro w' hSw; go_simp; try rfl
      try simp only [Act.put,j1,j2,j3,j4,j5,j6]
      refine tL ?_ 3 rfl hS0 ?_ ?_; rotate_left
      · intro w' hSw; obtain ⟨s0, s1, s2, s3, s4, s5⟩ := hSw; go_simp; try rfl
      try simp only [Act.put,j1,j2,j3,j4,j5,j6]
      refine tW ?_ 5 rfl ?_ ?_; rotate_left
      · intro w' hSw; go_simp; try rfl
      try simp only [Act.put,j1,j2,j3,j4,j5,j6]
      refine tW ?_ 6 rfl ?_ ?_; rotate_left
      · intro w' hSw; go_simp; try rfl
      try simp only [Act.put,j1,j2,j3,j4,j5,j6]
      refine tW ?_ 7 rfl ?_ ?_; rotate_left
      · intro w' hSw; go_simp; try rfl
      try simp only [Act.put,j1,j2,j3,j4,j5,j6]
      refine tL ?_ 8 rfl hS0 ?_ ?_; rotate_left
      · intro w' hSw; obtain ⟨s0, s1, s2, s3, s4, s5⟩ := hSw; go_simp; try rfl
      try simp only [Act.put,j1,j2,j3,j4,j5,j6]
      refine wpAnyG_one (i := 4) (by kernel_rfl) rfl hS0 (fun K' hK => ?_)
      simp only [j1,j2,j3]
      go_simp
      go_at_call 105
      refine (HOW.out wr.drew ((Below.refl _ _).drew)).mono ?_
      clear HOW
      rintro e w7 ⟨a8, c8, rfl, hf8, hb8⟩
      have HF8 := Lib.hid hf8
      have HB8 : Hid (Below wr.heap.size wr w7) := Lib.hid (((Below.refl _ _).drew).trans hb8)
      have hz8 := HB8.out.size
      have hS1 : w7.cell? ⟨X, 0, none⟩ = some (.int .i64 R.1.state) ∧ w7.cell? ⟨X, 1, none⟩ = some (.slice a5 R.1.args.length c5) ∧ w7.cell? ⟨X, 2, none⟩ = some (.bool R.1.priv) ∧ w7.cell? ⟨X, 3, none⟩ = some (.string R.1.text) ∧ w7.cell? ⟨X, 4, none⟩ = some (.string R.1.utf) ∧ w7.cell? ⟨X, 5, none⟩ = some (.slice al5 L5.length cl5) := ⟨(HB8.out.cell (p := ⟨X, 0, none⟩) vlt).trans v0, (HB8.out.cell (p := ⟨X, 1, none⟩) vlt).trans v1, (HB8.out.cell (p := ⟨X, 2, none⟩) vlt).trans v2, (HB8.out.cell (p := ⟨X, 3, none⟩) vlt).trans v3, (HB8.out.cell (p := ⟨X, 4, none⟩) vlt).trans v4, (HB8.out.cell (p := ⟨X, 5, none⟩) vlt).trans v5⟩
      have y0 := kC HB8.out ul u0
      have y1 := kC HB8.out ul u1
      have y2 := kC HB8.out ul u2
      have y3 := kC HB8.out ul u3
      have y4 := kC HB8.out ul u4
      have yf := fun o => kF HB8.out ul (uf o)
      have yl : w.heap.size + 1 < w7.heap.size := by omega
      clear hf8 hb8
      refine hK.out _ _ (Or.inr hS1) ?_
      clear hK K'
      try simp only [Act.put,j1,j2,j3,j4,j5,j6]
      have hXn : ¬ w.heap.size + 1 = X := by omega
      have hXm : ¬ X = w.heap.size + 1 := by omega
      obtain ⟨h_0, h_1, h_2, h_3, h_4, h_5⟩ := id hS1
      refine wpAnyG_one (i := 9) (by kernel_rfl) rfl hS1 (fun K' hK => ?_)
      simp only [j1,j2,j3]
      go_simp
      refine hK.out _ _ (Or.inr (by refine ⟨?_, ?_, ?_, ?_, ?_, ?_⟩ <;> simp [go_sem, h_0, h_1, h_2, h_3, h_4, h_5, hXn, hXm])) ?_
      clear hK K'
      try simp only [Act.put,j1,j2,j3,j4,j5,j6]
      refine tW ?_ 10 rfl ?_ ?_; rotate_left
      · intro w' hSw; go_simp; try rfl
      try simp only [Act.put,j1,j2,j3,j4,j5,j6]
      refine wpAnyG_done (by kernel_rfl) ?_ _
      go_wp2_with fail
      refine bodyPost_ret (v := .tuple #[.agg #[.int .i64 R.1.state, .slice a8 R.1.args.length c8, .bool R.1.priv, .string R.1.text, .string R.1.utf], .slice al5 L5.length cl5]) (by simp [results, Tryz.results68, go_sem, y0, y1, y2, y3, y4, yl]) rfl ?_
      have hc : ∀ y0 y1 y2 y3 y4, Ch (fun k => k = w.heap.size + 1) w7 (((((w7.setCell ⟨w.heap.size + 1, 0, none⟩ y0).setCell ⟨w.heap.size + 1, 1, none⟩ y1).setCell ⟨w.heap.size + 1, 2, none⟩ y2).setCell ⟨w.heap.size + 1, 3, none⟩ y3).setCell ⟨w.heap.size + 1, 4, none⟩ y4) := fun y0 y1 y2 y3 y4 => ((((Ch.set1 _ _ _ _).setB _ _).setB _ _).setB _ _).setB _ _
      have hcx := hc (.int .i64 R.1.state) (.slice a8 R.1.args.length c8) (.bool R.1.priv) (.string R.1.text) (.string R.1.utf)
      have hp := HPP.out.1.ps
      have hro := hp.ro.keep actL HB8.out
      have hbl := hp.ro.bd actL
      have hf := HF8.out
      have hfb := FreshIn.blks hf
      simp only [World.size_drew] at hf hfb
      refine ⟨a8, c8, al5, cl5, L5, rfl, ?_, ?_, ?_, HPP.out.2.1, ?_⟩
      · exact (hf.ch hcx (fun k hk h => by have := (hfb k hk).1; omega)).mono (by omega) (Nat.le_refl _)
      · exact (hro.ch actL hcx (fun k hk h => by have := (hbl k hk).1; omega)).low actL (by omega)
      · intro k hk h
        have h1 := (hfb k hk).1
        have h2 := (hbl k h).2
        omega
      · exact ((HBWX.out.trans (HPP.out.2.2.mono (by omega))).trans (HB8.out.mono (by omega))).trans (hcx.below (by omega) (fun k h => by omega))
end
section
open Go.RowKit
theorem PvOK.len {p : PV} (h : PvOK p) : p.args.length ≤ 8 := by
  by_cases h2 : p.state = 2
  · have := h.csi h2
    simp only [argsB, Bool.and_eq_true, decide_eq_true_eq] at this
    omega
  · rw [(h.nocsi h2).1]; simp
theorem isEmp (s : ByteArray) : s.toList.isEmpty = decide (s.size = 0) := by
  by_cases h : s.size = 0
  · rw [size_e0.1 h]; rw [Lib.toList_data]; rfl
  · rw [notEmpty h]; simp [h]
end
section
open Go.RowKit
theorem convS {a : Option Addr} {ca : Nat} {xs : List UInt8} {w : World} (ha : Sl byteE 1 w a xs) : (convert 22 9 (.slice a xs.length ca)).run Tryz.prog w = .ok (.string ⟨xs.toArray⟩) w := by
  rcases ha with rfl | ⟨b, off, rfl, hlt, hc⟩
  · cases a with
    | none =>
      show (convert 22 9 (.slice none 0 ca)).run Tryz.prog w = _
      rw [run_convert_bytes_string w 22 9 5 none 0 ca Tryz.underlying22 Tryz.underlying5 Tryz.underlying9]
      rfl
    | some a => exact run_convert_bytes_back w _ _ 5 a ca [] Tryz.underlying22 Tryz.underlying5 Tryz.underlying9 (fun j hj => by simp at hj)
  · refine run_convert_bytes_back w _ _ 5 ⟨b, off, none⟩ ca xs Tryz.underlying22 Tryz.underlying5 Tryz.underlying9 (fun j hj => ?_)
    have := hc j hj 0 (by omega)
    simpa [byteE, Addr.add_lit] using this
end
section
open Go.RowKit
def ActS (w : World) (a : Option Addr) (rs : List ActA) : Prop := Sl actE 5 w a rs ∧ ∀ r ∈ rs, Sl intE 1 w r.aa r.A.args
theorem ActS.keep {w w' : World} {a : Option Addr} {rs : List ActA} (h : ActS w a rs) (hb : Below w.heap.size w w') : ActS w' a rs := ⟨h.1.keep hb, fun r hr => (h.2 r hr).keep hb⟩
end
section
open Go.RowKit
theorem isRune_t (n : Int) (w : World) (h : rnOK n) : Calls Tryz.prog 57 #[.int .i64 n] w fun e w' => e = .returned (.bool true) ∧ w = w' := by
  obtain ⟨h1, h2, h3, h4⟩ := h
  have g1 : Hid (inB n 32 1114111 = true) := Lib.hid (by simp [inB]; omega)
  have g2 : Hid (inB n 55296 57343 = false) := Lib.hid (by simp [inB]; omega)
  have g3 : (n != 127) = true := bne_iff_ne.2 h3
  have g4 : (n == 127) = false := beq_eq_false_iff_ne.2 h3
  clear h1 h2 h3 h4
  go_enter Tryz.func57, Tryz.ntmps57
  go_wp2_with (go_at_call 31; refine (within_c _ _ _ _).mono ?_; (first | rw [g1.out] | rw [g2.out]); rintro e w' ⟨rfl, rfl⟩)
  go_ret
  exact ⟨rfl, rfl⟩
theorem runeOK_t (n : Int) (w : World) (h : rnOK n) : Calls Tryz.prog 77 #[.int .i64 n] w fun e w' => e = .returned (.bool true) ∧ w = w' := by
  obtain ⟨h1, h2, h3, h4⟩ := h
  have g1 : Hid (inB n 0 1114111 = true) := Lib.hid (by simp [inB]; omega)
  have g2 : Hid (inB n 55296 57343 = false) := Lib.hid (by simp [inB]; omega)
  clear h1 h2 h3 h4
  go_enter Tryz.func77, Tryz.ntmps77
  go_wp2_with (go_at_call 60; refine (l01In_c _ _ _ _).mono ?_; (first | rw [g1.out] | rw [g2.out]); rintro e w' ⟨rfl, rfl⟩)
  go_ret
  exact ⟨rfl, rfl⟩
theorem ctlN_I {n : Int} (h : ctlN n) : ctlI n = true := by
  obtain ⟨m, rfl⟩ : ∃ m : Nat, n = m := ⟨n.toNat, by unfold ctlN at h; omega⟩
  rw [ctl_eq]
  unfold ctlN at h
  simp only [ctl, Bool.or_eq_true, Bool.and_eq_true, decide_eq_true_eq, beq_iff_eq]
  omega
theorem escN_I {n : Int} (h : escN n) : escI n = true := by
  obtain ⟨m, rfl⟩ : ∃ m : Nat, n = m := ⟨n.toNat, by unfold escN at h; omega⟩
  rw [esc_eq]
  unfold escN at h
  simp only [esc, Bool.or_eq_true, beq_iff_eq]
  omega
theorem empE0 : e0.toList.isEmpty = true := by rw [isEmp]; rfl
theorem isAction_t (a : AV) (aa : Option Addr) (ca : Nat) (w : World) (h : AcOK a) (ha : Sl intE 1 w aa a.args) :
    Calls Tryz.prog 35 #[.agg #[.int .i64 a.kind, .int .i64 a.n, .bool a.priv, .slice aa a.args.length ca, .string a.text]] w fun e w' => e = .returned (.bool true) ∧ Below w.heap.size w w' := by
  obtain ⟨kd, n, pv, xs, tx⟩ := a
  rcases h with ⟨hk, ht, hA, h1, h2⟩ | ⟨hp, hA, ⟨hk, hn, ht⟩ | ⟨ht, ⟨hk, hn⟩ | ⟨hk, hn⟩ | ⟨hk, hn⟩⟩⟩
  all_goals simp only at hk
  all_goals subst hk
  · simp only at ht hA h1 h2 ha ⊢
    subst ht
    have hl8 : xs.length ≤ 1048576 := by
      have := hA
      simp only [argsB, Bool.and_eq_true, decide_eq_true_eq] at this
      omega
    have g1 : Hid (inB n 64 126 = true) := Lib.hid (by simp [inB]; omega)
    have HA := Lib.hid (areArgs_c aa ca xs (w.alloc (.cells #[.int .i64 4, .int .i64 n, .bool pv, .slice aa xs.length ca, .string e0] 38)) (ha.alloc _) (by omega))
    rw [hA] at HA
    have hE := empE0
    clear hA h1 h2 ha
    go_enter Tryz.func35, Tryz.ntmps35
    go_wp2_with (first | (go_at_call 31; refine (within_c _ _ _ _).mono ?_; rw [g1.out]; rintro e w' ⟨rfl, rfl⟩) | (go_at_call 69; refine HA.out.mono ?_; rintro e w' ⟨rfl, rfl⟩))
    go_ret
    exact ⟨rfl, (Below.refl _ _).alloc (Nat.le_refl _) _⟩
  · simp only at hp hA hn ht ⊢
    subst hp hA hn
    have HT := Lib.hid ht
    have hz : tx.size ≤ 1048576 := by
      have := ht
      simp only [titB, Bool.and_eq_true, decide_eq_true_eq] at this
      omega
    clear ht ha
    go_enter Tryz.func35, Tryz.ntmps35
    go_wp2_with (go_at_call 52; refine (isTitle_c tx _ (by omega)).mono ?_; rw [HT.out]; rintro e w' ⟨rfl, rfl⟩)
    go_ret
    exact ⟨rfl, (Below.refl _ _).alloc (Nat.le_refl _) _⟩
  · simp only at hp hA hn ht ⊢
    subst hp hA ht
    have HT := Lib.hid hn
    have hE := empE0
    clear hn ha
    go_enter Tryz.func35, Tryz.ntmps35
    go_wp2_with (go_at_call 57; refine (isRune_t _ _ HT.out).mono ?_; rintro e w' ⟨rfl, rfl⟩)
    go_ret
    exact ⟨rfl, (Below.refl _ _).alloc (Nat.le_refl _) _⟩
  · simp only at hp hA hn ht ⊢
    subst hp hA ht
    have HT := Lib.hid (ctlN_I hn)
    have hE := empE0
    clear hn ha
    go_enter Tryz.func35, Tryz.ntmps35
    go_wp2_with (go_at_call 70; refine (isControl_c _ _).mono ?_; rw [HT.out]; rintro e w' ⟨rfl, rfl⟩)
    go_ret
    exact ⟨rfl, (Below.refl _ _).alloc (Nat.le_refl _) _⟩
  · simp only at hp hA hn ht ⊢
    subst hp hA ht
    have HT := Lib.hid (escN_I hn)
    have hE := empE0
    clear hn ha
    go_enter Tryz.func35, Tryz.ntmps35
    go_wp2_with (go_at_call 71; refine (isEscape_c _ _).mono ?_; rw [HT.out]; rintro e w' ⟨rfl, rfl⟩)
    go_ret
    exact ⟨rfl, (Below.refl _ _).alloc (Nat.le_refl _) _⟩
theorem specActionOK_t (a : AV) (aa : Option Addr) (ca : Nat) (w : World) (h : AcOK a) (ha : Sl intE 1 w aa a.args) :
    Calls Tryz.prog 38 #[.agg #[.int .i64 a.kind, .int .i64 a.n, .bool a.priv, .slice aa a.args.length ca, .string a.text]] w fun e w' => e = .returned (.bool true) ∧ Below w.heap.size w w' := by
  obtain ⟨kd, n, pv, xs, tx⟩ := a
  rcases h with ⟨hk, ht, hA, h1, h2⟩ | ⟨hp, hA, ⟨hk, hn, ht⟩ | ⟨ht, ⟨hk, hn⟩ | ⟨hk, hn⟩ | ⟨hk, hn⟩⟩⟩
  all_goals simp only at hk
  all_goals subst hk
  · simp only at ht hA h1 h2 ha ⊢
    subst ht
    have hl8 : xs.length ≤ 1048576 := by
      have := hA
      simp only [argsB, Bool.and_eq_true, decide_eq_true_eq] at this
      omega
    have g1 : Hid (inB n 64 126 = true) := Lib.hid (by simp [inB]; omega)
    simp only [argsB, Bool.and_eq_true, decide_eq_true_eq, List.all_eq_true] at hA
    obtain ⟨⟨l1, l8⟩, hall⟩ := hA
    have HALL := Lib.hid hall
    have HA := Lib.hid (ha.alloc (.cells #[.int .i64 4, .int .i64 n, .bool pv, .slice aa xs.length ca, .string e0] 38))
    have hE := empE0
    have g8 : ¬ (8 : Int) < (xs.length : Int) := by omega
    have g0 : (0 : Int) < (xs.length : Int) := by omega
    have g0d : decide (0 < xs.length) = true := decide_eq_true (by omega)
    clear hall h1 h2 ha
    go_enter Tryz.func38, Tryz.ntmps38
    go_wp2_with fail
    go_loop [3] (fun i => ∃ k : Nat, k ≤ xs.length ∧ i = .int .i64 k) (fun i => xs.length - (intOf i).toNat)
    case atStart => exact ⟨0, Nat.zero_le _, rfl⟩
    case round =>
      obtain ⟨k, hk, rfl⟩ := hrel
      by_cases hlt : k < xs.length
      · obtain ⟨b1, o1, rfl, hb1, hc1⟩ := HA.out.at hlt
        have c1 := hc1 k hlt 0 (by omega)
        simp only [intE, Nat.mul_one, Nat.add_zero, List.getElem?_cons_zero] at c1
        clear hc1
        have hx := HALL.out _ (List.getElem_mem hlt)
        obtain ⟨x, hxe⟩ : ∃ x, xs[k] = x := ⟨_, rfl⟩
        rw [hxe] at c1 hx
        clear hxe
        have HV : Hid (inB x (-1) 9999 = true) := Lib.hid (by simp [inB]; omega)
        clear hx
        go_wp2_with (go_at_call 60; refine (l01In_c _ _ _ _).mono ?_; rw [HV.out]; rintro e w' ⟨rfl, rfl⟩)
        go_round
        case rel => exact ⟨k + 1, by omega, by go_num⟩
        case measure => simp [intOf]; omega
      · obtain rfl : k = xs.length := by omega
        go_wp2_with (go_at_call 60; refine (l01In_c _ _ _ _).mono ?_; rw [g1.out]; rintro e w' ⟨rfl, rfl⟩)
        go_ret
        exact ⟨(by first | rfl | (show Ending.returned (.bool (decide (0 < xs.length))) = _; rw [g0d])), (Below.refl _ _).alloc (Nat.le_refl _) _⟩
  · simp only at hp hA hn ht ⊢
    subst hp hA hn
    have hz : tx.size ≤ 40 ∧ ∀ x ∈ tx.data.toList, 32 ≤ x.toNat ∧ x.toNat ≤ 126 := by
      simpa only [titB, Bool.and_eq_true, decide_eq_true_eq, List.all_eq_true] using ht
    obtain ⟨h40, hall⟩ := hz
    have HALL := Lib.hid hall
    have g40 : ¬ (40 : Int) < (tx.size : Int) := by omega
    clear ht ha hall
    go_enter Tryz.func38, Tryz.ntmps38
    go_wp2_with fail
    go_loop [3] (fun i => ∃ k : Nat, k ≤ 0 ∧ i = .int .i64 k) (fun _ => 0)
    case atStart => exact ⟨0, Nat.le_refl _, rfl⟩
    case round =>
      obtain ⟨k, hk, rfl⟩ := hrel
      obtain rfl : k = 0 := by omega
      go_wp2_with fail
      go_loop [4] (fun i => ∃ k : Nat, k ≤ tx.size ∧ i = .int .i64 k) (fun i => tx.size - (intOf i).toNat)
      case atStart => exact ⟨0, Nat.zero_le _, rfl⟩
      case round =>
        obtain ⟨k, hk, rfl⟩ := hrel
        by_cases hlt : k < tx.size
        · obtain ⟨x, hx⟩ : ∃ x, tx[k] = x := ⟨_, rfl⟩
          have hxm := HALL.out x (by rw [← hx]; exact Array.getElem_mem_toList hlt)
          have hu8 : IntKind.i64.wrap (x.toNat : Int) = (x.toNat : Int) := IntWalk.i64_in _ ⟨by omega, by omega⟩
          have HV : Hid (inB (x.toNat : Int) 32 126 = true) := Lib.hid (by simp [inB]; omega)
          clear hxm
          go_wp2_with (go_at_call 60; refine (l01In_c _ _ _ _).mono ?_; rw [HV.out]; rintro e w' ⟨rfl, rfl⟩)
          go_round
          case rel => exact ⟨k + 1, by omega, by go_num⟩
          case measure => simp [intOf]; omega
        · obtain rfl : k = tx.size := by omega
          go_wp2_with fail
          go_ret
          exact ⟨rfl, (Below.refl _ _).alloc (Nat.le_refl _) _⟩
  · simp only at hp hA hn ht ⊢
    subst hp hA ht
    have HT := Lib.hid hn
    have hE := empE0
    have g32 : (32 : Int) ≤ n := hn.1
    have g127 : (n != 127) = true := bne_iff_ne.2 hn.2.2.1
    have g127' : (n == 127) = false := beq_eq_false_iff_ne.2 hn.2.2.1
    clear hn ha
    go_enter Tryz.func38, Tryz.ntmps38
    go_wp2_with fail
    go_loop [3] (fun i => ∃ k : Nat, k ≤ 0 ∧ i = .int .i64 k) (fun _ => 0)
    case atStart => exact ⟨0, Nat.le_refl _, rfl⟩
    case round =>
      obtain ⟨k, hk, rfl⟩ := hrel
      obtain rfl : k = 0 := by omega
      go_wp2_with (go_at_call 77; refine (runeOK_t _ _ HT.out).mono ?_; rintro e w' ⟨rfl, rfl⟩)
      go_ret
      exact ⟨rfl, (Below.refl _ _).alloc (Nat.le_refl _) _⟩
  · simp only at hp hA hn ht ⊢
    subst hp hA ht
    have HT := Lib.hid (ctlN_I hn)
    have hE := empE0
    clear hn ha
    go_enter Tryz.func38, Tryz.ntmps38
    go_wp2_with fail
    go_loop [3] (fun i => ∃ k : Nat, k ≤ 0 ∧ i = .int .i64 k) (fun _ => 0)
    case atStart => exact ⟨0, Nat.le_refl _, rfl⟩
    case round =>
      obtain ⟨k, hk, rfl⟩ := hrel
      obtain rfl : k = 0 := by omega
      go_wp2_with (go_at_call 78; refine (control_r _ _).mono ?_; rw [HT.out]; rintro e w' ⟨rfl, rfl⟩)
      go_ret
      exact ⟨rfl, (Below.refl _ _).alloc (Nat.le_refl _) _⟩
  · simp only at hp hA hn ht ⊢
    subst hp hA ht
    have hE := empE0
    have hcs : n = 55 ∨ n = 56 ∨ n = 68 ∨ n = 69 ∨ n = 77 ∨ n = 99 := hn
    clear hn ha
    rcases hcs with rfl | rfl | rfl | rfl | rfl | rfl
    all_goals
      go_enter Tryz.func38, Tryz.ntmps38
      go_wp2_with fail
      go_loop [3] (fun i => ∃ k : Nat, k ≤ 0 ∧ i = .int .i64 k) (fun _ => 0)
      case atStart => exact ⟨0, Nat.le_refl _, rfl⟩
      case round =>
        obtain ⟨k, hk, rfl⟩ := hrel
        obtain rfl : k = 0 := by omega
        go_wp2_with fail
        go_ret
        exact ⟨rfl, (Below.refl _ _).alloc (Nat.le_refl _) _⟩
end
section
open Go.RowKit
theorem bytes_eq {s : ByteArray} {l : List UInt8} (h : s.data.toList = l) : s = ⟨l.toArray⟩ := by
  subst h
  cases s
  simp
end
section
open Go.RowKit
def SrcAt (b : Nat) (a : Option Addr) (c : Nat) (xs : List UInt8) (K : Nat) (w : World) : Prop :=
  ∃ (p seed : Nat), xs.length ≤ 2097152 ∧ p ≤ K ∧ seed < 2147483648 ∧ w.cell? ⟨b, 0, none⟩ = some (.slice a xs.length c) ∧ w.cell? ⟨b, 1, none⟩ = some (.int .i64 p) ∧ w.cell? ⟨b, 2, none⟩ = some (.int .i64 seed) ∧ (∀ o, w.frozen? ⟨b, o, none⟩ = false) ∧ Sl byteE 1 w a xs ∧ (∀ b' o, a = some ⟨b', o, none⟩ → xs = [] ∨ b' ≠ b) ∧ b < w.heap.size
def ByteR (b : Nat) (a : Option Addr) (c : Nat) (xs : List UInt8) (K m : Nat) (w : World) (e : Ending) (w' : World) : Prop :=
  ∃ n : Nat, n < m ∧ e = .returned (.int .i64 n) ∧ SrcAt b a c xs K w' ∧ Mid b (b + 1) w w'
theorem Sl.setCellE {α : Type} {enc : α → List Value} {sz : Nat} {w : World} {a : Option Addr} {xs : List α} {p : Addr} (h : Sl enc sz w a xs) (hp : ∀ b off, a = some ⟨b, off, none⟩ → xs = [] ∨ b ≠ p.block) (u : Value) : Sl enc sz (w.setCell p u) a xs := by
  by_cases hx : xs = []
  · exact .inl hx
  · exact h.setCell (fun b off e => (hp b off e).resolve_left hx) u
theorem SrcAt.below {b K c : Nat} {a : Option Addr} {xs : List UInt8} {w w' : World} (h : SrcAt b a c xs K w) (hb : Below w.heap.size w w') : SrcAt b a c xs K w' := by
  obtain ⟨p, seed, h1, h2, h3, c0, c1, c2, hf, hs, hne, hb0⟩ := h
  have hz := hb.size
  exact ⟨p, seed, h1, h2, h3, (hb.cell (p := ⟨b, 0, none⟩) hb0).trans c0, (hb.cell (p := ⟨b, 1, none⟩) hb0).trans c1, (hb.cell (p := ⟨b, 2, none⟩) hb0).trans c2, fun o => (hb.frozen (p := ⟨b, o, none⟩) hb0).trans (hf o), hs.keep hb, hne, by omega⟩
theorem SrcAt.mono {b K K' c : Nat} {a : Option Addr} {xs : List UInt8} {w : World} (h : SrcAt b a c xs K w) (hK : K ≤ K') : SrcAt b a c xs K' w := by
  obtain ⟨p, seed, h1, h2, h3, c0, c1, c2, hf, hs, hne, hb0⟩ := h
  exact ⟨p, seed, h1, by omega, h3, c0, c1, c2, hf, hs, hne, hb0⟩
theorem Mid.store {b o : Nat} {u : Value} {w : World} : Mid b (b + 1) w (w.setCell ⟨b, o, none⟩ u) := (Mid.refl b (b + 1) w).setCell (Nat.le_refl _) (by show b < b + 1; omega) u
theorem Mid.drewN {lo hi : Nat} {a w : World} (h : Mid lo hi a w) (n : Nat) : Mid lo hi a (w.drewN n) := h.trans ⟨rfl, rfl, rfl, Nat.le_refl _, fun _ _ _ => rfl⟩
theorem Mid.drew {lo hi : Nat} {a w : World} (h : Mid lo hi a w) : Mid lo hi a w.drew := h.trans ⟨rfl, rfl, rfl, Nat.le_refl _, fun _ _ _ => rfl⟩
theorem SrcAt.lt {b K c : Nat} {a : Option Addr} {xs : List UInt8} {w : World} (h : SrcAt b a c xs K w) : b < w.heap.size := by
  obtain ⟨p, seed, h1, h2, h3, c0, c1, c2, hf, hs, hne, hb0⟩ := h
  exact hb0
theorem SrcAt.far {b K c : Nat} {a : Option Addr} {xs : List UInt8} {w : World} (h : SrcAt b a c xs K w) : ∀ b' o, a = some ⟨b', o, none⟩ → xs = [] ∨ b' < w.heap.size := by
  obtain ⟨p, seed, h1, h2, h3, c0, c1, c2, hf, hs, hne, hb0⟩ := h
  intro b' o he
  rcases hs with hs | ⟨b2, o2, he2, hlt, _⟩
  · exact .inl hs
  · rw [he] at he2
    cases he2
    exact .inr hlt
theorem SrcAt.setCell {b K c : Nat} {a : Option Addr} {xs : List UInt8} {w : World} (h : SrcAt b a c xs K w) {p : Addr} (hp : ¬ p.block = b) (ha : ∀ b' o, a = some ⟨b', o, none⟩ → xs = [] ∨ b' ≠ p.block) (u : Value) : SrcAt b a c xs K (w.setCell p u) := by
  obtain ⟨q, seed, h1, h2, h3, c0, c1, c2, hf, hs, hne, hb0⟩ := h
  have hc : ∀ j, (w.setCell p u).cell? ⟨b, j, none⟩ = w.cell? ⟨b, j, none⟩ := fun j => World.cell?_setCell_other _ _ _ _ (fun e => hp (by first | exact congrArg Addr.block e | exact (congrArg Addr.block e).symm))
  have hfz : ∀ o, (w.setCell p u).frozen? ⟨b, o, none⟩ = w.frozen? ⟨b, o, none⟩ := fun o => by simp [go_sem]
  refine ⟨q, seed, h1, h2, h3, (hc 0).trans c0, (hc 1).trans c1, (hc 2).trans c2, fun o => (hfz o).trans (hf o), ?_, hne, by simpa using hb0⟩
  rcases hs with hs | ⟨b2, o2, he2, hlt, hcc⟩
  · exact .inl hs
  · rcases ha b2 o2 he2 with h | h
    · exact .inl h
    · exact (Sl.setCell (.inr ⟨b2, o2, he2, hlt, hcc⟩) (fun b' o e => by rw [he2] at e; cases e; exact h) u)
theorem Sl.boxM {α : Type} {enc : α → List Value} {sz : Nat} {w : World} (hs : ∀ x, (enc x).length = sz) (xs : List α) (cs : Array Value) (T : TypeId) (hc : cs.toList = xs.flatMap enc) (b : Nat) (hb : b = w.heap.size) : Sl enc sz (w.alloc (.cells cs T)) (some ⟨b, 0, none⟩) xs := by
  subst hb
  refine .inr ⟨w.heap.size, 0, rfl, by simp, fun i hi j hj => ?_⟩
  rw [World.cell?_alloc_new, ← Array.getElem?_toList, hc, Nat.zero_add]
  exact flat_get enc sz hs xs i hi j hj
theorem srcByte_c (b : Nat) (a : Option Addr) (c : Nat) (xs : List UInt8) (K : Nat) (w : World) (h : SrcAt b a c xs K w) (hK : K ≤ 1099511627776) :
    Calls Tryz.prog 92 #[.pointer (some ⟨b, 0, none⟩)] w (ByteR b a c xs (K + 1) 256 w) := by
  obtain ⟨p, seed, h1, h2, h3, c0, c1, c2, hf, hs, hne, hb0⟩ := h
  by_cases hp : p + 1 ≤ xs.length
  · obtain ⟨bF, oF, rfl, hbF, hcF⟩ := hs.at (i := p) (by omega)
    have hneb := (hne bF oF rfl).resolve_left (fun h => by rw [h] at hp; simp at hp)
    have hneb' : ¬ b = bF := fun h => hneb h.symm
    have d := hcF p (by omega) 0 (by omega)
    simp only [byteE, Nat.mul_one, Nat.add_zero, List.getElem?_cons_zero] at d
    have hn := xs[p].toNat_lt
    generalize xs[p].toNat = n at *
    have g1 : decide ((p : Int) + 1 ≤ (xs.length : Int)) = true := by simp; omega
    have g2 : (p : Int) + 1 ≤ (xs.length : Int) := by omega
    have e1 : wrap64 ((p : Int) + 1) = (p : Int) + 1 := IntWalk.wrap64_in _ ⟨by omega, by omega⟩
    have e2 : IntKind.i64.wrap ((p : Int) + 1 - 1) = (p : Int) := by rw [IntWalk.i64_in _ ⟨by omega, by omega⟩]; omega
    have e3 : IntKind.i64.wrap ((seed : Int) * 31) = (seed : Int) * 31 := IntWalk.i64_in _ ⟨by omega, by omega⟩
    have e4 : IntKind.i64.wrap ((seed : Int) * 31 + (n : Int)) = (seed : Int) * 31 + (n : Int) := IntWalk.i64_in _ ⟨by omega, by omega⟩
    have e5 : IntKind.i64.wrap ((seed : Int) * 31 + (n : Int) + 7) = (seed : Int) * 31 + (n : Int) + 7 := IntWalk.i64_in _ ⟨by omega, by omega⟩
    have HS := Lib.hid hs
    have HNE := Lib.hid hne
    clear hs hne hcF
    go_enter Tryz.func92, Tryz.ntmps92
    go_wp2_with fail
    go_quiet (fail)
    go_wp2_with fail
    go_region
    go_wp2_with fail
    go_quiet (fail)
    go_wp2_with fail
    go_ret
    refine ⟨n, hn, rfl, ⟨p + 1, (seed * 31 + n + 7) % 2147483648, h1, by omega, by omega, ?_, ?_, ?_, ?_, ?_, HNE.out, ?_⟩, ?_⟩
    · simp [go_sem, c0]
    · simp [go_sem, c1]
    · simp [go_sem, c2]
    · intro o
      simp [go_sem, hf]
    · repeat (first | (with_reducible exact HS.out) | (with_reducible refine Sl.setCellE ?_ HNE.out _) | (with_reducible refine Sl.drewN ?_ _) | (with_reducible refine Sl.drew ?_))
    · simpa using hb0
    · repeat (first | (with_reducible exact Mid.refl _ _ _) | (with_reducible refine Mid.setCell ?_ ?_ ?_ _; rotate_left; (show b ≤ b; omega); (show b < b + 1; omega)) | (with_reducible refine Mid.drewN ?_ _) | (with_reducible refine Mid.drew ?_))
  · have HS := Lib.hid hs
    have HNE := Lib.hid hne
    clear hs hne
    have g1 : decide ((p : Int) + 1 ≤ (xs.length : Int)) = false := by simp; omega
    have g2 : ¬ (p : Int) + 1 ≤ (xs.length : Int) := by omega
    have e1 : wrap64 ((p : Int) + 1) = (p : Int) + 1 := IntWalk.wrap64_in _ ⟨by omega, by omega⟩
    by_cases hb3 : 3000 < p + 1
    · have g3 : (3000 : Int) < (p : Int) + 1 := by omega
      go_enter Tryz.func92, Tryz.ntmps92
      go_wp2_with fail
      go_quiet (fail)
      go_wp2_with fail
      go_ret
      refine ⟨0, by omega, rfl, ⟨p + 1, seed, h1, by omega, by omega, ?_, ?_, ?_, ?_, ?_, HNE.out, ?_⟩, ?_⟩
      · simp [go_sem, c0]
      · simp [go_sem, c1]
      · simp [go_sem, c2]
      · intro o
        simp [go_sem, hf]
      · repeat (first | (with_reducible exact HS.out) | (with_reducible refine Sl.setCellE ?_ HNE.out _) | (with_reducible refine Sl.drewN ?_ _) | (with_reducible refine Sl.drew ?_))
      · simpa using hb0
      · repeat (first | (with_reducible exact Mid.refl _ _ _) | (with_reducible refine Mid.setCell ?_ ?_ ?_ _; rotate_left; (show b ≤ b; omega); (show b < b + 1; omega)) | (with_reducible refine Mid.drewN ?_ _) | (with_reducible refine Mid.drew ?_))
    · have g3 : ¬ (3000 : Int) < (p : Int) + 1 := by omega
      go_enter Tryz.func92, Tryz.ntmps92
      go_wp2_with fail
      go_quiet (fail)
      go_wp2_with fail
      go_ret
      refine ⟨(seed * 1103515245 + 12345) % 2147483648 / 65536 % 256, by omega, congrArg (fun z => Ending.returned (.int .i64 z)) (by simp), ⟨p + 1, (seed * 1103515245 + 12345) % 2147483648, h1, by omega, by omega, ?_, ?_, ?_, ?_, ?_, HNE.out, ?_⟩, ?_⟩
      · simp [go_sem, c0]
      · simp [go_sem, c1]
      · simp [go_sem, c2]
      · intro o
        simp [go_sem, hf]
      · repeat (first | (with_reducible exact HS.out) | (with_reducible refine Sl.setCellE ?_ HNE.out _) | (with_reducible refine Sl.drewN ?_ _) | (with_reducible refine Sl.drew ?_))
      · simpa using hb0
      · repeat (first | (with_reducible exact Mid.refl _ _ _) | (with_reducible refine Mid.setCell ?_ ?_ ?_ _; rotate_left; (show b ≤ b; omega); (show b < b + 1; omega)) | (with_reducible refine Mid.drewN ?_ _) | (with_reducible refine Mid.drew ?_))
theorem srcNext_c (b : Nat) (a : Option Addr) (c : Nat) (xs : List UInt8) (K n : Nat) (w : World) (h : SrcAt b a c xs K w) (hK : K ≤ 1099511627776) (hn : 1 ≤ n) (hn2 : n ≤ 256) :
    Calls Tryz.prog 50 #[.pointer (some ⟨b, 0, none⟩), .int .i64 n] w (ByteR b a c xs (K + 1) n w) := by
  have HB := Lib.hid (srcByte_c b a c xs K w h hK)
  have HS := Lib.hid h
  clear h
  by_cases h1 : n = 1
  · subst h1
    go_enter Tryz.func50, Tryz.ntmps50
    go_wp2_with fail
    go_ret
    exact ⟨0, by omega, rfl, HS.out.mono (by omega), Mid.refl _ _ _⟩
  · have g1 : (1 : Int) < (n : Int) := by omega
    have g2 : (n : Int) ≤ 256 := by omega
    have g3 : ¬ n = 0 := by omega
    go_enter Tryz.func50, Tryz.ntmps50
    go_wp2_with fail
    refine HB.out.mono ?_
    rintro e w1 ⟨m, hm, rfl, hs1, hm1⟩
    have HS1 := Lib.hid hs1
    have HM1 := Lib.hid hm1
    clear hs1 hm1
    go_wp2_with fail
    go_ret
    refine ⟨m % n, Nat.mod_lt _ (by omega), congrArg (fun z => Ending.returned (.int .i64 z)) (by simp), HS1.out, HM1.out⟩
def PickR (b : Nat) (a : Option Addr) (c : Nat) (xs : List UInt8) (K : Nat) (L : List ByteArray) (w : World) (e : Ending) (w' : World) : Prop :=
  ∃ s, s ∈ L ∧ e = .returned (.string s) ∧ SrcAt b a c xs K w' ∧ Mid b (b + 1) w w'
theorem srcPick_c (b : Nat) (a : Option Addr) (c : Nat) (xs : List UInt8) (K : Nat) (a1 : Option Addr) (c1 : Nat) (L : List ByteArray) (w : World) (h : SrcAt b a c xs K w) (hK : K ≤ 1099511627776) (ha : Sl strE 1 w a1 L) (hne : ∀ b' o, a1 = some ⟨b', o, none⟩ → b' ≠ b) (hl : 1 ≤ L.length) (hl2 : L.length ≤ 256) :
    Calls Tryz.prog 83 #[.pointer (some ⟨b, 0, none⟩), .slice a1 L.length c1] w (PickR b a c xs (K + 1) L w) := by
  have HB := Lib.hid (srcNext_c b a c xs K L.length w h hK hl hl2)
  obtain ⟨bF, oF, rfl, hbF, hcF⟩ := ha.at (i := 0) (by omega)
  have hneb := hne bF oF rfl
  have hside : bF < b ∨ b + 1 ≤ bF := by omega
  have HC := Lib.hid hcF
  have g1 : ¬ L.length = 0 := by omega
  have g2 : decide ((L.length : Int) = 0) = false := decide_eq_false (by omega)
  clear h hcF hne ha
  go_enter Tryz.func83, Tryz.ntmps83
  go_wp2_with fail
  refine HB.out.mono ?_
  rintro e w1 ⟨m, hm, rfl, hs1, hm1⟩
  have d := HC.out m hm 0 (by omega)
  simp only [strE, Nat.mul_one, Nat.add_zero, List.getElem?_cons_zero] at d
  have d1 : w1.cell? ⟨bF, oF + m, none⟩ = some (.string L[m]) := by
    rw [hm1.cell (p := ⟨bF, oF + m, none⟩) hbF hside]
    exact d
  have hmem : L[m] ∈ L := List.getElem_mem hm
  have HS1 := Lib.hid hs1
  have HM1 := Lib.hid hm1
  have hm' : (m : Int) < (L.length : Int) := by omega
  have hm0 : (0 : Int) ≤ (m : Int) := by omega
  clear hs1 hm1 d
  generalize L[m] = s at *
  go_wp2_with fail
  go_ret
  exact ⟨s, hmem, rfl, HS1.out, HM1.out⟩
end
section
open Go.RowKit
theorem convB (l : List UInt8) (v : Array Value) (hv : v.toList = l.flatMap byteE) (w : World) (n : Nat) (hn : n = l.length) : (convert 22 9 (.slice (some ⟨w.heap.size, 0, none⟩) n n)).run Tryz.prog (w.alloc (.cells v 5)) = .ok (.string ⟨l.toArray⟩) (w.alloc (.cells v 5)) := by
  subst hn
  exact convS (Sl.boxM (enc := byteE) (sz := 1) (fun _ => rfl) l v 5 hv w.heap.size rfl)
theorem utf1_c (m : Nat) (w : World) (h : m < 128) :
    Calls Tryz.prog 153 #[.int .i64 m] w fun e w' => e = .returned (.string ⟨#[u8 (m)]⟩) ∧ Below w.heap.size w w' := by
  have hb0 : ((m : Int)) % 256 = ((u8 (m)).toNat : Int) := by have := u8N (n := m) (by omega); omega
  obtain ⟨x0, hx0⟩ : ∃ x : UInt8, u8 (m) = x := ⟨_, rfl⟩
  rw [hx0] at hb0 ⊢
  clear hx0
  have HB := Lib.hid (And.intro hb0 trivial)
  clear hb0
  have g1 : (m : Int) < 128 := by omega
  go_enter Tryz.func153, Tryz.ntmps153
  go_wp2_with fail
  rw [convB [x0] _ (by have := HB.out; simp [byteE]; omega) w 1 rfl]
  go_wp2_with fail
  go_ret
  exact ⟨rfl, (Below.refl _ _).alloc (Nat.le_refl _) _⟩
theorem utf2_c (m : Nat) (w : World) (h1 : ¬ m < 128) (h : m < 2048) :
    Calls Tryz.prog 153 #[.int .i64 m] w fun e w' => e = .returned (.string ⟨#[u8 (192 + m / 64), u8 (128 + m % 64)]⟩) ∧ Below w.heap.size w w' := by
  have hb0 : (192 + (m : Int) / 64) % 256 = ((u8 (192 + m / 64)).toNat : Int) := by have := u8N (n := 192 + m / 64) (by omega); omega
  obtain ⟨x0, hx0⟩ : ∃ x : UInt8, u8 (192 + m / 64) = x := ⟨_, rfl⟩
  rw [hx0] at hb0 ⊢
  clear hx0
  have hb1 : (128 + (m : Int) % 64) % 256 = ((u8 (128 + m % 64)).toNat : Int) := by have := u8N (n := 128 + m % 64) (by omega); omega
  obtain ⟨x1, hx1⟩ : ∃ x : UInt8, u8 (128 + m % 64) = x := ⟨_, rfl⟩
  rw [hx1] at hb1 ⊢
  clear hx1
  have HB := Lib.hid (And.intro hb0 hb1)
  clear hb0 hb1
  have g1 : ¬ (m : Int) < 128 := by omega
  have g2 : (m : Int) < 2048 := by omega
  go_enter Tryz.func153, Tryz.ntmps153
  go_wp2_with fail
  rw [convB [x0, x1] _ (by have := HB.out; simp [byteE]; omega) w 2 rfl]
  go_wp2_with fail
  go_ret
  exact ⟨rfl, (Below.refl _ _).alloc (Nat.le_refl _) _⟩
theorem utf3_c (m : Nat) (w : World) (h1 : ¬ m < 128) (h2 : ¬ m < 2048) (h : m < 65536) :
    Calls Tryz.prog 153 #[.int .i64 m] w fun e w' => e = .returned (.string ⟨#[u8 (224 + m / 4096), u8 (128 + m / 64 % 64), u8 (128 + m % 64)]⟩) ∧ Below w.heap.size w w' := by
  have hb0 : (224 + (m : Int) / 4096) % 256 = ((u8 (224 + m / 4096)).toNat : Int) := by have := u8N (n := 224 + m / 4096) (by omega); omega
  obtain ⟨x0, hx0⟩ : ∃ x : UInt8, u8 (224 + m / 4096) = x := ⟨_, rfl⟩
  rw [hx0] at hb0 ⊢
  clear hx0
  have hb1 : (128 + (m : Int) / 64 % 64) % 256 = ((u8 (128 + m / 64 % 64)).toNat : Int) := by have := u8N (n := 128 + m / 64 % 64) (by omega); omega
  obtain ⟨x1, hx1⟩ : ∃ x : UInt8, u8 (128 + m / 64 % 64) = x := ⟨_, rfl⟩
  rw [hx1] at hb1 ⊢
  clear hx1
  have hb2 : (128 + (m : Int) % 64) % 256 = ((u8 (128 + m % 64)).toNat : Int) := by have := u8N (n := 128 + m % 64) (by omega); omega
  obtain ⟨x2, hx2⟩ : ∃ x : UInt8, u8 (128 + m % 64) = x := ⟨_, rfl⟩
  rw [hx2] at hb2 ⊢
  clear hx2
  have HB := Lib.hid (And.intro hb0 (And.intro hb1 hb2))
  clear hb0 hb1 hb2
  have g1 : ¬ (m : Int) < 128 := by omega
  have g2 : ¬ (m : Int) < 2048 := by omega
  have g3 : (m : Int) < 65536 := by omega
  go_enter Tryz.func153, Tryz.ntmps153
  go_wp2_with fail
  rw [convB [x0, x1, x2] _ (by have := HB.out; simp [byteE]; omega) w 3 rfl]
  go_wp2_with fail
  go_ret
  exact ⟨rfl, (Below.refl _ _).alloc (Nat.le_refl _) _⟩
theorem utf4_c (m : Nat) (w : World) (h1 : ¬ m < 128) (h2 : ¬ m < 2048) (h3 : ¬ m < 65536) (h : m ≤ 1114111) :
    Calls Tryz.prog 153 #[.int .i64 m] w fun e w' => e = .returned (.string ⟨#[u8 (240 + m / 262144), u8 (128 + m / 4096 % 64), u8 (128 + m / 64 % 64), u8 (128 + m % 64)]⟩) ∧ Below w.heap.size w w' := by
  have hb0 : (240 + (m : Int) / 262144) % 256 = ((u8 (240 + m / 262144)).toNat : Int) := by have := u8N (n := 240 + m / 262144) (by omega); omega
  obtain ⟨x0, hx0⟩ : ∃ x : UInt8, u8 (240 + m / 262144) = x := ⟨_, rfl⟩
  rw [hx0] at hb0 ⊢
  clear hx0
  have hb1 : (128 + (m : Int) / 4096 % 64) % 256 = ((u8 (128 + m / 4096 % 64)).toNat : Int) := by have := u8N (n := 128 + m / 4096 % 64) (by omega); omega
  obtain ⟨x1, hx1⟩ : ∃ x : UInt8, u8 (128 + m / 4096 % 64) = x := ⟨_, rfl⟩
  rw [hx1] at hb1 ⊢
  clear hx1
  have hb2 : (128 + (m : Int) / 64 % 64) % 256 = ((u8 (128 + m / 64 % 64)).toNat : Int) := by have := u8N (n := 128 + m / 64 % 64) (by omega); omega
  obtain ⟨x2, hx2⟩ : ∃ x : UInt8, u8 (128 + m / 64 % 64) = x := ⟨_, rfl⟩
  rw [hx2] at hb2 ⊢
  clear hx2
  have hb3 : (128 + (m : Int) % 64) % 256 = ((u8 (128 + m % 64)).toNat : Int) := by have := u8N (n := 128 + m % 64) (by omega); omega
  obtain ⟨x3, hx3⟩ : ∃ x : UInt8, u8 (128 + m % 64) = x := ⟨_, rfl⟩
  rw [hx3] at hb3 ⊢
  clear hx3
  have HB := Lib.hid (And.intro hb0 (And.intro hb1 (And.intro hb2 hb3)))
  clear hb0 hb1 hb2 hb3
  have g1 : ¬ (m : Int) < 128 := by omega
  have g2 : ¬ (m : Int) < 2048 := by omega
  have g3 : ¬ (m : Int) < 65536 := by omega
  go_enter Tryz.func153, Tryz.ntmps153
  go_wp2_with fail
  rw [convB [x0, x1, x2, x3] _ (by have := HB.out; simp [byteE]; omega) w 4 rfl]
  go_wp2_with fail
  go_ret
  exact ⟨rfl, (Below.refl _ _).alloc (Nat.le_refl _) _⟩
theorem l03Utf_c (n : Int) (w : World) (h : rnOK n) :
    Calls Tryz.prog 153 #[.int .i64 n] w fun e w' => e = .returned (.string ⟨(utfB n.toNat).toArray⟩) ∧ Below w.heap.size w w' := by
  obtain ⟨m, rfl⟩ : ∃ m : Nat, n = m := ⟨n.toNat, by have := h.1; omega⟩
  have hm := h.2.1
  show Calls Tryz.prog 153 #[.int .i64 m] w fun e w' => e = .returned (.string ⟨(utfB m).toArray⟩) ∧ Below w.heap.size w w'
  unfold utfB
  by_cases a1 : m < 128
  · rw [if_pos a1]; exact utf1_c m w a1
  rw [if_neg a1]
  by_cases a2 : m < 2048
  · rw [if_pos a2]; exact utf2_c m w a1 a2
  rw [if_neg a2]
  by_cases a3 : m < 65536
  · rw [if_pos a3]; exact utf3_c m w a1 a2 a3
  rw [if_neg a3]
  exact utf4_c m w a1 a2 a3 (by omega)
end
section
open Go.RowKit
def beB (n c j : Nat) : UInt8 := UInt8.ofNat (n / 256 ^ (c - 1 - j))
def be (n c : Nat) : List UInt8 := (List.range c).map (beB n c)
theorem be_length (n c : Nat) : (be n c).length = c := by simp [be]
theorem beB_toNat (n c j : Nat) : (beB n c j).toNat = n / 256 ^ (c - 1 - j) % 256 := by
  unfold beB
  rw [UInt8.toNat_ofNat']
theorem be_snoc (n c d : Nat) : (List.range (d + 1)).map (beB n c) = (List.range d).map (beB n c) ++ [beB n c d] := by simp [List.range_succ]
theorem sh8 (n q : Nat) : (n : Int) / 2 ^ (8 * q) % 256 = ((n / 256 ^ q % 256 : Nat) : Int) := by
  rw [show (2 : Int) ^ (8 * q) = ((256 ^ q : Nat) : Int) by rw [Int.natCast_pow, Int.pow_mul]; rfl]
  simp
def strOf (l : List UInt8) : ByteArray := ⟨l.toArray⟩
theorem l02Number_c (n c : Nat) (w : World) (hn : n ≤ 1099511627776) (hc : 1 ≤ c ∧ c ≤ 8) :
    Calls Tryz.prog 128 #[.int .i64 n, .int .i64 c] w (FreshR byteE 5 1 w (be n c)) := by
  obtain ⟨i0, hi, hz0, hz1, hz2⟩ := info_parts Tryz.infoByte
  obtain ⟨hc1, hc2⟩ := hc
  go_enter Tryz.func128, Tryz.ntmps128
  go_wp2_with fail
  go_loopw [5, 6] (fun v i wr => ∃ d : Nat, d ≤ c ∧ i = .int .i64 ((c : Int) - 1 - d) ∧ Fresh byteE 5 1 w.heap.size v ((List.range d).map (beB n c)) wr ∧ Below w.heap.size w wr) (fun _ i _ => (intOf i + 1).toNat)
  case atStart => exact ⟨0, Nat.zero_le _, by go_num, Fresh.of_own (World.ownsRow_made _ #[] 0 (Nat.le_refl _) (by decide) rfl) rfl rfl, (by repeat (first | exact Below.refl _ _ | (refine Below.alloc ?_ (by (try simp) <;> (try omega)) _) | (refine Below.setCell ?_ (by (try simp) <;> (try omega)) _) | (refine Below.drew ?_) | (refine Below.trans ?_ (Below.mono (by assumption) (by (try simp) <;> (try omega))))))⟩
  case round =>
    obtain ⟨d, hd, rfl, ⟨av, cv, rfl, hcv, ho⟩, hbel⟩ := hrel
    have hLl : ((List.range d).map (beB n c)).length ≤ d := by simp
    have hL := Lib.hid (be_snoc n c d)
    generalize hL0 : (List.range d).map (beB n c) = L at *
    have HL0 := Lib.hid hL0
    clear hL0
    by_cases hlt : d < c
    · obtain ⟨q, hq⟩ : ∃ q, d + q + 1 = c := ⟨c - (d + 1), by omega⟩
      have hq8 : q ≤ 7 := by omega
      have e1 : (c : Int) - 1 - (d : Int) = (q : Int) := by omega
      rw [e1]
      have HQ := Lib.hid hq
      clear e1 hq
      have HO := Lib.hid ho
      go_wp2_with (at_builtin; refine wpList_append_own _ rfl _ _ 22 rfl w.heap.size 5 i0 (.int .u8 0) 1 1 Tryz.underlying22 hi hz0 hz1 hz2 rfl (by decide) _ _ _ rfl (ho.alloc _) ⟨wr.heap.size, 0, none⟩ 1 1 [.int .u8 ((n : Int) / 2 ^ (8 * q) % 256)] rfl rfl ?c1 ?c2 ?c3 ?c4 ?c5 ?_)
      case c1 => intro j u hu; match j, hu with | 0, hu => simp at hu; subst hu; simp [Addr.add]
      case c2 => simp [Value.oneCell']
      case c3 => unfold maxLen; omega
      case c4 => omega
      case c5 => have := hbel.size; simp; omega
      intro v' w1 hown1 hgrow _
      have hb1' : Below w.heap.size w w1 := (hbel.alloc hbel.size _).grown hgrow (by have := hbel.size; simp; omega) (fun k hk => (HO.out.lt k hk).1)
      have hf : Fresh byteE 5 1 w.heap.size v' ((List.range (d + 1)).map (beB n c)) w1 := by
        rw [hL.out]
        refine Fresh.of_own hown1 (by simp) ?_
        simp only [List.flatMap_append, List.flatMap_cons, List.flatMap_nil, List.append_nil, byteE, beB_toNat]
        rw [show c - 1 - d = q by have := HQ.out; omega, sh8]
      clear hown1 hgrow ho
      have HF := Lib.hid hf
      clear hf
      go_wp2_with fail
      go_roundw
      case rel => exact ⟨d + 1, by omega, by congr 1; have := HQ.out; omega, HF.out, hb1'⟩
      case measure => simp [intOf]
    · obtain rfl : d = c := by omega
      have HO := Lib.hid ho
      have e1 : (d : Int) - 1 - (d : Int) = -1 := by omega
      rw [e1]
      clear ho e1
      go_wp2_with fail
      go_ret
      exact ⟨_, rfl, Fresh.of_own HO.out (by rw [← HL0.out]; rfl) (by rw [← HL0.out]; rfl), hbel⟩
def bn (l : List UInt8) : Nat := l.foldl (fun n b => n * 256 + b.toNat) 0
end
section
open Go.RowKit
def hdr (s : ByteArray) : List UInt8 := be s.size 3
theorem strOf_size (l : List UInt8) : (strOf l).size = l.length := rfl
theorem byteOne : ∀ (x : UInt8), ∀ u ∈ byteE x, u.oneCell' = true := fun x u hu => by simp [byteE] at hu; subst hu; rfl
theorem sizeData (s : ByteArray) : s.data.toList.length = s.size := rfl
end
section
open Go.RowKit
theorem Tryz.sizeBuilder : (Tryz.prog.info? 95).map (·.size) = some 2 := by kernel_rfl
theorem Tryz.liesBuilder : liesAt Tryz.prog Tryz.prog.depth 95 (2 / Tryz.prog.cellsOf 95) 0 95 1 = true := by kernel_rfl
theorem copyCheck_used (b : Nat) (w : World) (h0 : w.cell? ⟨b, 0, none⟩ = some (.pointer (some ⟨b, 0, none⟩))) :
    Calls Tryz.prog 99 #[.pointer (some ⟨b, 0, none⟩)] w fun e w' => e = .returned (.tuple #[]) ∧ w' = w := by
  obtain ⟨j, hj, _⟩ := Option.map_eq_some_iff.1 Tryz.sizeBuilder
  go_enter Tryz.func99, Tryz.ntmps99
  go_wp2
  rw [Lib.run_neq_ptr_same w _ Tryz.underlying93 hj]
  go_wp2
  go_end0
  exact ⟨rfl, rfl⟩
theorem copyCheck_fresh (b : Nat) (w : World) (h0 : w.cell? ⟨b, 0, none⟩ = some (.pointer none)) (hsh : w.shape? b = some (95, 2)) (hfz : w.frozen? ⟨b, 0, none⟩ = false) :
    Calls Tryz.prog 99 #[.pointer (some ⟨b, 0, none⟩)] w fun e w' => e = .returned (.tuple #[]) ∧ w' = w.setCell ⟨b, 0, none⟩ (.pointer (some ⟨b, 0, none⟩)) := by
  obtain ⟨j, hj, hjs⟩ := Option.map_eq_some_iff.1 Tryz.sizeBuilder
  go_enter Tryz.func99, Tryz.ntmps99
  go_wp2
  rw [Lib.run_to_unsafe w ⟨b, 0, none⟩ Tryz.underlying93 Tryz.underlying144 hj (by rw [hjs]; decide) hsh (Nat.zero_lt_succ 1)]
  simp only [Result.andThen]
  rw [Oper.upon_value]
  go_wp2
  rw [run_callFunc_extern Tryz.func129 (by kernel_rfl) (by kernel_rfl) (by kernel_rfl) (e := Extern.AbiNoEscape.same) (by kernel_rfl)]
  rw [Lib.run_noEscape]
  simp only [Result.andThen]
  rw [Oper.upon_value]
  go_wp2
  rw [Lib.run_from_unsafe w ⟨b, 0, none⟩ Tryz.underlying144 Tryz.underlying93 hj hsh Tryz.liesBuilder]
  simp only [Result.andThen]
  rw [Oper.upon_value]
  go_wp2
  go_end0
  exact ⟨rfl, rfl⟩
theorem copyCheck_c (B b : Nat) (bs : List Value) (w : World) (h : Lib.IsBuilder 95 5 B b bs w) :
    Calls Tryz.prog 99 #[.pointer (some ⟨b, 0, none⟩)] w fun e w' => e = .returned (.tuple #[]) ∧ (Lib.BuilderAt 95 5 B b (.pointer (some ⟨b, 0, none⟩)) bs w' ∧ Below B w w') := by
  rcases h with h | h
  · refine (copyCheck_fresh b w h.cell0 h.shape h.frozen0).mono ?_
    rintro e w' ⟨rfl, rfl⟩
    exact ⟨rfl, h.used _, (Below.refl B w).setCell (p := ⟨b, 0, none⟩) h.1 _⟩
  · refine (copyCheck_used b w h.cell0).mono ?_
    rintro e w' ⟨rfl, rfl⟩
    exact ⟨rfl, h, Below.refl B _⟩
def Bld (B b : Nat) (l : List UInt8) (w : World) : Prop := Lib.IsBuilder 95 5 B b (Lib.byteCells l) w
theorem byteCells_app (l m : List UInt8) : Lib.byteCells (l ++ m) = Lib.byteCells l ++ Lib.byteCells m := by simp [Lib.byteCells]
end
section
open Go.Shelf Go.RowKit
def Tryz.lays169_ren : Go.Shelf.Ren := ⟨fun | 169 => 65 | n => n, fun | 70 => 93 | 9 => 9 | 0 => 0 | 72 => 95 | 37 => 22 | 127 => 126 | 3 => 3 | 5 => 5 | n => n, fun | n => n⟩
theorem Tryz.lays169 : Go.Proofs.Lays.n169 Tryz.prog Tryz.lays169_ren := {
  mixed := by kernel_rfl
  f169 := Tryz.func65.trans (congrArg some (by kernel_rfl))
  t0 := Tryz.underlying0
  a0 := Tryz.isAgg0
  z0 := Tryz.sizeOf0
  v0 := Tryz.zeroValue0
  t3 := Tryz.underlying3
  a3 := Tryz.isAgg3
  z3 := Tryz.sizeOf3
  v3 := Tryz.zeroValue3
  t9 := Tryz.underlying9
  a9 := Tryz.isAgg9
  z9 := Tryz.sizeOf9
  v9 := Tryz.zeroValue9
  t37 := Tryz.underlying22
  a37 := Tryz.isAgg22
  z37 := Tryz.sizeOf22
  v37 := Tryz.zeroValue22
  t70 := Tryz.underlying93
  a70 := Tryz.isAgg93
  z70 := Tryz.sizeOf93
  v70 := Tryz.zeroValue93
  t72 := Tryz.underlying95
  a72 := Tryz.isAgg95
  z72 := Tryz.sizeOf95
  v72 := Tryz.zeroValue95
  t127 := Tryz.underlying126
  a127 := Tryz.isAgg126
  z127 := Tryz.sizeOf126
  v127 := Tryz.zeroValue126 }
theorem Tryz.Builder_Extra_169 : Builder.Extra Tryz.prog Tryz.lays169_ren := {
  sizeBuilder := by kernel_rfl
  liesBuilder := by kernel_rfl
  t5 := Tryz.underlying5
  a5 := Tryz.isAgg5
  z5 := Tryz.sizeOf5
  v5 := Tryz.zeroValue5
  infoByte := by kernel_rfl
  cellsByte := by kernel_rfl
  sizeByte := by kernel_rfl
  neB5 := by decide }
theorem bldString_c (B b : Nat) (l : List UInt8) (w : World) (h : Bld B b l w) (hBw : B ≤ w.heap.size) :
    Calls Tryz.prog 65 #[.pointer (some ⟨b, 0, none⟩)] w fun e w' => e = .returned (.string (strOf l)) ∧ Below B w w' := Any.Builder_String_any Tryz.lays169 Tryz.Builder_Extra_169 B b l w h hBw
theorem bld_new (w : World) (B : Nat) (hB : B ≤ w.heap.size) : Bld B w.heap.size [] (w.alloc (.cells #[.pointer none, .slice none 0 0] 95)) :=
  .inl ⟨hB, _, heap_alloc_new w _, World.ownsRow_nil _ _ _ _, by simp [Value.ownBlock]⟩
theorem Bld.below {B b : Nat} {l : List UInt8} {w w' : World} (h : Bld B b l w) (hb : Below w.heap.size w w') : Bld B b l w' := by
  have key : ∀ p, Lib.BuilderAt 95 5 B b p (Lib.byteCells l) w → Lib.BuilderAt 95 5 B b p (Lib.byteCells l) w' := by
    rintro p ⟨h1, v, h2, h3, h4⟩
    refine ⟨h1, v, ?_, own_below h3 hb, h4⟩
    rw [hb.block b (Array.getElem?_eq_some_iff.1 h2).1]
    exact h2
  rcases h with h | h
  · exact .inl (key _ h)
  · exact .inr (key _ h)
end
section
open Go.RowKit
def Win {α : Type} (enc : α → List Value) (e : TypeId) (sz lo : Nat) (w : World) (ad : Option Addr) (c : Nat) (xs : List α) : Prop :=
  (ad = none ∧ c = 0 ∧ xs = []) ∨ ∃ g off cur, ad = some ⟨g, off, none⟩ ∧ lo ≤ g ∧ w.heap[g]? = some (.cells cur e (0, 0)) ∧ xs.length ≤ c ∧ off + c * sz ≤ cur.size ∧ c ≤ maxLen ∧ (cur.toList.drop off).take (xs.length * sz) = xs.flatMap enc
section
variable {α : Type} {enc : α → List Value} {e : TypeId} {sz lo : Nat} {w w' : World} {ad : Option Addr} {c : Nat} {xs : List α}
theorem Win.nil : Win enc e sz lo w none 0 [] := .inl ⟨rfl, rfl, rfl⟩
theorem Win.cap (h : Win enc e sz lo w ad c xs) : xs.length ≤ c ∧ c ≤ maxLen := by
  rcases h with ⟨_, rfl, rfl⟩ | ⟨g, off, cur, _, _, _, h1, _, h2, _⟩
  · exact ⟨Nat.le_refl _, Nat.zero_le _⟩
  · exact ⟨h1, h2⟩
theorem Win.blk (h : Win enc e sz lo w ad c xs) : ∀ k ∈ blkOf ad, lo ≤ k ∧ k < w.heap.size := by
  rcases h with ⟨rfl, _⟩ | ⟨g, off, cur, rfl, hlo, hg, _⟩
  · simp [blkOf]
  · intro k hk
    simp only [blkOf, List.mem_singleton] at hk
    subst hk
    exact ⟨hlo, (Array.getElem?_eq_some_iff.1 hg).1⟩
theorem Win.ch {M : Nat → Prop} (h : Win enc e sz lo w ad c xs) (hc : Ch M w w') (hM : ∀ k ∈ blkOf ad, ¬ M k) : Win enc e sz lo w' ad c xs := by
  rcases h with h | ⟨g, off, cur, rfl, hlo, hg, r⟩
  · exact .inl h
  · refine .inr ⟨g, off, cur, rfl, hlo, ?_, r⟩
    rw [hc.block g (Array.getElem?_eq_some_iff.1 hg).1 (hM g (by simp [blkOf]))]
    exact hg
theorem Win.below (h : Win enc e sz lo w ad c xs) (hb : Below w.heap.size w w') : Win enc e sz lo w' ad c xs := h.ch (M := fun _ => False) (Ch.of_below hb) (fun _ _ h => h)
theorem Win.alloc (h : Win enc e sz lo w ad c xs) (o : Obj) : Win enc e sz lo (w.alloc o) ad c xs := h.below ((Below.refl _ _).alloc (Nat.le_refl _) _)
theorem Win.drew (h : Win enc e sz lo w ad c xs) : Win enc e sz lo w.drew ad c xs := h.below ((Below.refl _ _).drew)
theorem Win.low {lo' : Nat} (h : Win enc e sz lo w ad c xs) (hl : lo' ≤ lo) : Win enc e sz lo' w ad c xs := by
  rcases h with h | ⟨g, off, cur, r1, r2, r3⟩
  · exact .inl h
  · exact .inr ⟨g, off, cur, r1, Nat.le_trans hl r2, r3⟩
theorem Win.cells (h : Win enc e sz lo w ad c xs) (h0 : xs ≠ []) : ∃ g off, ad = some ⟨g, off, none⟩ ∧ g < w.heap.size ∧ ∀ j u, (xs.flatMap enc)[j]? = some u → w.cell? ⟨g, off + j, none⟩ = some u := by
  rcases h with ⟨_, _, rfl⟩ | ⟨g, off, cur, rfl, hlo, hg, h1, h2, _, h3⟩
  · exact absurd rfl h0
  · refine ⟨g, off, rfl, (Array.getElem?_eq_some_iff.1 hg).1, fun j u hu => ?_⟩
    rw [← h3, List.getElem?_take] at hu
    split at hu
    · rw [List.getElem?_drop] at hu
      rw [cell_of_row w g _ cur e (0, 0) hg]
      simpa using hu
    · cases hu
theorem Win.sl (hs : ∀ x, (enc x).length = sz) (h : Win enc e sz lo w ad c xs) : Sl enc sz w ad xs := by
  by_cases h0 : xs = []
  · exact .inl h0
  · obtain ⟨g, off, rfl, hlt, hc⟩ := h.cells h0
    refine .inr ⟨g, off, rfl, hlt, fun i hi j hj => ?_⟩
    have h1 := flat_get enc sz hs xs i hi j hj
    have hlt : j < (enc xs[i]).length := by rw [hs]; exact hj
    rw [List.getElem?_eq_getElem hlt] at h1 ⊢
    have := hc _ _ h1
    rwa [← Nat.add_assoc] at this
theorem FreshIn.win {hi n : Nat} (h : FreshIn enc e sz lo hi (.slice ad n c) xs w) : Win enc e sz lo w ad c xs := by
  obtain ⟨⟨a', cap', hv, h1, h2⟩, h3⟩ := h
  cases hv
  rcases h2.2 with ⟨hv, hn⟩ | ⟨g, cap, cur, hv, hbg, hg, hnc, hcm, hcs, htake⟩
  · simp only [Value.slice.injEq] at hv
    obtain ⟨rfl, _, rfl⟩ := hv
    exact .inl ⟨rfl, rfl, List.eq_nil_of_length_eq_zero hn⟩
  · simp only [Value.slice.injEq] at hv
    obtain ⟨rfl, _, rfl⟩ := hv
    exact .inr ⟨g, 0, cur, rfl, hbg, hg, hnc, by omega, hcm, by simpa using htake⟩
theorem Win.tail {x : α} {g off : Nat} (hs : ∀ x, (enc x).length = sz) (h : Win enc e sz lo w (some ⟨g, off, none⟩) c (x :: xs)) : Win enc e sz lo w (some ⟨g, off + sz, none⟩) (c - 1) xs := by
  rcases h with ⟨h, _⟩ | ⟨g', off', cur, he, hlo, hg, h1, h2, h4, h3⟩
  · cases h
  · cases he
    simp only [List.length_cons] at h1 h3
    have e1 : c * sz = (c - 1) * sz + sz := by rw [← Nat.succ_mul]; congr 1; omega
    refine .inr ⟨g, off + sz, cur, rfl, hlo, hg, by omega, by omega, by omega, ?_⟩
    have h5 := congrArg (List.drop sz) h3
    rw [List.drop_take, List.drop_drop, List.flatMap_cons, List.drop_left' (hs x)] at h5
    rw [← h5]
    congr 1
    rw [Nat.succ_mul]
    omega
theorem Win.pre {ys : List α} (hs : ∀ x, (enc x).length = sz) (h : Win enc e sz lo w ad c (xs ++ ys)) : Win enc e sz lo w ad c xs := by
  rcases h with ⟨h1, h2, h3⟩ | ⟨g, off, cur, h1, hlo, hg, h2, h3, h4, h5⟩
  · exact .inl ⟨h1, h2, (List.append_eq_nil_iff.1 h3).1⟩
  · refine .inr ⟨g, off, cur, h1, hlo, hg, by simp at h2; omega, h3, h4, ?_⟩
    have h6 := congrArg (List.take (xs.length * sz)) h5
    rw [List.take_take, List.length_append, Nat.add_mul, Nat.min_eq_left (by omega), List.flatMap_append, ← flat_length enc sz hs xs, List.take_left] at h6
    rwa [flat_length enc sz hs xs] at h6
theorem run_append_win {P : Program} (t tx ty : TypeId) (i : TypeInfo) (z : Value) (bytes : Nat) (ht : P.underlying t = some (.slice e)) (hi : P.info? e = some i) (hz : i.zero = some z)
    (hsize : i.size = sz) (hby : i.bytes = bytes) (hzs : z.cells.size = sz) (hbp : 0 < bytes) (hs : ∀ x, (enc x).length = sz)
    (hw : Win enc e sz lo w ad c xs) (x : Value) (ys : List α) (hsrc : Src P sz tx x ys.length (ys.flatMap enc) w)
    (hbytes : (xs.length + ys.length) * bytes ≤ 140737488355328) (hlo : lo ≤ w.heap.size) :
    ∃ a' c' w', (Builtin.append_ #[t, tx] ty #[.slice ad xs.length c, x]).run P w = .ok (.slice a' (xs ++ ys).length c') w' ∧ Win enc e sz lo w' a' c' (xs ++ ys) ∧ Ch (· ∈ blkOf ad) w w' ∧ (∀ k ∈ blkOf a', k ∈ blkOf ad ∨ k = w.heap.size) ∧ Win enc e sz lo w' ad c xs ∧ ((a' = ad ∧ c' = c) ∨ ∀ k ∈ blkOf a', k = w.heap.size) := by
  subst hsize
  subst hby
  have hnl := hsrc.newsLen
  have h63 : xs.length + ys.length ≤ maxLen := by
    have : xs.length + ys.length ≤ (xs.length + ys.length) * i.bytes := Nat.le_mul_of_pos_right _ hbp
    unfold maxLen; omega
  have hsmall : ((xs.length + ys.length : Nat) : Int) ≤ 9223372036854775807 := by simp only [maxLen] at h63; omega
  have hlen := flat_length enc i.size hs (xs ++ ys)
  have hfl : xs.flatMap enc ++ ys.flatMap enc = (xs ++ ys).flatMap enc := by rw [List.flatMap_append]
  have hll : (xs ++ ys).length = xs.length + ys.length := by simp
  have grown : ∀ (old : Nat) (hr : (Builtin.append_ #[t, tx] ty #[.slice ad xs.length c, x]).run P w = .ok (.slice (some ⟨w.heap.size, 0, none⟩) (xs.length + ys.length) (grownCap w (xs.length + ys.length) old e)) (w.drew.alloc (.cells ((xs.flatMap enc ++ ys.flatMap enc).toArray ++ Builtin.zeroCells z.cells (grownCap w (xs.length + ys.length) old e - (xs.length + ys.length))) e))),
      ∃ a' c' w', (Builtin.append_ #[t, tx] ty #[.slice ad xs.length c, x]).run P w = .ok (.slice a' (xs ++ ys).length c') w' ∧ Win enc e i.size lo w' a' c' (xs ++ ys) ∧ Ch (· ∈ blkOf ad) w w' ∧ (∀ k ∈ blkOf a', k ∈ blkOf ad ∨ k = w.heap.size) ∧ Win enc e i.size lo w' ad c xs ∧ ((a' = ad ∧ c' = c) ∨ ∀ k ∈ blkOf a', k = w.heap.size) := by
    intro old hr
    have hge := grownCap_ge w (xs.length + ys.length) old e
    have hcm : grownCap w (xs.length + ys.length) old e ≤ maxLen := grownCap_le_maxLen w (xs.length + ys.length) old e h63
    refine ⟨_, _, _, by rw [hll]; exact hr, .inr ⟨w.heap.size, 0, _, rfl, hlo, heap_alloc_new w.drew _, by rw [hll]; exact hge, ?_, hcm, ?_⟩, (Ch.refl.drew).alloc _, fun k hk => .inr (by simpa [blkOf] using hk), hw.ch (M := fun _ => False) ((Ch.refl.drew).alloc _) (fun _ _ h => h), .inr (fun k hk => by simpa [blkOf] using hk)⟩
    · simp only [Array.size_append, List.size_toArray, size_zeroCells, hzs]
      rw [hfl, hlen, hll, ← Nat.add_mul, Nat.zero_add]
      exact Nat.mul_le_mul_right _ (by omega)
    · rw [List.drop_zero, ← hlen, ← hfl, Array.toList_append]
      exact List.take_left
  by_cases h0 : xs = [] ∧ ad = none
  · obtain ⟨rfl, rfl⟩ := h0
    obtain rfl : c = 0 := by
      rcases hw with ⟨_, h, _⟩ | ⟨_, _, _, h, _⟩
      · exact h
      · cases h
    by_cases hm : ys.length = 0
    · obtain rfl : ys = [] := List.eq_nil_of_length_eq_zero hm
      exact ⟨none, 0, w, run_append_nothing w t tx ty e i ht hi none 0 0 (Nat.le_refl _) x hsrc, .inl ⟨rfl, rfl, rfl⟩, Ch.refl, fun k hk => .inl hk, .inl ⟨rfl, rfl, rfl⟩, .inl ⟨rfl, rfl⟩⟩
    · have hr := run_append_grow_src (P := P) w t tx ty e i z ht hi hz none 0 0 [] (run_firstCells_none w.drew i.size 0 0 0) x ys.length (ys.flatMap enc) hsrc (by omega) (by simpa using hsmall) (growslice_fits (by omega) (by simpa using hbytes))
      exact grown 0 (by simpa using hr)
  · have hw' := hw
    rcases hw' with ⟨h1, _, h2⟩ | ⟨g, off, cur, rfl, hlo', hg, h1, h2, h4, h3⟩
    · exact absurd ⟨h2, h1⟩ h0
    · by_cases hroom : xs.length + ys.length ≤ c
      · have hk : (xs.length + ys.length) * i.size ≤ c * i.size := Nat.mul_le_mul_right _ hroom
        rw [Nat.add_mul] at hk
        have hcl : ∀ j, j < (ys.flatMap enc).length → (w.cell? ⟨g, off + xs.length * i.size + j, none⟩).isSome = true := by
          intro j hj
          rw [cell_of_row w g _ cur e (0, 0) hg, Array.getElem?_eq_getElem (by omega)]
          rfl
        have hf : ∀ j, j < (ys.flatMap enc).length → w.frozen? ⟨g, off + xs.length * i.size + j, none⟩ = false := fun j hj => frozen_of_row w g _ cur e hg
        have hr := run_append_room_src (P := P) w t tx ty e i ht hi g off xs.length c x ys.length (ys.flatMap enc) hsrc hroom hcl hf
        obtain ⟨cur', k1, k2, k3⟩ := setCells_own g e (ys.flatMap enc) (off + xs.length * i.size) w cur hg (by omega)
        have hgr := setCells_grown g (ys.flatMap enc) (off + xs.length * i.size) w
        refine ⟨_, _, _, by rw [hll]; exact hr, .inr ⟨g, off, cur', rfl, hlo', k1, by rw [hll]; exact hroom, by omega, h4, ?_⟩, ⟨hgr.os, hgr.tape, hgr.output, hgr.size, fun k hk hne => hgr.block k hk (fun e => hne (by cases e; simp [blkOf]))⟩, fun k hk => .inl hk, .inr ⟨g, off, cur', rfl, hlo', k1, h1, by omega, h4, ?_⟩, .inl ⟨rfl, rfl⟩⟩
        rotate_left
        · have hcl0 : cur.toList.length = cur.size := Array.length_toList
          have k5 := congrArg (List.take (off + xs.length * i.size)) k3
          rw [List.take_take, Nat.min_eq_left (by omega), List.take_append_of_le_length (by rw [List.length_take]; omega), List.take_take, Nat.min_self] at k5
          have k6 := congrArg (List.drop off) k5
          rw [List.drop_take, List.drop_take, show off + xs.length * i.size - off = xs.length * i.size by omega, h3] at k6
          exact k6
        have e1 : (xs ++ ys).length * i.size = xs.length * i.size + (ys.flatMap enc).length := by rw [hll, Nat.add_mul, hnl]
        have hcl0 : cur.toList.length = cur.size := Array.length_toList
        have k4 := congrArg (List.drop off) k3
        rw [List.drop_take, show off + xs.length * i.size + (ys.flatMap enc).length - off = xs.length * i.size + (ys.flatMap enc).length by omega, List.drop_append_of_le_length (by rw [List.length_take]; omega), List.drop_take, show off + xs.length * i.size - off = xs.length * i.size by omega, h3] at k4
        rw [e1, k4, hfl]
      · have holds : ∀ j u, (xs.flatMap enc)[j]? = some u → w.drew.cell? ((⟨g, off, none⟩ : Addr).add j) = some u := by
          intro j u hu
          rw [← h3, List.getElem?_take] at hu
          split at hu
          · rw [List.getElem?_drop] at hu
            rw [Addr.add_lit, World.cell?_drew, cell_of_row w g _ cur e (0, 0) hg]
            simpa using hu
          · cases hu
        have hr := run_append_grow_src (P := P) w t tx ty e i z ht hi hz (some ⟨g, off, none⟩) xs.length c (xs.flatMap enc) (run_firstCells_some w.drew i.size xs.length ⟨g, off, none⟩ xs.length c (xs.flatMap enc) (flat_length enc i.size hs xs) holds) x ys.length (ys.flatMap enc) hsrc (by omega) hsmall (growslice_fits (by omega) hbytes)
        exact grown c hr
theorem step_append_win {P : Program} {o : Oper} {a : Act} {K : Act → World → Prop} {Q : Exit → Act → World → Prop} (s x : Operand) (t tx : TypeId)
    (i : TypeInfo) (z : Value) (bytes : Nat) (ht : P.underlying t = some (.slice e)) (hi : P.info? e = some i) (hz : i.zero = some z)
    (hsize : i.size = sz) (hby : i.bytes = bytes) (hzs : z.cells.size = sz) (hbp : 0 < bytes) (hs : ∀ x, (enc x).length = sz)
    (n : Nat) (hn : xs.length = n) (hw : Win enc e sz lo w ad c xs) (xv : Value) (ys : List α) (hsrc : Src P sz tx xv ys.length (ys.flatMap enc) w)
    (hbytes : (xs.length + ys.length) * bytes ≤ 140737488355328) (hlo : lo ≤ w.heap.size)
    (ho : o.op = .call { callee := .builtin .append, args := #[s, x], argTypes := #[t, tx] }) (hv : a.eval s = .slice ad n c) (hx : a.eval x = xv)
    (h : ∀ a' c' w' us, Hid (us = xs ++ ys) → Win enc e sz lo w' a' c' us → Ch (· ∈ blkOf ad) w w' → (∀ k ∈ blkOf a', k ∈ blkOf ad ∨ k = w.heap.size) → Win enc e sz lo w' ad c xs → ((a' = ad ∧ c' = c) ∨ ∀ k ∈ blkOf a', k = w.heap.size) → K (a.put o.dst (.slice a' us.length c')) w') : Oper.wp P o a w K Q := by
  subst hn
  obtain ⟨a', c', w', hr, k1, k2, k3, k4, k5⟩ := run_append_win (P := P) t tx o.type i z bytes ht hi hz hsize hby hzs hbp hs hw xv ys hsrc hbytes hlo
  unfold Oper.wp execOp
  simp only [ho, resolve, invoke, builtin, Sem.run_bind, Sem.run_pure, Result.andThen_ok, List.map_toArray, List.map_cons, List.map_nil, hv, hx, hr]
  exact h a' c' w' _ rfl k1 k2 k3 k4 k5
theorem flat_take (hs : ∀ x, (enc x).length = sz) (k : Nat) : (xs.flatMap enc).take (k * sz) = (xs.take k).flatMap enc := by
  induction xs generalizing k with
  | nil => simp
  | cons x xs ih =>
    cases k with
    | zero => simp
    | succ k =>
      rw [List.take_succ_cons, List.flatMap_cons, List.flatMap_cons, Nat.succ_mul, Nat.add_comm (k * sz) sz, ← hs x, List.take_length_add_append, hs x, ih]
theorem flat_drop (hs : ∀ x, (enc x).length = sz) (k : Nat) : (xs.flatMap enc).drop (k * sz) = (xs.drop k).flatMap enc := by
  induction xs generalizing k with
  | nil => simp
  | cons x xs ih =>
    cases k with
    | zero => simp
    | succ k =>
      rw [List.drop_succ_cons, List.flatMap_cons, Nat.succ_mul, Nat.add_comm (k * sz) sz, ← hs x, List.drop_length_add_append, hs x, ih]
theorem run_copy_fresh {P : Program} {hi n g c dLen dCap sLen sCap off : Nat} {dp sp : Option Addr} (dT sT ty elem : TypeId) (hu : P.underlying dT = some (.slice elem)) (hsz : (P.info? elem).map (·.size) = some sz) (hs : ∀ x, (enc x).length = sz) (h1 : ∀ x, ∀ u ∈ enc x, u.oneCell' = true)
    (hF : FreshIn enc e sz lo hi (.slice (some ⟨g, 0, none⟩) n c) xs w) (ys : List α) (hn : ys.length = Nat.min sLen dLen)
    (hpos : 0 < ys.length → dp = some ⟨g, off * sz, none⟩ ∧ Sl enc sz w sp ys) (hfit : off + ys.length ≤ xs.length) :
    ∃ w', (Builtin.copy_ #[dT, sT] ty #[.slice dp dLen dCap, .slice sp sLen sCap]).run P w = .ok (goInt ys.length) w' ∧ FreshIn enc e sz lo hi (.slice (some ⟨g, 0, none⟩) n c) (splice xs off ys) w' ∧ Ch (· = g) w w' := by
  have hi0 : ∃ i, P.info? elem = some i ∧ i.size = sz := by
    cases hq : P.info? elem with
    | none => rw [hq] at hsz; cases hsz
    | some i => exact ⟨i, rfl, by simpa [hq] using hsz⟩
  obtain ⟨i, hq, his⟩ := hi0
  by_cases h0 : ys.length = 0
  · obtain rfl : ys = [] := List.eq_nil_of_length_eq_zero h0
    refine ⟨w, ?_, ?_, Ch.refl⟩
    · have hm : Nat.min sLen dLen = 0 := by simpa using hn.symm
      have hl0 : ∀ a, (loadCells a 0).run P w = .ok #[] w := fun a => run_loadCells_list (P := P) w a [] (by simp)
      cases dp <;> cases sp <;> simp [Builtin.copy_, run_underlying hu, Builtin.lenOf, Builtin.firstCells, sizeOf, typeInfo, hq, hm, hl0, storeCells]
    · have : splice xs off [] = xs := by simp [splice]
      rw [this]
      exact hF
  obtain ⟨hdp, hsl⟩ := hpos (by omega)
  subst hdp
  have hyn : ys ≠ [] := fun e => h0 (by rw [e]; rfl)
  obtain ⟨b, so, hsp, hblt, hcells⟩ : ∃ b so, sp = some ⟨b, so, none⟩ ∧ b < w.heap.size ∧ ∀ j v, (ys.flatMap enc)[j]? = some v → w.cell? ((⟨b, so, none⟩ : Addr).add j) = some v := by
    rcases hsl with h | ⟨b, so, rfl, hlt, hc⟩
    · exact absurd h hyn
    · refine ⟨b, so, rfl, hlt, fun j v hv => ?_⟩
      have hj : j < ys.length * sz := by rw [← flat_length enc sz hs ys]; exact (List.getElem?_eq_some_iff.1 hv).1
      have hszp : 0 < sz := by
        rcases Nat.eq_zero_or_pos sz with h | h
        · rw [h] at hj; simp at hj
        · exact h
      have hq1 : j / sz < ys.length := Nat.div_lt_of_lt_mul (by rw [Nat.mul_comm]; exact hj)
      have hr1 : j % sz < sz := Nat.mod_lt _ hszp
      have hj' : j = j / sz * sz + j % sz := by rw [Nat.mul_comm]; exact (Nat.div_add_mod j sz).symm
      have k2 := hc (j / sz) hq1 (j % sz) hr1
      have k3 := flat_get enc sz hs ys (j / sz) hq1 (j % sz) hr1
      rw [← hj', hv] at k3
      rw [← k3] at k2
      have hadd : (⟨b, so, none⟩ : Addr).add j = ⟨b, so + j / sz * sz + j % sz, none⟩ := by
        rw [Addr.add_lit, Nat.add_assoc, ← hj']
      rw [hadd, k2]
  subst hsp
  obtain ⟨⟨a', cap', hv, hle, ho⟩, hup⟩ := hF
  cases hv
  obtain ⟨hol, ho2⟩ := ho
  rcases ho2 with ⟨hv, _⟩ | ⟨g', cap, cur, hv, hbg, hg, hnc, hcm, hcs, htake⟩
  · cases hv
  · cases hv
    have hyl := flat_length enc sz hs ys
    have hfl2 : (off + ys.length) * sz ≤ xs.length * sz := Nat.mul_le_mul_right _ hfit
    have hnc2 : xs.length * sz ≤ c * sz := Nat.mul_le_mul_right _ hnc
    rw [Nat.add_mul] at hfl2
    have hl := run_loadCells_list (P := P) w ⟨b, so, none⟩ (ys.flatMap enc) hcells
    have hone : ∀ v ∈ ys.flatMap enc, v.oneCell' = true := fun v hv => by
      obtain ⟨x, _, hx⟩ := List.mem_flatMap.1 hv
      exact h1 x v hx
    have hst := run_storeCells_at P g (off * sz) e (ys.flatMap enc) 0 cur w hg (by omega) hone
    rw [hyl] at hl
    have hrun : (Builtin.copy_ #[dT, sT] ty #[.slice (some ⟨g, off * sz, none⟩) dLen dCap, .slice (some ⟨b, so, none⟩) sLen sCap]).run P w = .ok (goInt ys.length) (w.setRow g (cur.toList.take (off * sz + 0) ++ ys.flatMap enc ++ cur.toList.drop (off * sz + 0 + (ys.flatMap enc).length)).toArray) := by
      simp [Builtin.copy_, run_underlying hu, Builtin.lenOf, Builtin.firstCells, sizeOf, typeInfo, hq, his, ← hn, hl, hst]
    refine ⟨_, hrun, ?_, ⟨rfl, rfl, rfl, by simp [World.setRow], fun k _ hk => setRow_other w g k _ hk⟩⟩
    refine ⟨⟨_, _, by rw [length_splice _ _ _ hfit], by rw [length_splice _ _ _ hfit]; exact hle, ?_, .inr ⟨g, c, _, rfl, hbg, setRow_heap w g cur _ e _ hg, by rw [length_splice _ _ _ hfit]; exact hnc, hcm, ?_, ?_⟩⟩, fun k hk => hup k (by simpa [Value.ownBlock] using hk)⟩
    · rw [flat_length enc sz hs]
    · simp only [List.size_toArray, List.length_append, List.length_take, List.length_drop, Array.length_toList]
      omega
    · have e1 : cur.toList.take (off * sz) = (xs.take off).flatMap enc := by
        rw [← flat_take hs, ← htake, List.take_take, Nat.min_eq_left (by omega)]
      have e2 : (cur.toList.drop (off * sz + (ys.flatMap enc).length)).take (xs.length * sz - (off * sz + (ys.flatMap enc).length)) = (xs.drop (off + ys.length)).flatMap enc := by
        rw [← flat_drop hs, ← htake, List.drop_take, hyl, Nat.add_mul]
      rw [length_splice _ _ _ hfit]
      simp only [Nat.add_zero, List.toList_toArray, splice, List.flatMap_append]
      rw [← e1, ← e2, List.append_assoc, List.take_append, List.take_append]
      have hcl0 : cur.toList.length = cur.size := Array.length_toList
      have hl1 : (cur.toList.take (off * sz)).length = off * sz := by rw [List.length_take]; omega
      rw [List.take_of_length_le (by omega)]
      congr 1
      rw [hl1, List.take_of_length_le (by omega)]
      congr 2
      omega
theorem step_copy_fresh {P : Program} {o : Oper} {a : Act} {K : Act → World → Prop} {Q : Exit → Act → World → Prop} {hi n g c dLen dCap sLen sCap off : Nat} {dp sp : Option Addr} (d s : Operand) (dT sT elem : TypeId) (hu : P.underlying dT = some (.slice elem)) (hsz : (P.info? elem).map (·.size) = some sz) (hs : ∀ x, (enc x).length = sz) (h1 : ∀ x, ∀ u ∈ enc x, u.oneCell' = true)
    (hF : FreshIn enc e sz lo hi (.slice (some ⟨g, 0, none⟩) n c) xs w) (ys : List α) (hn : ys.length = Nat.min sLen dLen)
    (hpos : 0 < ys.length → dp = some ⟨g, off * sz, none⟩ ∧ Sl enc sz w sp ys) (hfit : off + ys.length ≤ xs.length)
    (ho : o.op = .call { callee := .builtin .copy, args := #[d, s], argTypes := #[dT, sT] }) (hd : a.eval d = .slice dp dLen dCap) (hv : a.eval s = .slice sp sLen sCap)
    (h : ∀ w', FreshIn enc e sz lo hi (.slice (some ⟨g, 0, none⟩) n c) (splice xs off ys) w' → Ch (· = g) w w' → K (a.put o.dst (goInt ys.length)) w') : Oper.wp P o a w K Q := by
  obtain ⟨w', hr, k1, k2⟩ := run_copy_fresh (P := P) dT sT o.type elem hu hsz hs h1 hF ys hn hpos hfit
  unfold Oper.wp execOp
  simp only [ho, resolve, invoke, builtin, Sem.run_bind, Sem.run_pure, Result.andThen_ok, List.map_toArray, List.map_cons, List.map_nil, hd, hv]
  rw [hr]
  exact h w' k1 k2
end
end
section
open Go.RowKit
abbrev Cl := Int × Int
def celE (c : Cl) : List Value := [.int .i64 c.1, .int .i64 c.2]
structure Scr where
  w : Nat
  h : Nat
  x : Nat
  y : Nat
  look : Nat
  top : Nat
  bot : Nat
  sx : Nat
  sy : Nat
  title : ByteArray
  cells : List Cl
  hist : List ByteArray
def blank : Cl := (32, 0)
def blanksL (n : Nat) : List Cl := List.replicate n blank
def trimC (l : List Cl) : List Cl := (l.reverse.dropWhile (fun c => c.1 == 32)).reverse
def rowL (l : List Cl) : List UInt8 := (trimC l).flatMap fun c => utfB c.1.toNat
def rowC (s : Scr) (y : Nat) : List Cl := (s.cells.drop (y * s.w)).take s.w
def rowT (s : Scr) (y : Nat) : ByteArray := ⟨(rowL (rowC s y)).toArray⟩
def pushH (l : List ByteArray) (r : ByteArray) : List ByteArray := if 6 < (l ++ [r]).length then (l ++ [r]).tail else l ++ [r]
def up1 (w a b : Nat) (l : List Cl) : List Cl := l.take (a * w) ++ ((l.drop ((a + 1) * w)).take ((b - a) * w) ++ (blanksL w ++ l.drop ((b + 1) * w)))
def dn1 (w a b : Nat) (l : List Cl) : List Cl := l.take (a * w) ++ (blanksL w ++ ((l.drop (a * w)).take ((b - a) * w) ++ l.drop ((b + 1) * w)))
def scU1 (keep : Bool) (a b : Nat) (s : Scr) : Scr := { s with cells := up1 s.w a b s.cells, hist := if a = 0 ∧ keep = true then pushH s.hist (rowT s 0) else s.hist }
def scU (keep : Bool) (a b : Nat) : Nat → Scr → Scr
  | 0, s => s
  | n + 1, s => scU1 keep a b (scU keep a b n s)
def scD1 (a b : Nat) (s : Scr) : Scr := { s with cells := dn1 s.w a b s.cells }
def scD (a b : Nat) : Nat → Scr → Scr
  | 0, s => s
  | n + 1, s => scD1 a b (scD a b n s)
def clrL (f t : Nat) (l : List Cl) : List Cl := l.take f ++ (blanksL (t - f) ++ l.drop t)
def clr (f t : Nat) (s : Scr) : Scr := { s with cells := clrL f t s.cells }
def downS (s : Scr) : Scr := if s.y = s.bot then scU true s.top s.bot 1 s else { s with y := min (s.h - 1) (s.y + 1) }
def upS (s : Scr) : Scr := if s.y = s.top then scD s.top s.bot 1 s else { s with y := s.y - 1 }
def wrapS (s : Scr) : Scr := if s.x = s.w then downS { s with x := 0 } else s
def putS (s : Scr) (n : Int) : Scr := { s with cells := s.cells.set (s.y * s.w + s.x) (n, (s.look : Int)), x := s.x + 1 }
def printS (s : Scr) (n : Int) : Scr := putS (wrapS s) n
def ctlS (s : Scr) (n : Int) : Scr :=
  if n = 8 then { s with x := min s.x (s.w - 1) - 1 } else if n = 9 then { s with x := min (s.w - 1) ((s.x / 8 + 1) * 8) }
  else if n = 10 then downS s else if n = 13 then { s with x := 0 } else s
def newS (w h : Nat) : Scr := ⟨w, h, 0, 0, 0, 0, h - 1, 0, 0, e0, blanksL (w * h), []⟩
def escS (s : Scr) (n : Int) : Scr :=
  if n = 55 then { s with sx := s.x, sy := s.y } else if n = 56 then { s with x := s.sx, y := s.sy } else if n = 68 then downS s
  else if n = 69 then downS { s with x := 0 } else if n = 77 then upS s else if n = 99 then { newS s.w s.h with hist := s.hist } else s
def lookN (l : Nat) (n : Int) : Nat :=
  if n ≤ 0 then 0 else if n = 1 then l ||| 64 else if n = 4 then l ||| 32 else if n = 7 then l ||| 16
  else if 30 ≤ n ∧ n ≤ 37 then (l &&& 112) ||| (n - 29).toNat else if n = 39 then l &&& 112 else l
def argA (xs : List Int) (i : Nat) (d : Int) : Int := if h : i < xs.length then (if xs[i] < 0 then d else xs[i]) else d
def arg1 (xs : List Int) (i : Nat) : Nat := max 1 (argA xs i 1).toNat
def curS (s : Scr) : Nat := s.y * s.w + min s.x (s.w - 1)
def eraS (s : Scr) (n : Int) (f t : Nat) : Scr :=
  if n = 0 then clr (curS s) t s else if n = 1 then clr f (curS s + 1) s else if n = 2 then clr f t s else s
def csiS (s : Scr) (c : Int) (xs : List Int) : Scr :=
  if c = 65 then { s with y := s.y - arg1 xs 0 }
  else if c = 66 then { s with y := min (s.h - 1) (s.y + arg1 xs 0) }
  else if c = 67 then { s with x := min (s.w - 1) (s.x + arg1 xs 0) }
  else if c = 68 then { s with x := min s.x (s.w - 1) - arg1 xs 0 }
  else if c = 72 ∨ c = 102 then { s with y := min s.h (arg1 xs 0) - 1, x := min s.w (arg1 xs 1) - 1 }
  else if c = 74 then eraS s (argA xs 0 0) 0 (s.w * s.h)
  else if c = 75 then eraS s (argA xs 0 0) (s.y * s.w) ((s.y + 1) * s.w)
  else if c = 76 then (if s.top ≤ s.y ∧ s.y ≤ s.bot then { scD s.y s.bot (min (arg1 xs 0) (s.bot - s.y + 1)) s with x := 0 } else s)
  else if c = 77 then (if s.top ≤ s.y ∧ s.y ≤ s.bot then { scU false s.y s.bot (min (arg1 xs 0) (s.bot - s.y + 1)) s with x := 0 } else s)
  else if c = 83 then scU true s.top s.bot (min (arg1 xs 0) (s.bot - s.top + 1)) s
  else if c = 84 then scD s.top s.bot (min (arg1 xs 0) (s.bot - s.top + 1)) s
  else if c = 109 then { s with look := xs.foldl lookN s.look }
  else if c = 114 then (if arg1 xs 0 < min s.h (argA xs 1 s.h).toNat then { s with top := arg1 xs 0 - 1, bot := min s.h (argA xs 1 s.h).toNat - 1, x := 0, y := 0 } else s)
  else s
def actS (s : Scr) (a : AV) : Scr :=
  if a.kind = 1 then printS s a.n else if a.kind = 2 then ctlS s a.n else if a.kind = 3 then escS s a.n
  else if a.kind = 4 then (if a.priv = true then s else csiS s a.n a.args) else if a.kind = 5 then { s with title := a.text } else s
def actsS (s : Scr) (l : List AV) : Scr := l.foldl actS s
def celOK (c : Cl) : Prop := rnOK c.1 ∧ 0 ≤ c.2 ∧ c.2 ≤ 127
structure ScrOK (s : Scr) : Prop where
  w1 : 2 ≤ s.w
  w2 : s.w ≤ 24
  h1 : 2 ≤ s.h
  h2 : s.h ≤ 10
  hx : s.x ≤ s.w
  hy : s.y < s.h
  lk : s.look ≤ 127
  tb : s.top < s.bot
  bh : s.bot < s.h
  hsx : s.sx ≤ s.w
  hsy : s.sy < s.h
  ti : titB s.title = true
  cn : s.cells.length = s.w * s.h
  cs : ∀ c ∈ s.cells, celOK c
  hn : s.hist.length ≤ 6
  hs : ∀ t ∈ s.hist, t.size ≤ 96
theorem celOK_blank : celOK blank := ⟨⟨by decide, by decide, by decide, by decide⟩, by decide, by decide⟩
theorem celOK_blanks {n : Nat} : ∀ c ∈ blanksL n, celOK c := fun c h => by rw [(List.mem_replicate.1 h).2]; exact celOK_blank
theorem dropWhile_len {α : Type} (p : α → Bool) : ∀ l : List α, (l.dropWhile p).length ≤ l.length
  | [] => Nat.le_refl _
  | a :: l => by
    rw [List.dropWhile_cons]
    split
    · exact Nat.le_succ_of_le (dropWhile_len p l)
    · exact Nat.le_refl _
theorem trimC_len (l : List Cl) : (trimC l).length ≤ l.length := by
  have := dropWhile_len (fun c : Cl => c.1 == 32) l.reverse
  simpa [trimC] using this
theorem flatU_len : ∀ l : List Cl, (l.flatMap fun c => utfB c.1.toNat).length ≤ 4 * l.length
  | [] => Nat.le_refl _
  | c :: l => by
    rw [List.flatMap_cons, List.length_append, List.length_cons]
    have h1 := utfB_len c.1.toNat
    have h2 := flatU_len l
    omega
theorem rowT_size (s : Scr) (y : Nat) : (rowT s y).size ≤ 4 * s.w := by
  have h1 := flatU_len (trimC (rowC s y))
  have h2 := trimC_len (rowC s y)
  have h3 : (rowC s y).length ≤ s.w := by simp only [rowC, List.length_take]; omega
  show (rowL (rowC s y)).toArray.size ≤ _
  rw [List.size_toArray]
  unfold rowL
  omega
theorem mul_le_of {a b w : Nat} (h : a ≤ b) : a * w ≤ b * w := Nat.mul_le_mul_right w h
theorem up1_len {w a b n : Nat} {l : List Cl} (hl : l.length = w * n) (hab : a ≤ b) (hb : b < n) : (up1 w a b l).length = w * n := by
  have h1 : (b + 1) * w ≤ n * w := mul_le_of (by omega)
  have h2 : a * w ≤ b * w := mul_le_of hab
  have e1 : (a + 1) * w = a * w + w := Nat.succ_mul a w
  have e2 : (b + 1) * w = b * w + w := Nat.succ_mul b w
  have e3 : (b - a) * w = b * w - a * w := Nat.sub_mul b a w
  have e4 : w * n = n * w := Nat.mul_comm w n
  simp only [up1, blanksL, List.length_append, List.length_take, List.length_drop, List.length_replicate, hl]
  omega
theorem dn1_len {w a b n : Nat} {l : List Cl} (hl : l.length = w * n) (hab : a ≤ b) (hb : b < n) : (dn1 w a b l).length = w * n := by
  have h1 : (b + 1) * w ≤ n * w := mul_le_of (by omega)
  have h2 : a * w ≤ b * w := mul_le_of hab
  have e2 : (b + 1) * w = b * w + w := Nat.succ_mul b w
  have e3 : (b - a) * w = b * w - a * w := Nat.sub_mul b a w
  have e4 : w * n = n * w := Nat.mul_comm w n
  simp only [dn1, blanksL, List.length_append, List.length_take, List.length_drop, List.length_replicate, hl]
  omega
theorem clrL_len {f t : Nat} {l : List Cl} (hf : f ≤ t) (ht : t ≤ l.length) : (clrL f t l).length = l.length := by
  simp only [clrL, blanksL, List.length_append, List.length_take, List.length_drop, List.length_replicate]
  omega
theorem up1_ok {w a b : Nat} {l : List Cl} (h : ∀ c ∈ l, celOK c) : ∀ c ∈ up1 w a b l, celOK c := by
  intro c hc
  simp only [up1, List.mem_append] at hc
  rcases hc with hc | hc | hc | hc
  · exact h c (List.mem_of_mem_take hc)
  · exact h c (List.mem_of_mem_drop (List.mem_of_mem_take hc))
  · exact celOK_blanks c hc
  · exact h c (List.mem_of_mem_drop hc)
theorem dn1_ok {w a b : Nat} {l : List Cl} (h : ∀ c ∈ l, celOK c) : ∀ c ∈ dn1 w a b l, celOK c := by
  intro c hc
  simp only [dn1, List.mem_append] at hc
  rcases hc with hc | hc | hc | hc
  · exact h c (List.mem_of_mem_take hc)
  · exact celOK_blanks c hc
  · exact h c (List.mem_of_mem_drop (List.mem_of_mem_take hc))
  · exact h c (List.mem_of_mem_drop hc)
theorem clrL_ok {f t : Nat} {l : List Cl} (h : ∀ c ∈ l, celOK c) : ∀ c ∈ clrL f t l, celOK c := by
  intro c hc
  simp only [clrL, List.mem_append] at hc
  rcases hc with hc | hc | hc
  · exact h c (List.mem_of_mem_take hc)
  · exact celOK_blanks c hc
  · exact h c (List.mem_of_mem_drop hc)
theorem pushH_ok {l : List ByteArray} {r : ByteArray} (h1 : l.length ≤ 6) (h2 : ∀ t ∈ l, t.size ≤ 96) (h3 : r.size ≤ 96) : (pushH l r).length ≤ 6 ∧ ∀ t ∈ pushH l r, t.size ≤ 96 := by
  have hm : ∀ t ∈ l ++ [r], t.size ≤ 96 := fun t ht => by
    rcases List.mem_append.1 ht with ht | ht
    · exact h2 t ht
    · simp at ht; subst ht; exact h3
  unfold pushH
  split
  · refine ⟨by simp; omega, fun t ht => hm t (List.mem_of_mem_tail ht)⟩
  · refine ⟨by simp at *; omega, hm⟩
section
variable {s : Scr}
theorem ScrOK.okRow (h : ScrOK s) (y : Nat) : (rowT s y).size ≤ 96 := by have := rowT_size s y; have := h.w2; omega
theorem ScrOK.okU1 (h : ScrOK s) {k : Bool} {a b : Nat} (hab : a ≤ b) (hb : b < s.h) : ScrOK (scU1 k a b s) := by
  have hp := pushH_ok h.hn h.hs (h.okRow 0)
  have hq : (scU1 k a b s).hist.length ≤ 6 ∧ ∀ t ∈ (scU1 k a b s).hist, t.size ≤ 96 := by
    unfold scU1
    simp only
    split
    · exact hp
    · exact ⟨h.hn, h.hs⟩
  exact ⟨h.w1, h.w2, h.h1, h.h2, h.hx, h.hy, h.lk, h.tb, h.bh, h.hsx, h.hsy, h.ti, up1_len h.cn hab hb, up1_ok h.cs, hq.1, hq.2⟩
theorem scU_same (k : Bool) (a b : Nat) (s : Scr) : ∀ n, (scU k a b n s).w = s.w ∧ (scU k a b n s).h = s.h ∧ (scU k a b n s).x = s.x ∧ (scU k a b n s).y = s.y ∧ (scU k a b n s).look = s.look ∧ (scU k a b n s).top = s.top ∧ (scU k a b n s).bot = s.bot ∧ (scU k a b n s).sx = s.sx ∧ (scU k a b n s).sy = s.sy ∧ (scU k a b n s).title = s.title
  | 0 => ⟨rfl, rfl, rfl, rfl, rfl, rfl, rfl, rfl, rfl, rfl⟩
  | n + 1 => scU_same k a b s n
theorem scD_same (a b : Nat) (s : Scr) : ∀ n, (scD a b n s).w = s.w ∧ (scD a b n s).h = s.h ∧ (scD a b n s).x = s.x ∧ (scD a b n s).y = s.y ∧ (scD a b n s).look = s.look ∧ (scD a b n s).top = s.top ∧ (scD a b n s).bot = s.bot ∧ (scD a b n s).sx = s.sx ∧ (scD a b n s).sy = s.sy ∧ (scD a b n s).title = s.title ∧ (scD a b n s).hist = s.hist
  | 0 => ⟨rfl, rfl, rfl, rfl, rfl, rfl, rfl, rfl, rfl, rfl, rfl⟩
  | n + 1 => scD_same a b s n
theorem ScrOK.okU (h : ScrOK s) {k : Bool} {a b : Nat} (hab : a ≤ b) (hb : b < s.h) : ∀ n, ScrOK (scU k a b n s)
  | 0 => h
  | n + 1 => (h.okU hab hb n).okU1 hab (by rw [(scU_same k a b s n).2.1]; exact hb)
theorem ScrOK.okD1 (h : ScrOK s) {a b : Nat} (hab : a ≤ b) (hb : b < s.h) : ScrOK (scD1 a b s) :=
  ⟨h.w1, h.w2, h.h1, h.h2, h.hx, h.hy, h.lk, h.tb, h.bh, h.hsx, h.hsy, h.ti, dn1_len h.cn hab hb, dn1_ok h.cs, h.hn, h.hs⟩
theorem ScrOK.okD (h : ScrOK s) {a b : Nat} (hab : a ≤ b) (hb : b < s.h) : ∀ n, ScrOK (scD a b n s)
  | 0 => h
  | n + 1 => (h.okD hab hb n).okD1 hab (by rw [(scD_same a b s n).2.1]; exact hb)
theorem ScrOK.xy (h : ScrOK s) {x y : Nat} (hx : x ≤ s.w) (hy : y < s.h) : ScrOK { s with x := x, y := y } :=
  ⟨h.w1, h.w2, h.h1, h.h2, hx, hy, h.lk, h.tb, h.bh, h.hsx, h.hsy, h.ti, h.cn, h.cs, h.hn, h.hs⟩
theorem ScrOK.down (h : ScrOK s) : ScrOK (downS s) := by
  unfold downS
  split
  · exact h.okU (Nat.le_of_lt h.tb) h.bh 1
  · exact h.xy h.hx (by have := h.h1; omega)
theorem ScrOK.up (h : ScrOK s) : ScrOK (upS s) := by
  unfold upS
  split
  · exact h.okD (Nat.le_of_lt h.tb) h.bh 1
  · exact h.xy h.hx (by have := h.hy; omega)
theorem downS_same (s : Scr) : (downS s).w = s.w ∧ (downS s).h = s.h ∧ (downS s).x = s.x ∧ (downS s).look = s.look := by unfold downS; split <;> exact ⟨rfl, rfl, rfl, rfl⟩
theorem ScrOK.wrap (h : ScrOK s) : ScrOK (wrapS s) ∧ (wrapS s).x < (wrapS s).w := by
  unfold wrapS
  split
  · refine ⟨(h.xy (x := 0) (y := s.y) (Nat.zero_le _) h.hy).down, ?_⟩
    have h1 := downS_same { s with x := 0 }
    rw [h1.1, h1.2.2.1]
    show 0 < s.w
    have := h.w1; omega
  · exact ⟨h, by have := h.hx; omega⟩
theorem mem_set_or {α : Type} {l : List α} {i : Nat} {x c : α} (h : c ∈ l.set i x) : c = x ∨ c ∈ l := by
  rcases List.mem_or_eq_of_mem_set h with h | h
  · exact .inr h
  · exact .inl h
theorem ScrOK.put (h : ScrOK s) (hx : s.x < s.w) {n : Int} (hn : rnOK n) : ScrOK (putS s n) :=
  ⟨h.w1, h.w2, h.h1, h.h2, hx, h.hy, h.lk, h.tb, h.bh, h.hsx, h.hsy, h.ti, by simp only [putS, List.length_set]; exact h.cn, fun c hc => by
    rcases mem_set_or hc with rfl | hc
    · exact ⟨hn, by have := h.lk; simp only; omega⟩
    · exact h.cs c hc, h.hn, h.hs⟩
theorem ScrOK.print (h : ScrOK s) {n : Int} (hn : rnOK n) : ScrOK (printS s n) := h.wrap.1.put h.wrap.2 hn
theorem ScrOK.ctl (h : ScrOK s) (n : Int) : ScrOK (ctlS s n) := by
  have := h.hx
  unfold ctlS
  split
  · exact h.xy (x := min s.x (s.w - 1) - 1) (y := s.y) (by omega) h.hy
  split
  · exact h.xy (x := min (s.w - 1) ((s.x / 8 + 1) * 8)) (y := s.y) (by omega) h.hy
  split
  · exact h.down
  split
  · exact h.xy (x := 0) (y := s.y) (by omega) h.hy
  · exact h
theorem ScrOK.new {w h : Nat} (h1 : 2 ≤ w) (h2 : w ≤ 24) (h3 : 2 ≤ h) (h4 : h ≤ 10) : ScrOK (newS w h) :=
  ⟨h1, h2, h3, h4, Nat.zero_le _, by simp only [newS]; omega, by simp only [newS]; omega, by simp only [newS]; omega, by simp only [newS]; omega, Nat.zero_le _, by simp only [newS]; omega, by rfl, by simp [newS, blanksL], celOK_blanks, by simp [newS], by simp [newS]⟩
theorem ScrOK.esc (h : ScrOK s) (n : Int) : ScrOK (escS s n) := by
  unfold escS
  split
  · exact ⟨h.w1, h.w2, h.h1, h.h2, h.hx, h.hy, h.lk, h.tb, h.bh, h.hx, h.hy, h.ti, h.cn, h.cs, h.hn, h.hs⟩
  split
  · exact h.xy h.hsx h.hsy
  split
  · exact h.down
  split
  · exact (h.xy (x := 0) (y := s.y) (Nat.zero_le _) h.hy).down
  split
  · exact h.up
  split
  · have k := ScrOK.new h.w1 h.w2 h.h1 h.h2
    exact ⟨k.w1, k.w2, k.h1, k.h2, k.hx, k.hy, k.lk, k.tb, k.bh, k.hsx, k.hsy, k.ti, k.cn, k.cs, h.hn, h.hs⟩
  · exact h
theorem or_le {a b : Nat} (ha : a ≤ 127) (hb : b ≤ 127) : a ||| b ≤ 127 := by
  have := Nat.or_lt_two_pow (x := a) (y := b) (n := 7) (by omega) (by omega)
  omega
theorem lookN_ok {l : Nat} (h : l ≤ 127) (n : Int) : lookN l n ≤ 127 := by
  unfold lookN
  split
  · omega
  split
  · exact or_le h (by omega)
  split
  · exact or_le h (by omega)
  split
  · exact or_le h (by omega)
  split
  · exact or_le (Nat.le_trans Nat.and_le_left h) (by omega)
  split
  · exact Nat.le_trans Nat.and_le_left h
  · exact h
theorem looks_ok {l : Nat} (h : l ≤ 127) : ∀ xs : List Int, xs.foldl lookN l ≤ 127
  | [] => h
  | x :: xs => by rw [List.foldl_cons]; exact looks_ok (lookN_ok h x) xs
theorem ScrOK.okClr (h : ScrOK s) {f t : Nat} (hf : f ≤ t) (ht : t ≤ s.w * s.h) : ScrOK (clr f t s) :=
  ⟨h.w1, h.w2, h.h1, h.h2, h.hx, h.hy, h.lk, h.tb, h.bh, h.hsx, h.hsy, h.ti, (clrL_len hf (by rw [h.cn]; exact ht)).trans h.cn, clrL_ok h.cs, h.hn, h.hs⟩
theorem ScrOK.cur (h : ScrOK s) : s.y * s.w ≤ curS s ∧ curS s + 1 ≤ (s.y + 1) * s.w ∧ (s.y + 1) * s.w ≤ s.w * s.h := by
  have h1 : (s.y + 1) * s.w ≤ s.h * s.w := mul_le_of h.hy
  have e1 : (s.y + 1) * s.w = s.y * s.w + s.w := Nat.succ_mul _ _
  have e2 : s.w * s.h = s.h * s.w := Nat.mul_comm _ _
  have := h.w1
  unfold curS
  omega
theorem ScrOK.era (h : ScrOK s) (n : Int) {f t : Nat} (hf : f ≤ curS s) (ht : curS s + 1 ≤ t) (ht2 : t ≤ s.w * s.h) : ScrOK (eraS s n f t) := by
  unfold eraS
  split
  · exact h.okClr (by omega) ht2
  split
  · exact h.okClr (by omega) (by omega)
  split
  · exact h.okClr (by omega) ht2
  · exact h
theorem arg1_pos (xs : List Int) (i : Nat) : 1 ≤ arg1 xs i := by unfold arg1; omega
theorem ite_ok {α : Type} {P : α → Prop} {c : Prop} [Decidable c] {a b : α} (h1 : c → P a) (h2 : ¬ c → P b) : P (if c then a else b) := by split <;> first | exact h1 ‹_› | exact h2 ‹_›
theorem ScrOK.csi (h : ScrOK s) (c : Int) (xs : List Int) : ScrOK (csiS s c xs) := by
  have hy := h.hy
  have hx := h.hx
  have hh := h.h1
  have hw := h.w1
  have hc := h.cur
  have p0 := arg1_pos xs 0
  have p1 := arg1_pos xs 1
  unfold csiS
  refine ite_ok (fun hcc => ?_) (fun _ => ?_)
  · exact h.xy (x := s.x) (y := s.y - arg1 xs 0) hx (by omega)
  refine ite_ok (fun hcc => ?_) (fun _ => ?_)
  · exact h.xy (x := s.x) (y := min (s.h - 1) (s.y + arg1 xs 0)) hx (by omega)
  refine ite_ok (fun hcc => ?_) (fun _ => ?_)
  · exact h.xy (x := min (s.w - 1) (s.x + arg1 xs 0)) (y := s.y) (by omega) hy
  refine ite_ok (fun hcc => ?_) (fun _ => ?_)
  · exact h.xy (x := min s.x (s.w - 1) - arg1 xs 0) (y := s.y) (by omega) hy
  refine ite_ok (fun hcc => ?_) (fun _ => ?_)
  · exact h.xy (x := min s.w (arg1 xs 1) - 1) (y := min s.h (arg1 xs 0) - 1) (by omega) (by omega)
  refine ite_ok (fun hcc => ?_) (fun _ => ?_)
  · exact h.era _ (Nat.zero_le _) (by omega) (Nat.le_refl _)
  refine ite_ok (fun hcc => ?_) (fun _ => ?_)
  · exact h.era _ hc.1 hc.2.1 hc.2.2
  refine ite_ok (fun hcc => ?_) (fun _ => ?_)
  · refine ite_ok (fun hin => ?_) (fun _ => h)
    · have k := h.okD (a := s.y) (b := s.bot) hin.2 h.bh (min (arg1 xs 0) (s.bot - s.y + 1))
      exact k.xy (x := 0) (y := (scD s.y s.bot _ s).y) (Nat.zero_le _) k.hy
  refine ite_ok (fun hcc => ?_) (fun _ => ?_)
  · refine ite_ok (fun hin => ?_) (fun _ => h)
    · have k := h.okU (k := false) (a := s.y) (b := s.bot) hin.2 h.bh (min (arg1 xs 0) (s.bot - s.y + 1))
      exact k.xy (x := 0) (y := (scU false s.y s.bot _ s).y) (Nat.zero_le _) k.hy
  refine ite_ok (fun hcc => ?_) (fun _ => ?_)
  · exact h.okU (Nat.le_of_lt h.tb) h.bh _
  refine ite_ok (fun hcc => ?_) (fun _ => ?_)
  · exact h.okD (Nat.le_of_lt h.tb) h.bh _
  refine ite_ok (fun hcc => ?_) (fun _ => ?_)
  · exact ⟨h.w1, h.w2, h.h1, h.h2, h.hx, h.hy, looks_ok h.lk xs, h.tb, h.bh, h.hsx, h.hsy, h.ti, h.cn, h.cs, h.hn, h.hs⟩
  refine ite_ok (fun hcc => ?_) (fun _ => ?_)
  · refine ite_ok (fun hin => ?_) (fun _ => h)
    · exact ⟨h.w1, h.w2, h.h1, h.h2, Nat.zero_le _, by simp only; omega, h.lk, by simp only; omega, by simp only; omega, h.hsx, h.hsy, h.ti, h.cn, h.cs, h.hn, h.hs⟩
  · exact h
theorem ScrOK.act (h : ScrOK s) {a : AV} (ha : AcOK a) : ScrOK (actS s a) := by
  rcases ha with ⟨hk, ht, hA, h1, h2⟩ | ⟨hp, hA, ⟨hk, hn, ht⟩ | ⟨ht, ⟨hk, hn⟩ | ⟨hk, hn⟩ | ⟨hk, hn⟩⟩⟩
  · unfold actS
    rw [hk]
    simp only [show ¬ (4 : Int) = 1 by decide, show ¬ (4 : Int) = 2 by decide, show ¬ (4 : Int) = 3 by decide, if_false, if_true]
    split
    · exact h
    · exact h.csi _ _
  · unfold actS
    rw [hk]
    simp only [show ¬ (5 : Int) = 1 by decide, show ¬ (5 : Int) = 2 by decide, show ¬ (5 : Int) = 3 by decide, show ¬ (5 : Int) = 4 by decide, if_false, if_true]
    exact ⟨h.w1, h.w2, h.h1, h.h2, h.hx, h.hy, h.lk, h.tb, h.bh, h.hsx, h.hsy, ht, h.cn, h.cs, h.hn, h.hs⟩
  · unfold actS
    rw [hk, if_pos rfl]
    exact h.print hn
  · unfold actS
    rw [hk]
    simp only [show ¬ (2 : Int) = 1 by decide, if_false, if_true]
    exact h.ctl _
  · unfold actS
    rw [hk]
    simp only [show ¬ (3 : Int) = 1 by decide, show ¬ (3 : Int) = 2 by decide, if_false, if_true]
    exact h.esc _
theorem ScrOK.acts (h : ScrOK s) : ∀ {l : List AV}, (∀ a ∈ l, AcOK a) → ScrOK (actsS s l) := by
  intro l
  induction l generalizing s with
  | nil => intro _; exact h
  | cons a l ih => intro hl; exact ih (h.act (hl a (by simp))) (fun b hb => hl b (by simp [hb]))
end
end
section
open Go.RowKit
theorem celOne : ∀ x : Cl, ∀ u ∈ celE x, u.oneCell' = true := fun x u hu => by
  simp only [celE, List.mem_cons, List.not_mem_nil, or_false] at hu
  rcases hu with rfl | rfl <;> rfl
structure ScrAt (lo b o : Nat) (s : Scr) (g cc : Nat) (ah : Option Addr) (dh : Nat) (w : World) : Prop where
  c0 : w.cell? ⟨b, o, none⟩ = some (.int .i64 (s.w : Int))
  c1 : w.cell? ⟨b, o + 1, none⟩ = some (.int .i64 (s.h : Int))
  c2 : w.cell? ⟨b, o + 2, none⟩ = some (.int .i64 (s.x : Int))
  c3 : w.cell? ⟨b, o + 3, none⟩ = some (.int .i64 (s.y : Int))
  c4 : w.cell? ⟨b, o + 4, none⟩ = some (.int .i64 (s.look : Int))
  c5 : w.cell? ⟨b, o + 5, none⟩ = some (.int .i64 (s.top : Int))
  c6 : w.cell? ⟨b, o + 6, none⟩ = some (.int .i64 (s.bot : Int))
  c7 : w.cell? ⟨b, o + 7, none⟩ = some (.int .i64 (s.sx : Int))
  c8 : w.cell? ⟨b, o + 8, none⟩ = some (.int .i64 (s.sy : Int))
  c9 : w.cell? ⟨b, o + 9, none⟩ = some (.string s.title)
  c10 : w.cell? ⟨b, o + 10, none⟩ = some (.slice (some ⟨g, 0, none⟩) s.cells.length cc)
  c11 : w.cell? ⟨b, o + 11, none⟩ = some (.slice ah s.hist.length dh)
  fz : ∀ k, w.frozen? ⟨b, k, none⟩ = false
  lt : b < w.heap.size
  row : FreshIn celE 87 2 lo w.heap.size (.slice (some ⟨g, 0, none⟩) s.cells.length cc) s.cells w
  win : Win strE 9 1 lo w ah dh s.hist
  gb : g ≠ b
  hb : ∀ k ∈ blkOf ah, k ≠ b ∧ k ≠ g
theorem Upd.transN {g lo hi : Nat} {S N : Nat → Prop} {a w w' : World} (h : Upd g lo hi S a w) (k : Upd g lo hi N w w') (hN : ∀ i, N i → S i ∨ a.heap.size ≤ i) : Upd g lo hi S a w' :=
  ⟨k.os.trans h.os, k.tape.trans h.tape, k.output.trans h.output, Nat.le_trans h.size k.size, fun i h1 h2 h3 => (k.block i (Nat.lt_of_lt_of_le h1 h.size) h2 (fun t => by
    rcases hN i t with h4 | h4
    · exact h3 h4
    · omega)).trans (h.block i h1 h2 h3), fun o ho => (k.cell o ho).trans (h.cell o ho), fun o => (k.fz o).trans (h.fz o)⟩
theorem Upd.ofCh {g lo hi : Nat} {M S : Nat → Prop} {w w' : World} (h : Ch M w w') (hg : g < w.heap.size) (hn : ¬ M g) (hS : ∀ i, M i → S i ∨ w.heap.size ≤ i) : Upd g lo hi S w w' :=
  ⟨h.os, h.tape, h.output, h.size, fun k h1 _ h3 => h.block k h1 (fun hm => by
    rcases hS k hm with h4 | h4
    · exact h3 h4
    · omega), fun o _ => h.cell (p := ⟨g, o, none⟩) hg hn, fun o => h.frozen (p := ⟨g, o, none⟩) hg hn⟩
theorem Upd.drew {g lo hi : Nat} {S : Nat → Prop} {w w' : World} (h : Upd g lo hi S w w') : Upd g lo hi S w w'.drew := ⟨h.os, h.tape, h.output, h.size, h.block, h.cell, h.fz⟩
theorem Upd.ch {g lo hi : Nat} {S : Nat → Prop} {w w' : World} (h : Upd g lo hi S w w') : Ch (fun k => k = g ∨ S k) w w' := ⟨h.os, h.tape, h.output, h.size, fun k h1 h2 => h.block k h1 (fun e => h2 (.inl e)) (fun e => h2 (.inr e))⟩
theorem Upd.set1 {g lo hi o : Nat} {S : Nat → Prop} {w : World} (h1 : lo ≤ o) (h2 : o < hi) (u : Value) : Upd g lo hi S w (w.setCell ⟨g, o, none⟩ u) := Upd.refl.setCell o h1 h2 u
theorem Ch.set1' (w : World) (b k : Nat) (u : Value) : Ch (· = b) w (w.setCell ⟨b, k, none⟩ u) := (Ch.refl (M := (· = b)) (w := w)).setCell (p := ⟨b, k, none⟩) (.inl rfl) u
def ScrR (lo b o : Nat) (s' : Scr) (g : Nat) (ah : Option Addr) (w w' : World) : Prop :=
  ∃ g' cc' ah' dh', ScrAt lo b o s' g' cc' ah' dh' w' ∧ Upd b o (o + 12) (fun k => k = g ∨ k ∈ blkOf ah) w w' ∧ (g' = g ∨ w.heap.size ≤ g') ∧ ∀ k ∈ blkOf ah', k ∈ blkOf ah ∨ w.heap.size ≤ k
theorem ScrR.mk {lo b o : Nat} {s : Scr} {g cc : Nat} {ah : Option Addr} {dh : Nat} {w w' : World} (h : ScrAt lo b o s g cc ah dh w') (u : Upd b o (o + 12) (fun k => k = g ∨ k ∈ blkOf ah) w w') : ScrR lo b o s g ah w w' :=
  ⟨g, cc, ah, dh, h, u, .inl rfl, fun _ hk => .inl hk⟩
theorem ScrR.trans {lo b o : Nat} {s' s2 : Scr} {g g' cc' : Nat} {ah ah' : Option Addr} {dh' : Nat} {w w' w2 : World} (_ : ScrAt lo b o s' g' cc' ah' dh' w') (u : Upd b o (o + 12) (fun k => k = g ∨ k ∈ blkOf ah) w w') (hg : g' = g ∨ w.heap.size ≤ g') (ha : ∀ k ∈ blkOf ah', k ∈ blkOf ah ∨ w.heap.size ≤ k) (k : ScrR lo b o s2 g' ah' w' w2) : ScrR lo b o s2 g ah w w2 := by
  obtain ⟨g3, c3, a3, d3, h3, u3, hg3, ha3⟩ := k
  have hz := u.size
  refine ⟨g3, c3, a3, d3, h3, u.transN u3 (fun i hi => ?_), ?_, fun i hi => ?_⟩
  · rcases hi with hi | hi
    · subst hi
      rcases hg with hg | hg
      · exact .inl (.inl hg)
      · exact .inr hg
    · rcases ha i hi with h | h
      · exact .inl (.inr h)
      · exact .inr h
  · rcases hg3 with h | h
    · rw [h]; exact hg
    · exact .inr (by omega)
  · rcases ha3 i hi with h | h
    · exact ha i h
    · exact .inr (by omega)
section
variable {lo b o : Nat} {s : Scr} {g cc : Nat} {ah : Option Addr} {dh : Nat} {w w' : World} {M : Nat → Prop}
theorem ScrAt.ch (h : ScrAt lo b o s g cc ah dh w) (hc : Ch M w w') (h1 : ¬ M b) (h2 : ¬ M g) (h3 : ∀ k ∈ blkOf ah, ¬ M k) : ScrAt lo b o s g cc ah dh w' where
  c0 := (hc.cell (p := ⟨b, o, none⟩) h.lt h1).trans h.c0
  c1 := (hc.cell (p := ⟨b, o + 1, none⟩) h.lt h1).trans h.c1
  c2 := (hc.cell (p := ⟨b, o + 2, none⟩) h.lt h1).trans h.c2
  c3 := (hc.cell (p := ⟨b, o + 3, none⟩) h.lt h1).trans h.c3
  c4 := (hc.cell (p := ⟨b, o + 4, none⟩) h.lt h1).trans h.c4
  c5 := (hc.cell (p := ⟨b, o + 5, none⟩) h.lt h1).trans h.c5
  c6 := (hc.cell (p := ⟨b, o + 6, none⟩) h.lt h1).trans h.c6
  c7 := (hc.cell (p := ⟨b, o + 7, none⟩) h.lt h1).trans h.c7
  c8 := (hc.cell (p := ⟨b, o + 8, none⟩) h.lt h1).trans h.c8
  c9 := (hc.cell (p := ⟨b, o + 9, none⟩) h.lt h1).trans h.c9
  c10 := (hc.cell (p := ⟨b, o + 10, none⟩) h.lt h1).trans h.c10
  c11 := (hc.cell (p := ⟨b, o + 11, none⟩) h.lt h1).trans h.c11
  fz := fun k => (hc.frozen (p := ⟨b, k, none⟩) h.lt h1).trans (h.fz k)
  lt := Nat.lt_of_lt_of_le h.lt hc.size
  row := h.row.ch hc (fun k hk => by simp only [blkOf, List.mem_singleton] at hk; subst hk; exact h2)
  win := h.win.ch hc h3
  gb := h.gb
  hb := h.hb
theorem ScrAt.below (h : ScrAt lo b o s g cc ah dh w) (hb : Below w.heap.size w w') : ScrAt lo b o s g cc ah dh w' := h.ch (M := fun _ => False) (Ch.of_below hb) (fun h => h) (fun h => h) (fun _ _ h => h)
theorem ScrAt.alloc (h : ScrAt lo b o s g cc ah dh w) (x : Obj) : ScrAt lo b o s g cc ah dh (w.alloc x) := h.below ((Below.refl _ _).alloc (Nat.le_refl _) _)
theorem ScrAt.drew (h : ScrAt lo b o s g cc ah dh w) : ScrAt lo b o s g cc ah dh w.drew := h.below ((Below.refl _ _).drew)
theorem ScrAt.low {lo' : Nat} (h : ScrAt lo b o s g cc ah dh w) (hl : lo' ≤ lo) : ScrAt lo' b o s g cc ah dh w :=
  ⟨h.c0, h.c1, h.c2, h.c3, h.c4, h.c5, h.c6, h.c7, h.c8, h.c9, h.c10, h.c11, h.fz, h.lt, h.row.mono hl (Nat.le_refl _), h.win.low hl, h.gb, h.hb⟩
theorem ScrAt.glt (h : ScrAt lo b o s g cc ah dh w) : lo ≤ g ∧ g < w.heap.size := FreshIn.blks h.row g (by simp [blkOf])
theorem ScrAt.sl (h : ScrAt lo b o s g cc ah dh w) : Sl celE 2 w (some ⟨g, 0, none⟩) s.cells := h.row.sl (fun _ => rfl)
theorem ScrAt.hsl (h : ScrAt lo b o s g cc ah dh w) : Sl strE 1 w ah s.hist := h.win.sl (fun _ => rfl)
theorem ScrAt.cell (h : ScrAt lo b o s g cc ah dh w) {i : Nat} (hi : i < s.cells.length) : w.cell? ⟨g, i * 2, none⟩ = some (.int .i64 s.cells[i].1) ∧ w.cell? ⟨g, i * 2 + 1, none⟩ = some (.int .i64 s.cells[i].2) := by
  obtain ⟨b', o', he, hlt, hc⟩ := h.sl.at hi
  cases he
  have h0 := hc i hi 0 (by omega)
  have h1 := hc i hi 1 (by omega)
  simp only [celE, Nat.zero_add, Nat.add_zero, List.getElem?_cons_zero, List.getElem?_cons_succ] at h0 h1
  exact ⟨h0, h1⟩
theorem ScrAt.gfz (h : ScrAt lo b o s g cc ah dh w) : ∀ k, w.frozen? ⟨g, k, none⟩ = false := by
  obtain ⟨⟨a', cap', hv, h1, h2⟩, _⟩ := h.row
  cases hv
  exact fun k => h2.frozenAt k
theorem Upd.refl' : Upd b o (o + 12) (fun k => k = g ∨ k ∈ blkOf ah) w w := Upd.refl
theorem ScrAt.set2 (h : ScrAt lo b o s g cc ah dh w) (v : Nat) : ScrAt lo b o { s with x := v } g cc ah dh (w.setCell ⟨b, o + 2, none⟩ (.int .i64 (v : Int))) where
  c0 := sO h.c0
  c1 := sO h.c1
  c2 := World.cell?_setCell_same _ _ _ h.c2
  c3 := sO h.c3
  c4 := sO h.c4
  c5 := sO h.c5
  c6 := sO h.c6
  c7 := sO h.c7
  c8 := sO h.c8
  c9 := sO h.c9
  c10 := sO h.c10
  c11 := sO h.c11
  fz := fun k => (World.frozen?_setCell _ _ _ _).trans (h.fz k)
  lt := by have := h.lt; simpa [World.setCell] using this
  row := h.row.ch (Ch.set1' w b (o + 2) _) (fun k hk e => by simp only [blkOf, List.mem_singleton] at hk; exact h.gb (hk.symm.trans e))
  win := h.win.ch (Ch.set1' w b (o + 2) _) (fun k hk e => (h.hb k hk).1 e)
  gb := h.gb
  hb := h.hb
theorem ScrAt.setv2 (h : ScrAt lo b o s g cc ah dh w) (v : Nat) {z : Int} (hz : z = (v : Int)) : ScrAt lo b o { s with x := v } g cc ah dh (w.setCell ⟨b, o + 2, none⟩ (.int .i64 z)) := by subst hz; exact h.set2 v
theorem Upd.set2 (h : Upd b o (o + 12) (fun k => k = g ∨ k ∈ blkOf ah) w w') (v : Value) : Upd b o (o + 12) (fun k => k = g ∨ k ∈ blkOf ah) w (w'.setCell ⟨b, o + 2, none⟩ v) := h.setCell (o + 2) (by omega) (by omega) v
theorem ScrAt.set3 (h : ScrAt lo b o s g cc ah dh w) (v : Nat) : ScrAt lo b o { s with y := v } g cc ah dh (w.setCell ⟨b, o + 3, none⟩ (.int .i64 (v : Int))) where
  c0 := sO h.c0
  c1 := sO h.c1
  c2 := sO h.c2
  c3 := World.cell?_setCell_same _ _ _ h.c3
  c4 := sO h.c4
  c5 := sO h.c5
  c6 := sO h.c6
  c7 := sO h.c7
  c8 := sO h.c8
  c9 := sO h.c9
  c10 := sO h.c10
  c11 := sO h.c11
  fz := fun k => (World.frozen?_setCell _ _ _ _).trans (h.fz k)
  lt := by have := h.lt; simpa [World.setCell] using this
  row := h.row.ch (Ch.set1' w b (o + 3) _) (fun k hk e => by simp only [blkOf, List.mem_singleton] at hk; exact h.gb (hk.symm.trans e))
  win := h.win.ch (Ch.set1' w b (o + 3) _) (fun k hk e => (h.hb k hk).1 e)
  gb := h.gb
  hb := h.hb
theorem ScrAt.setv3 (h : ScrAt lo b o s g cc ah dh w) (v : Nat) {z : Int} (hz : z = (v : Int)) : ScrAt lo b o { s with y := v } g cc ah dh (w.setCell ⟨b, o + 3, none⟩ (.int .i64 z)) := by subst hz; exact h.set3 v
theorem Upd.set3 (h : Upd b o (o + 12) (fun k => k = g ∨ k ∈ blkOf ah) w w') (v : Value) : Upd b o (o + 12) (fun k => k = g ∨ k ∈ blkOf ah) w (w'.setCell ⟨b, o + 3, none⟩ v) := h.setCell (o + 3) (by omega) (by omega) v
theorem ScrAt.set4 (h : ScrAt lo b o s g cc ah dh w) (v : Nat) : ScrAt lo b o { s with look := v } g cc ah dh (w.setCell ⟨b, o + 4, none⟩ (.int .i64 (v : Int))) where
  c0 := sO h.c0
  c1 := sO h.c1
  c2 := sO h.c2
  c3 := sO h.c3
  c4 := World.cell?_setCell_same _ _ _ h.c4
  c5 := sO h.c5
  c6 := sO h.c6
  c7 := sO h.c7
  c8 := sO h.c8
  c9 := sO h.c9
  c10 := sO h.c10
  c11 := sO h.c11
  fz := fun k => (World.frozen?_setCell _ _ _ _).trans (h.fz k)
  lt := by have := h.lt; simpa [World.setCell] using this
  row := h.row.ch (Ch.set1' w b (o + 4) _) (fun k hk e => by simp only [blkOf, List.mem_singleton] at hk; exact h.gb (hk.symm.trans e))
  win := h.win.ch (Ch.set1' w b (o + 4) _) (fun k hk e => (h.hb k hk).1 e)
  gb := h.gb
  hb := h.hb
theorem ScrAt.setv4 (h : ScrAt lo b o s g cc ah dh w) (v : Nat) {z : Int} (hz : z = (v : Int)) : ScrAt lo b o { s with look := v } g cc ah dh (w.setCell ⟨b, o + 4, none⟩ (.int .i64 z)) := by subst hz; exact h.set4 v
theorem Upd.set4 (h : Upd b o (o + 12) (fun k => k = g ∨ k ∈ blkOf ah) w w') (v : Value) : Upd b o (o + 12) (fun k => k = g ∨ k ∈ blkOf ah) w (w'.setCell ⟨b, o + 4, none⟩ v) := h.setCell (o + 4) (by omega) (by omega) v
theorem ScrAt.set5 (h : ScrAt lo b o s g cc ah dh w) (v : Nat) : ScrAt lo b o { s with top := v } g cc ah dh (w.setCell ⟨b, o + 5, none⟩ (.int .i64 (v : Int))) where
  c0 := sO h.c0
  c1 := sO h.c1
  c2 := sO h.c2
  c3 := sO h.c3
  c4 := sO h.c4
  c5 := World.cell?_setCell_same _ _ _ h.c5
  c6 := sO h.c6
  c7 := sO h.c7
  c8 := sO h.c8
  c9 := sO h.c9
  c10 := sO h.c10
  c11 := sO h.c11
  fz := fun k => (World.frozen?_setCell _ _ _ _).trans (h.fz k)
  lt := by have := h.lt; simpa [World.setCell] using this
  row := h.row.ch (Ch.set1' w b (o + 5) _) (fun k hk e => by simp only [blkOf, List.mem_singleton] at hk; exact h.gb (hk.symm.trans e))
  win := h.win.ch (Ch.set1' w b (o + 5) _) (fun k hk e => (h.hb k hk).1 e)
  gb := h.gb
  hb := h.hb
theorem ScrAt.setv5 (h : ScrAt lo b o s g cc ah dh w) (v : Nat) {z : Int} (hz : z = (v : Int)) : ScrAt lo b o { s with top := v } g cc ah dh (w.setCell ⟨b, o + 5, none⟩ (.int .i64 z)) := by subst hz; exact h.set5 v
theorem Upd.set5 (h : Upd b o (o + 12) (fun k => k = g ∨ k ∈ blkOf ah) w w') (v : Value) : Upd b o (o + 12) (fun k => k = g ∨ k ∈ blkOf ah) w (w'.setCell ⟨b, o + 5, none⟩ v) := h.setCell (o + 5) (by omega) (by omega) v
theorem ScrAt.set6 (h : ScrAt lo b o s g cc ah dh w) (v : Nat) : ScrAt lo b o { s with bot := v } g cc ah dh (w.setCell ⟨b, o + 6, none⟩ (.int .i64 (v : Int))) where
  c0 := sO h.c0
  c1 := sO h.c1
  c2 := sO h.c2
  c3 := sO h.c3
  c4 := sO h.c4
  c5 := sO h.c5
  c6 := World.cell?_setCell_same _ _ _ h.c6
  c7 := sO h.c7
  c8 := sO h.c8
  c9 := sO h.c9
  c10 := sO h.c10
  c11 := sO h.c11
  fz := fun k => (World.frozen?_setCell _ _ _ _).trans (h.fz k)
  lt := by have := h.lt; simpa [World.setCell] using this
  row := h.row.ch (Ch.set1' w b (o + 6) _) (fun k hk e => by simp only [blkOf, List.mem_singleton] at hk; exact h.gb (hk.symm.trans e))
  win := h.win.ch (Ch.set1' w b (o + 6) _) (fun k hk e => (h.hb k hk).1 e)
  gb := h.gb
  hb := h.hb
theorem ScrAt.setv6 (h : ScrAt lo b o s g cc ah dh w) (v : Nat) {z : Int} (hz : z = (v : Int)) : ScrAt lo b o { s with bot := v } g cc ah dh (w.setCell ⟨b, o + 6, none⟩ (.int .i64 z)) := by subst hz; exact h.set6 v
theorem Upd.set6 (h : Upd b o (o + 12) (fun k => k = g ∨ k ∈ blkOf ah) w w') (v : Value) : Upd b o (o + 12) (fun k => k = g ∨ k ∈ blkOf ah) w (w'.setCell ⟨b, o + 6, none⟩ v) := h.setCell (o + 6) (by omega) (by omega) v
theorem ScrAt.set7 (h : ScrAt lo b o s g cc ah dh w) (v : Nat) : ScrAt lo b o { s with sx := v } g cc ah dh (w.setCell ⟨b, o + 7, none⟩ (.int .i64 (v : Int))) where
  c0 := sO h.c0
  c1 := sO h.c1
  c2 := sO h.c2
  c3 := sO h.c3
  c4 := sO h.c4
  c5 := sO h.c5
  c6 := sO h.c6
  c7 := World.cell?_setCell_same _ _ _ h.c7
  c8 := sO h.c8
  c9 := sO h.c9
  c10 := sO h.c10
  c11 := sO h.c11
  fz := fun k => (World.frozen?_setCell _ _ _ _).trans (h.fz k)
  lt := by have := h.lt; simpa [World.setCell] using this
  row := h.row.ch (Ch.set1' w b (o + 7) _) (fun k hk e => by simp only [blkOf, List.mem_singleton] at hk; exact h.gb (hk.symm.trans e))
  win := h.win.ch (Ch.set1' w b (o + 7) _) (fun k hk e => (h.hb k hk).1 e)
  gb := h.gb
  hb := h.hb
theorem ScrAt.setv7 (h : ScrAt lo b o s g cc ah dh w) (v : Nat) {z : Int} (hz : z = (v : Int)) : ScrAt lo b o { s with sx := v } g cc ah dh (w.setCell ⟨b, o + 7, none⟩ (.int .i64 z)) := by subst hz; exact h.set7 v
theorem Upd.set7 (h : Upd b o (o + 12) (fun k => k = g ∨ k ∈ blkOf ah) w w') (v : Value) : Upd b o (o + 12) (fun k => k = g ∨ k ∈ blkOf ah) w (w'.setCell ⟨b, o + 7, none⟩ v) := h.setCell (o + 7) (by omega) (by omega) v
theorem ScrAt.set8 (h : ScrAt lo b o s g cc ah dh w) (v : Nat) : ScrAt lo b o { s with sy := v } g cc ah dh (w.setCell ⟨b, o + 8, none⟩ (.int .i64 (v : Int))) where
  c0 := sO h.c0
  c1 := sO h.c1
  c2 := sO h.c2
  c3 := sO h.c3
  c4 := sO h.c4
  c5 := sO h.c5
  c6 := sO h.c6
  c7 := sO h.c7
  c8 := World.cell?_setCell_same _ _ _ h.c8
  c9 := sO h.c9
  c10 := sO h.c10
  c11 := sO h.c11
  fz := fun k => (World.frozen?_setCell _ _ _ _).trans (h.fz k)
  lt := by have := h.lt; simpa [World.setCell] using this
  row := h.row.ch (Ch.set1' w b (o + 8) _) (fun k hk e => by simp only [blkOf, List.mem_singleton] at hk; exact h.gb (hk.symm.trans e))
  win := h.win.ch (Ch.set1' w b (o + 8) _) (fun k hk e => (h.hb k hk).1 e)
  gb := h.gb
  hb := h.hb
theorem ScrAt.setv8 (h : ScrAt lo b o s g cc ah dh w) (v : Nat) {z : Int} (hz : z = (v : Int)) : ScrAt lo b o { s with sy := v } g cc ah dh (w.setCell ⟨b, o + 8, none⟩ (.int .i64 z)) := by subst hz; exact h.set8 v
theorem Upd.set8 (h : Upd b o (o + 12) (fun k => k = g ∨ k ∈ blkOf ah) w w') (v : Value) : Upd b o (o + 12) (fun k => k = g ∨ k ∈ blkOf ah) w (w'.setCell ⟨b, o + 8, none⟩ v) := h.setCell (o + 8) (by omega) (by omega) v
theorem ScrAt.set9 (h : ScrAt lo b o s g cc ah dh w) (v : ByteArray) : ScrAt lo b o { s with title := v } g cc ah dh (w.setCell ⟨b, o + 9, none⟩ (.string v)) where
  c0 := sO h.c0
  c1 := sO h.c1
  c2 := sO h.c2
  c3 := sO h.c3
  c4 := sO h.c4
  c5 := sO h.c5
  c6 := sO h.c6
  c7 := sO h.c7
  c8 := sO h.c8
  c9 := World.cell?_setCell_same _ _ _ h.c9
  c10 := sO h.c10
  c11 := sO h.c11
  fz := fun k => (World.frozen?_setCell _ _ _ _).trans (h.fz k)
  lt := by have := h.lt; simpa [World.setCell] using this
  row := h.row.ch (Ch.set1' w b (o + 9) _) (fun k hk e => by simp only [blkOf, List.mem_singleton] at hk; exact h.gb (hk.symm.trans e))
  win := h.win.ch (Ch.set1' w b (o + 9) _) (fun k hk e => (h.hb k hk).1 e)
  gb := h.gb
  hb := h.hb
theorem Upd.set9 (h : Upd b o (o + 12) (fun k => k = g ∨ k ∈ blkOf ah) w w') (v : Value) : Upd b o (o + 12) (fun k => k = g ∨ k ∈ blkOf ah) w (w'.setCell ⟨b, o + 9, none⟩ v) := h.setCell (o + 9) (by omega) (by omega) v
theorem ScrAt.hist (h : ScrAt lo b o s g cc ah dh w) {us : List ByteArray} {a' : Option Addr} {c' : Nat} (hw : Win strE 9 1 lo w a' c' us) (hd : ∀ k ∈ blkOf a', k ≠ b ∧ k ≠ g) : ScrAt lo b o { s with hist := us } g cc a' c' (w.setCell ⟨b, o + 11, none⟩ (.slice a' us.length c')) where
  c0 := sO h.c0
  c1 := sO h.c1
  c2 := sO h.c2
  c3 := sO h.c3
  c4 := sO h.c4
  c5 := sO h.c5
  c6 := sO h.c6
  c7 := sO h.c7
  c8 := sO h.c8
  c9 := sO h.c9
  c10 := sO h.c10
  c11 := World.cell?_setCell_same _ _ _ h.c11
  fz := fun k => (World.frozen?_setCell _ _ _ _).trans (h.fz k)
  lt := by have := h.lt; simpa [World.setCell] using this
  row := h.row.ch (Ch.set1' w b (o + 11) _) (fun k hk e => by simp only [blkOf, List.mem_singleton] at hk; exact h.gb (hk.symm.trans e))
  win := hw.ch (Ch.set1' w b (o + 11) _) (fun k hk e => (hd k hk).1 e)
  gb := h.gb
  hb := hd
theorem ScrAt.cells (h : ScrAt lo b o s g cc ah dh w) {l : List Cl} (hf : FreshIn celE 87 2 lo w'.heap.size (.slice (some ⟨g, 0, none⟩) s.cells.length cc) l w') (hl : l.length = s.cells.length) (hc : Ch (· = g) w w') : ScrAt lo b o { s with cells := l } g cc ah dh w' where
  c0 := (hc.cell (p := ⟨b, o, none⟩) h.lt (fun e => h.gb e.symm)).trans h.c0
  c1 := (hc.cell (p := ⟨b, o + 1, none⟩) h.lt (fun e => h.gb e.symm)).trans h.c1
  c2 := (hc.cell (p := ⟨b, o + 2, none⟩) h.lt (fun e => h.gb e.symm)).trans h.c2
  c3 := (hc.cell (p := ⟨b, o + 3, none⟩) h.lt (fun e => h.gb e.symm)).trans h.c3
  c4 := (hc.cell (p := ⟨b, o + 4, none⟩) h.lt (fun e => h.gb e.symm)).trans h.c4
  c5 := (hc.cell (p := ⟨b, o + 5, none⟩) h.lt (fun e => h.gb e.symm)).trans h.c5
  c6 := (hc.cell (p := ⟨b, o + 6, none⟩) h.lt (fun e => h.gb e.symm)).trans h.c6
  c7 := (hc.cell (p := ⟨b, o + 7, none⟩) h.lt (fun e => h.gb e.symm)).trans h.c7
  c8 := (hc.cell (p := ⟨b, o + 8, none⟩) h.lt (fun e => h.gb e.symm)).trans h.c8
  c9 := (hc.cell (p := ⟨b, o + 9, none⟩) h.lt (fun e => h.gb e.symm)).trans h.c9
  c10 := by rw [hl]; exact (hc.cell (p := ⟨b, o + 10, none⟩) h.lt (fun e => h.gb e.symm)).trans h.c10
  c11 := (hc.cell (p := ⟨b, o + 11, none⟩) h.lt (fun e => h.gb e.symm)).trans h.c11
  fz := fun k => (hc.frozen (p := ⟨b, k, none⟩) h.lt (fun e => h.gb e.symm)).trans (h.fz k)
  lt := Nat.lt_of_lt_of_le h.lt hc.size
  row := by rw [hl]; exact hf
  win := h.win.ch hc (fun k hk => (h.hb k hk).2)
  gb := h.gb
  hb := h.hb
theorem flat_set (xs : List Cl) (i : Nat) (hi : i < xs.length) (c : Cl) : ((xs.flatMap celE).set (i * 2) (.int .i64 c.1)).set (i * 2 + 1) (.int .i64 c.2) = (xs.set i c).flatMap celE := flat_set2 celE (fun _ => rfl) xs i hi c _ _ rfl
theorem ScrAt.setC (h : ScrAt lo b o s g cc ah dh w) {i : Nat} (hi : i < s.cells.length) (c : Cl) : ScrAt lo b o { s with cells := s.cells.set i c } g cc ah dh ((w.setCell ⟨g, i * 2, none⟩ (.int .i64 c.1)).setCell ⟨g, i * 2 + 1, none⟩ (.int .i64 c.2)) := by
  have hc : Ch (· = g) w ((w.setCell ⟨g, i * 2, none⟩ (.int .i64 c.1)).setCell ⟨g, i * 2 + 1, none⟩ (.int .i64 c.2)) := (Ch.set1' w g (i * 2) _).trans (Ch.set1' _ g (i * 2 + 1) _) (fun _ h => .inl h)
  refine h.cells ?_ (by simp) hc
  obtain ⟨⟨a', cap', hv, h1, h2⟩, h3⟩ := h.row
  cases hv
  obtain ⟨hol, ho⟩ := h2
  rcases ho with ⟨hv, _⟩ | ⟨g', cap, cur, hv, hbg, hg, hnc, hcm, hcs, htake⟩
  · cases hv
  · cases hv
    have e1 := heap_setCell_same w g (i * 2) cur _ (.int .i64 c.1) hg
    have e2 := heap_setCell_same (w.setCell ⟨g, i * 2, none⟩ (.int .i64 c.1)) g (i * 2 + 1) _ _ (.int .i64 c.2) e1
    have hn : s.cells.length * 2 ≤ cc * 2 := Nat.mul_le_mul_right _ hnc
    refine ⟨⟨_, _, by rw [List.length_set], by rw [List.length_set]; exact h1, by rw [flat_length celE 2 (fun _ => rfl)], .inr ⟨g, cc, _, rfl, hbg, e2, by rw [List.length_set]; exact hnc, hcm, by simpa using hcs, ?_⟩⟩, fun k hk => by have := h3 k (by simpa [Value.ownBlock] using hk); simpa [World.setCell] using this⟩
    rw [List.length_set, Array.toList_setIfInBounds, Array.toList_setIfInBounds, ← flat_set s.cells i hi c, ← htake, List.take_set, List.take_set]
end
end
section
variable {lo b : Nat} {s : Scr} {g cc : Nat} {ah : Option Addr} {dh : Nat} {w : World}
theorem ScrAt.e0 (h : ScrAt lo b 0 s g cc ah dh w) : w.cell? ⟨b, 0, none⟩ = some (.int .i64 (s.w : Int)) := h.c0
theorem ScrAt.e1 (h : ScrAt lo b 0 s g cc ah dh w) : w.cell? ⟨b, 1, none⟩ = some (.int .i64 (s.h : Int)) := h.c1
theorem ScrAt.e2 (h : ScrAt lo b 0 s g cc ah dh w) : w.cell? ⟨b, 2, none⟩ = some (.int .i64 (s.x : Int)) := h.c2
theorem ScrAt.e3 (h : ScrAt lo b 0 s g cc ah dh w) : w.cell? ⟨b, 3, none⟩ = some (.int .i64 (s.y : Int)) := h.c3
theorem ScrAt.e4 (h : ScrAt lo b 0 s g cc ah dh w) : w.cell? ⟨b, 4, none⟩ = some (.int .i64 (s.look : Int)) := h.c4
theorem ScrAt.e5 (h : ScrAt lo b 0 s g cc ah dh w) : w.cell? ⟨b, 5, none⟩ = some (.int .i64 (s.top : Int)) := h.c5
theorem ScrAt.e6 (h : ScrAt lo b 0 s g cc ah dh w) : w.cell? ⟨b, 6, none⟩ = some (.int .i64 (s.bot : Int)) := h.c6
theorem ScrAt.e7 (h : ScrAt lo b 0 s g cc ah dh w) : w.cell? ⟨b, 7, none⟩ = some (.int .i64 (s.sx : Int)) := h.c7
theorem ScrAt.e8 (h : ScrAt lo b 0 s g cc ah dh w) : w.cell? ⟨b, 8, none⟩ = some (.int .i64 (s.sy : Int)) := h.c8
theorem ScrAt.e9 (h : ScrAt lo b 0 s g cc ah dh w) : w.cell? ⟨b, 9, none⟩ = some (.string s.title) := h.c9
theorem ScrAt.e10 (h : ScrAt lo b 0 s g cc ah dh w) : w.cell? ⟨b, 10, none⟩ = some (.slice (some ⟨g, 0, none⟩) s.cells.length cc) := h.c10
theorem ScrAt.e11 (h : ScrAt lo b 0 s g cc ah dh w) : w.cell? ⟨b, 11, none⟩ = some (.slice ah s.hist.length dh) := h.c11
end
section
open Go.RowKit
theorem l04Size_c (w h : Int) (W : World) : Calls Tryz.prog 28 #[.int .i64 w, .int .i64 h] W fun e w' => e = .returned (.bool (inB w 2 24 && inB h 2 10)) ∧ W = w' := by
  obtain ⟨u, hu⟩ : ∃ u, inB w 2 24 = u := ⟨_, rfl⟩
  obtain ⟨v, hv⟩ : ∃ v, inB h 2 10 = v := ⟨_, rfl⟩
  have HU := Lib.hid hu
  have HV := Lib.hid hv
  rw [hu, hv]
  clear hu hv
  cases u <;> cases v
  all_goals
    go_enter Tryz.func28, Tryz.ntmps28
    go_wp2_with (go_at_call 60; refine (l01In_c _ _ _ _).mono ?_; (first | rw [HU.out] | rw [HV.out]); rintro e w' ⟨rfl, rfl⟩)
    all_goals
      go_ret
      exact ⟨rfl, rfl⟩
theorem clrL_next {f i : Nat} {l : List Cl} (hf : f ≤ i) (hi : i < l.length) : (clrL f i l).set i blank = clrL f (i + 1) l := by
  unfold clrL blanksL
  have e1 : i + 1 - f = (i - f) + 1 := by omega
  rw [e1, List.replicate_succ', List.set_append, if_neg (by rw [List.length_take]; omega), List.set_append, if_neg (by rw [List.length_replicate, List.length_take]; omega), List.append_assoc]
  congr 2
  have e2 : i - (l.take f).length - (List.replicate (i - f) blank).length = 0 := by rw [List.length_take, List.length_replicate]; omega
  rw [e2, List.drop_eq_getElem_cons hi]
  rfl
theorem clrL_none {f : Nat} {l : List Cl} : clrL f f l = l := by simp [clrL, blanksL]
theorem clrL_length {f i : Nat} {l : List Cl} (hf : f ≤ i) (hi : i ≤ l.length) : (clrL f i l).length = l.length := clrL_len hf hi
theorem clear_c (lo b : Nat) (s : Scr) (g cc : Nat) (ah : Option Addr) (dh : Nat) (w : World) (f t : Nat) (h : ScrAt lo b 0 s g cc ah dh w) (hf : f ≤ t) (ht : t ≤ s.cells.length) (hn : s.cells.length ≤ 240) :
    Calls Tryz.prog 118 #[.pointer (some ⟨b, 0, none⟩), .int .i64 f, .int .i64 t] w fun e w' => e = .returned (.tuple #[]) ∧ ScrAt lo b 0 (clr f t s) g cc ah dh w' ∧ Ch (· = g) w w' := by
  have HS := Lib.hid h
  obtain ⟨n, hcn⟩ : ∃ n, s.cells.length = n := ⟨_, rfl⟩
  have HCN := Lib.hid hcn
  rw [hcn] at hn ht
  clear h hcn
  go_enter Tryz.func118, Tryz.ntmps118
  go_wp2_with fail
  go_loopw [6] (fun iv wr => ∃ i : Nat, f ≤ i ∧ i ≤ t ∧ iv = .int .i64 i ∧ Hid (ScrAt lo b 0 (clr f i s) g cc ah dh wr ∧ Ch (· = g) w wr)) (fun iv _ => t - (intOf iv).toNat)
  case atStart => exact ⟨f, Nat.le_refl _, hf, rfl, Lib.hid ⟨by unfold clr; rw [clrL_none]; exact HS.out, Ch.refl⟩⟩
  case round =>
    obtain ⟨i, hfi, hit, rfl, HR⟩ := hrel
    have hcl : (clr f i s).cells.length = n := (clrL_length hfi (by rw [HCN.out]; omega)).trans HCN.out
    by_cases hlt : i < t
    · have k_10 : wr.cell? ⟨b, 10, none⟩ = some (.slice (some ⟨g, 0, none⟩) n cc) := by rw [← hcl]; exact HR.out.1.c10
      have k_g0 := HR.out.1.gfz
      have k_gl := HR.out.1.glt.2
      have hi2 : i < (clr f i s).cells.length := by omega
      have k_c := (HR.out.1.cell hi2).1
      have k_d := (HR.out.1.cell hi2).2
      have hin : (i : Int) < (n : Int) := by omega
      have hSN := HR.out.1.setC hi2 blank
      have HSN := Lib.hid hSN
      have hCN : Ch (· = g) w ((wr.setCell ⟨g, i * 2, none⟩ (.int .i64 32)).setCell ⟨g, i * 2 + 1, none⟩ (.int .i64 0)) := (HR.out.2.trans (Ch.set1' _ g (i * 2) _) (fun _ h => .inl h)).trans (Ch.set1' _ g (i * 2 + 1) _) (fun _ h => .inl h)
      have HCN' := Lib.hid hCN
      clear hSN hCN hcl
      go_wp2_with fail
      go_roundw
      case rel =>
        refine ⟨i + 1, by omega, by omega, by go_num, Lib.hid ⟨?_, HCN'.out⟩⟩
        have := HSN.out
        unfold clr at this ⊢
        simp only at this
        rwa [clrL_next hfi (by rw [HCN.out]; omega)] at this
      case measure => simp [intOf]; omega
    · obtain rfl : i = t := by omega
      clear hcl
      go_wp2_with fail
      refine bodyPost_end (v := .tuple #[]) (by simp [results, Tryz.results118]) rfl ?_
      exact ⟨rfl, HR.out.1, HR.out.2⟩
theorem Tryz.infoCell : (Tryz.prog.info? 87).map (fun i => (i.zero, i.size, i.bytes)) = some (some (.agg #[.int .i64 0, .int .i64 0]), 2, 16) := by kernel_rfl
theorem FreshIn.emp {α : Type} (enc : α → List Value) (e : TypeId) (sz lo : Nat) (w : World) (h : lo ≤ w.heap.size) : FreshIn enc e sz lo (w.alloc (.cells #[] e)).heap.size (.slice (some ⟨w.heap.size, 0, none⟩) 0 0) [] (w.alloc (.cells #[] e)) := by
  refine ⟨⟨_, 0, rfl, Nat.le_refl _, by simp, .inr ⟨w.heap.size, 0, #[], rfl, h, heap_alloc_new w _, Nat.le_refl _, by unfold maxLen; omega, by simp, by simp⟩⟩, fun k hk => ?_⟩
  cases hk
  simp
def BlankR (n : Nat) (w : World) (e : Ending) (w' : World) : Prop :=
  ∃ a c, e = .returned (.slice a n c) ∧ FreshIn celE 87 2 w.heap.size w'.heap.size (.slice a n c) (blanksL n) w' ∧ Below w.heap.size w w'
theorem l04Blank_c (n : Nat) (w : World) (hn : n ≤ 240) :
    Calls Tryz.prog 91 #[.int .i64 n] w (BlankR n w) := by
  obtain ⟨iA, hA, hA0, hA1, hA2⟩ := info_parts Tryz.infoCell
  have hA := hA
  go_enter Tryz.func91, Tryz.ntmps91
  go_wp2_with fail
  go_loopw [3, 4] (fun lv iv wr => ∃ (i : Nat) (a : Option Addr) (c : Nat) (L : List Cl), i ≤ n ∧ iv = .int .i64 i ∧ lv = .slice a L.length c ∧ Hid (L = blanksL i ∧ FreshIn celE 87 2 w.heap.size wr.heap.size (.slice a L.length c) L wr ∧ Below w.heap.size w wr)) (fun _ iv _ => n - (intOf iv).toNat)
  case atStart =>
    exact ⟨0, some ⟨w.heap.size, 0, none⟩, 0, [], Nat.zero_le _, rfl, rfl, Lib.hid ⟨rfl, FreshIn.emp celE _ 2 w.heap.size w (Nat.le_refl _), (Below.refl _ _).alloc (Nat.le_refl _) _⟩⟩
  case round =>
    obtain ⟨i, a, c, L, hin, rfl, rfl, HR⟩ := hrel
    by_cases hlt : i < n
    · have hlt' : (i : Int) < (n : Int) := by omega
      have HB0 : Hid (Below w.heap.size w (wr.alloc (.cells #[.int .i64 32, .int .i64 0] 87))) := Lib.hid (HR.out.2.2.alloc HR.out.2.2.size _)
      have HF0 : Hid (FreshIn celE 87 2 w.heap.size (wr.alloc (.cells #[.int .i64 32, .int .i64 0] 87)).heap.size (.slice a L.length c) L (wr.alloc (.cells #[.int .i64 32, .int .i64 0] 87))) := Lib.hid (HR.out.2.1.keepB ((Below.refl _ _).alloc (Nat.le_refl _) _))
      have HSRC : Hid (Src Tryz.prog 2 23 (.slice (some ⟨wr.heap.size, 0, none⟩) 1 1) [blank].length ([blank].flatMap celE) (wr.alloc (.cells #[.int .i64 32, .int .i64 0] 87))) := Lib.hid (Src.ofBox (enc := celE) Tryz.underlying23 (fun _ => rfl) celOne blank _ _ (by simp [celE, blank]) _ (by simp))
      have hL : L.length = i := by rw [HR.out.1]; simp [blanksL]
      have HLL := Lib.hid hL
      have hz0 := HR.out.2.2.size
      go_wp2_with (at_builtin; refine wpList_append_ch (.tmp 11) (.tmp 13) 23 23 w.heap.size 87 iA (.agg #[.int .i64 0, .int .i64 0]) 2 16 Tryz.underlying23 hA hA0 hA1 hA2 rfl (by decide) a L.length c L HF0.out (.slice (some ⟨wr.heap.size, 0, none⟩) 1 1) [blank] HSRC.out (by simp; omega) (by simp; omega) rfl rfl rfl rfl ?_)
      intro a8 c8 w8 us hus hf8 hc8 hk8
      have HUS := hus
      have HF8 := Lib.hid hf8
      have HB8 : Hid (Below w.heap.size w w8) := Lib.hid (HB0.out.trans (hc8.below (by simp; omega) (fun k hk => (FreshIn.blks HF0.out k hk).1)))
      clear hus hf8 hc8 hk8 hL
      go_wp2_with fail
      go_roundw
      case rel =>
        refine ⟨i + 1, a8, c8, us, by omega, by go_num, rfl, Lib.hid ⟨?_, HF8.out, HB8.out⟩⟩
        rw [HUS.out, HR.out.1]
        simp [blanksL, List.replicate_succ']
      case measure => simp [intOf]; omega
    · obtain rfl : i = n := by omega
      go_wp2_with fail
      go_ret
      have hL : L.length = i := by rw [HR.out.1]; simp [blanksL]
      have hf := HR.out.2.1
      rw [hL, HR.out.1] at hf
      exact ⟨a, c, by rw [← hL]; rfl, hf, HR.out.2.2⟩
end
end Go.Proofs.YtjmpgeffkdjpdaaGreatDoor
