/- Actions in plain words; they are right; their numbers. No conditions but sizes. -/
import Derived.Test.YtlhhlmalihajcaaDoorPsA
import Derived.Lib.ItoaNum
import Derived.Test.YtlhhlmalihajcaaDoorSqA
import Derived.Test.YtlhhlmalihajcaaDoorQaA
namespace Go.Proofs.YtlhhlmalihajcaaDoor
set_option linter.unusedVariables false
set_option linter.unusedSimpArgs false
section
open Go.RowKit
def rnOK (n : Int) : Prop := 32 ≤ n ∧ n ≤ 1114111 ∧ n ≠ 127 ∧ ¬ (55296 ≤ n ∧ n ≤ 57343)
def ctlN (n : Int) : Prop := (7 ≤ n ∧ n ≤ 10) ∨ n = 13
def escN (n : Int) : Prop := n = 55 ∨ n = 56 ∨ n = 68 ∨ n = 69 ∨ n = 77 ∨ n = 99
/-- An action that a parser may tell. -/
def AcOK (a : AV) : Prop :=
  (a.kind = 4 ∧ a.text = e0 ∧ argsB a.args = true ∧ 64 ≤ a.n ∧ a.n ≤ 126) ∨
  (a.priv = false ∧ a.args = [] ∧ ((a.kind = 5 ∧ a.n = 0 ∧ titB a.text = true) ∨ (a.text = e0 ∧ ((a.kind = 1 ∧ rnOK a.n) ∨ (a.kind = 2 ∧ ctlN a.n) ∨ (a.kind = 3 ∧ escN a.n)))))
abbrev u8 (n : Nat) : UInt8 := UInt8.ofNat n
theorem u8N {n : Nat} (h : n < 256) : (u8 n).toNat = n := by
  show n % 256 = n
  omega
def utfB (n : Nat) : List UInt8 :=
  if n < 128 then [u8 n] else if n < 2048 then [u8 (192 + n / 64), u8 (128 + n % 64)]
  else if n < 65536 then [u8 (224 + n / 4096), u8 (128 + n / 64 % 64), u8 (128 + n % 64)]
  else [u8 (240 + n / 262144), u8 (128 + n / 4096 % 64), u8 (128 + n / 64 % 64), u8 (128 + n % 64)]
def argT (x : Int) : List UInt8 := if x < 0 then [] else Lib.decDigits x.toNat
def argsR : List Int → List UInt8
  | [] => []
  | x :: xs => 59 :: argT x ++ argsR xs
def argsT : List Int → List UInt8
  | [] => []
  | x :: xs => argT x ++ argsR xs
def textOf (a : AV) : List UInt8 :=
  if a.kind = 1 then utfB a.n.toNat else if a.kind = 2 then [u8 a.n.toNat] else if a.kind = 3 then [27, u8 a.n.toNat]
  else if a.kind = 5 then [27, 93] ++ a.text.data.toList ++ [7]
  else [27, 91] ++ (if a.priv = true then [63] else []) ++ argsT a.args ++ [u8 a.n.toNat]
theorem prun_one (p : PV) (b : UInt8) : prun p [b] = pstep p b := by simp [prun]
theorem prun_cons (p : PV) (b : UInt8) (l : List UInt8) : prun p (b :: l) = ((prun (pstep p b).1 l).1, (pstep p b).2 ++ (prun (pstep p b).1 l).2) := rfl
theorem step0 (b : UInt8) : pstep pz b = gstep b := rfl
theorem step1 (b : UInt8) : pstep (pst 1) b = estep b := rfl
theorem step2 (A : List Int) (pv : Bool) (b : UInt8) : pstep ⟨2, A, pv, e0, e0⟩ b = cstep ⟨2, A, pv, e0, e0⟩ b := rfl
theorem step4 (s : ByteArray) (b : UInt8) : pstep ⟨4, [], false, s, e0⟩ b = ostep ⟨4, [], false, s, e0⟩ b := rfl
theorem step6 (u : ByteArray) (b : UInt8) : pstep ⟨6, [], false, e0, u⟩ b = ustep ⟨6, [], false, e0, u⟩ b := rfl
/-- Runes. -/
theorem parse_rune {n : Nat} (h : rnOK n) : prun pz (utfB n) = (pz, [pr n]) := by
  obtain ⟨h1, h2, h3, h4⟩ := h
  have e1 : n / 64 / 64 = n / 4096 := by rw [Nat.div_div_eq_div_mul]
  have e2 : n / 4096 / 64 = n / 262144 := by rw [Nat.div_div_eq_div_mul]
  unfold utfB
  by_cases a1 : n < 128
  · rw [if_pos a1, prun_one, step0]
    have hb : (u8 n).toNat = n := u8N (by omega)
    unfold gstep
    rw [hb, if_neg (by omega), if_neg (by simp [ctl]; omega), if_pos (by omega)]
  rw [if_neg a1]
  by_cases a2 : n < 2048
  · rw [if_pos a2]
    have hb : (u8 (192 + n / 64)).toNat = 192 + n / 64 := u8N (by omega)
    have hc : (u8 (128 + n % 64)).toNat = 128 + n % 64 := u8N (by omega)
    have g : pstep pz (u8 (192 + n / 64)) = (⟨6, [], false, e0, ⟨#[u8 (192 + n / 64)]⟩⟩, []) := by
      rw [step0]
      unfold gstep
      rw [hb, if_neg (by omega), if_neg (by simp [ctl]; omega), if_neg (by omega), if_neg (by omega), if_pos (by unfold utfLen; rw [if_neg (by omega), if_pos (by omega)]; omega)]
    rw [prun_cons, g, prun_one]
    show ((pstep _ _).1, [] ++ (pstep _ _).2) = _
    have g2 : pstep ⟨6, [], false, e0, ⟨#[u8 (192 + n / 64)]⟩⟩ (u8 (128 + n % 64)) = (pz, [pr n]) := by
      rw [step6]
      unfold ustep
      have hm : mayF [u8 (192 + n / 64)] (128 + n % 64) = true := by
        simp only [mayF, lowOf, highOf, Bool.and_eq_true, decide_eq_true_eq, hb]
        refine ⟨?_, ?_⟩ <;> (repeat' split) <;> omega
      rw [if_neg (by rw [hc]; simp only [hm]; simp), if_neg (by
        show ¬ (1 + 1 < utfLen (u8 (192 + n / 64)).toNat)
        rw [hb]; unfold utfLen; rw [if_neg (by omega), if_pos (by omega)]; omega)]
      simp only [pr, List.append_nil, List.cons_append, List.nil_append]
      show (pz, [(⟨1, rnV [u8 (192 + n / 64), u8 (128 + n % 64)], false, [], e0⟩ : AV)]) = _
      simp only [rnV, hb, hc]
      congr 3
      omega
    rw [g2]
    rfl
  rw [if_neg a2]
  by_cases a3 : n < 65536
  · rw [if_pos a3]
    have hb : (u8 (224 + n / 4096)).toNat = 224 + n / 4096 := u8N (by omega)
    have hc : (u8 (128 + n / 64 % 64)).toNat = 128 + n / 64 % 64 := u8N (by omega)
    have hd : (u8 (128 + n % 64)).toNat = 128 + n % 64 := u8N (by omega)
    have hu : utfLen (224 + n / 4096) = 3 := by unfold utfLen; rw [if_neg (by omega), if_neg (by omega), if_pos (by omega)]
    have g : pstep pz (u8 (224 + n / 4096)) = (⟨6, [], false, e0, ⟨#[u8 (224 + n / 4096)]⟩⟩, []) := by
      rw [step0]
      unfold gstep
      rw [hb, if_neg (by omega), if_neg (by simp [ctl]; omega), if_neg (by omega), if_neg (by omega), if_pos (by rw [hu]; omega)]
    have g2 : pstep ⟨6, [], false, e0, ⟨#[u8 (224 + n / 4096)]⟩⟩ (u8 (128 + n / 64 % 64)) = (⟨6, [], false, e0, ⟨#[u8 (224 + n / 4096), u8 (128 + n / 64 % 64)]⟩⟩, []) := by
      rw [step6]
      unfold ustep
      have hm : mayF [u8 (224 + n / 4096)] (128 + n / 64 % 64) = true := by
        simp only [mayF, lowOf, highOf, Bool.and_eq_true, decide_eq_true_eq, hb]
        refine ⟨?_, ?_⟩ <;> (repeat' split) <;> omega
      rw [if_neg (by rw [hc]; simp only [hm]; simp), if_pos (by
        show 1 + 1 < utfLen (u8 (224 + n / 4096)).toNat
        rw [hb, hu]; omega)]
      rfl
    have g3 : pstep ⟨6, [], false, e0, ⟨#[u8 (224 + n / 4096), u8 (128 + n / 64 % 64)]⟩⟩ (u8 (128 + n % 64)) = (pz, [pr n]) := by
      rw [step6]
      unfold ustep
      have hm : mayF [u8 (224 + n / 4096), u8 (128 + n / 64 % 64)] (128 + n % 64) = true := by
        show (decide (128 ≤ 128 + n % 64) && decide (128 + n % 64 ≤ 191)) = true
        simp only [Bool.and_eq_true, decide_eq_true_eq]
        exact ⟨by omega, by omega⟩
      rw [if_neg (by rw [hd]; simp only [hm]; simp), if_neg (by
        show ¬ (2 + 1 < utfLen (u8 (224 + n / 4096)).toNat)
        rw [hb, hu]; omega)]
      show (pz, [(⟨1, rnV [u8 (224 + n / 4096), u8 (128 + n / 64 % 64), u8 (128 + n % 64)], false, [], e0⟩ : AV)]) = _
      simp only [rnV, hb, hc, hd, pr]
      congr 3
      omega
    rw [prun_cons, g, prun_cons]
    show ((prun (pstep _ _).1 _).1, [] ++ ((pstep _ _).2 ++ (prun (pstep _ _).1 _).2)) = _
    rw [g2, prun_one, g3]
    rfl
  rw [if_neg a3]
  have hb : (u8 (240 + n / 262144)).toNat = 240 + n / 262144 := u8N (by omega)
  have hc : (u8 (128 + n / 4096 % 64)).toNat = 128 + n / 4096 % 64 := u8N (by omega)
  have hd : (u8 (128 + n / 64 % 64)).toNat = 128 + n / 64 % 64 := u8N (by omega)
  have he : (u8 (128 + n % 64)).toNat = 128 + n % 64 := u8N (by omega)
  have hu : utfLen (240 + n / 262144) = 4 := by unfold utfLen; rw [if_neg (by omega), if_neg (by omega), if_neg (by omega)]
  have g : pstep pz (u8 (240 + n / 262144)) = (⟨6, [], false, e0, ⟨#[u8 (240 + n / 262144)]⟩⟩, []) := by
    rw [step0]
    unfold gstep
    rw [hb, if_neg (by omega), if_neg (by simp [ctl]; omega), if_neg (by omega), if_neg (by omega), if_pos (by rw [hu]; omega)]
  have g2 : pstep ⟨6, [], false, e0, ⟨#[u8 (240 + n / 262144)]⟩⟩ (u8 (128 + n / 4096 % 64)) = (⟨6, [], false, e0, ⟨#[u8 (240 + n / 262144), u8 (128 + n / 4096 % 64)]⟩⟩, []) := by
    rw [step6]
    unfold ustep
    have hm : mayF [u8 (240 + n / 262144)] (128 + n / 4096 % 64) = true := by
      simp only [mayF, lowOf, highOf, Bool.and_eq_true, decide_eq_true_eq, hb]
      refine ⟨?_, ?_⟩ <;> (repeat' split) <;> omega
    rw [if_neg (by rw [hc]; simp only [hm]; simp), if_pos (by
      show 1 + 1 < utfLen (u8 (240 + n / 262144)).toNat
      rw [hb, hu]; omega)]
    rfl
  have g3 : pstep ⟨6, [], false, e0, ⟨#[u8 (240 + n / 262144), u8 (128 + n / 4096 % 64)]⟩⟩ (u8 (128 + n / 64 % 64)) = (⟨6, [], false, e0, ⟨#[u8 (240 + n / 262144), u8 (128 + n / 4096 % 64), u8 (128 + n / 64 % 64)]⟩⟩, []) := by
    rw [step6]
    unfold ustep
    have hm : mayF [u8 (240 + n / 262144), u8 (128 + n / 4096 % 64)] (128 + n / 64 % 64) = true := by
      show (decide (128 ≤ 128 + n / 64 % 64) && decide (128 + n / 64 % 64 ≤ 191)) = true
      simp only [Bool.and_eq_true, decide_eq_true_eq]
      exact ⟨by omega, by omega⟩
    rw [if_neg (by rw [hd]; simp only [hm]; simp), if_pos (by
      show 2 + 1 < utfLen (u8 (240 + n / 262144)).toNat
      rw [hb, hu]; omega)]
    rfl
  have g4 : pstep ⟨6, [], false, e0, ⟨#[u8 (240 + n / 262144), u8 (128 + n / 4096 % 64), u8 (128 + n / 64 % 64)]⟩⟩ (u8 (128 + n % 64)) = (pz, [pr n]) := by
    rw [step6]
    unfold ustep
    have hm : mayF [u8 (240 + n / 262144), u8 (128 + n / 4096 % 64), u8 (128 + n / 64 % 64)] (128 + n % 64) = true := by
      show (decide (128 ≤ 128 + n % 64) && decide (128 + n % 64 ≤ 191)) = true
      simp only [Bool.and_eq_true, decide_eq_true_eq]
      exact ⟨by omega, by omega⟩
    rw [if_neg (by rw [he]; simp only [hm]; simp), if_neg (by
      show ¬ (3 + 1 < utfLen (u8 (240 + n / 262144)).toNat)
      rw [hb, hu]; omega)]
    show (pz, [(⟨1, rnV [u8 (240 + n / 262144), u8 (128 + n / 4096 % 64), u8 (128 + n / 64 % 64), u8 (128 + n % 64)], false, [], e0⟩ : AV)]) = _
    simp only [rnV, hb, hc, hd, he, pr]
    congr 3
    omega
  rw [prun_cons, g, prun_cons]
  show ((prun (pstep _ _).1 _).1, [] ++ ((pstep _ _).2 ++ (prun (pstep _ _).1 _).2)) = _
  rw [g2, prun_cons]
  show ((prun (pstep _ _).1 _).1, [] ++ ([] ++ ((pstep _ _).2 ++ (prun (pstep _ _).1 _).2))) = _
  rw [g3, prun_one, g4]
  rfl
end
section
open Go.RowKit
def digV (x : Int) (d : Nat) : Int := min 9999 (max 0 x * 10 + d)
/-- A number's digits, behind a place where none has been read. -/
theorem parse_digits (n : Nat) (A : List Int) (pv : Bool) (hn : n ≤ 9999) : prun ⟨2, A ++ [-1], pv, e0, e0⟩ (Lib.decDigits n) = (⟨2, A ++ [(n : Int)], pv, e0, e0⟩, []) := by
  have one : ∀ (x : Int) (d : Nat), d < 10 → pstep ⟨2, A ++ [x], pv, e0, e0⟩ (u8 (48 + d)) = (⟨2, A ++ [digV x d], pv, e0, e0⟩, []) := by
    intro x d hd
    have hb : (u8 (48 + d)).toNat = 48 + d := u8N (by omega)
    rw [step2]
    unfold cstep
    rw [hb, if_neg (by omega), if_neg (by simp [ctl]; omega), if_pos (by omega)]
    simp only [lastA, digV]
    congr 2
    simp
    omega
  induction n using Nat.strongRecOn with
  | ind n ih =>
    rw [Lib.decDigits]
    by_cases h : n < 10
    · rw [dif_pos h, prun_one, one (-1) n h]
      simp only [digV]
      congr 3
      simp
      omega
    · rw [dif_neg h, prun_append, ih (n / 10) (by omega) (by omega)]
      show ((prun _ _).1, [] ++ (prun _ _).2) = _
      rw [prun_one, one _ _ (Nat.mod_lt _ (by omega))]
      simp only [digV]
      congr 3
      simp
      omega
theorem parse_arg (x : Int) (A : List Int) (pv : Bool) (h : -1 ≤ x ∧ x ≤ 9999) : prun ⟨2, A ++ [-1], pv, e0, e0⟩ (argT x) = (⟨2, A ++ [x], pv, e0, e0⟩, []) := by
  unfold argT
  by_cases h0 : x < 0
  · rw [if_pos h0]
    have : x = -1 := by omega
    subst this
    rfl
  · rw [if_neg h0, parse_digits _ _ _ (by omega)]
    have : ((x.toNat : Nat) : Int) = x := by omega
    rw [this]
theorem parse_rest (xs : List Int) (A : List Int) (pv : Bool) (hA : 1 ≤ A.length) (hl : A.length + xs.length ≤ 8) (h : ∀ x ∈ xs, -1 ≤ x ∧ x ≤ 9999) : prun ⟨2, A, pv, e0, e0⟩ (argsR xs) = (⟨2, A ++ xs, pv, e0, e0⟩, []) := by
  induction xs generalizing A with
  | nil => simp [argsR, prun]
  | cons x xs ih =>
    have g : pstep ⟨2, A, pv, e0, e0⟩ 59 = (⟨2, A ++ [-1], pv, e0, e0⟩, []) := by
      rw [step2]
      unfold cstep
      rw [if_neg (by decide), if_neg (by decide), if_neg (by decide), if_pos ⟨by decide, by simp at hl ⊢; omega⟩]
    simp only [argsR, List.cons_append]
    rw [prun_cons, g]
    show ((prun _ _).1, [] ++ (prun _ _).2) = _
    rw [prun_append, parse_arg x A pv (h x (by simp)), ih (A ++ [x]) (by simp) (by simp at hl ⊢; omega) (fun y hy => h y (by simp [hy]))]
    simp
theorem parse_args (xs : List Int) (pv : Bool) (h1 : 1 ≤ xs.length) (hl : xs.length ≤ 8) (h : ∀ x ∈ xs, -1 ≤ x ∧ x ≤ 9999) : prun ⟨2, [-1], pv, e0, e0⟩ (argsT xs) = (⟨2, xs, pv, e0, e0⟩, []) := by
  cases xs with
  | nil => simp at h1
  | cons x xs =>
    simp only [argsT]
    rw [prun_append, show ([-1] : List Int) = [] ++ [-1] from rfl, parse_arg x [] pv (h x (by simp))]
    have := parse_rest xs ([] ++ [x]) pv (by simp) (by simp at hl ⊢; omega) (fun y hy => h y (by simp [hy]))
    simp only [List.nil_append] at this ⊢
    rw [this]
    rfl
theorem esc_to (b : UInt8) : prun pz (27 :: [b]) = ((pstep (pst 1) b).1, (pstep (pst 1) b).2) := by
  have g : pstep pz 27 = (pst 1, []) := by rw [step0]; rfl
  rw [prun_cons, g]
  show ((prun _ _).1, [] ++ (prun _ _).2) = _
  rw [prun_one]
  rfl
theorem parse_title (t : List UInt8) (s : ByteArray) (hl : s.size + t.length ≤ 40) (h : ∀ x ∈ t, 32 ≤ x.toNat ∧ x.toNat ≤ 126) : prun ⟨4, [], false, s, e0⟩ t = (⟨4, [], false, s ++ ⟨t.toArray⟩, e0⟩, []) := by
  induction t generalizing s with
  | nil =>
    have : s ++ ⟨([] : List UInt8).toArray⟩ = s := by
      apply ByteArray.ext; simp
    simp [prun, this]
  | cons b t ih =>
    have hb := h b (by simp)
    have g : pstep ⟨4, [], false, s, e0⟩ b = (⟨4, [], false, s ++ ⟨#[b]⟩, e0⟩, []) := by
      rw [step4]
      unfold ostep
      rw [if_neg (by omega), if_neg (by omega), if_pos ⟨hb, by simp at hl ⊢; omega⟩]
    rw [prun_cons, g]
    show ((prun _ _).1, [] ++ (prun _ _).2) = _
    rw [ih _ (by rw [ByteArray.size_append]; show s.size + 1 + t.length ≤ 40; simp at hl; omega) (fun y hy => h y (by simp [hy]))]
    have : s ++ ⟨#[b]⟩ ++ ⟨t.toArray⟩ = s ++ ⟨(b :: t).toArray⟩ := by
      apply ByteArray.ext
      simp
    rw [this]
    rfl
/-- An action's bytes are parsed to it alone. -/
theorem parse_text {a : AV} (h : AcOK a) : prun pz (textOf a) = (pz, [a]) := by
  obtain ⟨kd, n, pv, xs, tx⟩ := a
  unfold textOf
  rcases h with ⟨hk, ht, ha, h1, h2⟩ | ⟨hp, ha, ⟨hk, hn, ht⟩ | ⟨ht, ⟨hk, hn⟩ | ⟨hk, hn⟩ | ⟨hk, hn⟩⟩⟩
  all_goals simp only at hk
  all_goals subst hk
  · simp only at ht ha h1 h2 ⊢
    subst ht
    rw [if_neg (by decide), if_neg (by decide), if_neg (by decide), if_neg (by decide)]
    obtain ⟨m, rfl⟩ : ∃ m : Nat, n = m := ⟨n.toNat, by omega⟩
    simp only [Int.toNat_natCast]
    have hb : (u8 m).toNat = m := u8N (by omega)
    simp only [argsB, Bool.and_eq_true, decide_eq_true_eq, List.all_eq_true] at ha
    obtain ⟨⟨l1, l8⟩, hall⟩ := ha
    have g1 : prun pz [27, 91] = (⟨2, [-1], false, e0, e0⟩, []) := by rw [esc_to]; rfl
    have g2 : prun ⟨2, [-1], false, e0, e0⟩ (if pv = true then [63] else []) = (⟨2, [-1], pv, e0, e0⟩, []) := by
      cases pv
      · rfl
      · rfl
    have g3 := parse_args xs pv l1 l8 hall
    have g4 : prun ⟨2, xs, pv, e0, e0⟩ [u8 m] = (pz, [⟨4, (m : Int), pv, xs, e0⟩]) := by
      rw [prun_one]
      rw [step2]
      unfold cstep
      rw [hb, if_neg (by omega), if_neg (by simp [ctl]; omega), if_neg (by omega), if_neg (by omega), if_neg (by omega), if_pos (by omega)]
    rw [prun_append, prun_append, prun_append, g1]
    simp only
    rw [g2]
    simp only
    rw [g3]
    simp only
    rw [g4]
    rfl
  · simp only at hp ha hn ht ⊢
    subst hp ha hn
    rw [if_neg (by decide), if_neg (by decide), if_neg (by decide), if_pos trivial]
    have g1 : prun pz [27, 93] = (⟨4, [], false, e0, e0⟩, []) := by rw [esc_to]; rfl
    simp only [titB, Bool.and_eq_true, decide_eq_true_eq, List.all_eq_true] at ht
    have g2 := parse_title tx.data.toList e0 (by show 0 + tx.data.toList.length ≤ 40; have : tx.data.toList.length = tx.size := rfl; omega) ht.2
    have g3 : e0 ++ ⟨tx.data.toList.toArray⟩ = tx := by
      apply ByteArray.ext
      simp
    rw [g3] at g2
    have g4 : prun ⟨4, [], false, tx, e0⟩ [7] = (pz, [⟨5, 0, false, [], tx⟩]) := by
      rw [prun_one]
      rw [step4]
      unfold ostep
      rw [if_pos (by decide)]
    rw [prun_append, prun_append, g1]
    simp only
    rw [g2]
    simp only
    rw [g4]
    rfl
  · simp only at hp ha hn ht ⊢
    subst hp ha ht
    rw [if_pos trivial]
    obtain ⟨m, rfl⟩ : ∃ m : Nat, n = m := ⟨n.toNat, by have := hn.1; omega⟩
    simp only [Int.toNat_natCast]
    exact parse_rune hn
  · simp only at hp ha hn ht ⊢
    subst hp ha ht
    rw [if_neg (by decide), if_pos trivial, prun_one, step0]
    obtain ⟨m, rfl⟩ : ∃ m : Nat, n = m := ⟨n.toNat, by unfold ctlN at hn; omega⟩
    simp only [Int.toNat_natCast]
    unfold ctlN at hn
    have hb : (u8 m).toNat = m := u8N (by omega)
    unfold gstep
    rw [hb, if_neg (by omega), if_pos (by simp [ctl]; omega)]
  · simp only at hp ha hn ht ⊢
    subst hp ha ht
    rw [if_neg (by decide), if_neg (by decide), if_pos trivial]
    obtain ⟨m, rfl⟩ : ∃ m : Nat, n = m := ⟨n.toNat, by unfold escN at hn; omega⟩
    simp only [Int.toNat_natCast]
    unfold escN at hn
    have hb : (u8 m).toNat = m := u8N (by omega)
    have he : esc m = true := by simp only [esc, Bool.or_eq_true, beq_iff_eq]; omega
    rw [esc_to]
    have g : pstep (pst 1) (u8 m) = (pz, [⟨3, m, false, [], e0⟩]) := by
      rw [step1]
      unfold estep
      rw [hb, if_neg (by omega), if_neg (by omega), if_neg (by omega), if_pos he]
    rw [g]
theorem dig_len (n : Nat) (h : n ≤ 9999) : (Lib.decDigits n).length ≤ 4 := by
  rw [Lib.decDigits]
  split
  · simp
  · rw [Lib.decDigits]
    split
    · simp
    · rw [Lib.decDigits]
      split
      · simp
      · rw [Lib.decDigits]
        rw [dif_pos (by omega)]
        simp
theorem argT_len {x : Int} (h : x ≤ 9999) : (argT x).length ≤ 4 := by
  unfold argT
  split
  · simp
  · exact dig_len _ (by omega)
theorem argsR_len (xs : List Int) (h : ∀ x ∈ xs, x ≤ 9999) : (argsR xs).length ≤ 5 * xs.length := by
  induction xs with
  | nil => simp [argsR]
  | cons x xs ih =>
    have h1 := argT_len (h x (by simp))
    have h2 := ih (fun y hy => h y (by simp [hy]))
    simp only [argsR, List.length_cons, List.length_append, List.cons_append]
    omega
theorem utfB_len (n : Nat) : (utfB n).length ≤ 4 := by unfold utfB; (repeat' split) <;> simp
theorem text_len {a : AV} (h : AcOK a) : (textOf a).length ≤ 100 := by
  unfold textOf
  rcases h with ⟨hk, _, ha, _, _⟩ | ⟨_, _, ⟨hk, _, ht⟩ | ⟨_, ⟨hk, _⟩ | ⟨hk, _⟩ | ⟨hk, _⟩⟩⟩
  · rw [if_neg (by omega), if_neg (by omega), if_neg (by omega), if_neg (by omega)]
    simp only [argsB, Bool.and_eq_true, decide_eq_true_eq, List.all_eq_true] at ha
    have h1 : (argsT a.args).length ≤ 5 * a.args.length := by
      cases hx : a.args with
      | nil => simp [argsT]
      | cons x xs =>
        rw [hx] at ha
        have h1 := argT_len (ha.2 x (by simp)).2
        have h2 := argsR_len xs (fun y hy => (ha.2 y (by simp [hy])).2)
        simp only [argsT, List.length_append, List.length_cons]
        omega
    have h2 : (if a.priv = true then [(63 : UInt8)] else []).length ≤ 1 := by split <;> simp
    simp only [List.length_append, List.length_cons, List.length_nil]
    omega
  · rw [if_neg (by omega), if_neg (by omega), if_neg (by omega), if_pos hk]
    simp only [titB, Bool.and_eq_true, decide_eq_true_eq] at ht
    have h3 : a.text.data.toList.length = a.text.size := rfl
    simp only [List.length_append, List.length_cons, List.length_nil]
    omega
  · rw [if_pos hk]
    have := utfB_len a.n.toNat
    omega
  · rw [if_neg (by omega), if_pos hk]; simp
  · rw [if_neg (by omega), if_neg (by omega), if_pos hk]; simp
/-- What a parser tells is right. -/
theorem gstep_ac (b : UInt8) : ∀ a ∈ (gstep b).2, AcOK a := by
  unfold gstep
  repeat' split
  · simp
  · rename_i h
    intro a ha
    simp only [List.mem_singleton] at ha
    subst ha
    refine .inr ⟨rfl, rfl, .inr ⟨rfl, .inr (.inl ⟨rfl, ?_⟩)⟩⟩
    simp only [ctl, Bool.or_eq_true, Bool.and_eq_true, decide_eq_true_eq, beq_iff_eq] at h
    unfold ctlN
    simp only
    omega
  · rename_i h
    intro a ha
    simp only [List.mem_singleton] at ha
    subst ha
    refine .inr ⟨rfl, rfl, .inr ⟨rfl, .inl ⟨rfl, ?_⟩⟩⟩
    unfold rnOK
    simp only [pr]
    omega
  · simp
  · simp
  · intro a ha
    simp only [List.mem_singleton] at ha
    subst ha
    exact .inr ⟨rfl, rfl, .inr ⟨rfl, .inl ⟨rfl, by unfold rnOK; simp only [pr]; omega⟩⟩⟩
theorem estep_ac (b : UInt8) : ∀ a ∈ (estep b).2, AcOK a := by
  unfold estep
  repeat' split
  · simp
  · simp
  · simp
  · rename_i h
    intro a ha
    simp only [List.mem_singleton] at ha
    subst ha
    refine .inr ⟨rfl, rfl, .inr ⟨rfl, .inr (.inr ⟨rfl, ?_⟩)⟩⟩
    simp only [esc, Bool.or_eq_true, beq_iff_eq] at h
    unfold escN
    simp only
    omega
  · simp
theorem may_one {x : UInt8} {b : Nat} (h : mayF [x] b = true) : (if x.toNat = 224 then 160 else if x.toNat = 240 then 144 else 128) ≤ b ∧ b ≤ (if x.toNat = 237 then 159 else if x.toNat = 244 then 143 else 191) := by
  have h1 : (decide ((if x.toNat = 224 then 160 else if x.toNat = 240 then 144 else 128) ≤ b) && decide (b ≤ (if x.toNat = 237 then 159 else if x.toNat = 244 then 143 else 191))) = true := h
  simpa only [Bool.and_eq_true, decide_eq_true_eq] using h1
theorem ustep_ac {p : PV} (hu : begB p.utf.data.toList = true) (b : UInt8) : ∀ a ∈ (ustep p b).2, AcOK a := by
  unfold ustep
  split
  · intro a ha
    simp only [List.mem_cons] at ha
    rcases ha with rfl | ha
    · exact .inr ⟨rfl, rfl, .inr ⟨rfl, .inl ⟨rfl, by unfold rnOK; simp only [pr]; omega⟩⟩⟩
    · exact gstep_ac b a ha
  · rename_i hm
    split
    · simp
    · rename_i hl
      intro a ha
      simp only [List.mem_singleton] at ha
      subst ha
      refine .inr ⟨rfl, rfl, .inr ⟨rfl, .inl ⟨rfl, ?_⟩⟩⟩
      simp only [pr]
      have hs : p.utf.size = p.utf.data.toList.length := rfl
      rw [hs] at hl
      generalize p.utf.data.toList = l at hu hm hl
      simp only [begB, Bool.and_eq_true, decide_eq_true_eq, List.all_eq_true, List.mem_range, Bool.or_eq_true, beq_iff_eq] at hu
      obtain ⟨⟨u1, u2⟩, u3⟩ := hu
      have hmt : mayF l b.toNat = true := by simpa using hm
      clear hm hs
      have hb := b.toNat_lt
      match l, u1, u2, u3, hl, hmt with
      | [x], _, u2, u3, hl, hmt =>
        have hx := x.toNat_lt
        simp only [List.headD_cons, List.length_cons, List.length_nil] at u2 hl
        obtain ⟨v3, v4⟩ := may_one hmt
        clear hmt u3
        simp only [List.cons_append, List.nil_append, rnV, rnOK]
        unfold utfLen at u2 hl
        (repeat' split at u2) <;> (repeat' split at hl) <;> (repeat' split at v3) <;> (repeat' split at v4) <;> omega
      | [x, y], _, u2, u3, hl, hmt =>
        have hx := x.toNat_lt
        have hy := y.toNat_lt
        have v1 := u3 1 (by simp)
        simp only [List.headD_cons, List.length_cons, List.length_nil] at u2 hl
        have v2 : mayF [x] y.toNat = true := by
          rcases v1 with h | h
          · cases h
          · exact h
        obtain ⟨v3, v4⟩ := may_one v2
        clear v2
        have hmt2 : 128 ≤ b.toNat ∧ b.toNat ≤ 191 := by
          have : (decide (128 ≤ b.toNat) && decide (b.toNat ≤ 191)) = true := hmt
          simpa using this
        simp only [List.cons_append, List.nil_append, rnV, rnOK]
        unfold utfLen at u2 hl
        clear hmt v1 u3
        (repeat' split at u2) <;> (repeat' split at hl) <;> (repeat' split at v3) <;> (repeat' split at v4) <;> omega
      | [x, y, z], _, u2, u3, hl, hmt =>
        have hx := x.toNat_lt
        have hy := y.toNat_lt
        have hz := z.toNat_lt
        have v1 := u3 1 (by simp)
        have w1 := u3 2 (by simp)
        simp only [List.headD_cons, List.length_cons, List.length_nil] at u2 hl
        have v2 : mayF [x] y.toNat = true := by
          rcases v1 with h | h
          · cases h
          · exact h
        have w2 : 128 ≤ z.toNat ∧ z.toNat ≤ 191 := by
          rcases w1 with h | h
          · cases h
          · have : (decide (128 ≤ z.toNat) && decide (z.toNat ≤ 191)) = true := h
            simpa using this
        obtain ⟨v3, v4⟩ := may_one v2
        clear v2
        have hmt2 : 128 ≤ b.toNat ∧ b.toNat ≤ 191 := by
          have : (decide (128 ≤ b.toNat) && decide (b.toNat ≤ 191)) = true := hmt
          simpa using this
        simp only [List.cons_append, List.nil_append, rnV, rnOK]
        unfold utfLen at u2 hl
        clear hmt v1 w1 u3
        (repeat' split at u2) <;> (repeat' split at hl) <;> (repeat' split at v3) <;> (repeat' split at v4) <;> omega
      | x :: y :: z :: q :: l, _, u2, _, _, _ =>
        exfalso
        simp only [List.headD_cons, List.length_cons] at u2
        unfold utfLen at u2
        (repeat' split at u2) <;> omega
theorem pstep_ac {p : PV} (h : PvOK p) (b : UInt8) : ∀ a ∈ (pstep p b).2, AcOK a := by
  unfold pstep
  repeat' split
  · exact gstep_ac b
  · exact estep_ac b
  · rename_i h2
    have hA := h.csi h2
    unfold cstep
    repeat' split
    · simp
    · rename_i hc
      intro a ha
      simp only [List.mem_singleton] at ha
      subst ha
      refine .inr ⟨rfl, rfl, .inr ⟨rfl, .inr (.inl ⟨rfl, ?_⟩)⟩⟩
      simp only [ctl, Bool.or_eq_true, Bool.and_eq_true, decide_eq_true_eq, beq_iff_eq] at hc
      unfold ctlN
      simp only
      omega
    · simp
    · simp
    · simp
    · rename_i h6
      intro a ha
      simp only [List.mem_singleton] at ha
      subst ha
      exact .inl ⟨rfl, rfl, hA, by simp only; omega, by simp only; omega⟩
    · simp
  · unfold sstep
    repeat' split
    · simp
    · simp
    · simp
  · rename_i h4
    unfold ostep
    repeat' split
    · intro a ha
      simp only [List.mem_singleton] at ha
      subst ha
      exact .inr ⟨rfl, rfl, .inl ⟨rfl, rfl, h.osc (.inl h4)⟩⟩
    · simp
    · simp
    · simp
  · rename_i h5
    unfold qstep
    split
    · intro a ha
      simp only [List.mem_singleton] at ha
      subst ha
      exact .inr ⟨rfl, rfl, .inl ⟨rfl, rfl, h.osc (.inr h5)⟩⟩
    · exact estep_ac b
  · exact ustep_ac (h.ut (by have := h.st; omega)) b
theorem prun_ac (l : List UInt8) {p : PV} (h : PvOK p) : ∀ a ∈ (prun p l).2, AcOK a := by
  induction l generalizing p with
  | nil => simp [prun]
  | cons b l ih =>
    intro a ha
    simp only [prun, List.mem_append] at ha
    rcases ha with ha | ha
    · exact pstep_ac h b a ha
    · exact ih (pstep_ok h b) a ha
end
section
open Go.RowKit
def rnI (n : Int) : Bool := (inB n 32 1114111 && !(n == 127)) && !inB n 55296 57343
theorem rn_iff {n : Int} : rnI n = true ↔ rnOK n := by
  unfold rnI rnOK
  simp only [Bool.and_eq_true, Bool.not_eq_true', beq_eq_false_iff_ne, inB, decide_eq_true_eq, Bool.and_eq_false_iff, decide_eq_false_iff_not]
  omega
set_option maxRecDepth 100000 in
set_option maxHeartbeats 1000000 in
theorem isRune_t (n : Int) (w : World) (h : rnOK n) : Calls Tryd.prog 74 #[.int .i64 n] w fun e w' => e = .returned (.bool true) ∧ w = w' := by
  obtain ⟨h1, h2, h3, h4⟩ := h
  have g1 : Hid (inB n 32 1114111 = true) := Lib.hid (by simp [inB]; omega)
  have g2 : Hid (inB n 55296 57343 = false) := Lib.hid (by simp [inB]; omega)
  have g3 : (n != 127) = true := bne_iff_ne.2 h3
  have g4 : (n == 127) = false := beq_eq_false_iff_ne.2 h3
  clear h1 h2 h3 h4
  go_enter Tryd.func74, Tryd.ntmps74
  go_wp2_with (go_at_call 43; refine (within_c _ _ _ _).mono ?_; (first | rw [g1.out] | rw [g2.out]); rintro e w' ⟨rfl, rfl⟩)
  go_ret
  exact ⟨rfl, rfl⟩
set_option maxRecDepth 100000 in
set_option maxHeartbeats 1000000 in
theorem runeOK_t (n : Int) (w : World) (h : rnOK n) : Calls Tryd.prog 77 #[.int .i64 n] w fun e w' => e = .returned (.bool true) ∧ w = w' := by
  obtain ⟨h1, h2, h3, h4⟩ := h
  have g1 : Hid (inB n 0 1114111 = true) := Lib.hid (by simp [inB]; omega)
  have g2 : Hid (inB n 55296 57343 = false) := Lib.hid (by simp [inB]; omega)
  clear h1 h2 h3 h4
  go_enter Tryd.func77, Tryd.ntmps77
  go_wp2_with (go_at_call 57; refine (l01In_c _ _ _ _).mono ?_; (first | rw [g1.out] | rw [g2.out]); rintro e w' ⟨rfl, rfl⟩)
  go_ret
  exact ⟨rfl, rfl⟩
theorem ctlN_I {n : Int} (h : ctlN n) : ctlI n = true := by
  obtain ⟨m, rfl⟩ : ∃ m : Nat, n = m := ⟨n.toNat, by unfold ctlN at h; omega⟩
  rw [ctl_eq]
  unfold ctlN at h
  simp only [ctl, Bool.or_eq_true, Bool.and_eq_true, decide_eq_true_eq, beq_iff_eq]
  omega
theorem escN_I {n : Int} (h : escN n) : escI n = true := by
  obtain ⟨m, rfl⟩ : ∃ m : Nat, n = m := ⟨n.toNat, by unfold escN at h; omega⟩
  rw [esc_eq]
  unfold escN at h
  simp only [esc, Bool.or_eq_true, beq_iff_eq]
  omega
theorem empE0 : e0.toList.isEmpty = true := by rw [isEmp]; rfl
set_option maxRecDepth 100000 in
set_option maxHeartbeats 4000000 in
theorem isAction_t (a : AV) (aa : Option Addr) (ca : Nat) (w : World) (h : AcOK a) (ha : Sl intE 1 w aa a.args) :
    Calls Tryd.prog 52 #[.agg #[.int .i64 a.kind, .int .i64 a.n, .bool a.priv, .slice aa a.args.length ca, .string a.text]] w fun e w' => e = .returned (.bool true) ∧ Below w.heap.size w w' := by
  obtain ⟨kd, n, pv, xs, tx⟩ := a
  rcases h with ⟨hk, ht, hA, h1, h2⟩ | ⟨hp, hA, ⟨hk, hn, ht⟩ | ⟨ht, ⟨hk, hn⟩ | ⟨hk, hn⟩ | ⟨hk, hn⟩⟩⟩
  all_goals simp only at hk
  all_goals subst hk
  · simp only at ht hA h1 h2 ha ⊢
    subst ht
    have hl8 : xs.length ≤ 1048576 := by
      have := hA
      simp only [argsB, Bool.and_eq_true, decide_eq_true_eq] at this
      omega
    have g1 : Hid (inB n 64 126 = true) := Lib.hid (by simp [inB]; omega)
    have HA := Lib.hid (areArgs_c aa ca xs (w.alloc (.cells #[.int .i64 4, .int .i64 n, .bool pv, .slice aa xs.length ca, .string e0] 46)) (ha.alloc _) (by omega))
    rw [hA] at HA
    have hE := empE0
    clear hA h1 h2 ha
    go_enter Tryd.func52, Tryd.ntmps52
    go_wp2_with (first | (go_at_call 43; refine (within_c _ _ _ _).mono ?_; rw [g1.out]; rintro e w' ⟨rfl, rfl⟩) | (go_at_call 63; refine HA.out.mono ?_; rintro e w' ⟨rfl, rfl⟩))
    go_ret
    exact ⟨rfl, (Below.refl _ _).alloc (Nat.le_refl _) _⟩
  · simp only at hp hA hn ht ⊢
    subst hp hA hn
    have HT := Lib.hid ht
    have hz : tx.size ≤ 1048576 := by
      have := ht
      simp only [titB, Bool.and_eq_true, decide_eq_true_eq] at this
      omega
    clear ht ha
    go_enter Tryd.func52, Tryd.ntmps52
    go_wp2_with (go_at_call 64; refine (isTitle_c tx _ (by omega)).mono ?_; rw [HT.out]; rintro e w' ⟨rfl, rfl⟩)
    go_ret
    exact ⟨rfl, (Below.refl _ _).alloc (Nat.le_refl _) _⟩
  · simp only at hp hA hn ht ⊢
    subst hp hA ht
    have HT := Lib.hid hn
    have hE := empE0
    clear hn ha
    go_enter Tryd.func52, Tryd.ntmps52
    go_wp2_with (go_at_call 74; refine (isRune_t _ _ HT.out).mono ?_; rintro e w' ⟨rfl, rfl⟩)
    go_ret
    exact ⟨rfl, (Below.refl _ _).alloc (Nat.le_refl _) _⟩
  · simp only at hp hA hn ht ⊢
    subst hp hA ht
    have HT := Lib.hid (ctlN_I hn)
    have hE := empE0
    clear hn ha
    go_enter Tryd.func52, Tryd.ntmps52
    go_wp2_with (go_at_call 75; refine (isControl_c _ _).mono ?_; rw [HT.out]; rintro e w' ⟨rfl, rfl⟩)
    go_ret
    exact ⟨rfl, (Below.refl _ _).alloc (Nat.le_refl _) _⟩
  · simp only at hp hA hn ht ⊢
    subst hp hA ht
    have HT := Lib.hid (escN_I hn)
    have hE := empE0
    clear hn ha
    go_enter Tryd.func52, Tryd.ntmps52
    go_wp2_with (go_at_call 69; refine (isEscape_c _ _).mono ?_; rw [HT.out]; rintro e w' ⟨rfl, rfl⟩)
    go_ret
    exact ⟨rfl, (Below.refl _ _).alloc (Nat.le_refl _) _⟩
set_option maxRecDepth 100000 in
set_option maxHeartbeats 1000000 in
theorem actionOK_t (a : AV) (aa : Option Addr) (ca : Nat) (w : World) (h : AcOK a) (ha : Sl intE 1 w aa a.args) :
    Calls Tryd.prog 32 #[.agg #[.int .i64 a.kind, .int .i64 a.n, .bool a.priv, .slice aa a.args.length ca, .string a.text]] w fun e w' => e = .returned (.bool true) ∧ Below w.heap.size w w' := by
  have HC := Lib.hid (isAction_t a aa ca (w.alloc (.cells #[.int .i64 a.kind, .int .i64 a.n, .bool a.priv, .slice aa a.args.length ca, .string a.text] 46)) h (ha.alloc _))
  clear ha h
  go_enter Tryd.func32, Tryd.ntmps32
  go_wp2_with fail
  refine HC.out.mono ?_
  rintro e w1 ⟨rfl, hb⟩
  have HB := Lib.hid hb
  clear hb
  go_wp2_with fail
  go_ret
  exact ⟨rfl, ((Below.refl w.heap.size w).alloc (Nat.le_refl _) _).trans (HB.out.mono (by simp))⟩
set_option maxRecDepth 100000 in
set_option maxHeartbeats 8000000 in
theorem specActionOK_t (a : AV) (aa : Option Addr) (ca : Nat) (w : World) (h : AcOK a) (ha : Sl intE 1 w aa a.args) :
    Calls Tryd.prog 54 #[.agg #[.int .i64 a.kind, .int .i64 a.n, .bool a.priv, .slice aa a.args.length ca, .string a.text]] w fun e w' => e = .returned (.bool true) ∧ Below w.heap.size w w' := by
  obtain ⟨kd, n, pv, xs, tx⟩ := a
  rcases h with ⟨hk, ht, hA, h1, h2⟩ | ⟨hp, hA, ⟨hk, hn, ht⟩ | ⟨ht, ⟨hk, hn⟩ | ⟨hk, hn⟩ | ⟨hk, hn⟩⟩⟩
  all_goals simp only at hk
  all_goals subst hk
  · simp only at ht hA h1 h2 ha ⊢
    subst ht
    have hl8 : xs.length ≤ 1048576 := by
      have := hA
      simp only [argsB, Bool.and_eq_true, decide_eq_true_eq] at this
      omega
    have g1 : Hid (inB n 64 126 = true) := Lib.hid (by simp [inB]; omega)
    simp only [argsB, Bool.and_eq_true, decide_eq_true_eq, List.all_eq_true] at hA
    obtain ⟨⟨l1, l8⟩, hall⟩ := hA
    have HALL := Lib.hid hall
    have HA := Lib.hid (ha.alloc (.cells #[.int .i64 4, .int .i64 n, .bool pv, .slice aa xs.length ca, .string e0] 46))
    have hE := empE0
    have g8 : ¬ (8 : Int) < (xs.length : Int) := by omega
    have g0 : (0 : Int) < (xs.length : Int) := by omega
    have g0d : decide (0 < xs.length) = true := decide_eq_true (by omega)
    clear hall h1 h2 ha
    go_enter Tryd.func54, Tryd.ntmps54
    go_wp2_with fail
    go_loop [3] (fun i => ∃ k : Nat, k ≤ xs.length ∧ i = .int .i64 k) (fun i => xs.length - (intOf i).toNat)
    case atStart => exact ⟨0, Nat.zero_le _, rfl⟩
    case round =>
      obtain ⟨k, hk, rfl⟩ := hrel
      by_cases hlt : k < xs.length
      · obtain ⟨b1, o1, rfl, hb1, hc1⟩ := HA.out.at hlt
        have c1 := hc1 k hlt 0 (by omega)
        simp only [intE, Nat.mul_one, Nat.add_zero, List.getElem?_cons_zero] at c1
        clear hc1
        have hx := HALL.out _ (List.getElem_mem hlt)
        obtain ⟨x, hxe⟩ : ∃ x, xs[k] = x := ⟨_, rfl⟩
        rw [hxe] at c1 hx
        clear hxe
        have HV : Hid (inB x (-1) 9999 = true) := Lib.hid (by simp [inB]; omega)
        clear hx
        go_wp2_with (go_at_call 57; refine (l01In_c _ _ _ _).mono ?_; rw [HV.out]; rintro e w' ⟨rfl, rfl⟩)
        go_round
        case rel => exact ⟨k + 1, by omega, by go_num⟩
        case measure => simp [intOf]; omega
      · obtain rfl : k = xs.length := by omega
        go_wp2_with (go_at_call 57; refine (l01In_c _ _ _ _).mono ?_; rw [g1.out]; rintro e w' ⟨rfl, rfl⟩)
        go_ret
        exact ⟨(by first | rfl | (show Ending.returned (.bool (decide (0 < xs.length))) = _; rw [g0d])), (Below.refl _ _).alloc (Nat.le_refl _) _⟩
  · simp only at hp hA hn ht ⊢
    subst hp hA hn
    have hz : tx.size ≤ 40 ∧ ∀ x ∈ tx.data.toList, 32 ≤ x.toNat ∧ x.toNat ≤ 126 := by
      simpa only [titB, Bool.and_eq_true, decide_eq_true_eq, List.all_eq_true] using ht
    obtain ⟨h40, hall⟩ := hz
    have HALL := Lib.hid hall
    have g40 : ¬ (40 : Int) < (tx.size : Int) := by omega
    clear ht ha hall
    go_enter Tryd.func54, Tryd.ntmps54
    go_wp2_with fail
    go_loop [3] (fun i => ∃ k : Nat, k ≤ 0 ∧ i = .int .i64 k) (fun _ => 0)
    case atStart => exact ⟨0, Nat.le_refl _, rfl⟩
    case round =>
      obtain ⟨k, hk, rfl⟩ := hrel
      obtain rfl : k = 0 := by omega
      go_wp2_with fail
      go_loop [4] (fun i => ∃ k : Nat, k ≤ tx.size ∧ i = .int .i64 k) (fun i => tx.size - (intOf i).toNat)
      case atStart => exact ⟨0, Nat.zero_le _, rfl⟩
      case round =>
        obtain ⟨k, hk, rfl⟩ := hrel
        by_cases hlt : k < tx.size
        · obtain ⟨x, hx⟩ : ∃ x, tx[k] = x := ⟨_, rfl⟩
          have hxm := HALL.out x (by rw [← hx]; exact Array.getElem_mem_toList hlt)
          have hu8 : IntKind.i64.wrap (x.toNat : Int) = (x.toNat : Int) := IntWalk.i64_in _ ⟨by omega, by omega⟩
          have HV : Hid (inB (x.toNat : Int) 32 126 = true) := Lib.hid (by simp [inB]; omega)
          clear hxm
          go_wp2_with (go_at_call 57; refine (l01In_c _ _ _ _).mono ?_; rw [HV.out]; rintro e w' ⟨rfl, rfl⟩)
          go_round
          case rel => exact ⟨k + 1, by omega, by go_num⟩
          case measure => simp [intOf]; omega
        · obtain rfl : k = tx.size := by omega
          go_wp2_with fail
          go_ret
          exact ⟨rfl, (Below.refl _ _).alloc (Nat.le_refl _) _⟩
  · simp only at hp hA hn ht ⊢
    subst hp hA ht
    have HT := Lib.hid hn
    have hE := empE0
    have g32 : (32 : Int) ≤ n := hn.1
    have g127 : (n != 127) = true := bne_iff_ne.2 hn.2.2.1
    have g127' : (n == 127) = false := beq_eq_false_iff_ne.2 hn.2.2.1
    clear hn ha
    go_enter Tryd.func54, Tryd.ntmps54
    go_wp2_with fail
    go_loop [3] (fun i => ∃ k : Nat, k ≤ 0 ∧ i = .int .i64 k) (fun _ => 0)
    case atStart => exact ⟨0, Nat.le_refl _, rfl⟩
    case round =>
      obtain ⟨k, hk, rfl⟩ := hrel
      obtain rfl : k = 0 := by omega
      go_wp2_with (go_at_call 77; refine (runeOK_t _ _ HT.out).mono ?_; rintro e w' ⟨rfl, rfl⟩)
      go_ret
      exact ⟨rfl, (Below.refl _ _).alloc (Nat.le_refl _) _⟩
  · simp only at hp hA hn ht ⊢
    subst hp hA ht
    have HT := Lib.hid (ctlN_I hn)
    have hE := empE0
    clear hn ha
    go_enter Tryd.func54, Tryd.ntmps54
    go_wp2_with fail
    go_loop [3] (fun i => ∃ k : Nat, k ≤ 0 ∧ i = .int .i64 k) (fun _ => 0)
    case atStart => exact ⟨0, Nat.le_refl _, rfl⟩
    case round =>
      obtain ⟨k, hk, rfl⟩ := hrel
      obtain rfl : k = 0 := by omega
      go_wp2_with (go_at_call 78; refine (control_r _ _).mono ?_; rw [HT.out]; rintro e w' ⟨rfl, rfl⟩)
      go_ret
      exact ⟨rfl, (Below.refl _ _).alloc (Nat.le_refl _) _⟩
  · simp only at hp hA hn ht ⊢
    subst hp hA ht
    have hE := empE0
    have hcs : n = 55 ∨ n = 56 ∨ n = 68 ∨ n = 69 ∨ n = 77 ∨ n = 99 := hn
    clear hn ha
    rcases hcs with rfl | rfl | rfl | rfl | rfl | rfl
    all_goals
      go_enter Tryd.func54, Tryd.ntmps54
      go_wp2_with fail
      go_loop [3] (fun i => ∃ k : Nat, k ≤ 0 ∧ i = .int .i64 k) (fun _ => 0)
      case atStart => exact ⟨0, Nat.le_refl _, rfl⟩
      case round =>
        obtain ⟨k, hk, rfl⟩ := hrel
        obtain rfl : k = 0 := by omega
        go_wp2_with fail
        go_ret
        exact ⟨rfl, (Below.refl _ _).alloc (Nat.le_refl _) _⟩
end
section
open Go.RowKit
def argV : List Int → Int
  | [] => 7
  | x :: _ => if x < 0 then 7 else x
set_option maxRecDepth 100000 in
set_option maxHeartbeats 2000000 in
theorem argOf_c (kd n : Int) (pv : Bool) (tx : ByteArray) (xs : List Int) (aa : Option Addr) (ca : Nat) (w : World) (ha : Sl intE 1 w aa xs) :
    Calls Tryd.prog 56 #[.agg #[.int .i64 kd, .int .i64 n, .bool pv, .slice aa xs.length ca, .string tx], .int .i64 0, .int .i64 7] w fun e w' => e = .returned (.int .i64 (argV xs)) ∧ Below w.heap.size w w' := by
  match xs, ha with
  | [], ha =>
    go_enter Tryd.func56, Tryd.ntmps56
    go_wp2_with fail
    go_ret
    exact ⟨rfl, (Below.refl _ _).alloc (Nat.le_refl _) _⟩
  | x :: xs, ha =>
    have hp : (0 : Nat) < (x :: xs).length := Nat.succ_pos _
    obtain ⟨b1, o1, rfl, hb1, hc1⟩ := (ha.alloc (.cells #[.int .i64 kd, .int .i64 n, .bool pv, .slice aa (x :: xs).length ca, .string tx] 46)).at hp
    have c1 := hc1 0 hp 0 (by omega)
    simp only [intE, Nat.mul_one, Nat.add_zero, List.getElem?_cons_zero, List.getElem_cons_zero] at c1
    obtain ⟨ln, hln⟩ : ∃ ln, (x :: xs).length = ln := ⟨_, rfl⟩
    rw [hln] at hp hb1 c1 ⊢
    clear hc1 ha hln
    have g0 : ¬ ((0 : Int) ≥ (ln : Int)) := by omega
    by_cases hx : x < 0
    · have hv : argV (x :: xs) = 7 := if_pos hx
      rw [hv]
      clear hv
      go_enter Tryd.func56, Tryd.ntmps56
      go_wp2_with fail
      go_ret
      exact ⟨rfl, (Below.refl _ _).alloc (Nat.le_refl _) _⟩
    · have hv : argV (x :: xs) = x := if_neg hx
      rw [hv]
      clear hv
      go_enter Tryd.func56, Tryd.ntmps56
      go_wp2_with fail
      go_ret
      exact ⟨rfl, (Below.refl _ _).alloc (Nat.le_refl _) _⟩
set_option maxRecDepth 100000 in
set_option maxHeartbeats 2000000 in
theorem l03Arg_c (kd n : Int) (pv : Bool) (tx : ByteArray) (xs : List Int) (aa : Option Addr) (ca : Nat) (w : World) (ha : Sl intE 1 w aa xs) :
    Calls Tryd.prog 58 #[.agg #[.int .i64 kd, .int .i64 n, .bool pv, .slice aa xs.length ca, .string tx], .int .i64 0, .int .i64 7] w fun e w' => e = .returned (.int .i64 (argV xs)) ∧ Below w.heap.size w w' := by
  match xs, ha with
  | [], ha =>
    go_enter Tryd.func58, Tryd.ntmps58
    go_wp2_with fail
    go_ret
    exact ⟨rfl, (Below.refl _ _).alloc (Nat.le_refl _) _⟩
  | x :: xs, ha =>
    have hp : (0 : Nat) < (x :: xs).length := Nat.succ_pos _
    obtain ⟨b1, o1, rfl, hb1, hc1⟩ := (ha.alloc (.cells #[.int .i64 kd, .int .i64 n, .bool pv, .slice aa (x :: xs).length ca, .string tx] 46)).at hp
    have c1 := hc1 0 hp 0 (by omega)
    simp only [intE, Nat.mul_one, Nat.add_zero, List.getElem?_cons_zero, List.getElem_cons_zero] at c1
    obtain ⟨ln, hln⟩ : ∃ ln, (x :: xs).length = ln := ⟨_, rfl⟩
    rw [hln] at hp hb1 c1 ⊢
    clear hc1 ha hln
    have g0 : ¬ ((0 : Int) ≥ (ln : Int)) := by omega
    by_cases hx : x < 0
    · have hv : argV (x :: xs) = 7 := if_pos hx
      rw [hv]
      clear hv
      go_enter Tryd.func58, Tryd.ntmps58
      go_wp2_with fail
      go_ret
      exact ⟨rfl, (Below.refl _ _).alloc (Nat.le_refl _) _⟩
    · have hv : argV (x :: xs) = x := if_neg hx
      rw [hv]
      clear hv
      go_enter Tryd.func58, Tryd.ntmps58
      go_wp2_with fail
      go_ret
      exact ⟨rfl, (Below.refl _ _).alloc (Nat.le_refl _) _⟩
set_option maxRecDepth 100000 in
set_option maxHeartbeats 2000000 in
theorem implArgOf_c (a : AV) (aa : Option Addr) (ca : Nat) (w : World) (h : AcOK a) (ha : Sl intE 1 w aa a.args) :
    Calls Tryd.prog 30 #[.agg #[.int .i64 a.kind, .int .i64 a.n, .bool a.priv, .slice aa a.args.length ca, .string a.text], .int .i64 0, .int .i64 7] w fun e w' => e = .returned (.tuple #[.int .i64 (argV a.args), .int .i64 0]) ∧ Below w.heap.size w w' := by
  have g1 : Hid (inB 0 0 7 = true) := Lib.hid (by decide)
  have g2 : Hid (inB 7 (-1) 9999 = true) := Lib.hid (by decide)
  have HC := Lib.hid (isAction_t a aa ca (w.alloc (.cells #[.int .i64 a.kind, .int .i64 a.n, .bool a.priv, .slice aa a.args.length ca, .string a.text] 46)) h (ha.alloc _))
  have HS := Lib.hid (ha.alloc (.cells #[.int .i64 a.kind, .int .i64 a.n, .bool a.priv, .slice aa a.args.length ca, .string a.text] 46))
  clear ha h
  go_enter Tryd.func30, Tryd.ntmps30
  go_wp2_with fail
  refine HC.out.mono ?_
  rintro e w1 ⟨rfl, hb⟩
  have HS1 := Lib.hid (HS.out.keep hb)
  have hz1 := hb.size
  try simp at hz1
  have q1_0_0 : w1.cell? ⟨w.heap.size, 0, none⟩ = some (.int .i64 a.kind) := by
    rw [hb.cell (p := ⟨w.heap.size, 0, none⟩) (show w.heap.size < _ by (try simp) <;> (try omega))]
    first | assumption | (simp [go_sem, *])
  have q1_0_1 : w1.cell? ⟨w.heap.size, 1, none⟩ = some (.int .i64 a.n) := by
    rw [hb.cell (p := ⟨w.heap.size, 1, none⟩) (show w.heap.size < _ by (try simp) <;> (try omega))]
    first | assumption | (simp [go_sem, *])
  have q1_0_2 : w1.cell? ⟨w.heap.size, 2, none⟩ = some (.bool a.priv) := by
    rw [hb.cell (p := ⟨w.heap.size, 2, none⟩) (show w.heap.size < _ by (try simp) <;> (try omega))]
    first | assumption | (simp [go_sem, *])
  have q1_0_3 : w1.cell? ⟨w.heap.size, 3, none⟩ = some (.slice aa a.args.length ca) := by
    rw [hb.cell (p := ⟨w.heap.size, 3, none⟩) (show w.heap.size < _ by (try simp) <;> (try omega))]
    first | assumption | (simp [go_sem, *])
  have q1_0_4 : w1.cell? ⟨w.heap.size, 4, none⟩ = some (.string a.text) := by
    rw [hb.cell (p := ⟨w.heap.size, 4, none⟩) (show w.heap.size < _ by (try simp) <;> (try omega))]
    first | assumption | (simp [go_sem, *])
  have hl1_0 : w.heap.size < w1.heap.size := by omega
  have HB := Lib.hid hb
  clear hb
  go_wp2_with (first | (go_at_call 43; refine (within_c _ _ _ _).mono ?_; (first | rw [g1.out] | rw [g2.out]); rintro e w' ⟨rfl, rfl⟩) | (go_at_call 56; refine (argOf_c a.kind a.n a.priv a.text a.args aa ca _ HS1.out).mono ?_; rintro e w2 ⟨rfl, hb2⟩; have HB2 := Lib.hid hb2; clear hb2))
  refine bodyPost_ret (v := .tuple #[.int .i64 (argV a.args), .int .i64 0]) (by simp [results, Tryd.results30, go_sem]) rfl ?_
  exact ⟨rfl, (((Below.refl w.heap.size w).alloc (Nat.le_refl _) _).trans (HB.out.mono (by simp))).trans (HB2.out.mono (by have := HB.out.size; simp at this ⊢; omega))⟩
set_option maxRecDepth 100000 in
set_option maxHeartbeats 2000000 in
theorem specArgOf_c (a : AV) (aa : Option Addr) (ca : Nat) (w : World) (h : AcOK a) (ha : Sl intE 1 w aa a.args) :
    Calls Tryd.prog 31 #[.agg #[.int .i64 a.kind, .int .i64 a.n, .bool a.priv, .slice aa a.args.length ca, .string a.text], .int .i64 0, .int .i64 7] w fun e w' => e = .returned (.tuple #[.int .i64 (argV a.args), .int .i64 0]) ∧ Below w.heap.size w w' := by
  have g1 : Hid (inB 0 0 7 = true) := Lib.hid (by decide)
  have g2 : Hid (inB 7 (-1) 9999 = true) := Lib.hid (by decide)
  have HC := Lib.hid (specActionOK_t a aa ca (w.alloc (.cells #[.int .i64 a.kind, .int .i64 a.n, .bool a.priv, .slice aa a.args.length ca, .string a.text] 46)) h (ha.alloc _))
  have HS := Lib.hid (ha.alloc (.cells #[.int .i64 a.kind, .int .i64 a.n, .bool a.priv, .slice aa a.args.length ca, .string a.text] 46))
  clear ha h
  go_enter Tryd.func31, Tryd.ntmps31
  go_wp2_with fail
  refine HC.out.mono ?_
  rintro e w1 ⟨rfl, hb⟩
  have HS1 := Lib.hid (HS.out.keep hb)
  have hz1 := hb.size
  try simp at hz1
  have q1_0_0 : w1.cell? ⟨w.heap.size, 0, none⟩ = some (.int .i64 a.kind) := by
    rw [hb.cell (p := ⟨w.heap.size, 0, none⟩) (show w.heap.size < _ by (try simp) <;> (try omega))]
    first | assumption | (simp [go_sem, *])
  have q1_0_1 : w1.cell? ⟨w.heap.size, 1, none⟩ = some (.int .i64 a.n) := by
    rw [hb.cell (p := ⟨w.heap.size, 1, none⟩) (show w.heap.size < _ by (try simp) <;> (try omega))]
    first | assumption | (simp [go_sem, *])
  have q1_0_2 : w1.cell? ⟨w.heap.size, 2, none⟩ = some (.bool a.priv) := by
    rw [hb.cell (p := ⟨w.heap.size, 2, none⟩) (show w.heap.size < _ by (try simp) <;> (try omega))]
    first | assumption | (simp [go_sem, *])
  have q1_0_3 : w1.cell? ⟨w.heap.size, 3, none⟩ = some (.slice aa a.args.length ca) := by
    rw [hb.cell (p := ⟨w.heap.size, 3, none⟩) (show w.heap.size < _ by (try simp) <;> (try omega))]
    first | assumption | (simp [go_sem, *])
  have q1_0_4 : w1.cell? ⟨w.heap.size, 4, none⟩ = some (.string a.text) := by
    rw [hb.cell (p := ⟨w.heap.size, 4, none⟩) (show w.heap.size < _ by (try simp) <;> (try omega))]
    first | assumption | (simp [go_sem, *])
  have hl1_0 : w.heap.size < w1.heap.size := by omega
  have HB := Lib.hid hb
  clear hb
  go_wp2_with (first | (go_at_call 57; refine (l01In_c _ _ _ _).mono ?_; (first | rw [g1.out] | rw [g2.out]); rintro e w' ⟨rfl, rfl⟩) | (go_at_call 58; refine (l03Arg_c a.kind a.n a.priv a.text a.args aa ca _ HS1.out).mono ?_; rintro e w2 ⟨rfl, hb2⟩; have HB2 := Lib.hid hb2; clear hb2))
  refine bodyPost_ret (v := .tuple #[.int .i64 (argV a.args), .int .i64 0]) (by simp [results, Tryd.results31, go_sem]) rfl ?_
  exact ⟨rfl, (((Below.refl w.heap.size w).alloc (Nat.le_refl _) _).trans (HB.out.mono (by simp))).trans (HB2.out.mono (by have := HB.out.size; simp at this ⊢; omega))⟩
end
end Go.Proofs.YtlhhlmalihajcaaDoor
