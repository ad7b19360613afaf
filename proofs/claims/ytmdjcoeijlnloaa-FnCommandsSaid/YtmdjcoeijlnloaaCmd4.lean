/- A command is its bytes. Plain lemmas, no program. -/
import Derived.Test.YtmdjcoeijlnloaaCmd3
import Derived.Test.YtmdjcoeijlnloaaPln
namespace Go.Proofs.Ytmdjcoeijlnloaa
set_option linter.unusedVariables false
set_option linter.unusedSimpArgs false
open Go.RowKit
theorem be_bn2 (a b : UInt8) : be (bn [a, b]) 2 = [a, b] := by
  have ha := a.toNat_lt
  have hb := b.toNat_lt
  have h1 : beB (bn [a, b]) 2 0 = a := UInt8.toNat_inj.1 (by rw [beB_toNat]; simp [bn]; omega)
  have h2 : beB (bn [a, b]) 2 1 = b := UInt8.toNat_inj.1 (by rw [beB_toNat]; simp [bn])
  rw [be_two, h1, h2]
theorem be_bn3 (a b c : UInt8) : be (bn [a, b, c]) 3 = [a, b, c] := by
  have ha := a.toNat_lt
  have hb := b.toNat_lt
  have hc := c.toNat_lt
  have h1 : beB (bn [a, b, c]) 3 0 = a := UInt8.toNat_inj.1 (by rw [beB_toNat]; simp [bn]; omega)
  have h2 : beB (bn [a, b, c]) 3 1 = b := UInt8.toNat_inj.1 (by rw [beB_toNat]; simp [bn]; omega)
  have h3 : beB (bn [a, b, c]) 3 2 = c := UInt8.toNat_inj.1 (by rw [beB_toNat]; simp [bn])
  rw [be_three, h1, h2, h3]
theorem be_bn_two {l : List UInt8} (h : l.length = 2) : be (bn l) 2 = l := by
  match l, h with
  | [a, b], _ => exact be_bn2 a b
theorem be_bn_three {l : List UInt8} (h : l.length = 3) : be (bn l) 3 = l := by
  match l, h with
  | [a, b, c], _ => exact be_bn3 a b c
theorem rdF_canon : ∀ (n : Nat) (l : List UInt8) (fs : List ByteArray), rdF n l = some fs → fs.length = n ∧ fldB fs = l ∧ ∀ s ∈ fs, s.size ≤ 20000
  | 0, l, fs, h => by
    rw [rdF] at h
    split at h
    · next h0 =>
      cases h
      subst h0
      simp [fldB]
    · cases h
  | n + 1, l, fs, h => by
    rw [rdF] at h
    split at h
    · cases h
    split at h
    · cases h
    split at h
    · cases h
    next h1 h2 h3 =>
    cases hg : rdF n (l.drop (2 + bn (l.take 2))) with
    | none => rw [hg] at h; cases h
    | some gs =>
      rw [hg] at h
      simp only [Option.map_some, Option.some.injEq] at h
      subst h
      obtain ⟨k1, k2, k3⟩ := rdF_canon n _ gs hg
      have hsz : (strOf ((l.drop 2).take (bn (l.take 2)))).size = bn (l.take 2) := by
        rw [strOf_size, List.length_take, List.length_drop]
        omega
      refine ⟨by simp [k1], ?_, ?_⟩
      · show fieldL _ ++ fldB gs = l
        rw [fieldL, hsz, k2, be_bn_two (by rw [List.length_take]; omega), strOf_data', List.append_assoc, ← List.drop_drop, List.take_append_drop, List.take_append_drop]
      · intro s hs
        rcases List.mem_cons.1 hs with rfl | hs
        · rw [hsz]
          omega
        · exact k3 s hs
theorem rdAll_canon {l : List UInt8} {fs : List ByteArray} (h : rdAll l = some fs) : l = fldL fs ∧ fs.length ≤ 60 ∧ ∀ s ∈ fs, s.size ≤ 20000 := by
  cases l with
  | nil => cases h
  | cons c r =>
    rw [rdAll] at h
    split at h
    · cases h
    next h1 =>
    obtain ⟨k1, k2, k3⟩ := rdF_canon _ _ _ h
    refine ⟨?_, by omega, k3⟩
    rw [fldL, k1, k2]
    simp
theorem numL_rnF : ∀ (n : Nat) (l : List UInt8), l.length = 3 * n → numL (rnF n l) = l
  | 0, l, h => by
    have : l = [] := List.length_eq_zero_iff.1 (by omega)
    subst this
    rfl
  | n + 1, l, h => by
    have ih := numL_rnF n (l.drop 3) (by rw [List.length_drop]; omega)
    show be (((bn (l.take 3) : Int) - 1) + 1).toNat 3 ++ numL (rnF n (l.drop 3)) = l
    rw [ih, show (((bn (l.take 3) : Int) - 1) + 1).toNat = bn (l.take 3) by omega, be_bn_three (by rw [List.length_take]; omega), List.take_append_drop]
theorem rnF_numL : ∀ (ns : List Int), (∀ x ∈ ns, -1 ≤ x ∧ x < 16777215) → rnF ns.length (numL ns) = ns
  | [], _ => rfl
  | x :: ns, h => by
    have hx := h x (by simp)
    have ih := rnF_numL ns (fun y hy => h y (by simp [hy]))
    have hl : numL (x :: ns) = be (x + 1).toNat 3 ++ numL ns := by simp [numL]
    show ((bn ((numL (x :: ns)).take 3) : Int) - 1) :: rnF ns.length ((numL (x :: ns)).drop 3) = _
    rw [hl, List.take_left' (be_length _ _), List.drop_left' (be_length _ _), ih, bn_be3 _ (by omega)]
    congr 1
    omega
/-- Number i of a text of numbers. -/
def nAt (l : List UInt8) (i : Nat) : Int := (bn ((l.drop (3 * i)).take 3) : Int) - 1
theorem rnF_seven (l : List UInt8) : rnF 7 l = [nAt l 0, nAt l 1, nAt l 2, nAt l 3, nAt l 4, nAt l 5, nAt l 6] := by
  simp [rnF, nAt, List.drop_drop]
theorem nAt_bound (l : List UInt8) (i : Nat) : -1 ≤ nAt l i ∧ nAt l i < 16777215 := by
  have h1 := bn_lt ((l.drop (3 * i)).take 3)
  have h2 : ((l.drop (3 * i)).take 3).length ≤ 3 := by rw [List.length_take]; omega
  have h3 : (256 : Nat) ^ ((l.drop (3 * i)).take 3).length ≤ 256 ^ 3 := Nat.pow_le_pow_right (by omega) h2
  have h4 : (256 : Nat) ^ 3 = 16777216 := by decide
  unfold nAt
  omega
/-- These bytes are those of that valid command. -/
def CmdIs (l : List UInt8) (k cl sq pn n ep : Int) (rw : Bool) (nm dt : ByteArray) : Prop := cmdOK k cl sq pn n ep rw nm dt = true ∧ encC k cl sq pn n ep rw nm dt = l
section
variable {l : List UInt8} {k cl sq pn n ep : Int} {rw : Bool} {nm dt : ByteArray}
theorem CmdIs.read (h : CmdIs l k cl sq pn n ep rw nm dt) : rdAll l = some [strOf (numL [k, cl, sq, pn, n + 1000, ep, bitI rw]), nm, dt] := by
  obtain ⟨h1, rfl⟩ := h
  have f := cmd_facts h1
  refine rdAll_fldL _ (fun s hs => ?_) (by simp)
  simp at hs
  rcases hs with rfl | rfl | rfl
  · rw [strOf_size, numL_length]
    simp
  · omega
  · omega
theorem CmdIs.nums (h : CmdIs l k cl sq pn n ep rw nm dt) : rnF 7 (numL [k, cl, sq, pn, n + 1000, ep, bitI rw]) = [k, cl, sq, pn, n + 1000, ep, bitI rw] := by
  have f := cmd_facts h.1
  have g := bitI_bound rw
  refine rnF_numL [k, cl, sq, pn, n + 1000, ep, bitI rw] (fun x hx => ?_)
  simp at hx
  omega
theorem CmdIs.len (h : CmdIs l k cl sq pn n ep rw nm dt) : l.length ≤ 300 := by
  have f := cmd_facts h.1
  rw [← h.2, encC, enc_size]
  simp
  omega
/-- The command is told by the fields. -/
theorem CmdIs.from (h : CmdIs l k cl sq pn n ep rw nm dt) {l0 : List UInt8} {f1 f2 : ByteArray} (hr : rdAll l = some [strOf l0, f1, f2]) :
    l0.length = 21 ∧ k = nAt l0 0 ∧ cl = nAt l0 1 ∧ sq = nAt l0 2 ∧ pn = nAt l0 3 ∧ n = nAt l0 4 - 1000 ∧ ep = nAt l0 5 ∧ rw = decide (nAt l0 6 = 1) ∧ nm = f1 ∧ dt = f2 ∧ (nAt l0 6 = 0 ∨ nAt l0 6 = 1) := by
  have h1 := h.read
  rw [hr] at h1
  simp only [Option.some.injEq, List.cons.injEq, and_true] at h1
  obtain ⟨e0, rfl, rfl⟩ := h1
  have e1 : l0 = numL [k, cl, sq, pn, n + 1000, ep, bitI rw] := by
    have := congrArg (fun s : ByteArray => s.data.toList) e0
    simpa [strOf_data'] using this
  subst e1
  have e2 := h.nums
  rw [rnF_seven] at e2
  simp only [List.cons.injEq, and_true] at e2
  obtain ⟨q0, q1, q2, q3, q4, q5, q6⟩ := e2
  refine ⟨by rw [numL_length]; rfl, q0.symm, q1.symm, q2.symm, q3.symm, by omega, q5.symm, ?_, rfl, rfl, ?_⟩
  · rw [q6]
    cases rw <;> rfl
  · rw [q6]
    cases rw
    · exact .inl rfl
    · exact .inr rfl
theorem CmdIs.uniq (h : CmdIs l k cl sq pn n ep rw nm dt) {k' cl' sq' pn' n' ep' : Int} {rw' : Bool} {nm' dt' : ByteArray} (h' : CmdIs l k' cl' sq' pn' n' ep' rw' nm' dt') :
    k' = k ∧ cl' = cl ∧ sq' = sq ∧ pn' = pn ∧ n' = n ∧ ep' = ep ∧ rw' = rw ∧ nm' = nm ∧ dt' = dt := by
  have h1 := h.from h.read
  have h2 := h'.from h.read
  obtain ⟨_, a0, a1, a2, a3, a4, a5, a6, a7, a8, _⟩ := h1
  obtain ⟨_, b0, b1, b2, b3, b4, b5, b6, b7, b8, _⟩ := h2
  exact ⟨by omega, by omega, by omega, by omega, by omega, by omega, by rw [a6, b6], by rw [b7], by rw [b8]⟩
end
/-- Fields of a right form are those of a command. -/
theorem cmd_enc {l l0 : List UInt8} {f1 f2 : ByteArray} (hr : rdAll l = some [strOf l0, f1, f2]) (hl : l0.length = 21) (h6 : nAt l0 6 = 0 ∨ nAt l0 6 = 1) :
    encC (nAt l0 0) (nAt l0 1) (nAt l0 2) (nAt l0 3) (nAt l0 4 - 1000) (nAt l0 5) (decide (nAt l0 6 = 1)) f1 f2 = l := by
  have hc := (rdAll_canon hr).1
  have hb : bitI (decide (nAt l0 6 = 1)) = nAt l0 6 := by
    rcases h6 with h | h
    · rw [h]; rfl
    · rw [h]; rfl
  have hn : numL [nAt l0 0, nAt l0 1, nAt l0 2, nAt l0 3, nAt l0 4 - 1000 + 1000, nAt l0 5, nAt l0 6] = l0 := by
    rw [show nAt l0 4 - 1000 + 1000 = nAt l0 4 by omega, ← rnF_seven]
    exact numL_rnF 7 l0 (by omega)
  rw [encC, hb, hn, hc]
end Go.Proofs.Ytmdjcoeijlnloaa
