/- The parser in plain words; impl's tests. No conditions but sizes. -/
import Derived.Test.YtlhhlmalihajcaaDoorSl
import Derived.Test.YtlhhlmalihajcaaDoorLong
import Derived.Test.YtlhhlmalihajcaaDoorTo
import Derived.Lib.Bytealg
import Derived.Test.YtlhhlmalihajcaaDoorQuiet
import Derived.Deep.DeepCutAuto
namespace Go.Proofs.YtlhhlmalihajcaaDoor
set_option linter.unusedVariables false
set_option linter.unusedSimpArgs false
section
open Go.RowKit
structure PV where
  state : Int
  args : List Int
  priv : Bool
  text : ByteArray
  utf : ByteArray
structure AV where
  kind : Int
  n : Int
  priv : Bool
  args : List Int
  text : ByteArray
abbrev e0 : ByteArray := ⟨#[]⟩
def pz : PV := ⟨0, [], false, e0, e0⟩
def pst (s : Int) : PV := ⟨s, [], false, e0, e0⟩
def ctl (b : Nat) : Bool := (decide (7 ≤ b) && decide (b ≤ 10)) || b == 13
def esc (b : Nat) : Bool := b == 55 || b == 56 || b == 68 || b == 69 || b == 77 || b == 99
def utfLen (b : Nat) : Nat := if b < 194 ∨ 244 < b then 0 else if b < 224 then 2 else if b < 240 then 3 else 4
def lowOf (l : List UInt8) : Nat := match l with
  | [a] => if a.toNat = 224 then 160 else if a.toNat = 240 then 144 else 128
  | _ => 128
def highOf (l : List UInt8) : Nat := match l with
  | [a] => if a.toNat = 237 then 159 else if a.toNat = 244 then 143 else 191
  | _ => 191
def mayF (l : List UInt8) (b : Nat) : Bool := decide (lowOf l ≤ b) && decide (b ≤ highOf l)
def pr (n : Int) : AV := ⟨1, n, false, [], e0⟩
def gstep (b : UInt8) : PV × List AV :=
  if b.toNat = 27 then (pst 1, [])
  else if ctl b.toNat = true then (pz, [⟨2, b.toNat, false, [], e0⟩])
  else if 32 ≤ b.toNat ∧ b.toNat ≤ 126 then (pz, [pr b.toNat])
  else if b.toNat < 128 then (pz, [])
  else if 0 < utfLen b.toNat then (⟨6, [], false, e0, ⟨#[b]⟩⟩, [])
  else (pz, [pr 65533])
/-- The number that a whole rune's bytes are. -/
def rnV (l : List UInt8) : Int := match l with
  | [a, b] => (a.toNat - 192) * 64 + (b.toNat - 128)
  | [a, b, c] => ((a.toNat - 224) * 64 + (b.toNat - 128)) * 64 + (c.toNat - 128)
  | [a, b, c, d] => (((a.toNat - 240) * 64 + (b.toNat - 128)) * 64 + (c.toNat - 128)) * 64 + (d.toNat - 128)
  | _ => 0
def ustep (p : PV) (b : UInt8) : PV × List AV :=
  if mayF p.utf.data.toList b.toNat = false then ((gstep b).1, pr 65533 :: (gstep b).2)
  else if p.utf.size + 1 < utfLen (p.utf.data.toList.headD 0).toNat then ({ p with utf := p.utf ++ ⟨#[b]⟩ }, [])
  else (pz, [pr (rnV (p.utf.data.toList ++ [b]))])
def estep (b : UInt8) : PV × List AV :=
  if b.toNat = 91 then (⟨2, [-1], false, e0, e0⟩, [])
  else if b.toNat = 93 then (pst 4, [])
  else if b.toNat = 27 then (pst 1, [])
  else if esc b.toNat = true then (pz, [⟨3, b.toNat, false, [], e0⟩])
  else (pz, [])
def lastA (l : List Int) : Int := l.getLastD 0
def cstep (p : PV) (b : UInt8) : PV × List AV :=
  if b.toNat = 27 then (pst 1, [])
  else if ctl b.toNat = true then (p, [⟨2, b.toNat, false, [], e0⟩])
  else if 48 ≤ b.toNat ∧ b.toNat ≤ 57 then ({ p with args := p.args.dropLast ++ [min 9999 (max 0 (lastA p.args) * 10 + ((b.toNat : Int) - 48))] }, [])
  else if b.toNat = 59 ∧ p.args.length < 8 then ({ p with args := p.args ++ [-1] }, [])
  else if b.toNat = 63 ∧ p.args = [-1] ∧ p.priv = false then ({ p with priv := true }, [])
  else if 64 ≤ b.toNat ∧ b.toNat ≤ 126 then (pz, [⟨4, b.toNat, p.priv, p.args, e0⟩])
  else (pst 3, [])
def sstep (p : PV) (b : UInt8) : PV × List AV :=
  if b.toNat = 27 then (pst 1, []) else if 64 ≤ b.toNat ∧ b.toNat ≤ 126 then (pz, []) else (p, [])
def ostep (p : PV) (b : UInt8) : PV × List AV :=
  if b.toNat = 7 then (pz, [⟨5, 0, false, [], p.text⟩])
  else if b.toNat = 27 then ({ p with state := 5 }, [])
  else if (32 ≤ b.toNat ∧ b.toNat ≤ 126) ∧ p.text.size < 40 then ({ p with text := p.text ++ ⟨#[b]⟩ }, [])
  else (p, [])
def qstep (p : PV) (b : UInt8) : PV × List AV :=
  if b.toNat = 92 then (pz, [⟨5, 0, false, [], p.text⟩]) else estep b
def pstep (p : PV) (b : UInt8) : PV × List AV :=
  if p.state = 0 then gstep b
  else if p.state = 1 then estep b
  else if p.state = 2 then cstep p b
  else if p.state = 3 then sstep p b
  else if p.state = 4 then ostep p b
  else if p.state = 5 then qstep p b
  else ustep p b
def prun (p : PV) : List UInt8 → PV × List AV
  | [] => (p, [])
  | b :: l => ((prun (pstep p b).1 l).1, (pstep p b).2 ++ (prun (pstep p b).1 l).2)
theorem prun_append (p : PV) (l m : List UInt8) : prun p (l ++ m) = ((prun (prun p l).1 m).1, (prun p l).2 ++ (prun (prun p l).1 m).2) := by
  induction l generalizing p with
  | nil => simp [prun]
  | cons b l ih => simp [prun, ih]
/-- Titles. -/
def titB (t : ByteArray) : Bool := decide (t.size ≤ 40) && t.data.toList.all (fun b => decide (32 ≤ b.toNat) && decide (b.toNat ≤ 126))
/-- The beginning of a rune. -/
def begB (l : List UInt8) : Bool := decide (0 < l.length) && decide (l.length < utfLen (l.headD 0).toNat) && (List.range l.length).all (fun i => i == 0 || mayF (l.take i) (l.getD i 0).toNat)
def argsB (l : List Int) : Bool := decide (1 ≤ l.length) && decide (l.length ≤ 8) && l.all (fun n => decide (-1 ≤ n) && decide (n ≤ 9999))
def cE (p : PV) : Bool := (p.args.length == 0) && !p.priv
def tE (p : PV) : Bool := p.text.size == 0
def uE (p : PV) : Bool := p.utf.size == 0
/-- The parser is valid. -/
def pvB (p : PV) : Bool :=
  if p.state = 0 ∨ p.state = 1 ∨ p.state = 3 then cE p && tE p && uE p
  else if p.state = 2 then argsB p.args && tE p && uE p
  else if p.state = 4 ∨ p.state = 5 then cE p && titB p.text && uE p
  else if p.state = 6 then cE p && tE p && begB p.utf.data.toList
  else false
structure PvOK (p : PV) : Prop where
  st : 0 ≤ p.state ∧ p.state ≤ 6
  csi : p.state = 2 → argsB p.args = true
  nocsi : p.state ≠ 2 → p.args = [] ∧ p.priv = false
  osc : p.state = 4 ∨ p.state = 5 → titB p.text = true
  noosc : p.state ≠ 4 → p.state ≠ 5 → p.text = e0
  ut : p.state = 6 → begB p.utf.data.toList = true
  nout : p.state ≠ 6 → p.utf = e0
theorem size_e0 {s : ByteArray} : s.size = 0 ↔ s = e0 := by
  constructor
  · intro h
    cases s with
    | mk d =>
      have : d.size = 0 := h
      have : d = #[] := Array.eq_empty_of_size_eq_zero this
      subst this; rfl
  · rintro rfl; rfl
theorem cE_iff {p : PV} : cE p = true ↔ p.args = [] ∧ p.priv = false := by simp [cE]
theorem tE_iff {p : PV} : tE p = true ↔ p.text = e0 := by unfold tE; rw [beq_iff_eq]; exact size_e0
theorem uE_iff {p : PV} : uE p = true ↔ p.utf = e0 := by unfold uE; rw [beq_iff_eq]; exact size_e0
theorem pvB_iff {p : PV} : pvB p = true ↔ PvOK p := by
  unfold pvB
  constructor
  · intro h
    repeat' split at h
    · rename_i h1
      simp only [Bool.and_eq_true, cE_iff, tE_iff, uE_iff] at h
      exact ⟨by omega, fun h2 => by omega, fun _ => h.1.1, fun h2 => by omega, fun _ _ => h.1.2, fun h2 => by omega, fun _ => h.2⟩
    · rename_i h1 h2
      simp only [Bool.and_eq_true, tE_iff, uE_iff] at h
      exact ⟨by omega, fun _ => h.1.1, fun h3 => absurd h2 h3, fun h3 => by omega, fun _ _ => h.1.2, fun h3 => by omega, fun _ => h.2⟩
    · rename_i h1 h2 h3
      simp only [Bool.and_eq_true, cE_iff, uE_iff] at h
      exact ⟨by omega, fun h4 => by omega, fun _ => h.1.1, fun _ => h.1.2, fun h4 h5 => by omega, fun h4 => by omega, fun _ => h.2⟩
    · rename_i h1 h2 h3 h4
      simp only [Bool.and_eq_true, cE_iff, tE_iff] at h
      exact ⟨by omega, fun h5 => by omega, fun _ => h.1.1, fun h5 => by omega, fun _ _ => h.1.2, fun _ => h.2, fun h5 => by omega⟩
    · cases h
  · intro h
    obtain ⟨a, b, c, d, e, f, g⟩ := h
    repeat' split
    · rename_i h1
      simp only [Bool.and_eq_true, cE_iff, tE_iff, uE_iff]
      exact ⟨⟨c (by omega), e (by omega) (by omega)⟩, g (by omega)⟩
    · rename_i h1 h2
      simp only [Bool.and_eq_true, tE_iff, uE_iff]
      exact ⟨⟨b h2, e (by omega) (by omega)⟩, g (by omega)⟩
    · rename_i h1 h2 h3
      simp only [Bool.and_eq_true, cE_iff, uE_iff]
      exact ⟨⟨c h2, d h3⟩, g (by omega)⟩
    · rename_i h1 h2 h3 h4
      simp only [Bool.and_eq_true, cE_iff, tE_iff]
      exact ⟨⟨c h2, e (by omega) (by omega)⟩, f h4⟩
    · omega
theorem titB_e0 : titB e0 = true := by decide
theorem PvOK.z : PvOK pz := by refine ⟨by simp [pz], by simp [pz], by simp [pz], by simp [pz], by simp [pz], by simp [pz], by simp [pz]⟩
theorem PvOK.pst (s : Int) (h : s = 0 ∨ s = 1 ∨ s = 3 ∨ s = 4) : PvOK (pst s) := by
  rcases h with rfl | rfl | rfl | rfl <;> exact ⟨by decide, by simp [Go.Proofs.YtlhhlmalihajcaaDoor.pst], by simp [Go.Proofs.YtlhhlmalihajcaaDoor.pst], fun _ => titB_e0, fun _ _ => rfl, by simp [Go.Proofs.YtlhhlmalihajcaaDoor.pst], fun _ => rfl⟩
theorem utfLen_two {b : Nat} (h : 0 < utfLen b) : 2 ≤ utfLen b := by
  unfold utfLen at *
  split at h
  · omega
  · rename_i h1
    rw [if_neg h1]
    split <;> (try split) <;> omega
theorem gstep_ok (b : UInt8) : PvOK (gstep b).1 := by
  unfold gstep
  repeat' split
  · exact PvOK.pst 1 (by simp)
  · exact PvOK.z
  · exact PvOK.z
  · exact PvOK.z
  · rename_i h
    have h2 := utfLen_two h
    refine ⟨by simp, by simp, by simp, by simp, by simp, fun _ => ?_, by simp⟩
    simp [begB]
    omega
  · exact PvOK.z
theorem estep_ok (b : UInt8) : PvOK (estep b).1 := by
  unfold estep
  repeat' split
  · exact ⟨by decide, fun _ => by decide, by simp, by simp, fun _ _ => rfl, by simp, fun _ => rfl⟩
  · exact PvOK.pst 4 (by simp)
  · exact PvOK.pst 1 (by simp)
  · exact PvOK.z
  · exact PvOK.z
theorem begB_snoc {l : List UInt8} {b : UInt8} (h : begB l = true) (hm : mayF l b.toNat = true) (hl : l.length + 1 < utfLen (l.headD 0).toNat) : begB (l ++ [b]) = true := by
  simp only [begB, Bool.and_eq_true, decide_eq_true_eq, List.all_eq_true, List.mem_range, Bool.or_eq_true, beq_iff_eq] at *
  obtain ⟨⟨h1, h2⟩, h3⟩ := h
  have hh : (l ++ [b]).headD 0 = l.headD 0 := by cases l with
    | nil => simp at h1
    | cons a l => rfl
  refine ⟨⟨by simp, by rw [hh]; simpa using hl⟩, fun i hi => ?_⟩
  have hi' : i < l.length + 1 := by simpa using hi
  by_cases hil : i < l.length
  · rcases h3 i hil with h4 | h4
    · exact .inl h4
    · refine .inr ?_
      rw [List.take_append_of_le_length (Nat.le_of_lt hil)]
      simp only [List.getD_eq_getElem?_getD, List.getElem?_append_left hil] at h4 ⊢
      exact h4
  · have : i = l.length := by omega
    subst this
    refine .inr ?_
    rw [List.take_append_of_le_length (Nat.le_refl _), List.take_length]
    simpa [List.getD_eq_getElem?_getD] using hm
theorem pstep_ok {p : PV} (h : PvOK p) (b : UInt8) : PvOK (pstep p b).1 := by
  obtain ⟨a, hb, c, d, e, f, g⟩ := h
  unfold pstep
  repeat' split
  · exact gstep_ok b
  · exact estep_ok b
  · rename_i h2
    have hA := hb h2
    have hT := e (by omega) (by omega)
    have hU := g (by omega)
    have hA' := hA
    simp only [argsB, Bool.and_eq_true, decide_eq_true_eq, List.all_eq_true] at hA'
    obtain ⟨⟨l1, l8⟩, hall⟩ := hA'
    unfold cstep
    repeat' split
    · exact PvOK.pst 1 (by simp)
    · exact ⟨a, hb, c, d, e, f, g⟩
    · rename_i h48
      refine ⟨a, fun _ => ?_, fun h9 => absurd h2 h9, fun h9 => by simp at h9; omega, fun _ _ => hT, fun h9 => by simp at h9; omega, fun _ => hU⟩
      have hne : p.args ≠ [] := by intro h; rw [h] at l1; simp at l1
      simp only [argsB, Bool.and_eq_true, decide_eq_true_eq, List.all_eq_true]
      refine ⟨⟨by simp, by simp; omega⟩, fun x hx => ?_⟩
      rcases List.mem_append.1 hx with hx | hx
      · exact hall x (List.dropLast_subset _ hx)
      · simp at hx
        subst hx
        omega
    · rename_i h59
      refine ⟨a, fun _ => ?_, fun h9 => absurd h2 h9, fun h9 => by simp at h9; omega, fun _ _ => hT, fun h9 => by simp at h9; omega, fun _ => hU⟩
      simp only [argsB, Bool.and_eq_true, decide_eq_true_eq, List.all_eq_true]
      refine ⟨⟨by simp, by simp; omega⟩, fun x hx => ?_⟩
      rcases List.mem_append.1 hx with hx | hx
      · exact hall x hx
      · simp at hx
        subst hx
        omega
    · exact ⟨a, hb, fun h9 => absurd h2 h9, d, e, f, g⟩
    · exact PvOK.z
    · exact PvOK.pst 3 (by simp)
  · unfold sstep
    repeat' split
    · exact PvOK.pst 1 (by simp)
    · exact PvOK.z
    · exact ⟨a, hb, c, d, e, f, g⟩
  · rename_i h4
    have hT := d (.inl h4)
    unfold ostep
    repeat' split
    · exact PvOK.z
    · exact ⟨by simp, by simp, fun _ => c (by omega), fun _ => hT, by simp, by simp, fun _ => g (by omega)⟩
    · rename_i hb2
      refine ⟨a, hb, c, fun _ => ?_, fun h9 _ => absurd h4 h9, f, g⟩
      simp only [titB, Bool.and_eq_true, decide_eq_true_eq, List.all_eq_true] at *
      refine ⟨by rw [ByteArray.size_append]; show _ + 1 ≤ _; omega, fun x hx => ?_⟩
      simp only [ByteArray.data_append, Array.toList_append, List.mem_append] at hx
      rcases hx with hx | hx
      · exact hT.2 x hx
      · simp at hx
        subst hx
        exact hb2.1
    · exact ⟨a, hb, c, d, e, f, g⟩
  · unfold qstep
    repeat' split
    · exact PvOK.z
    · exact estep_ok b
  · rename_i h0 h1 h2 h3 h4 h5
    have h6 : p.state = 6 := by omega
    unfold ustep
    repeat' split
    · exact gstep_ok b
    · rename_i hm hl
      refine ⟨a, hb, c, d, e, fun _ => ?_, fun h9 => absurd h6 h9⟩
      have hs : p.utf.data.toList.length = p.utf.size := rfl
      have := begB_snoc (f h6) (by simpa using hm) (by rw [hs]; exact hl)
      simpa using this
    · exact PvOK.z
theorem prun_ok (l : List UInt8) {p : PV} (h : PvOK p) : PvOK (prun p l).1 := by
  induction l generalizing p with
  | nil => exact h
  | cons b l ih => exact ih (pstep_ok h b)
structure PvSz (p : PV) (B : Nat) : Prop where
  args : p.args.length ≤ B
  text : p.text.size ≤ B
  utf : p.utf.size ≤ B
end
section
open Go.RowKit
theorem ret_i {a b : Int} (h : a = b) : Ending.returned (.int .i64 a) = .returned (.int .i64 b) := by rw [h]
theorem ret_b {a b : Bool} (h : a = b) : Ending.returned (.bool a) = .returned (.bool b) := by rw [h]
def ctlI (n : Int) : Bool := inB n 7 10 || (n == 13)
def escI (n : Int) : Bool := n == 55 || n == 56 || n == 68 || n == 69 || n == 77 || n == 99
set_option maxHeartbeats 1000000 in
theorem isControl_c (n : Int) (w : World) : Calls Tryd.prog 75 #[.int .i64 n] w fun e w' => e = .returned (.bool (ctlI n)) ∧ w = w' := by
  obtain ⟨v, h⟩ : ∃ v, inB n 7 10 = v := ⟨_, rfl⟩
  have H := Lib.hid h
  clear h
  cases v
  all_goals
    go_enter Tryd.func75, Tryd.ntmps75
    go_wp2_with (go_at_call 43; refine (within_c _ _ _ _).mono ?_; rw [H.out]; rintro e w' ⟨rfl, rfl⟩)
    all_goals
      go_ret
      exact ⟨by unfold ctlI; rw [H.out]; simp, rfl⟩
set_option maxRecDepth 100000 in
set_option maxHeartbeats 1000000 in
theorem utfLength_c (b : Nat) (w : World) : Calls Tryd.prog 84 #[.int .u8 b] w fun e w' => e = .returned (.int .i64 (utfLen b : Nat)) ∧ w = w' := by
  go_enter Tryd.func84, Tryd.ntmps84
  go_wp2_with fail
  all_goals
    go_ret
    exact ⟨ret_i (by unfold utfLen; (repeat' split) <;> omega), rfl⟩
theorem lowOf_one (x : UInt8) : lowOf [x] = if x.toNat = 224 then 160 else if x.toNat = 240 then 144 else 128 := rfl
theorem highOf_one (x : UInt8) : highOf [x] = if x.toNat = 237 then 159 else if x.toNat = 244 then 143 else 191 := rfl
theorem list_one {s : ByteArray} (h : s.size = 1) : s.data.toList = [s[0]'(by omega)] := by
  cases s with
  | mk d =>
    have h1 : d.toList.length = 1 := h
    match hd : d.toList, h1 with
    | [a], _ =>
      have : d = #[a] := by rw [← Array.toList_inj]; simpa using hd
      subst this
      rfl
theorem low_not {l : List UInt8} (h : l.length ≠ 1) : lowOf l = 128 ∧ highOf l = 191 := by
  match l, h with
  | [], _ => exact ⟨rfl, rfl⟩
  | [_], h => simp at h
  | _ :: _ :: _, _ => exact ⟨rfl, rfl⟩
set_option maxRecDepth 100000 in
set_option maxHeartbeats 2000000 in
theorem mayFollow_c (s : ByteArray) (b : Nat) (w : World) (hz : s.size ≤ 1048576) : Calls Tryd.prog 85 #[.string s, .int .u8 b] w fun e w' => e = .returned (.bool (mayF s.data.toList b)) ∧ w = w' := by
  by_cases h1 : s.size = 1
  · have h0 : 0 < s.size := by omega
    obtain ⟨x, hl, hx⟩ : ∃ x, s.data.toList = [x] ∧ s[0]'h0 = x := ⟨_, list_one h1, rfl⟩
    have HX := Lib.hid hl
    clear hl
    have h2 : ((s.size : Int) == 1) = true := by simp [h1]
    have HH := Lib.hid h1
    clear h1
    cases q1 : ((x.toNat : Int) == 224) <;> cases q2 : ((x.toNat : Int) == 237) <;> cases q3 : ((x.toNat : Int) == 240) <;> cases q4 : ((x.toNat : Int) == 244)
    all_goals
      have HQ : Hid ((x.toNat = 224 ↔ ((x.toNat : Int) == 224) = true) ∧ (x.toNat = 237 ↔ ((x.toNat : Int) == 237) = true) ∧ (x.toNat = 240 ↔ ((x.toNat : Int) == 240) = true) ∧ (x.toNat = 244 ↔ ((x.toNat : Int) == 244) = true)) := Lib.hid (by simp only [beq_iff_eq]; omega)
      go_enter Tryd.func85, Tryd.ntmps85
      go_wp2_with fail
      all_goals
        go_ret
        refine ⟨?_, rfl⟩
        rw [HX.out]
        unfold mayF
        rw [lowOf_one, highOf_one]
        refine ret_b (Bool.eq_iff_iff.2 ?_)
        have hq := HQ.out
        rw [q1, q2, q3, q4] at hq
        simp only [Bool.and_eq_true, decide_eq_true_eq, Bool.false_eq_true, iff_false, iff_true] at hq ⊢
        (repeat' split) <;> (first | omega | (simp; omega) | (simp only [false_iff]; omega))
  · have HX := Lib.hid (low_not (l := s.data.toList) h1)
    have h2 : ((s.size : Int) == 1) = false := beq_eq_false_iff_ne.2 (by omega)
    have HH := Lib.hid h1
    clear h1
    go_enter Tryd.func85, Tryd.ntmps85
    go_wp2_with fail
    all_goals
      go_ret
      refine ⟨?_, rfl⟩
      unfold mayF
      rw [HX.out.1, HX.out.2]
      refine ret_b (Bool.eq_iff_iff.2 ?_)
      simp only [Bool.and_eq_true, decide_eq_true_eq, Bool.false_eq_true]
      first | omega | (simp; omega)
end
section
open Go.RowKit
set_option maxRecDepth 100000 in
set_option maxHeartbeats 1000000 in
theorem idxByte_c (s : ByteArray) (c : Nat) (w : World) : Calls Tryd.prog 99 #[.string s, .int .u8 c] w fun e w' => e = .returned (.int .i64 (Lib.indexByte s.data.toList c.toUInt8)) ∧ w = w' := by
  have e1 : ∀ w, (callFunc 104 #[.string s, .int .u8 c]).run Tryd.prog w = .ok (.value (.int .i64 (Lib.indexByte s.data.toList c.toUInt8))) w := fun w => by
    rw [run_callFunc_extern Tryd.func104 (by kernel_rfl) (by kernel_rfl) (by kernel_rfl) (e := Extern.BytealgIndexByte.indexByte) (by kernel_rfl), Lib.run_indexByteString]
    rfl
  go_enter Tryd.func99, Tryd.ntmps99
  go_wp2_with fail
  go_ret
  exact ⟨rfl, rfl⟩
set_option maxRecDepth 100000 in
set_option maxHeartbeats 1000000 in
theorem strIdxByte_c (s : ByteArray) (c : Nat) (w : World) : Calls Tryd.prog 87 #[.string s, .int .u8 c] w fun e w' => e = .returned (.int .i64 (Lib.indexByte s.data.toList c.toUInt8)) ∧ w = w' := by
  go_enter Tryd.func87, Tryd.ntmps87
  go_wp2_with fail
  refine (idxByte_c _ _ _).mono ?_
  rintro e w' ⟨rfl, rfl⟩
  go_wp2_with fail
  go_ret
  exact ⟨rfl, rfl⟩
set_option maxRecDepth 100000 in
theorem esc_idx (n : Nat) (h : n < 128) : decide (0 ≤ Lib.indexByte [55, 56, 68, 69, 77, 99] n.toUInt8) = escI n := by
  have : ∀ x : Fin 128, decide (0 ≤ Lib.indexByte [55, 56, 68, 69, 77, 99] x.val.toUInt8) = escI x.val := by decide
  exact this ⟨n, h⟩
set_option maxRecDepth 100000 in
set_option maxHeartbeats 1000000 in
theorem isEscape_c (n : Int) (w : World) : Calls Tryd.prog 69 #[.int .i64 n] w fun e w' => e = .returned (.bool (escI n)) ∧ w = w' := by
  obtain ⟨v, h⟩ : ∃ v, inB n 1 127 = v := ⟨_, rfl⟩
  have H := Lib.hid h
  clear h
  cases v
  · go_enter Tryd.func69, Tryd.ntmps69
    go_wp2_with (go_at_call 43; refine (within_c _ _ _ _).mono ?_; rw [H.out]; rintro e w' ⟨rfl, rfl⟩)
    go_ret
    refine ⟨ret_b ?_, rfl⟩
    have h := H.out
    simp only [inB, Bool.and_eq_false_iff, decide_eq_false_iff_not] at h
    have h2 : escI n = false := by
      simp only [escI, Bool.or_eq_false_iff, beq_eq_false_iff_ne]
      omega
    rw [h2]
  · obtain ⟨m, rfl⟩ : ∃ m : Nat, n = m := by
      have h := H.out
      simp only [inB, Bool.and_eq_true, decide_eq_true_eq] at h
      exact ⟨n.toNat, by omega⟩
    have hm : m < 128 := by
      have h := H.out
      simp only [inB, Bool.and_eq_true, decide_eq_true_eq] at h
      omega
    have hw : (m : Int) < 128 := by omega
    obtain ⟨k, hk⟩ : ∃ k, Lib.indexByte [55, 56, 68, 69, 77, 99] m.toUInt8 = k := ⟨_, rfl⟩
    have HK := Lib.hid hk
    have HE : Hid (decide (0 ≤ k) = escI m) := Lib.hid (by rw [← hk]; exact esc_idx m hm)
    clear hk
    go_enter Tryd.func69, Tryd.ntmps69
    go_wp2_with (first
      | (go_at_call 43; refine (within_c _ _ _ _).mono ?_; rw [H.out]; rintro e w' ⟨rfl, rfl⟩)
      | (go_at_call 87; refine (strIdxByte_c _ m _).mono ?_; rw [show Lib.indexByte _ _ = k from HK.out]; rintro e w' ⟨rfl, rfl⟩))
    go_ret
    exact ⟨ret_b HE.out, rfl⟩
end
section
open Go.RowKit
def argP (n : Int) : Bool := !inB n (-1) 9999
def sz_impl_areArgs_1 (_ : Int) : Prop := True
set_option maxHeartbeats 1000000 in
theorem f_impl_areArgs_1 (n : Int) (w : World) (_ : sz_impl_areArgs_1 n) : Calls Tryd.prog 83 #[.int .i64 n] w fun e w' => e = .returned (.bool (argP n)) ∧ w = w' := by
  go_enter Tryd.func83, Tryd.ntmps83
  go_wp2_with (go_at_call 43; refine (within_c _ _ _ _).mono ?_; rintro e w' ⟨rfl, rfl⟩)
  go_ret
  exact ⟨rfl, rfl⟩
set_option maxRecDepth 100000 in
set_option maxHeartbeats 1000000 in
theorem index_impl_areArgs_1 (a : Option Addr) (ca : Nat) (xs : List Int) (w : World) (ha : Sl intE 1 w a xs) (la : xs.length ≤ 1099511627776) (hq : ∀ x ∈ xs, sz_impl_areArgs_1 x) :
    Calls Tryd.prog 82 #[.slice a xs.length ca, .func (.func 83) #[] #[]] w fun e w' => (∃ i : Int, e = .returned (.int .i64 i) ∧ Hid (decide (0 ≤ i) = xs.any argP)) ∧ w = w' := by
  have HQ := Lib.hid hq
  clear hq
  go_enter Tryd.func82, Tryd.ntmps82
  go_wp2_with fail
  go_loop [5, 8] (fun _ i => ∃ k : Nat, k ≤ xs.length ∧ i = .int .i64 k ∧ ∀ j (hj : j < xs.length), j < k → argP xs[j] = false) (fun _ i => xs.length - (intOf i).toNat)
  case atStart => exact ⟨0, Nat.zero_le _, rfl, fun j _ h => absurd h (Nat.not_lt_zero _)⟩
  case round =>
    obtain ⟨k, hk, rfl, hp⟩ := hrel
    have HP := Lib.hid hp
    clear hp
    by_cases hlt : k < xs.length
    · obtain ⟨b1, o1, rfl, hb1, hc1⟩ := ha.at hlt
      have c1 := hc1 k hlt 0 (by omega)
      simp only [intE, Nat.mul_one, Nat.add_zero, List.getElem?_cons_zero] at c1
      have hx := HQ.out xs[k] (List.getElem_mem _)
      clear hc1
      cases hpk : argP xs[k]
      · have HPK := Lib.hid hpk
        clear hpk
        go_wp2_with (go_at_call 83; refine (f_impl_areArgs_1 xs[k] _ hx).mono ?_; rw [HPK.out]; rintro e w' ⟨rfl, rfl⟩)
        go_round
        case rel => exact ⟨k + 1, by omega, by go_num, fun j hj h => by
          rcases Nat.lt_succ_iff_lt_or_eq.1 h with h | rfl
          · exact HP.out j hj h
          · exact HPK.out⟩
        case measure => simp [intOf]; omega
      · have HPK := Lib.hid hpk
        clear hpk
        go_wp2_with (go_at_call 83; refine (f_impl_areArgs_1 xs[k] _ hx).mono ?_; rw [HPK.out]; rintro e w' ⟨rfl, rfl⟩)
        go_ret
        exact ⟨⟨_, rfl, by rw [any_at hlt HPK.out]; show decide _ = _; simp⟩, rfl⟩
    · obtain rfl : k = xs.length := by omega
      go_wp2_with fail
      go_ret
      exact ⟨⟨_, rfl, by rw [take_none HP.out (Nat.le_refl _)]; rfl⟩, rfl⟩
set_option maxHeartbeats 1000000 in
theorem contains_impl_areArgs_1 (a : Option Addr) (ca : Nat) (xs : List Int) (w : World) (ha : Sl intE 1 w a xs) (la : xs.length ≤ 1099511627776) (hq : ∀ x ∈ xs, sz_impl_areArgs_1 x) :
    Calls Tryd.prog 61 #[.slice a xs.length ca, .func (.func 83) #[] #[]] w fun e w' => e = .returned (.bool (xs.any argP)) ∧ w = w' := by
  have HQ := Lib.hid hq
  clear hq
  go_enter Tryd.func61, Tryd.ntmps61
  go_wp2_with fail
  refine (index_impl_areArgs_1 a ca xs _ ha la HQ.out).mono ?_
  rintro e w' ⟨⟨i, rfl, hi⟩, rfl⟩
  go_wp2_with fail
  go_ret
  exact ⟨by rw [← hi.out]; rfl, rfl⟩
theorem argsB_eq (xs : List Int) : argsB xs = (inB xs.length 1 8 && !xs.any argP) := by
  unfold argsB inB
  rw [List.not_any_eq_all_not]
  have e1 : (decide (1 ≤ xs.length) && decide (xs.length ≤ 8)) = (decide ((1 : Int) ≤ (xs.length : Int)) && decide ((xs.length : Int) ≤ 8)) := by
    rw [Bool.eq_iff_iff]
    simp only [Bool.and_eq_true, decide_eq_true_eq]
    omega
  have e2 : (fun n : Int => decide (-1 ≤ n) && decide (n ≤ 9999)) = fun n => !argP n := by
    funext n
    simp [argP, inB]
  rw [e1, e2]
set_option maxRecDepth 100000 in
set_option maxHeartbeats 1000000 in
theorem areArgs_c (a : Option Addr) (ca : Nat) (xs : List Int) (w : World) (ha : Sl intE 1 w a xs) (la : xs.length ≤ 1099511627776) :
    Calls Tryd.prog 63 #[.slice a xs.length ca] w fun e w' => e = .returned (.bool (argsB xs)) ∧ w = w' := by
  obtain ⟨v, h⟩ : ∃ v, inB xs.length 1 8 = v := ⟨_, rfl⟩
  have H := Lib.hid h
  clear h
  cases v
  · go_enter Tryd.func63, Tryd.ntmps63
    go_wp2_with (go_at_call 43; refine (within_c _ _ _ _).mono ?_; rw [H.out]; rintro e w' ⟨rfl, rfl⟩)
    go_ret
    exact ⟨ret_b (by rw [argsB_eq, H.out]; rfl), rfl⟩
  · obtain ⟨u, hu⟩ : ∃ u, xs.any argP = u := ⟨_, rfl⟩
    have HU := Lib.hid hu
    have HA := Lib.hid ha
    clear hu ha
    go_enter Tryd.func63, Tryd.ntmps63
    go_wp2_with (first
      | (go_at_call 43; refine (within_c _ _ _ _).mono ?_; rw [H.out]; rintro e w' ⟨rfl, rfl⟩)
      | (go_at_call 61; refine (contains_impl_areArgs_1 a ca xs _ HA.out la (fun _ _ => trivial)).mono ?_; rw [HU.out]; rintro e w' ⟨rfl, rfl⟩))
    go_ret
    exact ⟨ret_b (by rw [argsB_eq, H.out, HU.out]; cases u <;> rfl), rfl⟩
def inT (b : UInt8) : Bool := decide (32 ≤ b.toNat) && decide (b.toNat ≤ 126)
theorem titB_eq (s : ByteArray) : titB s = (decide (s.size ≤ 40) && s.data.toList.all inT) := rfl
theorem getL {s : ByteArray} {k : Nat} (h : k < s.size) : ∃ h2 : k < s.data.toList.length, s.data.toList[k]'h2 = s[k]'h := ⟨h, rfl⟩
set_option maxRecDepth 100000 in
set_option maxHeartbeats 1000000 in
theorem isTitle_c (s : ByteArray) (w : World) (hz : s.size ≤ 1099511627776) : Calls Tryd.prog 64 #[.string s] w fun e w' => e = .returned (.bool (titB s)) ∧ w = w' := by
  go_enter Tryd.func64, Tryd.ntmps64
  go_wp2_with fail
  go_loop [6] (fun i => ∃ k : Nat, k ≤ s.size ∧ i = .int .i64 k ∧ Hid (∀ j (hj : j < s.size), j < k → inT s[j] = true)) (fun i => s.size - (intOf i).toNat)
  case atStart => exact ⟨0, Nat.zero_le _, rfl, Lib.hid (fun j _ h => absurd h (Nat.not_lt_zero _))⟩
  case round =>
    obtain ⟨k, hk, rfl, HP⟩ := hrel
    by_cases hlt : k < s.size
    · have HN : Hid (inT s[k] = false → titB s = false) := Lib.hid (fun h => by
        rw [titB_eq]
        have : s.data.toList.all inT = false := by
          rw [List.all_eq_false]
          obtain ⟨h2, h3⟩ := getL hlt
          exact ⟨_, List.getElem_mem h2, by rw [h3, h]; simp⟩
        rw [this, Bool.and_false])
      obtain ⟨x, hx⟩ : ∃ x, s[k] = x := ⟨_, rfl⟩
      have HX := Lib.hid hx
      rw [hx] at HN
      go_wp2_with fail
      all_goals first
        | (go_ret; exact ⟨ret_b (HN.out (by simp [inT]; omega)).symm, rfl⟩)
        | (go_round
           case rel =>
             refine ⟨k + 1, by omega, by go_num, Lib.hid (fun j hj h => ?_)⟩
             rcases Nat.lt_succ_iff_lt_or_eq.1 h with h | rfl
             · exact HP.out j hj h
             · rw [HX.out]; simp [inT]; omega
           case measure => simp [intOf]; omega)
    · have HA : Hid (titB s = decide (s.size ≤ 40)) := Lib.hid (by
        rw [titB_eq]
        have : s.data.toList.all inT = true := by
          rw [List.all_eq_true]
          intro x hx
          obtain ⟨j, hj, rfl⟩ := List.getElem_of_mem hx
          exact HP.out j hj (by have : s.data.toList.length = s.size := rfl; omega)
        rw [this, Bool.and_true])
      go_wp2_with fail
      all_goals
        go_ret
        exact ⟨ret_b (by rw [HA.out, Bool.eq_iff_iff]; simp only [decide_eq_true_eq]; omega), rfl⟩
end
section
open Go.RowKit
theorem extract_take (s : ByteArray) (k : Nat) (hk : k ≤ s.size) : (s.extract 0 k).data.toList = s.data.toList.take k := by
  simp [ByteArray.data_extract]
theorem extract_size (s : ByteArray) (k : Nat) (hk : k ≤ s.size) : (s.extract 0 k).size = k := by
  rw [ByteArray.size_extract]; omega
/-- The bytes behind the first may stand there, up to k. -/
def fitK (l : List UInt8) (k : Nat) : Prop := ∀ j, 1 ≤ j → j < k → mayF (l.take j) (l.getD j 0).toNat = true
theorem begB_iff {l : List UInt8} : begB l = true ↔ 0 < l.length ∧ l.length < utfLen (l.headD 0).toNat ∧ fitK l l.length := by
  simp only [begB, Bool.and_eq_true, decide_eq_true_eq, List.all_eq_true, List.mem_range, Bool.or_eq_true, beq_iff_eq, fitK]
  constructor
  · rintro ⟨⟨h1, h2⟩, h3⟩
    exact ⟨h1, h2, fun j hj hk => (h3 j hk).resolve_left (by omega)⟩
  · rintro ⟨h1, h2, h3⟩
    refine ⟨⟨h1, h2⟩, fun j hj => ?_⟩
    rcases Nat.eq_zero_or_pos j with h | h
    · exact .inl h
    · exact .inr (h3 j h hj)
theorem headL {s : ByteArray} (h : 0 < s.size) : s.data.toList.headD 0 = s[0] := by
  cases s with
  | mk d =>
    have hl : d.toList.length = d.size := rfl
    match hd : d.toList, hl with
    | [], hl => have : d.size = 0 := hl.symm; have h' : 0 < d.size := h; omega
    | a :: l, _ =>
      have : d = (a :: l).toArray := by rw [← hd]
      subst this
      rfl
theorem getDL {s : ByteArray} {k : Nat} (h : k < s.size) : s.data.toList.getD k 0 = s[k] := by
  obtain ⟨h2, h3⟩ := getL h
  rw [← h3, List.getD_eq_getElem?_getD, List.getElem?_eq_getElem h2]
  rfl
set_option maxRecDepth 100000 in
set_option maxHeartbeats 2000000 in
theorem isBeginning_c (s : ByteArray) (w : World) (hz : s.size ≤ 1048576) : Calls Tryd.prog 65 #[.string s] w fun e w' => e = .returned (.bool (begB s.data.toList)) ∧ Below w.heap.size w w' := by
  have hls : s.data.toList.length = s.size := rfl
  have HLS := Lib.hid hls
  clear hls
  by_cases h0 : s.size = 0
  · obtain rfl := size_e0.1 h0
    clear h0
    go_enter Tryd.func65, Tryd.ntmps65
    go_wp2_with fail
    go_ret
    exact ⟨rfl, Below.refl _ _⟩
  · have hp : 0 < s.size := by omega
    have hne : s.toList.isEmpty = false := by
      rw [Lib.toList_data]
      cases h : s.data.toList with
      | nil => have := HLS.out; rw [h] at this; simp at this; omega
      | cons _ _ => rfl
    clear h0
    have HH := Lib.hid (headL hp)
    obtain ⟨x, hx⟩ : ∃ x, s[0] = x := ⟨_, rfl⟩
    rw [hx] at HH
    obtain ⟨u, hu⟩ : ∃ u, utfLen x.toNat = u := ⟨_, rfl⟩
    have HU := Lib.hid hu
    clear hu
    have HL1 : Hid (u ≤ s.size → begB s.data.toList = false) := Lib.hid (fun h => by
      rw [Bool.eq_false_iff]
      intro hb
      obtain ⟨_, h2, _⟩ := begB_iff.1 hb
      rw [HLS.out, HH.out, HU.out] at h2
      omega)
    by_cases hul : u ≤ s.size
    · have gl : decide ((u : Int) ≤ (s.size : Int)) = true := decide_eq_true (by omega)
      go_enter Tryd.func65, Tryd.ntmps65
      go_wp2_with (go_at_call 84; refine (utfLength_c _ _).mono ?_; rw [HU.out]; rintro e w' ⟨rfl, rfl⟩)
      go_ret
      exact ⟨ret_b (by rw [HL1.out hul]), Below.refl _ _⟩
    · have gl : decide ((u : Int) ≤ (s.size : Int)) = false := decide_eq_false (by omega)
      have hul' : s.size < u := by omega
      clear hul
      go_enter Tryd.func65, Tryd.ntmps65
      go_wp2_with (go_at_call 84; refine (utfLength_c _ _).mono ?_; rw [HU.out]; rintro e w' ⟨rfl, rfl⟩)
      go_loopw [3] (fun i wr => ∃ k : Nat, 1 ≤ k ∧ k ≤ s.size ∧ i = .int .i64 k ∧ Hid (fitK s.data.toList k) ∧ Below w.heap.size w wr) (fun i _ => s.size - (intOf i).toNat)
      case atStart => exact ⟨1, Nat.le_refl _, by omega, rfl, Lib.hid (fun j h1 h2 => by omega), Below.refl _ _⟩
      case round =>
        obtain ⟨k, hk1, hk, rfl, HF, hbel⟩ := hrel
        have HBL := Lib.hid hbel
        have hzr := hbel.size
        clear hbel
        by_cases hlt : k < s.size
        · have HD := Lib.hid (getDL hlt)
          obtain ⟨y, hy⟩ : ∃ y, s[k] = y := ⟨_, rfl⟩
          rw [hy] at HD
          obtain ⟨v, hv⟩ : ∃ v, mayF (s.data.toList.take k) y.toNat = v := ⟨_, rfl⟩
          have HV := Lib.hid hv
          clear hv
          have HC : Hid (∀ w', Calls Tryd.prog 85 #[.string (s.extract 0 k), .int .u8 y.toNat] w' fun e w'' => e = .returned (.bool v) ∧ w' = w'') := Lib.hid (fun w' => by
            have h := mayFollow_c (s.extract 0 k) y.toNat w' (by rw [extract_size s k hk]; omega)
            rw [extract_take s k hk, HV.out] at h
            exact h)
          have hkk : ¬ k < 0 := by omega
          cases v
          · go_wp2_with fail
            refine wp_region_quietx (wr) rfl (by kernel_rfl) (by kernel_rfl) ?_
            repeat (go_big_quiet_step ((go_at_call 85; exact Calls.quietx_same (HC.out _))))
            refine wpQuiet_nil ?_
            intro _ hw'
            obtain ⟨xq, hw''⟩ := hw'
            subst hw''
            have hbq := extW_below (wr) xq
            generalize extW (wr) xq = wq at hbq ⊢
            go_wp2_with fail
            go_ret
            refine ⟨ret_b (Eq.symm ?_), HBL.out.trans (hbq.mono (by omega))⟩
            rw [Bool.eq_false_iff]
            intro hb
            obtain ⟨_, _, h3⟩ := begB_iff.1 hb
            have h4 := h3 k hk1 (by rw [HLS.out]; exact hlt)
            rw [HD.out, HV.out] at h4
            cases h4
          · go_wp2_with fail
            refine wp_region_quietx (wr) rfl (by kernel_rfl) (by kernel_rfl) ?_
            repeat (go_big_quiet_step ((go_at_call 85; exact Calls.quietx_same (HC.out _))))
            refine wpQuiet_nil ?_
            intro _ hw'
            obtain ⟨xq, hw''⟩ := hw'
            subst hw''
            have hbq := extW_below (wr) xq
            generalize extW (wr) xq = wq at hbq ⊢
            go_wp2_with fail
            go_roundw
            case rel =>
              refine ⟨k + 1, by omega, by omega, by go_num, Lib.hid (fun j h1 h2 => ?_), HBL.out.trans (hbq.mono (by omega))⟩
              rcases Nat.lt_succ_iff_lt_or_eq.1 h2 with h | rfl
              · exact HF.out j h1 h
              · rw [HD.out]; exact HV.out
            case measure => simp [intOf]; omega
        · have hkn : k = s.size := by omega
          have HKN := Lib.hid hkn
          clear hkn
          go_wp2_with fail
          go_ret
          refine ⟨ret_b (Eq.symm (begB_iff.2 ⟨?_, ?_, ?_⟩)), HBL.out⟩
          · rw [HLS.out]; omega
          · rw [HLS.out, HH.out, HU.out]; omega
          · rw [HLS.out]
            have := HF.out
            rw [HKN.out] at this
            exact this
end
section
open Go.RowKit
theorem notEmpty {s : ByteArray} (h : ¬ s.size = 0) : s.toList.isEmpty = false := by
  rw [Lib.toList_data]
  have hl : s.data.toList.length = s.size := rfl
  cases hd : s.data.toList with
  | nil => rw [hd] at hl; simp at hl; omega
  | cons _ _ => rfl
def Cut5 (p : PV) (w1 : World) (s3 s4 s5 : Value) (wx : World) : Prop := s3 = .bool (cE p) ∧ s4 = .bool (tE p) ∧ s5 = .bool (uE p) ∧ Below w1.heap.size w1 wx
set_option maxRecDepth 100000 in
set_option maxHeartbeats 8000000 in
theorem isParser_c (ap : Option Addr) (cp : Nat) (p : PV) (w : World) (ha : Sl intE 1 w ap p.args) (hZ : PvSz p 1048576) :
    Calls Tryd.prog 37 #[.agg #[.int .i64 p.state, .slice ap p.args.length cp, .bool p.priv, .string p.text, .string p.utf]] w fun e w' => e = .returned (.bool (pvB p)) ∧ Below w.heap.size w w' := by
  have HA := Lib.hid (ha.alloc (.cells #[.int .i64 p.state, .slice ap p.args.length cp, .bool p.priv, .string p.text, .string p.utf] 25))
  have z1 := hZ.args
  have z2 := hZ.text
  have z3 := hZ.utf
  clear ha hZ
  go_enter Tryd.func37, Tryd.ntmps37
  go_upto_region 1 with fail
  have a_0 : (w.alloc (.cells #[.int .i64 p.state, .slice ap p.args.length cp, .bool p.priv, .string p.text, .string p.utf] 25)).cell? ⟨w.heap.size, 0, none⟩ = some (.int .i64 p.state) := by simp [go_sem]
  have a_1 : (w.alloc (.cells #[.int .i64 p.state, .slice ap p.args.length cp, .bool p.priv, .string p.text, .string p.utf] 25)).cell? ⟨w.heap.size, 1, none⟩ = some (.slice ap p.args.length cp) := by simp [go_sem]
  have a_2 : (w.alloc (.cells #[.int .i64 p.state, .slice ap p.args.length cp, .bool p.priv, .string p.text, .string p.utf] 25)).cell? ⟨w.heap.size, 2, none⟩ = some (.bool p.priv) := by simp [go_sem]
  have a_3 : (w.alloc (.cells #[.int .i64 p.state, .slice ap p.args.length cp, .bool p.priv, .string p.text, .string p.utf] 25)).cell? ⟨w.heap.size, 3, none⟩ = some (.string p.text) := by simp [go_sem]
  have a_4 : (w.alloc (.cells #[.int .i64 p.state, .slice ap p.args.length cp, .bool p.priv, .string p.text, .string p.utf] 25)).cell? ⟨w.heap.size, 4, none⟩ = some (.string p.utf) := by simp [go_sem]
  have HB1 : Hid (Below w.heap.size w (w.alloc (.cells #[.int .i64 p.state, .slice ap p.args.length cp, .bool p.priv, .string p.text, .string p.utf] 25))) := Lib.hid ((Below.refl w.heap.size w).alloc (Nat.le_refl _) _)
  have hw1 : w.heap.size < (w.alloc (.cells #[.int .i64 p.state, .slice ap p.args.length cp, .bool p.priv, .string p.text, .string p.utf] 25)).heap.size := by simp
  generalize (w.alloc (.cells #[.int .i64 p.state, .slice ap p.args.length cp, .bool p.priv, .string p.text, .string p.utf] 25)) = w1 at *
  go_cut [3, 4, 5] (fun s3 s4 s5 wx => Cut5 p w1 s3 s4 s5 wx)
  case first =>
    have hpv : ∀ b, p.priv = b → w1.cell? ⟨w.heap.size, 2, none⟩ = some (.bool b) := fun b hb => by rw [a_2, hb]
    obtain ⟨pv, hp⟩ : ∃ b, p.priv = b := ⟨_, rfl⟩
    replace a_2 := hpv pv hp
    have HP := Lib.hid hp
    clear hpv hp
    by_cases c1 : p.args.length = 0
    all_goals by_cases c3 : p.text.size = 0
    all_goals by_cases c4 : p.utf.size = 0
    all_goals
      have HC : Hid (cE p = (decide (p.args.length = 0) && !pv)) := Lib.hid (by unfold cE; rw [HP.out]; rfl)
      have HT : Hid (tE p = decide (p.text.size = 0)) := Lib.hid rfl
      have HU : Hid (uE p = decide (p.utf.size = 0)) := Lib.hid rfl
      have d1 : ((p.args.length : Int) == 0) = decide (p.args.length = 0) := by rw [Bool.eq_iff_iff]; simp only [beq_iff_eq, decide_eq_true_eq]; omega
      have e3 : p.text.toList.isEmpty = decide (p.text.size = 0) := by
        by_cases h : p.text.size = 0
        · rw [size_e0.1 h]; rw [Lib.toList_data]; rfl
        · rw [notEmpty h]; simp [h]
      have e4 : p.utf.toList.isEmpty = decide (p.utf.size = 0) := by
        by_cases h : p.utf.size = 0
        · rw [size_e0.1 h]; rw [Lib.toList_data]; rfl
        · rw [notEmpty h]; simp [h]
      have HK := Lib.hid c1
      have HK3 := Lib.hid c3
      have HK4 := Lib.hid c4
      first | rw [decide_eq_true c1] at HC d1 | rw [decide_eq_false c1] at HC d1
      first | rw [decide_eq_true c3] at HT e3 | rw [decide_eq_false c3] at HT e3
      first | rw [decide_eq_true c4] at HU e4 | rw [decide_eq_false c4] at HU e4
      clear c1 c3 c4
      have xq0 := extW_cell (w := w1) (b := w.heap.size) (by (try simp) <;> (try omega))
      refine wp_region_quietx (w1) rfl (by kernel_rfl) (by kernel_rfl) ?_
      repeat (go_big_quiet_step (fail))
      refine wpQuiet_nil ?_
      intro _ hw'
      obtain ⟨xq, hw''⟩ := hw'
      subst hw''
      have hbq := extW_below (w1) xq
      generalize extW (w1) xq = wq at hbq ⊢
      clear xq0
      try go_wp2_with fail
      go_meet
      exact ⟨by rw [HC.out]; simp, by rw [HT.out], by rw [HU.out], hbq⟩
  case rest =>
    obtain ⟨rfl, rfl, rfl, hb⟩ := hcut
    obtain ⟨c, hc⟩ : ∃ b, cE p = b := ⟨_, rfl⟩
    obtain ⟨t, ht⟩ : ∃ b, tE p = b := ⟨_, rfl⟩
    obtain ⟨u, hu⟩ : ∃ b, uE p = b := ⟨_, rfl⟩
    rw [hc, ht, hu]
    have HC := Lib.hid hc
    have HT := Lib.hid ht
    have HU := Lib.hid hu
    obtain ⟨wd, hwd⟩ : ∃ x, x = wc := ⟨_, rfl⟩
    subst hwd
    have hzd := hb.size
    have HBD := Lib.hid (HB1.out.trans (hb.mono (by omega)))
    have hwd : w.heap.size < wd.heap.size := by omega
    have HAD := Lib.hid (HA.out.keep hb)
    have q_0 : wd.cell? ⟨w.heap.size, 0, none⟩ = some (.int .i64 p.state) := (hb.cell (p := ⟨w.heap.size, 0, none⟩) hw1).trans a_0
    have q_1 : wd.cell? ⟨w.heap.size, 1, none⟩ = some (.slice ap p.args.length cp) := (hb.cell (p := ⟨w.heap.size, 1, none⟩) hw1).trans a_1
    have q_2 : wd.cell? ⟨w.heap.size, 2, none⟩ = some (.bool p.priv) := (hb.cell (p := ⟨w.heap.size, 2, none⟩) hw1).trans a_2
    have q_3 : wd.cell? ⟨w.heap.size, 3, none⟩ = some (.string p.text) := (hb.cell (p := ⟨w.heap.size, 3, none⟩) hw1).trans a_3
    have q_4 : wd.cell? ⟨w.heap.size, 4, none⟩ = some (.string p.utf) := (hb.cell (p := ⟨w.heap.size, 4, none⟩) hw1).trans a_4
    clear hb hc ht hu a_0 a_1 a_2 a_3 a_4
    obtain ⟨st, hst⟩ : ∃ s, p.state = s := ⟨_, rfl⟩
    rw [hst] at q_0
    have HST := Lib.hid hst
    clear hst
    by_cases hk : st = 0
    case pos =>
      have g0 : (st == 0) = true := by subst hk; rfl
      have g1 : (st == 1) = false := by subst hk; rfl
      have g2 : (st == 2) = false := by subst hk; rfl
      have g3 : (st == 3) = false := by subst hk; rfl
      have g4 : (st == 4) = false := by subst hk; rfl
      have g5 : (st == 5) = false := by subst hk; rfl
      have g6 : (st == 6) = false := by subst hk; rfl
      have HK : Hid (p.state = 0) := Lib.hid (by rw [HST.out, hk])
      clear hk HST
      have HV : Hid (pvB p = ((c && t) && u)) := Lib.hid (by unfold pvB; rw [HK.out, HC.out, HT.out, HU.out]; rfl)
      cases c <;> cases t
      all_goals
        go_wp2_with fail
        go_ret
        exact ⟨ret_b (by rw [HV.out]; rfl), HBD.out⟩
    have g0 : (st == 0) = false := beq_eq_false_iff_ne.2 hk
    by_cases hk : st = 1
    case pos =>
      have g0 : (st == 0) = false := by subst hk; rfl
      have g1 : (st == 1) = true := by subst hk; rfl
      have g2 : (st == 2) = false := by subst hk; rfl
      have g3 : (st == 3) = false := by subst hk; rfl
      have g4 : (st == 4) = false := by subst hk; rfl
      have g5 : (st == 5) = false := by subst hk; rfl
      have g6 : (st == 6) = false := by subst hk; rfl
      have HK : Hid (p.state = 1) := Lib.hid (by rw [HST.out, hk])
      clear hk HST
      have HV : Hid (pvB p = ((c && t) && u)) := Lib.hid (by unfold pvB; rw [HK.out, HC.out, HT.out, HU.out]; rfl)
      cases c <;> cases t
      all_goals
        go_wp2_with fail
        go_ret
        exact ⟨ret_b (by rw [HV.out]; rfl), HBD.out⟩
    have g1 : (st == 1) = false := beq_eq_false_iff_ne.2 hk
    by_cases hk : st = 2
    case pos =>
      have g0 : (st == 0) = false := by subst hk; rfl
      have g1 : (st == 1) = false := by subst hk; rfl
      have g2 : (st == 2) = true := by subst hk; rfl
      have g3 : (st == 3) = false := by subst hk; rfl
      have g4 : (st == 4) = false := by subst hk; rfl
      have g5 : (st == 5) = false := by subst hk; rfl
      have g6 : (st == 6) = false := by subst hk; rfl
      have HK : Hid (p.state = 2) := Lib.hid (by rw [HST.out, hk])
      clear hk HST
      obtain ⟨v, hv⟩ : ∃ b, argsB p.args = b := ⟨_, rfl⟩
      have HVV := Lib.hid hv
      have HV : Hid (pvB p = ((v && t) && u)) := Lib.hid (by unfold pvB; rw [HK.out, HT.out, HU.out, hv]; rfl)
      clear hv
      cases v <;> cases t
      all_goals
        go_wp2_with (go_at_call 63; refine (areArgs_c ap cp p.args _ HAD.out (by omega)).mono ?_; rw [HVV.out]; rintro e w' ⟨rfl, rfl⟩)
        go_ret
        exact ⟨ret_b (by rw [HV.out]; rfl), HBD.out⟩
    have g2 : (st == 2) = false := beq_eq_false_iff_ne.2 hk
    by_cases hk : st = 3
    case pos =>
      have g0 : (st == 0) = false := by subst hk; rfl
      have g1 : (st == 1) = false := by subst hk; rfl
      have g2 : (st == 2) = false := by subst hk; rfl
      have g3 : (st == 3) = true := by subst hk; rfl
      have g4 : (st == 4) = false := by subst hk; rfl
      have g5 : (st == 5) = false := by subst hk; rfl
      have g6 : (st == 6) = false := by subst hk; rfl
      have HK : Hid (p.state = 3) := Lib.hid (by rw [HST.out, hk])
      clear hk HST
      have HV : Hid (pvB p = ((c && t) && u)) := Lib.hid (by unfold pvB; rw [HK.out, HC.out, HT.out, HU.out]; rfl)
      cases c <;> cases t
      all_goals
        go_wp2_with fail
        go_ret
        exact ⟨ret_b (by rw [HV.out]; rfl), HBD.out⟩
    have g3 : (st == 3) = false := beq_eq_false_iff_ne.2 hk
    by_cases hk : st = 4
    case pos =>
      have g0 : (st == 0) = false := by subst hk; rfl
      have g1 : (st == 1) = false := by subst hk; rfl
      have g2 : (st == 2) = false := by subst hk; rfl
      have g3 : (st == 3) = false := by subst hk; rfl
      have g4 : (st == 4) = true := by subst hk; rfl
      have g5 : (st == 5) = false := by subst hk; rfl
      have g6 : (st == 6) = false := by subst hk; rfl
      have HK : Hid (p.state = 4) := Lib.hid (by rw [HST.out, hk])
      clear hk HST
      obtain ⟨v, hv⟩ : ∃ b, titB p.text = b := ⟨_, rfl⟩
      have HVV := Lib.hid hv
      have HV : Hid (pvB p = ((c && v) && u)) := Lib.hid (by unfold pvB; rw [HK.out, HC.out, HU.out, hv]; rfl)
      clear hv
      cases c <;> cases v
      all_goals
        go_wp2_with (go_at_call 64; refine (isTitle_c p.text _ (by omega)).mono ?_; rw [HVV.out]; rintro e w' ⟨rfl, rfl⟩)
        go_ret
        exact ⟨ret_b (by rw [HV.out]; rfl), HBD.out⟩
    have g4 : (st == 4) = false := beq_eq_false_iff_ne.2 hk
    by_cases hk : st = 5
    case pos =>
      have g0 : (st == 0) = false := by subst hk; rfl
      have g1 : (st == 1) = false := by subst hk; rfl
      have g2 : (st == 2) = false := by subst hk; rfl
      have g3 : (st == 3) = false := by subst hk; rfl
      have g4 : (st == 4) = false := by subst hk; rfl
      have g5 : (st == 5) = true := by subst hk; rfl
      have g6 : (st == 6) = false := by subst hk; rfl
      have HK : Hid (p.state = 5) := Lib.hid (by rw [HST.out, hk])
      clear hk HST
      obtain ⟨v, hv⟩ : ∃ b, titB p.text = b := ⟨_, rfl⟩
      have HVV := Lib.hid hv
      have HV : Hid (pvB p = ((c && v) && u)) := Lib.hid (by unfold pvB; rw [HK.out, HC.out, HU.out, hv]; rfl)
      clear hv
      cases c <;> cases v
      all_goals
        go_wp2_with (go_at_call 64; refine (isTitle_c p.text _ (by omega)).mono ?_; rw [HVV.out]; rintro e w' ⟨rfl, rfl⟩)
        go_ret
        exact ⟨ret_b (by rw [HV.out]; rfl), HBD.out⟩
    have g5 : (st == 5) = false := beq_eq_false_iff_ne.2 hk
    by_cases hk : st = 6
    case pos =>
      have g0 : (st == 0) = false := by subst hk; rfl
      have g1 : (st == 1) = false := by subst hk; rfl
      have g2 : (st == 2) = false := by subst hk; rfl
      have g3 : (st == 3) = false := by subst hk; rfl
      have g4 : (st == 4) = false := by subst hk; rfl
      have g5 : (st == 5) = false := by subst hk; rfl
      have g6 : (st == 6) = true := by subst hk; rfl
      have HK : Hid (p.state = 6) := Lib.hid (by rw [HST.out, hk])
      clear hk HST
      obtain ⟨v, hv⟩ : ∃ b, begB p.utf.data.toList = b := ⟨_, rfl⟩
      have HVV := Lib.hid hv
      have HV : Hid (pvB p = ((c && t) && v)) := Lib.hid (by unfold pvB; rw [HK.out, HC.out, HT.out, hv]; rfl)
      clear hv
      cases c <;> cases t
      all_goals
        go_wp2_with (go_at_call 65; refine (isBeginning_c p.utf _ (by omega)).mono ?_; rw [HVV.out]; rintro e wb ⟨rfl, hbb⟩; have HBB := Lib.hid (HBD.out.trans (hbb.mono (by omega))); clear hbb)
        go_ret
        exact ⟨ret_b (by rw [HV.out]; rfl), HBB.out⟩
    have g6 : (st == 6) = false := beq_eq_false_iff_ne.2 hk
    have HV : Hid (pvB p = false) := Lib.hid (by
      have h := HST.out
      simp only [beq_eq_false_iff_ne] at g0 g1 g2 g3 g4 g5 g6
      unfold pvB
      rw [h, if_neg (by omega), if_neg (by omega), if_neg (by omega), if_neg (by omega)])
    clear HST
    go_wp2_with fail
    go_ret
    exact ⟨ret_b (by rw [HV.out]), HBD.out⟩
set_option maxHeartbeats 1000000 in
theorem implParserOK_c (ap : Option Addr) (cp : Nat) (p : PV) (w : World) (ha : Sl intE 1 w ap p.args) (hZ : PvSz p 1048576) :
    Calls Tryd.prog 12 #[.agg #[.int .i64 p.state, .slice ap p.args.length cp, .bool p.priv, .string p.text, .string p.utf]] w fun e w' => e = .returned (.bool (pvB p)) ∧ Below w.heap.size w w' := by
  go_enter Tryd.func12, Tryd.ntmps12
  go_wp2_with fail
  refine (isParser_c ap cp p _ (ha.alloc _) hZ).mono ?_
  rintro e w1 ⟨rfl, hb⟩
  go_wp2_with fail
  go_ret
  exact ⟨rfl, ((Below.refl w.heap.size w).alloc (Nat.le_refl _) _).trans (hb.mono (by simp))⟩
end
end Go.Proofs.YtlhhlmalihajcaaDoor
