/- The bytes of a command: impl.commandText, spec.l06Bytes. No conditions but that the command is valid. -/
import Derived.Test.YtmdjcoeijlnloaaCmd
import Derived.Test.YtmdjcoeijlnloaaFld
import Derived.Test.YtmdjcoeijlnloaaFld2
import Derived.Test.YtmdjcoeijlnloaaSrcAll
import Derived.Deep.RegionHeld3
namespace Go.Proofs.Ytmdjcoeijlnloaa
set_option linter.unusedVariables false
set_option linter.unusedSimpArgs false
open Go.RowKit
def bitI (b : Bool) : Int := if b then 1 else 0
theorem bitI_bound (b : Bool) : 0 ≤ bitI b ∧ bitI b ≤ 1 := by cases b <;> decide
def encC (k cl sq pn n ep : Int) (rw : Bool) (nm dt : ByteArray) : List UInt8 := fldL [strOf (numL [k, cl, sq, pn, n + 1000, ep, bitI rw]), nm, dt]
theorem cmd_facts {k cl sq pn n ep : Int} {rw : Bool} {nm dt : ByteArray} (h : cmdOK k cl sq pn n ep rw nm dt = true) :
    1 ≤ k ∧ k ≤ 8 ∧ 0 ≤ cl ∧ cl ≤ 200 ∧ 1 ≤ sq ∧ sq ≤ 60000 ∧ 0 ≤ pn ∧ pn ≤ 1000 ∧ -100 ≤ n ∧ n ≤ 200 ∧ 0 ≤ ep ∧ ep ≤ 60000 ∧ nm.size ≤ 12 ∧ dt.size ≤ 200 := by
  have hno : ∀ s : ByteArray, s = noS → s.size = 0 := fun s h => by rw [h]; rfl
  simp only [cmdOK, Bool.and_eq_true] at h
  obtain ⟨h1, h2, h3⟩ := h
  simp [inB] at h1 h2
  unfold bodyOK at h3
  split at h3
  · simp [winP] at h3
    have := hno dt h3.2.2.2.2.2
    omega
  split at h3
  · simp [inB] at h3
    have e1 := hno nm h3.2.2.2.1
    have e2 := hno dt h3.2.2.2.2
    omega
  split at h3
  · simp [inB] at h3
    have e1 := hno nm h3.2.2.2.2.1
    have e2 := hno dt h3.2.2.2.2.2
    omega
  split at h3
  · simp [inB] at h3
    have e1 := hno nm h3.2.2.2.1
    have e2 := hno dt h3.2.2.2.2
    omega
  split at h3
  · simp [inB] at h3
    have e1 := hno nm h3.2.2.2
    omega
  split at h3
  · simp [inB] at h3
    have e1 := hno nm h3.2.2.2.1
    have e2 := hno dt h3.2.2.2.2
    omega
  split at h3
  · simp [inB] at h3
    have e1 := hno nm h3.2.2.2.1
    have e2 := hno dt h3.2.2.2.2
    omega
  split at h3
  · simp [winP] at h3
    omega
  · cases h3
theorem enc_size (ns : List Int) (nm dt : ByteArray) : (fldL [strOf (numL ns), nm, dt]).length = 7 + 3 * ns.length + nm.size + dt.size := by
  rw [fldL_length]
  simp [fldB, fieldL_length, strOf_size, numL_length]
  omega
theorem bit_c (b : Bool) (w : World) : Calls Try.prog 146 #[.bool b] w fun e w' => e = .returned (.int .i64 (bitI b)) ∧ w = w' := by
  cases b
  all_goals
    go_enter Try.func146, Try.ntmps146
    go_wp2_with fail
    go_ret
    exact ⟨rfl, rfl⟩
theorem l01Bit_c (b : Bool) (w : World) : Calls Try.prog 148 #[.bool b] w fun e w' => e = .returned (.int .i64 (bitI b)) ∧ w = w' := by
  cases b
  all_goals
    go_enter Try.func148, Try.ntmps148
    go_wp2_with fail
    go_ret
    exact ⟨rfl, rfl⟩
set_option maxRecDepth 100000 in
set_option maxHeartbeats 16000000 in
theorem commandText_c (k cl sq pn n ep : Int) (rw : Bool) (nm dt : ByteArray) (w : World) (hc : cmdOK k cl sq pn n ep rw nm dt = true) :
    Calls Try.prog 84 #[.agg #[.int .i64 k, .int .i64 cl, .int .i64 sq, .int .i64 pn, .int .i64 n, .int .i64 ep, .bool rw, .string nm, .string dt]] w fun e w' => e = .returned (.string (strOf (encC k cl sq pn n ep rw nm dt))) ∧ Below w.heap.size w w' := by
  obtain ⟨f1, f2, f3, f4, f5, f6, f7, f8, f9, f10, f11, f12, f13, f14⟩ := cmd_facts hc
  have hbt := bitI_bound rw
  have ew : IntKind.i64.wrap (n + 1000) = n + 1000 := IntWalk.i64_in _ ⟨by omega, by omega⟩
  have HFV : Hid (fldV [strOf (numL [k, cl, sq, pn, n + 1000, ep, bitI rw]), nm, dt] = (encC k cl sq pn n ep rw nm dt, 0)) := Lib.hid (fldV_ok (by simp) (by
    intro s hs
    simp at hs
    rcases hs with rfl | rfl | rfl
    · rw [strOf_size, numL_length]
      simp
    · omega
    · omega) (by rw [enc_size]; simp; omega))
  have HNS : Hid (∀ x ∈ [k, cl, sq, pn, n + 1000, ep, bitI rw], -1 ≤ x ∧ x ≤ 1099511627775) := Lib.hid (by
    intro x hx
    simp at hx
    omega)
  have HF3 : Hid (∀ s ∈ [strOf (numL [k, cl, sq, pn, n + 1000, ep, bitI rw]), nm, dt], s.size ≤ 1048576) := Lib.hid (by
    intro s hs
    simp at hs
    rcases hs with rfl | rfl | rfl
    · rw [strOf_size, numL_length]
      simp
    · omega
    · omega)
  clear hc
  go_enter Try.func84, Try.ntmps84
  go_wp2_with fail
  have c_0 : (w.alloc (.cells #[.int .i64 k, .int .i64 cl, .int .i64 sq, .int .i64 pn, .int .i64 n, .int .i64 ep, .bool rw, .string nm, .string dt] 58)).cell? ⟨w.heap.size, 0, none⟩ = some (.int .i64 k) := by simp [go_sem]
  have c_1 : (w.alloc (.cells #[.int .i64 k, .int .i64 cl, .int .i64 sq, .int .i64 pn, .int .i64 n, .int .i64 ep, .bool rw, .string nm, .string dt] 58)).cell? ⟨w.heap.size, 1, none⟩ = some (.int .i64 cl) := by simp [go_sem]
  have c_2 : (w.alloc (.cells #[.int .i64 k, .int .i64 cl, .int .i64 sq, .int .i64 pn, .int .i64 n, .int .i64 ep, .bool rw, .string nm, .string dt] 58)).cell? ⟨w.heap.size, 2, none⟩ = some (.int .i64 sq) := by simp [go_sem]
  have c_3 : (w.alloc (.cells #[.int .i64 k, .int .i64 cl, .int .i64 sq, .int .i64 pn, .int .i64 n, .int .i64 ep, .bool rw, .string nm, .string dt] 58)).cell? ⟨w.heap.size, 3, none⟩ = some (.int .i64 pn) := by simp [go_sem]
  have c_4 : (w.alloc (.cells #[.int .i64 k, .int .i64 cl, .int .i64 sq, .int .i64 pn, .int .i64 n, .int .i64 ep, .bool rw, .string nm, .string dt] 58)).cell? ⟨w.heap.size, 4, none⟩ = some (.int .i64 n) := by simp [go_sem]
  have c_5 : (w.alloc (.cells #[.int .i64 k, .int .i64 cl, .int .i64 sq, .int .i64 pn, .int .i64 n, .int .i64 ep, .bool rw, .string nm, .string dt] 58)).cell? ⟨w.heap.size, 5, none⟩ = some (.int .i64 ep) := by simp [go_sem]
  have c_6 : (w.alloc (.cells #[.int .i64 k, .int .i64 cl, .int .i64 sq, .int .i64 pn, .int .i64 n, .int .i64 ep, .bool rw, .string nm, .string dt] 58)).cell? ⟨w.heap.size, 6, none⟩ = some (.bool rw) := by simp [go_sem]
  have c_7 : (w.alloc (.cells #[.int .i64 k, .int .i64 cl, .int .i64 sq, .int .i64 pn, .int .i64 n, .int .i64 ep, .bool rw, .string nm, .string dt] 58)).cell? ⟨w.heap.size, 7, none⟩ = some (.string nm) := by simp [go_sem]
  have c_8 : (w.alloc (.cells #[.int .i64 k, .int .i64 cl, .int .i64 sq, .int .i64 pn, .int .i64 n, .int .i64 ep, .bool rw, .string nm, .string dt] 58)).cell? ⟨w.heap.size, 8, none⟩ = some (.string dt) := by simp [go_sem]
  have HB0 : Hid (Below w.heap.size w (w.alloc (.cells #[.int .i64 k, .int .i64 cl, .int .i64 sq, .int .i64 pn, .int .i64 n, .int .i64 ep, .bool rw, .string nm, .string dt] 58))) := (Below.refl _ _).alloc (Nat.le_refl _) _
  have hz0 : w.heap.size < (w.alloc (.cells #[.int .i64 k, .int .i64 cl, .int .i64 sq, .int .i64 pn, .int .i64 n, .int .i64 ep, .bool rw, .string nm, .string dt] 58)).heap.size := by simp
  generalize w.alloc (.cells #[.int .i64 k, .int .i64 cl, .int .i64 sq, .int .i64 pn, .int .i64 n, .int .i64 ep, .bool rw, .string nm, .string dt] 58) = w0 at *
  go_region_held3 (fun w' => w'.cell? ⟨w.heap.size, 0, none⟩ = some (.int .i64 k) ∧ w'.cell? ⟨w.heap.size, 1, none⟩ = some (.int .i64 cl) ∧ w'.cell? ⟨w.heap.size, 2, none⟩ = some (.int .i64 sq) ∧ w'.cell? ⟨w.heap.size, 3, none⟩ = some (.int .i64 pn) ∧ w'.cell? ⟨w.heap.size, 4, none⟩ = some (.int .i64 n) ∧ w'.cell? ⟨w.heap.size, 5, none⟩ = some (.int .i64 ep) ∧ w'.cell? ⟨w.heap.size, 6, none⟩ = some (.bool rw) ∧ w'.cell? ⟨w.heap.size, 7, none⟩ = some (.string nm) ∧ w'.cell? ⟨w.heap.size, 8, none⟩ = some (.string dt))
    (first | ((repeat' apply And.intro) <;> (first | assumption | (simp [go_sem, c_0, c_1, c_2, c_3, c_4, c_5, c_6, c_7, c_8]; done) | (rw [World.cell?_alloc_lt _ _ _ (by show w.heap.size < _; omega)]; assumption) | (rw [World.cell?_drew, World.cell?_alloc_lt _ _ _ (by show w.heap.size < _; omega)]; assumption) | (simp [go_sem, hz0, c_0, c_1, c_2, c_3, c_4, c_5, c_6, c_7, c_8]; done) | (simp [go_sem, hw1, d_0, d_1, d_2, d_3, d_4, d_5, d_6, d_7, d_8]; done))) | go_keep)
    (first
      | (go_at_call 146; refine (bit_c _ _).mono ?_; rintro e wx ⟨rfl, rfl⟩)
      | (go_at_call 125
         refine (numbersOf_c (some ⟨w0.heap.size, 0, none⟩) 7 [k, cl, sq, pn, n + 1000, ep, bitI rw] ((w0.alloc (.cells #[.int .i64 k, .int .i64 cl, .int .i64 sq, .int .i64 pn, .int .i64 (n + 1000), .int .i64 ep, .int .i64 (bitI rw)] 3)).drew) (Sl.boxL (enc := intE) (w := w0.drew) (fun _ => rfl) [k, cl, sq, pn, n + 1000, ep, bitI rw] #[.int .i64 k, .int .i64 cl, .int .i64 sq, .int .i64 pn, .int .i64 (n + 1000), .int .i64 ep, .int .i64 (bitI rw)] 3 rfl w0.heap.size rfl) (by simp) HNS.out).mono ?_
         rintro e w1 ⟨rfl, hb1⟩
         have hz1 := hb1.size
         simp only [World.size_drew, World.size_alloc] at hz1
         have hw1 : w.heap.size < w1.heap.size := by omega
         have d_0 : w1.cell? ⟨w.heap.size, 0, none⟩ = some (.int .i64 k) := (hb1.cell (p := ⟨w.heap.size, 0, none⟩) (by show w.heap.size < (World.drew (World.alloc w0 _)).heap.size; rw [World.size_drew, World.size_alloc]; omega)).trans ((World.cell?_alloc_lt w0 _ _ (by show w.heap.size < _; omega)).trans c_0)
         have d_1 : w1.cell? ⟨w.heap.size, 1, none⟩ = some (.int .i64 cl) := (hb1.cell (p := ⟨w.heap.size, 1, none⟩) (by show w.heap.size < (World.drew (World.alloc w0 _)).heap.size; rw [World.size_drew, World.size_alloc]; omega)).trans ((World.cell?_alloc_lt w0 _ _ (by show w.heap.size < _; omega)).trans c_1)
         have d_2 : w1.cell? ⟨w.heap.size, 2, none⟩ = some (.int .i64 sq) := (hb1.cell (p := ⟨w.heap.size, 2, none⟩) (by show w.heap.size < (World.drew (World.alloc w0 _)).heap.size; rw [World.size_drew, World.size_alloc]; omega)).trans ((World.cell?_alloc_lt w0 _ _ (by show w.heap.size < _; omega)).trans c_2)
         have d_3 : w1.cell? ⟨w.heap.size, 3, none⟩ = some (.int .i64 pn) := (hb1.cell (p := ⟨w.heap.size, 3, none⟩) (by show w.heap.size < (World.drew (World.alloc w0 _)).heap.size; rw [World.size_drew, World.size_alloc]; omega)).trans ((World.cell?_alloc_lt w0 _ _ (by show w.heap.size < _; omega)).trans c_3)
         have d_4 : w1.cell? ⟨w.heap.size, 4, none⟩ = some (.int .i64 n) := (hb1.cell (p := ⟨w.heap.size, 4, none⟩) (by show w.heap.size < (World.drew (World.alloc w0 _)).heap.size; rw [World.size_drew, World.size_alloc]; omega)).trans ((World.cell?_alloc_lt w0 _ _ (by show w.heap.size < _; omega)).trans c_4)
         have d_5 : w1.cell? ⟨w.heap.size, 5, none⟩ = some (.int .i64 ep) := (hb1.cell (p := ⟨w.heap.size, 5, none⟩) (by show w.heap.size < (World.drew (World.alloc w0 _)).heap.size; rw [World.size_drew, World.size_alloc]; omega)).trans ((World.cell?_alloc_lt w0 _ _ (by show w.heap.size < _; omega)).trans c_5)
         have d_6 : w1.cell? ⟨w.heap.size, 6, none⟩ = some (.bool rw) := (hb1.cell (p := ⟨w.heap.size, 6, none⟩) (by show w.heap.size < (World.drew (World.alloc w0 _)).heap.size; rw [World.size_drew, World.size_alloc]; omega)).trans ((World.cell?_alloc_lt w0 _ _ (by show w.heap.size < _; omega)).trans c_6)
         have d_7 : w1.cell? ⟨w.heap.size, 7, none⟩ = some (.string nm) := (hb1.cell (p := ⟨w.heap.size, 7, none⟩) (by show w.heap.size < (World.drew (World.alloc w0 _)).heap.size; rw [World.size_drew, World.size_alloc]; omega)).trans ((World.cell?_alloc_lt w0 _ _ (by show w.heap.size < _; omega)).trans c_7)
         have d_8 : w1.cell? ⟨w.heap.size, 8, none⟩ = some (.string dt) := (hb1.cell (p := ⟨w.heap.size, 8, none⟩) (by show w.heap.size < (World.drew (World.alloc w0 _)).heap.size; rw [World.size_drew, World.size_alloc]; omega)).trans ((World.cell?_alloc_lt w0 _ _ (by show w.heap.size < _; omega)).trans c_8)
         have HB1 : Hid (Below w0.heap.size w0 w1) := (((Below.refl _ _).alloc (Nat.le_refl _) _).drew).trans (hb1.mono (by rw [World.size_drew, World.size_alloc]; omega))
         clear hb1)
      | (go_at_call 124
         refine (fields_c (some ⟨w1.heap.size, 0, none⟩) 3 [strOf (numL [k, cl, sq, pn, n + 1000, ep, bitI rw]), nm, dt] (w1.alloc (.cells #[.string (strOf (numL [k, cl, sq, pn, n + 1000, ep, bitI rw])), .string nm, .string dt] 9)) (Sl.boxL (enc := strE) (w := w1) (fun _ => rfl) [strOf (numL [k, cl, sq, pn, n + 1000, ep, bitI rw]), nm, dt] #[.string (strOf (numL [k, cl, sq, pn, n + 1000, ep, bitI rw])), .string nm, .string dt] 9 rfl w1.heap.size rfl) (by simp)).mono ?_
         rw [HFV.out]
         rintro e w2 ⟨rfl, hb2⟩
         have hz2 := hb2.size
         simp only [World.size_alloc] at hz2
         have hw2 : w.heap.size < w2.heap.size := by omega
         have g_0 : w2.cell? ⟨w.heap.size, 0, none⟩ = some (.int .i64 k) := (hb2.cell (p := ⟨w.heap.size, 0, none⟩) (by show w.heap.size < (World.alloc w1 _).heap.size; rw [World.size_alloc]; omega)).trans ((World.cell?_alloc_lt w1 _ _ (by show w.heap.size < _; omega)).trans d_0)
         have g_1 : w2.cell? ⟨w.heap.size, 1, none⟩ = some (.int .i64 cl) := (hb2.cell (p := ⟨w.heap.size, 1, none⟩) (by show w.heap.size < (World.alloc w1 _).heap.size; rw [World.size_alloc]; omega)).trans ((World.cell?_alloc_lt w1 _ _ (by show w.heap.size < _; omega)).trans d_1)
         have g_2 : w2.cell? ⟨w.heap.size, 2, none⟩ = some (.int .i64 sq) := (hb2.cell (p := ⟨w.heap.size, 2, none⟩) (by show w.heap.size < (World.alloc w1 _).heap.size; rw [World.size_alloc]; omega)).trans ((World.cell?_alloc_lt w1 _ _ (by show w.heap.size < _; omega)).trans d_2)
         have g_3 : w2.cell? ⟨w.heap.size, 3, none⟩ = some (.int .i64 pn) := (hb2.cell (p := ⟨w.heap.size, 3, none⟩) (by show w.heap.size < (World.alloc w1 _).heap.size; rw [World.size_alloc]; omega)).trans ((World.cell?_alloc_lt w1 _ _ (by show w.heap.size < _; omega)).trans d_3)
         have g_4 : w2.cell? ⟨w.heap.size, 4, none⟩ = some (.int .i64 n) := (hb2.cell (p := ⟨w.heap.size, 4, none⟩) (by show w.heap.size < (World.alloc w1 _).heap.size; rw [World.size_alloc]; omega)).trans ((World.cell?_alloc_lt w1 _ _ (by show w.heap.size < _; omega)).trans d_4)
         have g_5 : w2.cell? ⟨w.heap.size, 5, none⟩ = some (.int .i64 ep) := (hb2.cell (p := ⟨w.heap.size, 5, none⟩) (by show w.heap.size < (World.alloc w1 _).heap.size; rw [World.size_alloc]; omega)).trans ((World.cell?_alloc_lt w1 _ _ (by show w.heap.size < _; omega)).trans d_5)
         have g_6 : w2.cell? ⟨w.heap.size, 6, none⟩ = some (.bool rw) := (hb2.cell (p := ⟨w.heap.size, 6, none⟩) (by show w.heap.size < (World.alloc w1 _).heap.size; rw [World.size_alloc]; omega)).trans ((World.cell?_alloc_lt w1 _ _ (by show w.heap.size < _; omega)).trans d_6)
         have g_7 : w2.cell? ⟨w.heap.size, 7, none⟩ = some (.string nm) := (hb2.cell (p := ⟨w.heap.size, 7, none⟩) (by show w.heap.size < (World.alloc w1 _).heap.size; rw [World.size_alloc]; omega)).trans ((World.cell?_alloc_lt w1 _ _ (by show w.heap.size < _; omega)).trans d_7)
         have g_8 : w2.cell? ⟨w.heap.size, 8, none⟩ = some (.string dt) := (hb2.cell (p := ⟨w.heap.size, 8, none⟩) (by show w.heap.size < (World.alloc w1 _).heap.size; rw [World.size_alloc]; omega)).trans ((World.cell?_alloc_lt w1 _ _ (by show w.heap.size < _; omega)).trans d_8)
         have HB2 : Hid (Below w0.heap.size w0 w2) := (HB1.out.alloc (by omega) _).trans (hb2.mono (by rw [World.size_alloc]; omega))
         clear hb2))
  all_goals
    go_wp2_with fail
    go_ret
    exact ⟨rfl, HB0.out.trans (HB2.out.mono (by omega))⟩
set_option maxRecDepth 100000 in
set_option maxHeartbeats 16000000 in
theorem l06Bytes_c (k cl sq pn n ep : Int) (rw : Bool) (nm dt : ByteArray) (w : World) (hc : cmdOK k cl sq pn n ep rw nm dt = true) :
    Calls Try.prog 86 #[.agg #[.int .i64 k, .int .i64 cl, .int .i64 sq, .int .i64 pn, .int .i64 n, .int .i64 ep, .bool rw, .string nm, .string dt]] w fun e w' => e = .returned (.string (strOf (encC k cl sq pn n ep rw nm dt))) ∧ Below w.heap.size w w' := by
  obtain ⟨f1, f2, f3, f4, f5, f6, f7, f8, f9, f10, f11, f12, f13, f14⟩ := cmd_facts hc
  have hbt := bitI_bound rw
  have ew : IntKind.i64.wrap (n + 1000) = n + 1000 := IntWalk.i64_in _ ⟨by omega, by omega⟩
  have HFV : Hid (fldV [strOf (numL [k, cl, sq, pn, n + 1000, ep, bitI rw]), nm, dt] = (encC k cl sq pn n ep rw nm dt, 0)) := Lib.hid (fldV_ok (by simp) (by
    intro s hs
    simp at hs
    rcases hs with rfl | rfl | rfl
    · rw [strOf_size, numL_length]
      simp
    · omega
    · omega) (by rw [enc_size]; simp; omega))
  have HNS : Hid (∀ x ∈ [k, cl, sq, pn, n + 1000, ep, bitI rw], -1 ≤ x ∧ x ≤ 1099511627775) := Lib.hid (by
    intro x hx
    simp at hx
    omega)
  have HF3 : Hid (∀ s ∈ [strOf (numL [k, cl, sq, pn, n + 1000, ep, bitI rw]), nm, dt], s.size ≤ 1048576) := Lib.hid (by
    intro s hs
    simp at hs
    rcases hs with rfl | rfl | rfl
    · rw [strOf_size, numL_length]
      simp
    · omega
    · omega)
  clear hc
  go_enter Try.func86, Try.ntmps86
  go_wp2_with fail
  have c_0 : (w.alloc (.cells #[.int .i64 k, .int .i64 cl, .int .i64 sq, .int .i64 pn, .int .i64 n, .int .i64 ep, .bool rw, .string nm, .string dt] 58)).cell? ⟨w.heap.size, 0, none⟩ = some (.int .i64 k) := by simp [go_sem]
  have c_1 : (w.alloc (.cells #[.int .i64 k, .int .i64 cl, .int .i64 sq, .int .i64 pn, .int .i64 n, .int .i64 ep, .bool rw, .string nm, .string dt] 58)).cell? ⟨w.heap.size, 1, none⟩ = some (.int .i64 cl) := by simp [go_sem]
  have c_2 : (w.alloc (.cells #[.int .i64 k, .int .i64 cl, .int .i64 sq, .int .i64 pn, .int .i64 n, .int .i64 ep, .bool rw, .string nm, .string dt] 58)).cell? ⟨w.heap.size, 2, none⟩ = some (.int .i64 sq) := by simp [go_sem]
  have c_3 : (w.alloc (.cells #[.int .i64 k, .int .i64 cl, .int .i64 sq, .int .i64 pn, .int .i64 n, .int .i64 ep, .bool rw, .string nm, .string dt] 58)).cell? ⟨w.heap.size, 3, none⟩ = some (.int .i64 pn) := by simp [go_sem]
  have c_4 : (w.alloc (.cells #[.int .i64 k, .int .i64 cl, .int .i64 sq, .int .i64 pn, .int .i64 n, .int .i64 ep, .bool rw, .string nm, .string dt] 58)).cell? ⟨w.heap.size, 4, none⟩ = some (.int .i64 n) := by simp [go_sem]
  have c_5 : (w.alloc (.cells #[.int .i64 k, .int .i64 cl, .int .i64 sq, .int .i64 pn, .int .i64 n, .int .i64 ep, .bool rw, .string nm, .string dt] 58)).cell? ⟨w.heap.size, 5, none⟩ = some (.int .i64 ep) := by simp [go_sem]
  have c_6 : (w.alloc (.cells #[.int .i64 k, .int .i64 cl, .int .i64 sq, .int .i64 pn, .int .i64 n, .int .i64 ep, .bool rw, .string nm, .string dt] 58)).cell? ⟨w.heap.size, 6, none⟩ = some (.bool rw) := by simp [go_sem]
  have c_7 : (w.alloc (.cells #[.int .i64 k, .int .i64 cl, .int .i64 sq, .int .i64 pn, .int .i64 n, .int .i64 ep, .bool rw, .string nm, .string dt] 58)).cell? ⟨w.heap.size, 7, none⟩ = some (.string nm) := by simp [go_sem]
  have c_8 : (w.alloc (.cells #[.int .i64 k, .int .i64 cl, .int .i64 sq, .int .i64 pn, .int .i64 n, .int .i64 ep, .bool rw, .string nm, .string dt] 58)).cell? ⟨w.heap.size, 8, none⟩ = some (.string dt) := by simp [go_sem]
  have HB0 : Hid (Below w.heap.size w (w.alloc (.cells #[.int .i64 k, .int .i64 cl, .int .i64 sq, .int .i64 pn, .int .i64 n, .int .i64 ep, .bool rw, .string nm, .string dt] 58))) := (Below.refl _ _).alloc (Nat.le_refl _) _
  have hz0 : w.heap.size < (w.alloc (.cells #[.int .i64 k, .int .i64 cl, .int .i64 sq, .int .i64 pn, .int .i64 n, .int .i64 ep, .bool rw, .string nm, .string dt] 58)).heap.size := by simp
  generalize w.alloc (.cells #[.int .i64 k, .int .i64 cl, .int .i64 sq, .int .i64 pn, .int .i64 n, .int .i64 ep, .bool rw, .string nm, .string dt] 58) = w0 at *
  refine wp_region_G (fun w' => w'.cell? ⟨w.heap.size, 0, none⟩ = some (.int .i64 k) ∧ w'.cell? ⟨w.heap.size, 1, none⟩ = some (.int .i64 cl) ∧ w'.cell? ⟨w.heap.size, 2, none⟩ = some (.int .i64 sq) ∧ w'.cell? ⟨w.heap.size, 3, none⟩ = some (.int .i64 pn) ∧ w'.cell? ⟨w.heap.size, 4, none⟩ = some (.int .i64 n) ∧ w'.cell? ⟨w.heap.size, 5, none⟩ = some (.int .i64 ep) ∧ w'.cell? ⟨w.heap.size, 6, none⟩ = some (.bool rw) ∧ w'.cell? ⟨w.heap.size, 7, none⟩ = some (.string nm) ∧ w'.cell? ⟨w.heap.size, 8, none⟩ = some (.string dt)) (fun _ => false) (by kernel_rfl) ⟨c_0, c_1, c_2, c_3, c_4, c_5, c_6, c_7, c_8⟩ ?_
  refine wpAnyG_takeW (i := 0) (v := ?_) rfl (by kernel_rfl) (by kernel_rfl) (by kernel_rfl) (fun _ _ _ h => h) (Or.inl ⟨by rfl, ?_⟩) ?_
  rotate_left
  · intro w' hSw
    go_simp
    try (with_reducible rfl)
  try simp only [Act.put, List.getElem_toArray, List.getElem_cons_zero, List.getElem_cons_succ, List.setIfInBounds_toArray, List.set_cons_zero, List.set_cons_succ]
  refine wpAnyG_take (i := 1) (v := ?_) rfl (by kernel_rfl) (by kernel_rfl) (by kernel_rfl) (by kernel_rfl) (fun _ _ _ h => h) ⟨c_0, c_1, c_2, c_3, c_4, c_5, c_6, c_7, c_8⟩ (Or.inl ⟨by rfl, ?_⟩) ?_
  rotate_left
  · intro w' hSw
    obtain ⟨h0, h1, h2, h3, h4, h5, h6, h7, h8⟩ := hSw
    go_simp
    try (with_reducible rfl)
  try simp only [Act.put, List.getElem_toArray, List.getElem_cons_zero, List.getElem_cons_succ, List.setIfInBounds_toArray, List.set_cons_zero, List.set_cons_succ]
  refine wpAnyG_takeW (i := 2) (v := ?_) rfl (by kernel_rfl) (by kernel_rfl) (by kernel_rfl) (fun _ _ _ h => h) (Or.inl ⟨by rfl, ?_⟩) ?_
  rotate_left
  · intro w' hSw
    go_simp
    try (with_reducible rfl)
  try simp only [Act.put, List.getElem_toArray, List.getElem_cons_zero, List.getElem_cons_succ, List.setIfInBounds_toArray, List.set_cons_zero, List.set_cons_succ]
  refine wpAnyG_take (i := 3) (v := ?_) rfl (by kernel_rfl) (by kernel_rfl) (by kernel_rfl) (by kernel_rfl) (fun _ _ _ h => h) ⟨c_0, c_1, c_2, c_3, c_4, c_5, c_6, c_7, c_8⟩ (Or.inl ⟨by rfl, ?_⟩) ?_
  rotate_left
  · intro w' hSw
    obtain ⟨h0, h1, h2, h3, h4, h5, h6, h7, h8⟩ := hSw
    go_simp
    try (with_reducible rfl)
  try simp only [Act.put, List.getElem_toArray, List.getElem_cons_zero, List.getElem_cons_succ, List.setIfInBounds_toArray, List.set_cons_zero, List.set_cons_succ]
  refine wpAnyG_takeW (i := 4) (v := ?_) rfl (by kernel_rfl) (by kernel_rfl) (by kernel_rfl) (fun _ _ _ h => h) (Or.inl ⟨by rfl, ?_⟩) ?_
  rotate_left
  · intro w' hSw
    go_simp
    try (with_reducible rfl)
  try simp only [Act.put, List.getElem_toArray, List.getElem_cons_zero, List.getElem_cons_succ, List.setIfInBounds_toArray, List.set_cons_zero, List.set_cons_succ]
  refine wpAnyG_take (i := 5) (v := ?_) rfl (by kernel_rfl) (by kernel_rfl) (by kernel_rfl) (by kernel_rfl) (fun _ _ _ h => h) ⟨c_0, c_1, c_2, c_3, c_4, c_5, c_6, c_7, c_8⟩ (Or.inl ⟨by rfl, ?_⟩) ?_
  rotate_left
  · intro w' hSw
    obtain ⟨h0, h1, h2, h3, h4, h5, h6, h7, h8⟩ := hSw
    go_simp
    try (with_reducible rfl)
  try simp only [Act.put, List.getElem_toArray, List.getElem_cons_zero, List.getElem_cons_succ, List.setIfInBounds_toArray, List.set_cons_zero, List.set_cons_succ]
  refine wpAnyG_takeW (i := 6) (v := ?_) rfl (by kernel_rfl) (by kernel_rfl) (by kernel_rfl) (fun _ _ _ h => h) (Or.inl ⟨by rfl, ?_⟩) ?_
  rotate_left
  · intro w' hSw
    go_simp
    try (with_reducible rfl)
  try simp only [Act.put, List.getElem_toArray, List.getElem_cons_zero, List.getElem_cons_succ, List.setIfInBounds_toArray, List.set_cons_zero, List.set_cons_succ]
  refine wpAnyG_take (i := 7) (v := ?_) rfl (by kernel_rfl) (by kernel_rfl) (by kernel_rfl) (by kernel_rfl) (fun _ _ _ h => h) ⟨c_0, c_1, c_2, c_3, c_4, c_5, c_6, c_7, c_8⟩ (Or.inl ⟨by rfl, ?_⟩) ?_
  rotate_left
  · intro w' hSw
    obtain ⟨h0, h1, h2, h3, h4, h5, h6, h7, h8⟩ := hSw
    go_simp
    try (with_reducible rfl)
  try simp only [Act.put, List.getElem_toArray, List.getElem_cons_zero, List.getElem_cons_succ, List.setIfInBounds_toArray, List.set_cons_zero, List.set_cons_succ]
  refine wpAnyG_takeW (i := 8) (v := ?_) rfl (by kernel_rfl) (by kernel_rfl) (by kernel_rfl) (fun _ _ _ h => h) (Or.inl ⟨by rfl, ?_⟩) ?_
  rotate_left
  · intro w' hSw
    go_simp
    try (with_reducible rfl)
  try simp only [Act.put, List.getElem_toArray, List.getElem_cons_zero, List.getElem_cons_succ, List.setIfInBounds_toArray, List.set_cons_zero, List.set_cons_succ]
  refine wpAnyG_take (i := 9) (v := ?_) rfl (by kernel_rfl) (by kernel_rfl) (by kernel_rfl) (by kernel_rfl) (fun _ _ _ h => h) ⟨c_0, c_1, c_2, c_3, c_4, c_5, c_6, c_7, c_8⟩ (Or.inl ⟨by rfl, ?_⟩) ?_
  rotate_left
  · intro w' hSw
    obtain ⟨h0, h1, h2, h3, h4, h5, h6, h7, h8⟩ := hSw
    go_simp
    try (with_reducible rfl)
  try simp only [Act.put, List.getElem_toArray, List.getElem_cons_zero, List.getElem_cons_succ, List.setIfInBounds_toArray, List.set_cons_zero, List.set_cons_succ]
  refine wpAnyG_takeW (i := 10) (v := ?_) rfl (by kernel_rfl) (by kernel_rfl) (by kernel_rfl) (fun _ _ _ h => h) (Or.inl ⟨by rfl, ?_⟩) ?_
  rotate_left
  · intro w' hSw
    go_simp
    try (with_reducible rfl)
  try simp only [Act.put, List.getElem_toArray, List.getElem_cons_zero, List.getElem_cons_succ, List.setIfInBounds_toArray, List.set_cons_zero, List.set_cons_succ]
  refine wpAnyG_takeW (i := 11) (v := ?_) rfl (by kernel_rfl) (by kernel_rfl) (by kernel_rfl) (fun _ _ _ h => h) (Or.inl ⟨by rfl, ?_⟩) ?_
  rotate_left
  · intro w' hSw
    go_simp
    try (with_reducible rfl)
  try simp only [Act.put, List.getElem_toArray, List.getElem_cons_zero, List.getElem_cons_succ, List.setIfInBounds_toArray, List.set_cons_zero, List.set_cons_succ]
  refine wpAnyG_take (i := 12) (v := ?_) rfl (by kernel_rfl) (by kernel_rfl) (by kernel_rfl) (by kernel_rfl) (fun _ _ _ h => h) ⟨c_0, c_1, c_2, c_3, c_4, c_5, c_6, c_7, c_8⟩ (Or.inl ⟨by rfl, ?_⟩) ?_
  rotate_left
  · intro w' hSw
    obtain ⟨h0, h1, h2, h3, h4, h5, h6, h7, h8⟩ := hSw
    go_simp
    try (with_reducible rfl)
  try simp only [Act.put, List.getElem_toArray, List.getElem_cons_zero, List.getElem_cons_succ, List.setIfInBounds_toArray, List.set_cons_zero, List.set_cons_succ]
  refine wpAnyG_takeW (i := 13) (v := ?_) rfl (by kernel_rfl) (by kernel_rfl) (by kernel_rfl) (fun _ _ _ h => h) (Or.inl ⟨by rfl, ?_⟩) ?_
  rotate_left
  · intro w' hSw
    go_simp
    try (with_reducible rfl)
  try simp only [Act.put, List.getElem_toArray, List.getElem_cons_zero, List.getElem_cons_succ, List.setIfInBounds_toArray, List.set_cons_zero, List.set_cons_succ]
  refine wpAnyG_take (i := 14) (v := ?_) rfl (by kernel_rfl) (by kernel_rfl) (by kernel_rfl) (by kernel_rfl) (fun _ _ _ h => h) ⟨c_0, c_1, c_2, c_3, c_4, c_5, c_6, c_7, c_8⟩ (Or.inl ⟨by rfl, ?_⟩) ?_
  rotate_left
  · intro w' hSw
    obtain ⟨h0, h1, h2, h3, h4, h5, h6, h7, h8⟩ := hSw
    go_simp
    try (with_reducible rfl)
  try simp only [Act.put, List.getElem_toArray, List.getElem_cons_zero, List.getElem_cons_succ, List.setIfInBounds_toArray, List.set_cons_zero, List.set_cons_succ]
  refine wpAnyG_takeW (i := 19) (v := ?_) rfl (by kernel_rfl) (by kernel_rfl) (by kernel_rfl) (fun _ _ _ h => h) (Or.inl ⟨by rfl, ?_⟩) ?_
  rotate_left
  · intro w' hSw
    go_simp
    try (with_reducible rfl)
  try simp only [Act.put, List.getElem_toArray, List.getElem_cons_zero, List.getElem_cons_succ, List.setIfInBounds_toArray, List.set_cons_zero, List.set_cons_succ]
  refine wpAnyG_take (i := 20) (v := ?_) rfl (by kernel_rfl) (by kernel_rfl) (by kernel_rfl) (by kernel_rfl) (fun _ _ _ h => h) ⟨c_0, c_1, c_2, c_3, c_4, c_5, c_6, c_7, c_8⟩ (Or.inl ⟨by rfl, ?_⟩) ?_
  rotate_left
  · intro w' hSw
    obtain ⟨h0, h1, h2, h3, h4, h5, h6, h7, h8⟩ := hSw
    go_simp
    try (with_reducible rfl)
  try simp only [Act.put, List.getElem_toArray, List.getElem_cons_zero, List.getElem_cons_succ, List.setIfInBounds_toArray, List.set_cons_zero, List.set_cons_succ]
  refine wpAnyG_takeW (i := 21) (v := ?_) rfl (by kernel_rfl) (by kernel_rfl) (by kernel_rfl) (fun _ _ _ h => h) (Or.inl ⟨by rfl, ?_⟩) ?_
  rotate_left
  · intro w' hSw
    go_simp
    try (with_reducible rfl)
  try simp only [Act.put, List.getElem_toArray, List.getElem_cons_zero, List.getElem_cons_succ, List.setIfInBounds_toArray, List.set_cons_zero, List.set_cons_succ]
  refine wpAnyG_take (i := 22) (v := ?_) rfl (by kernel_rfl) (by kernel_rfl) (by kernel_rfl) (by kernel_rfl) (fun _ _ _ h => h) ⟨c_0, c_1, c_2, c_3, c_4, c_5, c_6, c_7, c_8⟩ (Or.inl ⟨by rfl, ?_⟩) ?_
  rotate_left
  · intro w' hSw
    obtain ⟨h0, h1, h2, h3, h4, h5, h6, h7, h8⟩ := hSw
    go_simp
    try (with_reducible rfl)
  try simp only [Act.put, List.getElem_toArray, List.getElem_cons_zero, List.getElem_cons_succ, List.setIfInBounds_toArray, List.set_cons_zero, List.set_cons_succ]
  refine wpAnyG_one (i := 15) (by kernel_rfl) rfl ⟨c_0, c_1, c_2, c_3, c_4, c_5, c_6, c_7, c_8⟩ (fun K' hK => ?_)
  simp only [List.getElem_toArray, List.getElem_cons_zero, List.getElem_cons_succ]
  go_simp
  go_at_call 148
  refine (l01Bit_c _ _).mono ?_
  rintro e wx ⟨rfl, rfl⟩
  simp only []
  refine hK.out _ _ (Or.inr ⟨c_0, c_1, c_2, c_3, c_4, c_5, c_6, c_7, c_8⟩) ?_
  clear hK K'
  try simp only [Act.put, List.getElem_toArray, List.getElem_cons_zero, List.getElem_cons_succ, List.setIfInBounds_toArray, List.set_cons_zero, List.set_cons_succ]
  refine wpAnyG_one (i := 16) (by kernel_rfl) rfl ⟨c_0, c_1, c_2, c_3, c_4, c_5, c_6, c_7, c_8⟩ (fun K' hK => ?_)
  simp only [List.getElem_toArray, List.getElem_cons_zero, List.getElem_cons_succ]
  go_simp
  refine hK.out _ _ (Or.inr ⟨(World.cell?_alloc_lt w0 _ _ (by show w.heap.size < _; omega)).trans c_0, (World.cell?_alloc_lt w0 _ _ (by show w.heap.size < _; omega)).trans c_1, (World.cell?_alloc_lt w0 _ _ (by show w.heap.size < _; omega)).trans c_2, (World.cell?_alloc_lt w0 _ _ (by show w.heap.size < _; omega)).trans c_3, (World.cell?_alloc_lt w0 _ _ (by show w.heap.size < _; omega)).trans c_4, (World.cell?_alloc_lt w0 _ _ (by show w.heap.size < _; omega)).trans c_5, (World.cell?_alloc_lt w0 _ _ (by show w.heap.size < _; omega)).trans c_6, (World.cell?_alloc_lt w0 _ _ (by show w.heap.size < _; omega)).trans c_7, (World.cell?_alloc_lt w0 _ _ (by show w.heap.size < _; omega)).trans c_8⟩) ?_
  clear hK K'
  try simp only [Act.put, List.getElem_toArray, List.getElem_cons_zero, List.getElem_cons_succ, List.setIfInBounds_toArray, List.set_cons_zero, List.set_cons_succ]
  refine wpAnyG_one (i := 17) (by kernel_rfl) rfl ⟨(World.cell?_alloc_lt w0 _ _ (by show w.heap.size < _; omega)).trans c_0, (World.cell?_alloc_lt w0 _ _ (by show w.heap.size < _; omega)).trans c_1, (World.cell?_alloc_lt w0 _ _ (by show w.heap.size < _; omega)).trans c_2, (World.cell?_alloc_lt w0 _ _ (by show w.heap.size < _; omega)).trans c_3, (World.cell?_alloc_lt w0 _ _ (by show w.heap.size < _; omega)).trans c_4, (World.cell?_alloc_lt w0 _ _ (by show w.heap.size < _; omega)).trans c_5, (World.cell?_alloc_lt w0 _ _ (by show w.heap.size < _; omega)).trans c_6, (World.cell?_alloc_lt w0 _ _ (by show w.heap.size < _; omega)).trans c_7, (World.cell?_alloc_lt w0 _ _ (by show w.heap.size < _; omega)).trans c_8⟩ (fun K' hK => ?_)
  simp only [List.getElem_toArray, List.getElem_cons_zero, List.getElem_cons_succ]
  go_simp
  go_at_call 120
  refine (l02Numbers_c (some ⟨w0.heap.size, 0, none⟩) 7 [k, cl, sq, pn, n + 1000, ep, bitI rw] ((w0.alloc (.cells #[.int .i64 k, .int .i64 cl, .int .i64 sq, .int .i64 pn, .int .i64 (n + 1000), .int .i64 ep, .int .i64 (bitI rw)] 3)).drew) (Sl.boxL (enc := intE) (w := w0.drew) (fun _ => rfl) [k, cl, sq, pn, n + 1000, ep, bitI rw] #[.int .i64 k, .int .i64 cl, .int .i64 sq, .int .i64 pn, .int .i64 (n + 1000), .int .i64 ep, .int .i64 (bitI rw)] 3 rfl w0.heap.size rfl) (by simp) HNS.out).mono ?_
  rintro e w1 ⟨v1, rfl, hf1, hb1⟩
  obtain ⟨a1, c1, rfl, hc1, ho1⟩ := id hf1
  have hcv1 := fun c => conv_sl (ca := c) (hf1.here.sl fun _ => rfl)
  clear hf1 ho1
  have hz1 := hb1.size
  simp only [World.size_drew, World.size_alloc] at hz1
  have hw1 : w.heap.size < w1.heap.size := by omega
  have d_0 : w1.cell? ⟨w.heap.size, 0, none⟩ = some (.int .i64 k) := (hb1.cell (p := ⟨w.heap.size, 0, none⟩) (by show w.heap.size < (World.drew (World.alloc w0 _)).heap.size; rw [World.size_drew, World.size_alloc]; omega)).trans ((World.cell?_alloc_lt w0 _ _ (by show w.heap.size < _; omega)).trans c_0)
  have d_1 : w1.cell? ⟨w.heap.size, 1, none⟩ = some (.int .i64 cl) := (hb1.cell (p := ⟨w.heap.size, 1, none⟩) (by show w.heap.size < (World.drew (World.alloc w0 _)).heap.size; rw [World.size_drew, World.size_alloc]; omega)).trans ((World.cell?_alloc_lt w0 _ _ (by show w.heap.size < _; omega)).trans c_1)
  have d_2 : w1.cell? ⟨w.heap.size, 2, none⟩ = some (.int .i64 sq) := (hb1.cell (p := ⟨w.heap.size, 2, none⟩) (by show w.heap.size < (World.drew (World.alloc w0 _)).heap.size; rw [World.size_drew, World.size_alloc]; omega)).trans ((World.cell?_alloc_lt w0 _ _ (by show w.heap.size < _; omega)).trans c_2)
  have d_3 : w1.cell? ⟨w.heap.size, 3, none⟩ = some (.int .i64 pn) := (hb1.cell (p := ⟨w.heap.size, 3, none⟩) (by show w.heap.size < (World.drew (World.alloc w0 _)).heap.size; rw [World.size_drew, World.size_alloc]; omega)).trans ((World.cell?_alloc_lt w0 _ _ (by show w.heap.size < _; omega)).trans c_3)
  have d_4 : w1.cell? ⟨w.heap.size, 4, none⟩ = some (.int .i64 n) := (hb1.cell (p := ⟨w.heap.size, 4, none⟩) (by show w.heap.size < (World.drew (World.alloc w0 _)).heap.size; rw [World.size_drew, World.size_alloc]; omega)).trans ((World.cell?_alloc_lt w0 _ _ (by show w.heap.size < _; omega)).trans c_4)
  have d_5 : w1.cell? ⟨w.heap.size, 5, none⟩ = some (.int .i64 ep) := (hb1.cell (p := ⟨w.heap.size, 5, none⟩) (by show w.heap.size < (World.drew (World.alloc w0 _)).heap.size; rw [World.size_drew, World.size_alloc]; omega)).trans ((World.cell?_alloc_lt w0 _ _ (by show w.heap.size < _; omega)).trans c_5)
  have d_6 : w1.cell? ⟨w.heap.size, 6, none⟩ = some (.bool rw) := (hb1.cell (p := ⟨w.heap.size, 6, none⟩) (by show w.heap.size < (World.drew (World.alloc w0 _)).heap.size; rw [World.size_drew, World.size_alloc]; omega)).trans ((World.cell?_alloc_lt w0 _ _ (by show w.heap.size < _; omega)).trans c_6)
  have d_7 : w1.cell? ⟨w.heap.size, 7, none⟩ = some (.string nm) := (hb1.cell (p := ⟨w.heap.size, 7, none⟩) (by show w.heap.size < (World.drew (World.alloc w0 _)).heap.size; rw [World.size_drew, World.size_alloc]; omega)).trans ((World.cell?_alloc_lt w0 _ _ (by show w.heap.size < _; omega)).trans c_7)
  have d_8 : w1.cell? ⟨w.heap.size, 8, none⟩ = some (.string dt) := (hb1.cell (p := ⟨w.heap.size, 8, none⟩) (by show w.heap.size < (World.drew (World.alloc w0 _)).heap.size; rw [World.size_drew, World.size_alloc]; omega)).trans ((World.cell?_alloc_lt w0 _ _ (by show w.heap.size < _; omega)).trans c_8)
  have HB1 : Hid (Below w0.heap.size w0 w1) := (((Below.refl _ _).alloc (Nat.le_refl _) _).drew).trans (hb1.mono (by rw [World.size_drew, World.size_alloc]; omega))
  clear hb1
  simp only []
  refine hK.out _ _ (Or.inr ⟨d_0, d_1, d_2, d_3, d_4, d_5, d_6, d_7, d_8⟩) ?_
  clear hK K'
  try simp only [Act.put, List.getElem_toArray, List.getElem_cons_zero, List.getElem_cons_succ, List.setIfInBounds_toArray, List.set_cons_zero, List.set_cons_succ]
  refine wpAnyG_one (i := 18) (by kernel_rfl) rfl ⟨d_0, d_1, d_2, d_3, d_4, d_5, d_6, d_7, d_8⟩ (fun K' hK => ?_)
  simp only [List.getElem_toArray, List.getElem_cons_zero, List.getElem_cons_succ]
  go_simp
  refine hK.out _ _ (Or.inr ⟨d_0, d_1, d_2, d_3, d_4, d_5, d_6, d_7, d_8⟩) ?_
  clear hK K'
  try simp only [Act.put, List.getElem_toArray, List.getElem_cons_zero, List.getElem_cons_succ, List.setIfInBounds_toArray, List.set_cons_zero, List.set_cons_succ]
  refine wpAnyG_one (i := 23) (by kernel_rfl) rfl ⟨d_0, d_1, d_2, d_3, d_4, d_5, d_6, d_7, d_8⟩ (fun K' hK => ?_)
  simp only [List.getElem_toArray, List.getElem_cons_zero, List.getElem_cons_succ]
  go_simp
  refine hK.out _ _ (Or.inr ⟨(World.cell?_alloc_lt w1 _ _ (by show w.heap.size < _; omega)).trans d_0, (World.cell?_alloc_lt w1 _ _ (by show w.heap.size < _; omega)).trans d_1, (World.cell?_alloc_lt w1 _ _ (by show w.heap.size < _; omega)).trans d_2, (World.cell?_alloc_lt w1 _ _ (by show w.heap.size < _; omega)).trans d_3, (World.cell?_alloc_lt w1 _ _ (by show w.heap.size < _; omega)).trans d_4, (World.cell?_alloc_lt w1 _ _ (by show w.heap.size < _; omega)).trans d_5, (World.cell?_alloc_lt w1 _ _ (by show w.heap.size < _; omega)).trans d_6, (World.cell?_alloc_lt w1 _ _ (by show w.heap.size < _; omega)).trans d_7, (World.cell?_alloc_lt w1 _ _ (by show w.heap.size < _; omega)).trans d_8⟩) ?_
  clear hK K'
  try simp only [Act.put, List.getElem_toArray, List.getElem_cons_zero, List.getElem_cons_succ, List.setIfInBounds_toArray, List.set_cons_zero, List.set_cons_succ]
  refine wpAnyG_one (i := 24) (by kernel_rfl) rfl ⟨(World.cell?_alloc_lt w1 _ _ (by show w.heap.size < _; omega)).trans d_0, (World.cell?_alloc_lt w1 _ _ (by show w.heap.size < _; omega)).trans d_1, (World.cell?_alloc_lt w1 _ _ (by show w.heap.size < _; omega)).trans d_2, (World.cell?_alloc_lt w1 _ _ (by show w.heap.size < _; omega)).trans d_3, (World.cell?_alloc_lt w1 _ _ (by show w.heap.size < _; omega)).trans d_4, (World.cell?_alloc_lt w1 _ _ (by show w.heap.size < _; omega)).trans d_5, (World.cell?_alloc_lt w1 _ _ (by show w.heap.size < _; omega)).trans d_6, (World.cell?_alloc_lt w1 _ _ (by show w.heap.size < _; omega)).trans d_7, (World.cell?_alloc_lt w1 _ _ (by show w.heap.size < _; omega)).trans d_8⟩ (fun K' hK => ?_)
  simp only [List.getElem_toArray, List.getElem_cons_zero, List.getElem_cons_succ]
  go_simp
  go_at_call 119
  refine (l02Fields_c (some ⟨w1.heap.size, 0, none⟩) 3 [strOf (numL [k, cl, sq, pn, n + 1000, ep, bitI rw]), nm, dt] (w1.alloc (.cells #[.string (strOf (numL [k, cl, sq, pn, n + 1000, ep, bitI rw])), .string nm, .string dt] 9)) (Sl.boxL (enc := strE) (w := w1) (fun _ => rfl) [strOf (numL [k, cl, sq, pn, n + 1000, ep, bitI rw]), nm, dt] #[.string (strOf (numL [k, cl, sq, pn, n + 1000, ep, bitI rw])), .string nm, .string dt] 9 rfl w1.heap.size rfl) (by simp) HF3.out).mono ?_
  rintro e w2 ⟨v2, rfl, hf2, hb2⟩
  obtain ⟨a2, c2, rfl, hc2, ho2⟩ := id hf2
  have hcv2 := fun c => conv_sl (ca := c) (hf2.here.sl fun _ => rfl)
  clear hf2 ho2
  have hz2 := hb2.size
  simp only [World.size_alloc] at hz2
  have hw2 : w.heap.size < w2.heap.size := by omega
  have g_0 : w2.cell? ⟨w.heap.size, 0, none⟩ = some (.int .i64 k) := (hb2.cell (p := ⟨w.heap.size, 0, none⟩) (by show w.heap.size < (World.alloc w1 _).heap.size; rw [World.size_alloc]; omega)).trans ((World.cell?_alloc_lt w1 _ _ (by show w.heap.size < _; omega)).trans d_0)
  have g_1 : w2.cell? ⟨w.heap.size, 1, none⟩ = some (.int .i64 cl) := (hb2.cell (p := ⟨w.heap.size, 1, none⟩) (by show w.heap.size < (World.alloc w1 _).heap.size; rw [World.size_alloc]; omega)).trans ((World.cell?_alloc_lt w1 _ _ (by show w.heap.size < _; omega)).trans d_1)
  have g_2 : w2.cell? ⟨w.heap.size, 2, none⟩ = some (.int .i64 sq) := (hb2.cell (p := ⟨w.heap.size, 2, none⟩) (by show w.heap.size < (World.alloc w1 _).heap.size; rw [World.size_alloc]; omega)).trans ((World.cell?_alloc_lt w1 _ _ (by show w.heap.size < _; omega)).trans d_2)
  have g_3 : w2.cell? ⟨w.heap.size, 3, none⟩ = some (.int .i64 pn) := (hb2.cell (p := ⟨w.heap.size, 3, none⟩) (by show w.heap.size < (World.alloc w1 _).heap.size; rw [World.size_alloc]; omega)).trans ((World.cell?_alloc_lt w1 _ _ (by show w.heap.size < _; omega)).trans d_3)
  have g_4 : w2.cell? ⟨w.heap.size, 4, none⟩ = some (.int .i64 n) := (hb2.cell (p := ⟨w.heap.size, 4, none⟩) (by show w.heap.size < (World.alloc w1 _).heap.size; rw [World.size_alloc]; omega)).trans ((World.cell?_alloc_lt w1 _ _ (by show w.heap.size < _; omega)).trans d_4)
  have g_5 : w2.cell? ⟨w.heap.size, 5, none⟩ = some (.int .i64 ep) := (hb2.cell (p := ⟨w.heap.size, 5, none⟩) (by show w.heap.size < (World.alloc w1 _).heap.size; rw [World.size_alloc]; omega)).trans ((World.cell?_alloc_lt w1 _ _ (by show w.heap.size < _; omega)).trans d_5)
  have g_6 : w2.cell? ⟨w.heap.size, 6, none⟩ = some (.bool rw) := (hb2.cell (p := ⟨w.heap.size, 6, none⟩) (by show w.heap.size < (World.alloc w1 _).heap.size; rw [World.size_alloc]; omega)).trans ((World.cell?_alloc_lt w1 _ _ (by show w.heap.size < _; omega)).trans d_6)
  have g_7 : w2.cell? ⟨w.heap.size, 7, none⟩ = some (.string nm) := (hb2.cell (p := ⟨w.heap.size, 7, none⟩) (by show w.heap.size < (World.alloc w1 _).heap.size; rw [World.size_alloc]; omega)).trans ((World.cell?_alloc_lt w1 _ _ (by show w.heap.size < _; omega)).trans d_7)
  have g_8 : w2.cell? ⟨w.heap.size, 8, none⟩ = some (.string dt) := (hb2.cell (p := ⟨w.heap.size, 8, none⟩) (by show w.heap.size < (World.alloc w1 _).heap.size; rw [World.size_alloc]; omega)).trans ((World.cell?_alloc_lt w1 _ _ (by show w.heap.size < _; omega)).trans d_8)
  have HB2 : Hid (Below w0.heap.size w0 w2) := (HB1.out.alloc (by omega) _).trans (hb2.mono (by rw [World.size_alloc]; omega))
  clear hb2
  simp only []
  refine hK.out _ _ (Or.inr ⟨g_0, g_1, g_2, g_3, g_4, g_5, g_6, g_7, g_8⟩) ?_
  clear hK K'
  try simp only [Act.put, List.getElem_toArray, List.getElem_cons_zero, List.getElem_cons_succ, List.setIfInBounds_toArray, List.set_cons_zero, List.set_cons_succ]
  refine wpAnyG_one (i := 25) (by kernel_rfl) rfl ⟨g_0, g_1, g_2, g_3, g_4, g_5, g_6, g_7, g_8⟩ (fun K' hK => ?_)
  simp only [List.getElem_toArray, List.getElem_cons_zero, List.getElem_cons_succ]
  go_simp
  refine hK.out _ _ (Or.inr ⟨g_0, g_1, g_2, g_3, g_4, g_5, g_6, g_7, g_8⟩) ?_
  clear hK K'
  try simp only [Act.put, List.getElem_toArray, List.getElem_cons_zero, List.getElem_cons_succ, List.setIfInBounds_toArray, List.set_cons_zero, List.set_cons_succ]
  refine wpAnyG_takeW (i := 26) (v := ?_) rfl (by kernel_rfl) (by kernel_rfl) (by kernel_rfl) (fun _ _ _ h => h) (Or.inl ⟨by rfl, ?_⟩) ?_
  rotate_left
  · intro w' hSw
    go_simp
    try (with_reducible rfl)
  try simp only [Act.put, List.getElem_toArray, List.getElem_cons_zero, List.getElem_cons_succ, List.setIfInBounds_toArray, List.set_cons_zero, List.set_cons_succ]
  refine wpAnyG_done (by kernel_rfl) ?_ _
  all_goals
    go_wp2_with fail
    go_ret
    exact ⟨rfl, HB0.out.trans (HB2.out.mono (by omega))⟩
end Go.Proofs.Ytmdjcoeijlnloaa
