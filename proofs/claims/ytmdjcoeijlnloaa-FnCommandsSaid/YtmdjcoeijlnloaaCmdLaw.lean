/- The law FnCommands: reading, writing and drawing commands; its walk. -/
import Derived.Test.YtmdjcoeijlnloaaCmd6
import Derived.Test.YtmdjcoeijlnloaaRcvAll
import Derived.Test.YtmdjcoeijlnloaaLong
import Derived.Test.YtmdjcoeijlnloaaCmd4
import Derived.Test.YtmdjcoeijlnloaaSrcAll
import Derived.Deep.DeepCutAuto
import Derived.Test.YtmdjcoeijlnloaaScalar
import Derived.Test.YtmdjcoeijlnloaaSl
import Derived.Lib.Hide
import Derived.BigQuiet
namespace Go.Proofs.Ytmdjcoeijlnloaa
set_option linter.unusedVariables false
set_option linter.unusedSimpArgs false
section
open Go.RowKit
open Classical in
noncomputable def rdCode (l : List UInt8) : Int := if 65536 < l.length then 2 else if NoCmd l then 3 else 0
def RdC (l : List UInt8) (w : World) (e : Ending) (w' : World) : Prop :=
  ∃ (k cl sq pn n ep : Int) (rw : Bool) (nm dt : ByteArray), e = .returned (.tuple #[.agg #[.int .i64 k, .int .i64 cl, .int .i64 sq, .int .i64 pn, .int .i64 n, .int .i64 ep, .bool rw, .string nm, .string dt], .int .i64 (rdCode l)]) ∧ nm.size ≤ 1048576 ∧ dt.size ≤ 1048576 ∧ (rdCode l = 0 → CmdIs l k cl sq pn n ep rw nm dt) ∧ Below w.heap.size w w'
theorem rdCode_is {l : List UInt8} {k cl sq pn n ep : Int} {rw : Bool} {nm dt : ByteArray} (h : CmdIs l k cl sq pn n ep rw nm dt) : rdCode l = 0 := by
  have h1 := h.len
  rw [rdCode, if_neg (by omega), if_neg (fun hn => hn k cl sq pn n ep rw nm dt h)]
theorem rdCode_no {l : List UInt8} (hl : l.length ≤ 65536) (h : NoCmd l) : rdCode l = 3 := by
  rw [rdCode, if_neg (by omega), if_pos h]
theorem rdCode_long {l : List UInt8} (hl : 65536 < l.length) : rdCode l = 2 := by rw [rdCode, if_pos hl]
set_option maxRecDepth 100000 in
set_option maxHeartbeats 16000000 in
theorem implReadCmd_c (a : Option Addr) (ca : Nat) (l : List UInt8) (w : World) (ha : Sl byteE 1 w a l) (hl : l.length ≤ 1048576) :
    Calls Try.prog 37 #[.slice a l.length ca] w (RdC l w) := by
  by_cases h1 : 65536 < l.length
  · have h1' : (65536 : Int) < (l.length : Int) := by omega
    have HR := Lib.hid (rdCode_long h1)
    have HL : Hid (longP (l.length : Int) = true) := Lib.hid (by simp [longP]; omega)
    clear h1
    go_enter Try.func37, Try.ntmps37
    go_wp2_with fail
    refine Calls.mono (isLong1_c _ (l.length) _ _ ?_ ?_) ?_
    · simp
    · simp [go_sem]
    rw [HL.out]
    rintro e w1 ⟨rfl, rfl⟩
    go_wp2_with fail
    refine bodyPost_ret (v := .tuple #[.agg #[.int .i64 0, .int .i64 0, .int .i64 0, .int .i64 0, .int .i64 0, .int .i64 0, .bool false, .string ⟨#[]⟩, .string ⟨#[]⟩], .int .i64 2]) (by simp [results, Try.results37, go_sem]) rfl ?_
    exact ⟨0, 0, 0, 0, 0, 0, false, ⟨#[]⟩, ⟨#[]⟩, by rw [HR.out], Nat.zero_le _, Nat.zero_le _, (fun h => by rw [HR.out] at h; cases h), by
        repeat (first | (with_reducible exact Below.refl _ _) | (with_reducible refine Below.setCell ?_ ?_ _; rotate_left; ((try simp) <;> (try omega))) | (with_reducible refine Below.alloc ?_ ?_ _; rotate_left; ((try simp) <;> (try omega))))⟩
  have h1' : (l.length : Int) ≤ 65536 := by omega
  have hl65 : l.length ≤ 65536 := by omega
  have HL : Hid (longP (l.length : Int) = false) := Lib.hid (by simp [longP]; omega)
  clear h1
  go_enter Try.func37, Try.ntmps37
  go_wp2_with fail
  refine Calls.mono (isLong1_c _ (l.length) _ _ ?_ ?_) ?_
  · simp
  · simp [go_sem]
  rw [HL.out]
  rintro e w1 ⟨rfl, rfl⟩
  have HSL : Hid (Sl byteE 1 ((w.alloc (.cells #[.int .i64 0, .int .i64 0, .int .i64 0, .int .i64 0, .int .i64 0, .int .i64 0, .bool false, .string ⟨#[]⟩, .string ⟨#[]⟩] 58)).alloc (.cells #[.int .i64 l.length] 3)) a l) := (ha.alloc _).alloc _
  have hcv := conv_sl (ca := ca) HSL.out
  clear ha
  go_wp2_with fail
  clear hcv
  refine (readCommand_c l _ hl65).mono ?_
  rintro e w1 ⟨k, cl, sq, pn, n, ep, rw, nm, dt, ok, rfl, hnm, hdt, hyes, hno, hb1⟩
  have hz1 := hb1.size
  simp only [World.size_alloc] at hz1
  have hH1 : w.heap.size < w1.heap.size := by omega
  have hHn : ¬ w.heap.size = w1.heap.size := by omega
  have hHm : ¬ w1.heap.size = w.heap.size := by omega
  have z_0 : w1.cell? ⟨w.heap.size, 0, none⟩ = some (.int .i64 0) := (hb1.cell (p := ⟨w.heap.size, 0, none⟩) (by show w.heap.size < _; simp only [World.size_alloc]; omega)).trans (by simp [go_sem])
  have y_0 : ∀ x, (w1.alloc x).cell? ⟨w.heap.size, 0, none⟩ = some (.int .i64 0) := fun x => by
    rw [World.cell?_alloc_lt _ _ _ (by show w.heap.size < _; omega)]
    exact z_0
  have z_1 : w1.cell? ⟨w.heap.size, 1, none⟩ = some (.int .i64 0) := (hb1.cell (p := ⟨w.heap.size, 1, none⟩) (by show w.heap.size < _; simp only [World.size_alloc]; omega)).trans (by simp [go_sem])
  have y_1 : ∀ x, (w1.alloc x).cell? ⟨w.heap.size, 1, none⟩ = some (.int .i64 0) := fun x => by
    rw [World.cell?_alloc_lt _ _ _ (by show w.heap.size < _; omega)]
    exact z_1
  have z_2 : w1.cell? ⟨w.heap.size, 2, none⟩ = some (.int .i64 0) := (hb1.cell (p := ⟨w.heap.size, 2, none⟩) (by show w.heap.size < _; simp only [World.size_alloc]; omega)).trans (by simp [go_sem])
  have y_2 : ∀ x, (w1.alloc x).cell? ⟨w.heap.size, 2, none⟩ = some (.int .i64 0) := fun x => by
    rw [World.cell?_alloc_lt _ _ _ (by show w.heap.size < _; omega)]
    exact z_2
  have z_3 : w1.cell? ⟨w.heap.size, 3, none⟩ = some (.int .i64 0) := (hb1.cell (p := ⟨w.heap.size, 3, none⟩) (by show w.heap.size < _; simp only [World.size_alloc]; omega)).trans (by simp [go_sem])
  have y_3 : ∀ x, (w1.alloc x).cell? ⟨w.heap.size, 3, none⟩ = some (.int .i64 0) := fun x => by
    rw [World.cell?_alloc_lt _ _ _ (by show w.heap.size < _; omega)]
    exact z_3
  have z_4 : w1.cell? ⟨w.heap.size, 4, none⟩ = some (.int .i64 0) := (hb1.cell (p := ⟨w.heap.size, 4, none⟩) (by show w.heap.size < _; simp only [World.size_alloc]; omega)).trans (by simp [go_sem])
  have y_4 : ∀ x, (w1.alloc x).cell? ⟨w.heap.size, 4, none⟩ = some (.int .i64 0) := fun x => by
    rw [World.cell?_alloc_lt _ _ _ (by show w.heap.size < _; omega)]
    exact z_4
  have z_5 : w1.cell? ⟨w.heap.size, 5, none⟩ = some (.int .i64 0) := (hb1.cell (p := ⟨w.heap.size, 5, none⟩) (by show w.heap.size < _; simp only [World.size_alloc]; omega)).trans (by simp [go_sem])
  have y_5 : ∀ x, (w1.alloc x).cell? ⟨w.heap.size, 5, none⟩ = some (.int .i64 0) := fun x => by
    rw [World.cell?_alloc_lt _ _ _ (by show w.heap.size < _; omega)]
    exact z_5
  have z_6 : w1.cell? ⟨w.heap.size, 6, none⟩ = some (.bool false) := (hb1.cell (p := ⟨w.heap.size, 6, none⟩) (by show w.heap.size < _; simp only [World.size_alloc]; omega)).trans (by simp [go_sem])
  have y_6 : ∀ x, (w1.alloc x).cell? ⟨w.heap.size, 6, none⟩ = some (.bool false) := fun x => by
    rw [World.cell?_alloc_lt _ _ _ (by show w.heap.size < _; omega)]
    exact z_6
  have z_7 : w1.cell? ⟨w.heap.size, 7, none⟩ = some (.string ⟨#[]⟩) := (hb1.cell (p := ⟨w.heap.size, 7, none⟩) (by show w.heap.size < _; simp only [World.size_alloc]; omega)).trans (by simp [go_sem])
  have y_7 : ∀ x, (w1.alloc x).cell? ⟨w.heap.size, 7, none⟩ = some (.string ⟨#[]⟩) := fun x => by
    rw [World.cell?_alloc_lt _ _ _ (by show w.heap.size < _; omega)]
    exact z_7
  have z_8 : w1.cell? ⟨w.heap.size, 8, none⟩ = some (.string ⟨#[]⟩) := (hb1.cell (p := ⟨w.heap.size, 8, none⟩) (by show w.heap.size < _; simp only [World.size_alloc]; omega)).trans (by simp [go_sem])
  have y_8 : ∀ x, (w1.alloc x).cell? ⟨w.heap.size, 8, none⟩ = some (.string ⟨#[]⟩) := fun x => by
    rw [World.cell?_alloc_lt _ _ _ (by show w.heap.size < _; omega)]
    exact z_8
  have zf : ∀ o, w1.frozen? ⟨w.heap.size, o, none⟩ = false := fun o => (hb1.frozen (p := ⟨w.heap.size, o, none⟩) (by show w.heap.size < _; simp only [World.size_alloc]; omega)).trans (by simp [go_sem])
  have yf : ∀ x o, (w1.alloc x).frozen? ⟨w.heap.size, o, none⟩ = false := fun x o => (((Below.refl _ _).alloc (Nat.le_refl _) _ : Below _ _ _).frozen (p := ⟨w.heap.size, o, none⟩) (by show w.heap.size < _; omega)).trans (zf o)
  have HB1 : Hid (Below w.heap.size w w1) := (((Below.refl _ _).alloc (Nat.le_refl _) _).alloc (by simp) _).trans (hb1.mono (by simp only [World.size_alloc]; omega))
  clear hb1
  have HYES := Lib.hid hyes
  have HNO := Lib.hid hno
  clear hyes hno
  cases ok
  case false =>
    have HR := Lib.hid (rdCode_no hl65 (show NoCmd l from by first | exact HNO.out rfl | exact HNO.out trivial))
    go_wp2_with fail
    refine bodyPost_ret (v := .tuple #[.agg #[.int .i64 0, .int .i64 0, .int .i64 0, .int .i64 0, .int .i64 0, .int .i64 0, .bool false, .string ⟨#[]⟩, .string ⟨#[]⟩], .int .i64 3]) (by simp [results, Try.results37, go_sem, z_0, y_0, z_1, y_1, z_2, y_2, z_3, y_3, z_4, y_4, z_5, y_5, z_6, y_6, z_7, y_7, z_8, y_8, zf, yf, hHn, hHm, World.cell?_alloc_lt, hH1]) rfl ?_
    exact ⟨0, 0, 0, 0, 0, 0, false, ⟨#[]⟩, ⟨#[]⟩, by rw [HR.out], Nat.zero_le _, Nat.zero_le _, (fun h => by rw [HR.out] at h; cases h), by
        repeat (first | (with_reducible exact HB1.out) | (with_reducible refine Below.setCell ?_ ?_ _; rotate_left; ((try simp) <;> (try omega))) | (with_reducible refine Below.alloc ?_ ?_ _; rotate_left; ((try simp) <;> (try omega))))⟩
  case true =>
    have HR := Lib.hid (rdCode_is (show CmdIs l k cl sq pn n ep rw nm dt from by first | exact HYES.out rfl | exact HYES.out trivial))
    go_wp2_with fail
    refine bodyPost_ret (v := .tuple #[.agg #[.int .i64 k, .int .i64 cl, .int .i64 sq, .int .i64 pn, .int .i64 n, .int .i64 ep, .bool rw, .string nm, .string dt], .int .i64 0]) (by simp [results, Try.results37, go_sem, z_0, y_0, z_1, y_1, z_2, y_2, z_3, y_3, z_4, y_4, z_5, y_5, z_6, y_6, z_7, y_7, z_8, y_8, zf, yf, hHn, hHm, World.cell?_alloc_lt, hH1]) rfl ?_
    exact ⟨k, cl, sq, pn, n, ep, rw, nm, dt, by rw [HR.out], hnm, hdt, (fun _ => by first | exact HYES.out rfl | exact HYES.out trivial), by
        repeat (first | (with_reducible exact HB1.out) | (with_reducible refine Below.setCell ?_ ?_ _; rotate_left; ((try simp) <;> (try omega))) | (with_reducible refine Below.alloc ?_ ?_ _; rotate_left; ((try simp) <;> (try omega))))⟩
set_option maxRecDepth 100000 in
set_option maxHeartbeats 16000000 in
theorem specReadCmd_c (a : Option Addr) (ca : Nat) (l : List UInt8) (w : World) (ha : Sl byteE 1 w a l) (hl : l.length ≤ 1048576) :
    Calls Try.prog 39 #[.slice a l.length ca] w (RdC l w) := by
  by_cases h1 : 65536 < l.length
  · have h1' : (65536 : Int) < (l.length : Int) := by omega
    have HR := Lib.hid (rdCode_long h1)
    clear h1
    go_enter Try.func39, Try.ntmps39
    go_wp2_with fail
    refine bodyPost_ret (v := .tuple #[.agg #[.int .i64 0, .int .i64 0, .int .i64 0, .int .i64 0, .int .i64 0, .int .i64 0, .bool false, .string ⟨#[]⟩, .string ⟨#[]⟩], .int .i64 2]) (by simp [results, Try.results39, go_sem]) rfl ?_
    exact ⟨0, 0, 0, 0, 0, 0, false, ⟨#[]⟩, ⟨#[]⟩, by rw [HR.out], Nat.zero_le _, Nat.zero_le _, (fun h => by rw [HR.out] at h; cases h), by
        repeat (first | (with_reducible exact Below.refl _ _) | (with_reducible refine Below.setCell ?_ ?_ _; rotate_left; ((try simp) <;> (try omega))) | (with_reducible refine Below.alloc ?_ ?_ _; rotate_left; ((try simp) <;> (try omega))))⟩
  have h1' : (l.length : Int) ≤ 65536 := by omega
  have hl65 : l.length ≤ 65536 := by omega
  clear h1
  go_enter Try.func39, Try.ntmps39
  have HSL : Hid (Sl byteE 1 (w.alloc (.cells #[.int .i64 0, .int .i64 0, .int .i64 0, .int .i64 0, .int .i64 0, .int .i64 0, .bool false, .string ⟨#[]⟩, .string ⟨#[]⟩] 58)) a l) := ha.alloc _
  have hcv := conv_sl (ca := ca) HSL.out
  clear ha
  go_wp2_with fail
  clear hcv
  refine (l06Read_c l _ hl65).mono ?_
  rintro e w1 ⟨k, cl, sq, pn, n, ep, rw, nm, dt, ok, rfl, hnm, hdt, hyes, hno, hb1⟩
  have hz1 := hb1.size
  simp only [World.size_alloc] at hz1
  have hH1 : w.heap.size < w1.heap.size := by omega
  have hHn : ¬ w.heap.size = w1.heap.size := by omega
  have hHm : ¬ w1.heap.size = w.heap.size := by omega
  have z_0 : w1.cell? ⟨w.heap.size, 0, none⟩ = some (.int .i64 0) := (hb1.cell (p := ⟨w.heap.size, 0, none⟩) (by show w.heap.size < _; simp only [World.size_alloc]; omega)).trans (by simp [go_sem])
  have y_0 : ∀ x, (w1.alloc x).cell? ⟨w.heap.size, 0, none⟩ = some (.int .i64 0) := fun x => by
    rw [World.cell?_alloc_lt _ _ _ (by show w.heap.size < _; omega)]
    exact z_0
  have z_1 : w1.cell? ⟨w.heap.size, 1, none⟩ = some (.int .i64 0) := (hb1.cell (p := ⟨w.heap.size, 1, none⟩) (by show w.heap.size < _; simp only [World.size_alloc]; omega)).trans (by simp [go_sem])
  have y_1 : ∀ x, (w1.alloc x).cell? ⟨w.heap.size, 1, none⟩ = some (.int .i64 0) := fun x => by
    rw [World.cell?_alloc_lt _ _ _ (by show w.heap.size < _; omega)]
    exact z_1
  have z_2 : w1.cell? ⟨w.heap.size, 2, none⟩ = some (.int .i64 0) := (hb1.cell (p := ⟨w.heap.size, 2, none⟩) (by show w.heap.size < _; simp only [World.size_alloc]; omega)).trans (by simp [go_sem])
  have y_2 : ∀ x, (w1.alloc x).cell? ⟨w.heap.size, 2, none⟩ = some (.int .i64 0) := fun x => by
    rw [World.cell?_alloc_lt _ _ _ (by show w.heap.size < _; omega)]
    exact z_2
  have z_3 : w1.cell? ⟨w.heap.size, 3, none⟩ = some (.int .i64 0) := (hb1.cell (p := ⟨w.heap.size, 3, none⟩) (by show w.heap.size < _; simp only [World.size_alloc]; omega)).trans (by simp [go_sem])
  have y_3 : ∀ x, (w1.alloc x).cell? ⟨w.heap.size, 3, none⟩ = some (.int .i64 0) := fun x => by
    rw [World.cell?_alloc_lt _ _ _ (by show w.heap.size < _; omega)]
    exact z_3
  have z_4 : w1.cell? ⟨w.heap.size, 4, none⟩ = some (.int .i64 0) := (hb1.cell (p := ⟨w.heap.size, 4, none⟩) (by show w.heap.size < _; simp only [World.size_alloc]; omega)).trans (by simp [go_sem])
  have y_4 : ∀ x, (w1.alloc x).cell? ⟨w.heap.size, 4, none⟩ = some (.int .i64 0) := fun x => by
    rw [World.cell?_alloc_lt _ _ _ (by show w.heap.size < _; omega)]
    exact z_4
  have z_5 : w1.cell? ⟨w.heap.size, 5, none⟩ = some (.int .i64 0) := (hb1.cell (p := ⟨w.heap.size, 5, none⟩) (by show w.heap.size < _; simp only [World.size_alloc]; omega)).trans (by simp [go_sem])
  have y_5 : ∀ x, (w1.alloc x).cell? ⟨w.heap.size, 5, none⟩ = some (.int .i64 0) := fun x => by
    rw [World.cell?_alloc_lt _ _ _ (by show w.heap.size < _; omega)]
    exact z_5
  have z_6 : w1.cell? ⟨w.heap.size, 6, none⟩ = some (.bool false) := (hb1.cell (p := ⟨w.heap.size, 6, none⟩) (by show w.heap.size < _; simp only [World.size_alloc]; omega)).trans (by simp [go_sem])
  have y_6 : ∀ x, (w1.alloc x).cell? ⟨w.heap.size, 6, none⟩ = some (.bool false) := fun x => by
    rw [World.cell?_alloc_lt _ _ _ (by show w.heap.size < _; omega)]
    exact z_6
  have z_7 : w1.cell? ⟨w.heap.size, 7, none⟩ = some (.string ⟨#[]⟩) := (hb1.cell (p := ⟨w.heap.size, 7, none⟩) (by show w.heap.size < _; simp only [World.size_alloc]; omega)).trans (by simp [go_sem])
  have y_7 : ∀ x, (w1.alloc x).cell? ⟨w.heap.size, 7, none⟩ = some (.string ⟨#[]⟩) := fun x => by
    rw [World.cell?_alloc_lt _ _ _ (by show w.heap.size < _; omega)]
    exact z_7
  have z_8 : w1.cell? ⟨w.heap.size, 8, none⟩ = some (.string ⟨#[]⟩) := (hb1.cell (p := ⟨w.heap.size, 8, none⟩) (by show w.heap.size < _; simp only [World.size_alloc]; omega)).trans (by simp [go_sem])
  have y_8 : ∀ x, (w1.alloc x).cell? ⟨w.heap.size, 8, none⟩ = some (.string ⟨#[]⟩) := fun x => by
    rw [World.cell?_alloc_lt _ _ _ (by show w.heap.size < _; omega)]
    exact z_8
  have zf : ∀ o, w1.frozen? ⟨w.heap.size, o, none⟩ = false := fun o => (hb1.frozen (p := ⟨w.heap.size, o, none⟩) (by show w.heap.size < _; simp only [World.size_alloc]; omega)).trans (by simp [go_sem])
  have yf : ∀ x o, (w1.alloc x).frozen? ⟨w.heap.size, o, none⟩ = false := fun x o => (((Below.refl _ _).alloc (Nat.le_refl _) _ : Below _ _ _).frozen (p := ⟨w.heap.size, o, none⟩) (by show w.heap.size < _; omega)).trans (zf o)
  have HB1 : Hid (Below w.heap.size w w1) := ((Below.refl _ _).alloc (Nat.le_refl _) _).trans (hb1.mono (by simp only [World.size_alloc]; omega))
  clear hb1
  have HYES := Lib.hid hyes
  have HNO := Lib.hid hno
  clear hyes hno
  cases ok
  case false =>
    have HR := Lib.hid (rdCode_no hl65 (show NoCmd l from by first | exact HNO.out rfl | exact HNO.out trivial))
    go_wp2_with fail
    refine bodyPost_ret (v := .tuple #[.agg #[.int .i64 0, .int .i64 0, .int .i64 0, .int .i64 0, .int .i64 0, .int .i64 0, .bool false, .string ⟨#[]⟩, .string ⟨#[]⟩], .int .i64 3]) (by simp [results, Try.results39, go_sem, z_0, y_0, z_1, y_1, z_2, y_2, z_3, y_3, z_4, y_4, z_5, y_5, z_6, y_6, z_7, y_7, z_8, y_8, zf, yf, hHn, hHm, World.cell?_alloc_lt, hH1]) rfl ?_
    exact ⟨0, 0, 0, 0, 0, 0, false, ⟨#[]⟩, ⟨#[]⟩, by rw [HR.out], Nat.zero_le _, Nat.zero_le _, (fun h => by rw [HR.out] at h; cases h), by
        repeat (first | (with_reducible exact HB1.out) | (with_reducible refine Below.setCell ?_ ?_ _; rotate_left; ((try simp) <;> (try omega))) | (with_reducible refine Below.alloc ?_ ?_ _; rotate_left; ((try simp) <;> (try omega))))⟩
  case true =>
    have HR := Lib.hid (rdCode_is (show CmdIs l k cl sq pn n ep rw nm dt from by first | exact HYES.out rfl | exact HYES.out trivial))
    go_wp2_with fail
    refine bodyPost_ret (v := .tuple #[.agg #[.int .i64 k, .int .i64 cl, .int .i64 sq, .int .i64 pn, .int .i64 n, .int .i64 ep, .bool rw, .string nm, .string dt], .int .i64 0]) (by simp [results, Try.results39, go_sem, z_0, y_0, z_1, y_1, z_2, y_2, z_3, y_3, z_4, y_4, z_5, y_5, z_6, y_6, z_7, y_7, z_8, y_8, zf, yf, hHn, hHm, World.cell?_alloc_lt, hH1]) rfl ?_
    exact ⟨k, cl, sq, pn, n, ep, rw, nm, dt, by rw [HR.out], hnm, hdt, (fun _ => by first | exact HYES.out rfl | exact HYES.out trivial), by
        repeat (first | (with_reducible exact HB1.out) | (with_reducible refine Below.setCell ?_ ?_ _; rotate_left; ((try simp) <;> (try omega))) | (with_reducible refine Below.alloc ?_ ?_ _; rotate_left; ((try simp) <;> (try omega))))⟩
theorem implCmdOK_c (k cl sq pn n ep : Int) (rw : Bool) (nm dt : ByteArray) (w : World) (hn : nm.size ≤ 1099511627776) (hd : dt.size ≤ 1099511627776) :
    Calls Try.prog 38 #[.agg #[.int .i64 k, .int .i64 cl, .int .i64 sq, .int .i64 pn, .int .i64 n, .int .i64 ep, .bool rw, .string nm, .string dt]] w fun e w' => e = .returned (.bool (cmdOK k cl sq pn n ep rw nm dt)) ∧ Below w.heap.size w w' := by
  go_enter Try.func38, Try.ntmps38
  go_wp2_with fail
  refine (isCommand_c k cl sq pn n ep rw nm dt _ hn hd).mono ?_
  rintro e w1 ⟨rfl, hb1⟩
  go_wp2_with fail
  go_ret
  exact ⟨rfl, (by repeat (first | exact Below.refl _ _ | (refine Below.alloc ?_ (by (try simp) <;> (try omega)) _) | (refine Below.setCell ?_ (by (try simp) <;> (try omega)) _) | (refine Below.drew ?_) | (refine Below.trans ?_ (Below.mono (by assumption) (by (try simp) <;> (try omega))))))⟩
set_option maxRecDepth 100000 in
set_option maxHeartbeats 4000000 in
theorem implCmdBytes_c (k cl sq pn n ep : Int) (rw : Bool) (nm dt : ByteArray) (w : World) (hc : cmdOK k cl sq pn n ep rw nm dt = true) :
    Calls Try.prog 35 #[.agg #[.int .i64 k, .int .i64 cl, .int .i64 sq, .int .i64 pn, .int .i64 n, .int .i64 ep, .bool rw, .string nm, .string dt]] w fun e w' => (∃ a c, e = .returned (.tuple #[.slice (some ⟨a, 0, none⟩) (encC k cl sq pn n ep rw nm dt).length c, .int .i64 0]) ∧ Sl byteE 1 w' (some ⟨a, 0, none⟩) (encC k cl sq pn n ep rw nm dt) ∧ w.heap.size ≤ a) ∧ Below w.heap.size w w' := by
  obtain ⟨f1, f2, f3, f4, f5, f6, f7, f8, f9, f10, f11, f12, f13, f14⟩ := cmd_facts hc
  have HC := Lib.hid hc
  clear hc
  go_enter Try.func35, Try.ntmps35
  go_wp2_with fail
  refine (isCommand_c k cl sq pn n ep rw nm dt _ (by omega) (by omega)).mono ?_
  rw [HC.out]
  rintro e w1 ⟨rfl, hb1⟩
  have hz1 := hb1.size
  simp only [World.size_alloc] at hz1
  have c_0 : w1.cell? ⟨w.heap.size, 0, none⟩ = some (.int .i64 k) := (hb1.cell (p := ⟨w.heap.size, 0, none⟩) (by show w.heap.size < _; simp)).trans (by simp [go_sem])
  have c_1 : w1.cell? ⟨w.heap.size, 1, none⟩ = some (.int .i64 cl) := (hb1.cell (p := ⟨w.heap.size, 1, none⟩) (by show w.heap.size < _; simp)).trans (by simp [go_sem])
  have c_2 : w1.cell? ⟨w.heap.size, 2, none⟩ = some (.int .i64 sq) := (hb1.cell (p := ⟨w.heap.size, 2, none⟩) (by show w.heap.size < _; simp)).trans (by simp [go_sem])
  have c_3 : w1.cell? ⟨w.heap.size, 3, none⟩ = some (.int .i64 pn) := (hb1.cell (p := ⟨w.heap.size, 3, none⟩) (by show w.heap.size < _; simp)).trans (by simp [go_sem])
  have c_4 : w1.cell? ⟨w.heap.size, 4, none⟩ = some (.int .i64 n) := (hb1.cell (p := ⟨w.heap.size, 4, none⟩) (by show w.heap.size < _; simp)).trans (by simp [go_sem])
  have c_5 : w1.cell? ⟨w.heap.size, 5, none⟩ = some (.int .i64 ep) := (hb1.cell (p := ⟨w.heap.size, 5, none⟩) (by show w.heap.size < _; simp)).trans (by simp [go_sem])
  have c_6 : w1.cell? ⟨w.heap.size, 6, none⟩ = some (.bool rw) := (hb1.cell (p := ⟨w.heap.size, 6, none⟩) (by show w.heap.size < _; simp)).trans (by simp [go_sem])
  have c_7 : w1.cell? ⟨w.heap.size, 7, none⟩ = some (.string nm) := (hb1.cell (p := ⟨w.heap.size, 7, none⟩) (by show w.heap.size < _; simp)).trans (by simp [go_sem])
  have c_8 : w1.cell? ⟨w.heap.size, 8, none⟩ = some (.string dt) := (hb1.cell (p := ⟨w.heap.size, 8, none⟩) (by show w.heap.size < _; simp)).trans (by simp [go_sem])
  have HB1 : Hid (Below w.heap.size w w1) := ((Below.refl _ _).alloc (Nat.le_refl _) _).trans (hb1.mono (by simp))
  clear hb1
  go_wp2_with fail
  refine (commandText_c k cl sq pn n ep rw nm dt _ HC.out).mono ?_
  obtain ⟨E, hE⟩ : ∃ E, encC k cl sq pn n ep rw nm dt = E := ⟨_, rfl⟩
  have HE := Lib.hid hE
  rw [hE]
  clear hE
  rintro e w2 ⟨rfl, hb2⟩
  have HB2 : Hid (Below w.heap.size w w2) := HB1.out.trans (hb2.mono (by omega))
  have hz2 := hb2.size
  clear hb2
  have hcv := cv_run (strOf E) w2
  go_wp2_with fail
  clear hcv
  go_ret2
  obtain rfl := HE.out
  refine ⟨⟨w2.heap.size, _, rfl, ?_, by omega⟩, HB2.out.trans (cvW_below _ _ (by omega))⟩
  exact cvW_sl (strOf _) w2
set_option maxRecDepth 100000 in
set_option maxHeartbeats 4000000 in
theorem specCmdBytes_c (k cl sq pn n ep : Int) (rw : Bool) (nm dt : ByteArray) (w : World) (hc : cmdOK k cl sq pn n ep rw nm dt = true) :
    Calls Try.prog 36 #[.agg #[.int .i64 k, .int .i64 cl, .int .i64 sq, .int .i64 pn, .int .i64 n, .int .i64 ep, .bool rw, .string nm, .string dt]] w fun e w' => (∃ a c, e = .returned (.tuple #[.slice (some ⟨a, 0, none⟩) (encC k cl sq pn n ep rw nm dt).length c, .int .i64 0]) ∧ Sl byteE 1 w' (some ⟨a, 0, none⟩) (encC k cl sq pn n ep rw nm dt) ∧ w.heap.size ≤ a) ∧ Below w.heap.size w w' := by
  obtain ⟨f1, f2, f3, f4, f5, f6, f7, f8, f9, f10, f11, f12, f13, f14⟩ := cmd_facts hc
  have HC := Lib.hid hc
  clear hc
  go_enter Try.func36, Try.ntmps36
  go_wp2_with fail
  refine (specCmdOK_c k cl sq pn n ep rw nm dt _ (by omega) (by omega)).mono ?_
  rw [HC.out]
  rintro e w1 ⟨rfl, hb1⟩
  have hz1 := hb1.size
  simp only [World.size_alloc] at hz1
  have c_0 : w1.cell? ⟨w.heap.size, 0, none⟩ = some (.int .i64 k) := (hb1.cell (p := ⟨w.heap.size, 0, none⟩) (by show w.heap.size < _; simp)).trans (by simp [go_sem])
  have c_1 : w1.cell? ⟨w.heap.size, 1, none⟩ = some (.int .i64 cl) := (hb1.cell (p := ⟨w.heap.size, 1, none⟩) (by show w.heap.size < _; simp)).trans (by simp [go_sem])
  have c_2 : w1.cell? ⟨w.heap.size, 2, none⟩ = some (.int .i64 sq) := (hb1.cell (p := ⟨w.heap.size, 2, none⟩) (by show w.heap.size < _; simp)).trans (by simp [go_sem])
  have c_3 : w1.cell? ⟨w.heap.size, 3, none⟩ = some (.int .i64 pn) := (hb1.cell (p := ⟨w.heap.size, 3, none⟩) (by show w.heap.size < _; simp)).trans (by simp [go_sem])
  have c_4 : w1.cell? ⟨w.heap.size, 4, none⟩ = some (.int .i64 n) := (hb1.cell (p := ⟨w.heap.size, 4, none⟩) (by show w.heap.size < _; simp)).trans (by simp [go_sem])
  have c_5 : w1.cell? ⟨w.heap.size, 5, none⟩ = some (.int .i64 ep) := (hb1.cell (p := ⟨w.heap.size, 5, none⟩) (by show w.heap.size < _; simp)).trans (by simp [go_sem])
  have c_6 : w1.cell? ⟨w.heap.size, 6, none⟩ = some (.bool rw) := (hb1.cell (p := ⟨w.heap.size, 6, none⟩) (by show w.heap.size < _; simp)).trans (by simp [go_sem])
  have c_7 : w1.cell? ⟨w.heap.size, 7, none⟩ = some (.string nm) := (hb1.cell (p := ⟨w.heap.size, 7, none⟩) (by show w.heap.size < _; simp)).trans (by simp [go_sem])
  have c_8 : w1.cell? ⟨w.heap.size, 8, none⟩ = some (.string dt) := (hb1.cell (p := ⟨w.heap.size, 8, none⟩) (by show w.heap.size < _; simp)).trans (by simp [go_sem])
  have HB1 : Hid (Below w.heap.size w w1) := ((Below.refl _ _).alloc (Nat.le_refl _) _).trans (hb1.mono (by simp))
  clear hb1
  go_wp2_with fail
  refine (l06Bytes_c k cl sq pn n ep rw nm dt _ HC.out).mono ?_
  obtain ⟨E, hE⟩ : ∃ E, encC k cl sq pn n ep rw nm dt = E := ⟨_, rfl⟩
  have HE := Lib.hid hE
  rw [hE]
  clear hE
  rintro e w2 ⟨rfl, hb2⟩
  have HB2 : Hid (Below w.heap.size w w2) := HB1.out.trans (hb2.mono (by omega))
  have hz2 := hb2.size
  clear hb2
  have hcv := cv_run (strOf E) w2
  go_wp2_with fail
  clear hcv
  go_ret2
  obtain rfl := HE.out
  refine ⟨⟨w2.heap.size, _, rfl, ?_, by omega⟩, HB2.out.trans (cvW_below _ _ (by omega))⟩
  exact cvW_sl (strOf _) w2
end
section
open Go.RowKit
def outL : List ByteArray := [⟨#[116, 101, 120, 116]⟩, ⟨#[97]⟩, ⟨#[13, 10]⟩, ⟨#[10]⟩, ⟨#[8]⟩, ⟨#[9]⟩, ⟨#[27, 91, 72]⟩, ⟨#[27, 91, 50, 74]⟩, ⟨#[27, 91, 75]⟩, ⟨#[27, 91, 49, 59, 51, 49, 109]⟩, ⟨#[27, 91, 48, 109]⟩, ⟨#[27, 91, 51, 59, 50, 72]⟩, ⟨#[27, 91, 50, 65]⟩, ⟨#[27, 91, 66]⟩, ⟨#[27, 91, 53, 67]⟩, ⟨#[27, 91, 68]⟩, ⟨#[27, 91, 50, 59, 52, 114]⟩, ⟨#[27, 91, 114]⟩, ⟨#[27, 91, 76]⟩, ⟨#[27, 91, 50, 77]⟩, ⟨#[27, 55]⟩, ⟨#[27, 56]⟩, ⟨#[27, 68]⟩, ⟨#[27, 77]⟩, ⟨#[27, 69]⟩, ⟨#[27, 99]⟩, ⟨#[27, 93, 48, 59, 116, 105, 116, 108, 101, 7]⟩, ⟨#[27, 93, 120, 27, 92]⟩, ⟨#[195, 164]⟩, ⟨#[226, 130, 172]⟩, ⟨#[240, 159, 152, 128]⟩, ⟨#[128]⟩, ⟨#[226, 40]⟩, ⟨#[27, 91, 63, 50, 53, 104]⟩, ⟨#[27, 91, 49, 59, 50, 59, 51, 59, 52, 59, 53, 59, 54, 59, 55, 59, 56, 59, 57, 109]⟩, ⟨#[27, 91, 57, 57, 57, 57, 57, 65]⟩, ⟨#[27, 91, 49, 36, 120]⟩, ⟨#[7]⟩, ⟨#[27, 91, 83]⟩, ⟨#[27, 91, 84]⟩, ⟨#[27, 91, 49, 74]⟩, ⟨#[27, 91, 49, 75]⟩, ⟨#[119, 114, 97, 112, 32, 97, 114, 111, 117, 110, 100, 32, 105, 116]⟩]
theorem outL_size : ∀ s ∈ outL, 1 ≤ s.size ∧ s.size ≤ 20 := by
  have h : outL.all (fun s => decide (1 ≤ s.size ∧ s.size ≤ 20)) = true := by decide
  intro s hs
  simpa using (List.all_eq_true.1 h) s hs
def winL : List ByteArray := [⟨#[109, 97, 105, 110]⟩, ⟨#[108, 111, 103, 115]⟩, ⟨#[101, 100, 105, 116]⟩]
def oldL : List ByteArray := [⟨#[109, 97, 105, 110]⟩, ⟨#[111, 116, 104, 101, 114]⟩, ⟨#[108, 111, 103, 115]⟩]
theorem winL_ok : ∀ s ∈ winL, winP s = true := by
  have h : winL.all winP = true := by decide
  exact fun s hs => (List.all_eq_true.1 h) s hs
theorem oldL_ok : ∀ s ∈ oldL, winP s = true := by
  have h : oldL.all winP = true := by decide
  exact fun s hs => (List.all_eq_true.1 h) s hs
def BoolR (b : Nat) (a : Option Addr) (c : Nat) (xs : List UInt8) (K : Nat) (w : World) (e : Ending) (w' : World) : Prop := ∃ r : Bool, e = .returned (.bool r) ∧ SrcAt b a c xs K w' ∧ Mid b (b + 1) w w'
set_option maxHeartbeats 2000000 in
theorem srcChance_c (b : Nat) (a : Option Addr) (c : Nat) (xs : List UInt8) (K : Nat) (n : Nat) (w : World) (h : SrcAt b a c xs K w) (hK : K ≤ 1000000000) (hn : 1 ≤ n) (hn2 : n ≤ 256) :
    Calls Try.prog 138 #[.pointer (some ⟨b, 0, none⟩), .int .i64 n] w (BoolR b a c xs (K + 1) w) := by
  have HN := Lib.hid (srcNext_c b a c xs K n w h (by omega) hn hn2)
  have ew : IntKind.i64.wrap ((n : Int) - 1) = (n : Int) - 1 := IntWalk.i64_in _ ⟨by omega, by omega⟩
  clear h
  go_enter Try.func138, Try.ntmps138
  go_wp2_with fail
  refine HN.out.mono ?_
  rintro e w1 ⟨m, hm, rfl, hs1, hm1⟩
  go_wp2_with fail
  go_ret
  exact ⟨_, rfl, hs1, hm1⟩
def TextR (b : Nat) (a : Option Addr) (c : Nat) (xs : List UInt8) (K : Nat) (P : ByteArray → Prop) (w : World) (e : Ending) (w' : World) : Prop := ∃ s : ByteArray, P s ∧ e = .returned (.string s) ∧ SrcAt b a c xs K w' ∧ Mid b (b + 1) w w'
set_option maxHeartbeats 4000000 in
theorem srcWindow_c (b : Nat) (a : Option Addr) (c : Nat) (xs : List UInt8) (K : Nat) (w : World) (h : SrcAt b a c xs K w) (hK : K ≤ 1000000000) :
    Calls Try.prog 139 #[.pointer (some ⟨b, 0, none⟩)] w (TextR b a c xs (K + 1) (fun s => winP s = true) w) := by
  have hb0 : b < w.heap.size := h.lt
  have HS := Lib.hid (h.alloc (.cells #[.string ⟨#[109, 97, 105, 110]⟩, .string ⟨#[108, 111, 103, 115]⟩, .string ⟨#[101, 100, 105, 116]⟩] 9))
  have HL : Hid (Sl strE 1 (w.alloc (.cells #[.string ⟨#[109, 97, 105, 110]⟩, .string ⟨#[108, 111, 103, 115]⟩, .string ⟨#[101, 100, 105, 116]⟩] 9)) (some ⟨w.heap.size, 0, none⟩) winL) := Lib.hid (Sl.boxM (enc := strE) (sz := 1) (fun _ => rfl) winL #[.string ⟨#[109, 97, 105, 110]⟩, .string ⟨#[108, 111, 103, 115]⟩, .string ⟨#[101, 100, 105, 116]⟩] 9 rfl w.heap.size rfl)
  clear h
  go_enter Try.func139, Try.ntmps139
  go_wp2_with fail
  refine (srcPick_c b a c xs K (some ⟨w.heap.size, 0, none⟩) 3 winL _ HS.out (by omega) HL.out (fun b' o h => by cases h; omega) (by decide) (by decide)).mono ?_
  rintro e w1 ⟨s, hs, rfl, hs1, hm1⟩
  go_wp2_with fail
  go_ret
  exact ⟨s, winL_ok s hs, rfl, hs1, ((Mid.refl _ _ _).alloc _).trans hm1⟩
set_option maxRecDepth 100000 in
set_option maxHeartbeats 16000000 in
theorem srcOutput_c (b : Nat) (a : Option Addr) (c : Nat) (xs : List UInt8) (K : Nat) (w : World) (h : SrcAt b a c xs K w) (hK : K ≤ 1000000000) :
    Calls Try.prog 140 #[.pointer (some ⟨b, 0, none⟩)] w (TextR b a c xs (K + 9) (fun s => 1 ≤ s.size ∧ s.size ≤ 200) w) := by
  have HN := Lib.hid (srcNext_c b a c xs K 8 w h (by omega) (by omega) (by omega))
  have hb0 : b < w.heap.size := h.lt
  clear h
  go_enter Try.func140, Try.ntmps140
  go_wp2_with fail
  refine HN.out.mono ?_
  rintro e w1 ⟨m, hm, rfl, hs1, hm1⟩
  have ew : IntKind.i64.wrap (1 + (m : Int)) = 1 + (m : Int) := IntWalk.i64_in _ ⟨by omega, by omega⟩
  have HS1 := Lib.hid hs1
  have HM1 := Lib.hid hm1
  clear hs1 hm1
  go_wp2_with fail
  go_loopw [3, 4] (fun ov iv wr => ∃ (s : ByteArray) (i : Nat), ov = .string s ∧ iv = .int .i64 i ∧ i ≤ 8 ∧ s.size + 20 * i ≤ 160 ∧ Hid (i = 0 → 1 ≤ s.size) ∧ SrcAt b a c xs (K + 9 - i) wr ∧ Mid b (b + 1) w wr) (fun _ iv _ => (intOf iv).toNat)
  case atStart => exact ⟨⟨#[]⟩, 1 + m, rfl, (by first | rfl | (simp) | (congr 1; omega)), by omega, (by show 0 + _ ≤ _; omega), Lib.hid (fun h => by omega), HS1.out.mono (by omega), HM1.out⟩
  case round =>
    obtain ⟨s, i, rfl, rfl, hi8, hsz, hpos, hsrc, hmid⟩ := hrel
    have HP := hpos
    have HS := Lib.hid hsrc
    have HM := Lib.hid hmid
    have hz := hmid.size
    clear hpos hsrc hmid
    by_cases h0 : 0 < i
    · have h0' : (0 : Int) < (i : Int) := by omega
      have ei : IntKind.i64.wrap ((i : Int) - 1) = (i : Int) - 1 := IntWalk.i64_in _ ⟨by omega, by omega⟩
      have HSa := Lib.hid (HS.out.alloc (.cells #[.string ⟨#[116, 101, 120, 116]⟩, .string ⟨#[97]⟩, .string ⟨#[13, 10]⟩, .string ⟨#[10]⟩, .string ⟨#[8]⟩, .string ⟨#[9]⟩, .string ⟨#[27, 91, 72]⟩, .string ⟨#[27, 91, 50, 74]⟩, .string ⟨#[27, 91, 75]⟩, .string ⟨#[27, 91, 49, 59, 51, 49, 109]⟩, .string ⟨#[27, 91, 48, 109]⟩, .string ⟨#[27, 91, 51, 59, 50, 72]⟩, .string ⟨#[27, 91, 50, 65]⟩, .string ⟨#[27, 91, 66]⟩, .string ⟨#[27, 91, 53, 67]⟩, .string ⟨#[27, 91, 68]⟩, .string ⟨#[27, 91, 50, 59, 52, 114]⟩, .string ⟨#[27, 91, 114]⟩, .string ⟨#[27, 91, 76]⟩, .string ⟨#[27, 91, 50, 77]⟩, .string ⟨#[27, 55]⟩, .string ⟨#[27, 56]⟩, .string ⟨#[27, 68]⟩, .string ⟨#[27, 77]⟩, .string ⟨#[27, 69]⟩, .string ⟨#[27, 99]⟩, .string ⟨#[27, 93, 48, 59, 116, 105, 116, 108, 101, 7]⟩, .string ⟨#[27, 93, 120, 27, 92]⟩, .string ⟨#[195, 164]⟩, .string ⟨#[226, 130, 172]⟩, .string ⟨#[240, 159, 152, 128]⟩, .string ⟨#[128]⟩, .string ⟨#[226, 40]⟩, .string ⟨#[27, 91, 63, 50, 53, 104]⟩, .string ⟨#[27, 91, 49, 59, 50, 59, 51, 59, 52, 59, 53, 59, 54, 59, 55, 59, 56, 59, 57, 109]⟩, .string ⟨#[27, 91, 57, 57, 57, 57, 57, 65]⟩, .string ⟨#[27, 91, 49, 36, 120]⟩, .string ⟨#[7]⟩, .string ⟨#[27, 91, 83]⟩, .string ⟨#[27, 91, 84]⟩, .string ⟨#[27, 91, 49, 74]⟩, .string ⟨#[27, 91, 49, 75]⟩, .string ⟨#[119, 114, 97, 112, 32, 97, 114, 111, 117, 110, 100, 32, 105, 116]⟩] 9))
      have HL : Hid (Sl strE 1 (wr.alloc (.cells #[.string ⟨#[116, 101, 120, 116]⟩, .string ⟨#[97]⟩, .string ⟨#[13, 10]⟩, .string ⟨#[10]⟩, .string ⟨#[8]⟩, .string ⟨#[9]⟩, .string ⟨#[27, 91, 72]⟩, .string ⟨#[27, 91, 50, 74]⟩, .string ⟨#[27, 91, 75]⟩, .string ⟨#[27, 91, 49, 59, 51, 49, 109]⟩, .string ⟨#[27, 91, 48, 109]⟩, .string ⟨#[27, 91, 51, 59, 50, 72]⟩, .string ⟨#[27, 91, 50, 65]⟩, .string ⟨#[27, 91, 66]⟩, .string ⟨#[27, 91, 53, 67]⟩, .string ⟨#[27, 91, 68]⟩, .string ⟨#[27, 91, 50, 59, 52, 114]⟩, .string ⟨#[27, 91, 114]⟩, .string ⟨#[27, 91, 76]⟩, .string ⟨#[27, 91, 50, 77]⟩, .string ⟨#[27, 55]⟩, .string ⟨#[27, 56]⟩, .string ⟨#[27, 68]⟩, .string ⟨#[27, 77]⟩, .string ⟨#[27, 69]⟩, .string ⟨#[27, 99]⟩, .string ⟨#[27, 93, 48, 59, 116, 105, 116, 108, 101, 7]⟩, .string ⟨#[27, 93, 120, 27, 92]⟩, .string ⟨#[195, 164]⟩, .string ⟨#[226, 130, 172]⟩, .string ⟨#[240, 159, 152, 128]⟩, .string ⟨#[128]⟩, .string ⟨#[226, 40]⟩, .string ⟨#[27, 91, 63, 50, 53, 104]⟩, .string ⟨#[27, 91, 49, 59, 50, 59, 51, 59, 52, 59, 53, 59, 54, 59, 55, 59, 56, 59, 57, 109]⟩, .string ⟨#[27, 91, 57, 57, 57, 57, 57, 65]⟩, .string ⟨#[27, 91, 49, 36, 120]⟩, .string ⟨#[7]⟩, .string ⟨#[27, 91, 83]⟩, .string ⟨#[27, 91, 84]⟩, .string ⟨#[27, 91, 49, 74]⟩, .string ⟨#[27, 91, 49, 75]⟩, .string ⟨#[119, 114, 97, 112, 32, 97, 114, 111, 117, 110, 100, 32, 105, 116]⟩] 9)) (some ⟨wr.heap.size, 0, none⟩) outL) := Lib.hid (Sl.boxM (enc := strE) (sz := 1) (fun _ => rfl) outL #[.string ⟨#[116, 101, 120, 116]⟩, .string ⟨#[97]⟩, .string ⟨#[13, 10]⟩, .string ⟨#[10]⟩, .string ⟨#[8]⟩, .string ⟨#[9]⟩, .string ⟨#[27, 91, 72]⟩, .string ⟨#[27, 91, 50, 74]⟩, .string ⟨#[27, 91, 75]⟩, .string ⟨#[27, 91, 49, 59, 51, 49, 109]⟩, .string ⟨#[27, 91, 48, 109]⟩, .string ⟨#[27, 91, 51, 59, 50, 72]⟩, .string ⟨#[27, 91, 50, 65]⟩, .string ⟨#[27, 91, 66]⟩, .string ⟨#[27, 91, 53, 67]⟩, .string ⟨#[27, 91, 68]⟩, .string ⟨#[27, 91, 50, 59, 52, 114]⟩, .string ⟨#[27, 91, 114]⟩, .string ⟨#[27, 91, 76]⟩, .string ⟨#[27, 91, 50, 77]⟩, .string ⟨#[27, 55]⟩, .string ⟨#[27, 56]⟩, .string ⟨#[27, 68]⟩, .string ⟨#[27, 77]⟩, .string ⟨#[27, 69]⟩, .string ⟨#[27, 99]⟩, .string ⟨#[27, 93, 48, 59, 116, 105, 116, 108, 101, 7]⟩, .string ⟨#[27, 93, 120, 27, 92]⟩, .string ⟨#[195, 164]⟩, .string ⟨#[226, 130, 172]⟩, .string ⟨#[240, 159, 152, 128]⟩, .string ⟨#[128]⟩, .string ⟨#[226, 40]⟩, .string ⟨#[27, 91, 63, 50, 53, 104]⟩, .string ⟨#[27, 91, 49, 59, 50, 59, 51, 59, 52, 59, 53, 59, 54, 59, 55, 59, 56, 59, 57, 109]⟩, .string ⟨#[27, 91, 57, 57, 57, 57, 57, 65]⟩, .string ⟨#[27, 91, 49, 36, 120]⟩, .string ⟨#[7]⟩, .string ⟨#[27, 91, 83]⟩, .string ⟨#[27, 91, 84]⟩, .string ⟨#[27, 91, 49, 74]⟩, .string ⟨#[27, 91, 49, 75]⟩, .string ⟨#[119, 114, 97, 112, 32, 97, 114, 111, 117, 110, 100, 32, 105, 116]⟩] 9 rfl wr.heap.size rfl)
      go_wp2_with fail
      refine (srcPick_c b a c xs (K + 9 - i) (some ⟨wr.heap.size, 0, none⟩) 43 outL _ HSa.out (by omega) HL.out (fun b' o h => by cases h; omega) (by decide) (by decide)).mono ?_
      rintro e w2 ⟨t, ht, rfl, hs2, hm2⟩
      have hts := outL_size t ht
      have HS2 := Lib.hid hs2
      have HM2 : Hid (Mid b (b + 1) w w2) := (HM.out.alloc _).trans hm2
      have hsize : (s ++ t).size = s.size + t.size := ByteArray.size_append
      have HSZ := Lib.hid hsize
      clear hs2 hm2 ht HSa HL hsize
      go_wp2_with fail
      go_roundw
      case rel => exact ⟨s ++ t, i - 1, rfl, (by congr 1; omega), by omega, (by rw [HSZ.out]; omega), Lib.hid (fun _ => by rw [HSZ.out]; omega), HS2.out.mono (by omega), HM2.out⟩
      case measure => simp [intOf]; omega
    · obtain rfl : i = 0 := by omega
      go_wp2_with fail
      go_ret
      exact ⟨s, ⟨by first | exact HP.out rfl | exact HP.out trivial, by omega⟩, rfl, HS.out, HM.out⟩
/-- What the walk of 'command' knows of the memory: the command under way in block B, the result in block R, the source. -/
def CmdW (b : Nat) (a : Option Addr) (c : Nat) (xs : List UInt8) (K : Nat) (w : World) (B R : Nat) (k cl sq pn n ep : Int) (rw : Bool) (nm dt : ByteArray) (wx : World) : Prop :=
  (wx.cell? ⟨B, 0, none⟩ = some (.int .i64 k) ∧ wx.cell? ⟨B, 1, none⟩ = some (.int .i64 cl) ∧ wx.cell? ⟨B, 2, none⟩ = some (.int .i64 sq) ∧ wx.cell? ⟨B, 3, none⟩ = some (.int .i64 pn) ∧ wx.cell? ⟨B, 4, none⟩ = some (.int .i64 n) ∧ wx.cell? ⟨B, 5, none⟩ = some (.int .i64 ep) ∧ wx.cell? ⟨B, 6, none⟩ = some (.bool rw) ∧ wx.cell? ⟨B, 7, none⟩ = some (.string nm) ∧ wx.cell? ⟨B, 8, none⟩ = some (.string dt)) ∧ (∀ o, wx.frozen? ⟨B, o, none⟩ = false) ∧ (wx.cell? ⟨R, 0, none⟩ = some (.int .i64 0) ∧ wx.cell? ⟨R, 1, none⟩ = some (.int .i64 0) ∧ wx.cell? ⟨R, 2, none⟩ = some (.int .i64 0) ∧ wx.cell? ⟨R, 3, none⟩ = some (.int .i64 0) ∧ wx.cell? ⟨R, 4, none⟩ = some (.int .i64 0) ∧ wx.cell? ⟨R, 5, none⟩ = some (.int .i64 0) ∧ wx.cell? ⟨R, 6, none⟩ = some (.bool false) ∧ wx.cell? ⟨R, 7, none⟩ = some (.string ⟨#[]⟩) ∧ wx.cell? ⟨R, 8, none⟩ = some (.string ⟨#[]⟩)) ∧ (∀ o, wx.frozen? ⟨R, o, none⟩ = false) ∧ SrcAt b a c xs K wx ∧ Mid b (b + 1) w wx ∧ B < wx.heap.size
section
variable {b : Nat} {a : Option Addr} {c : Nat} {xs : List UInt8} {K : Nat} {w : World} {B R : Nat} {k cl sq pn n ep : Int} {rw : Bool} {nm dt : ByteArray} {wx : World}
theorem CmdW.src (h : CmdW b a c xs K w B R k cl sq pn n ep rw nm dt wx) : SrcAt b a c xs K wx := h.2.2.2.2.1
theorem CmdW.midw (h : CmdW b a c xs K w B R k cl sq pn n ep rw nm dt wx) : Mid b (b + 1) w wx := h.2.2.2.2.2.1
theorem CmdW.alloc (h : CmdW b a c xs K w B R k cl sq pn n ep rw nm dt wx) (o : Obj) (hRB : R < B) : CmdW b a c xs K w B R k cl sq pn n ep rw nm dt (wx.alloc o) := by
  obtain ⟨⟨c0, c1, c2, c3, c4, c5, c6, c7, c8⟩, cf, ⟨d0, d1, d2, d3, d4, d5, d6, d7, d8⟩, df, hs, hm, hz⟩ := h
  have q : ∀ j, (wx.alloc o).cell? ⟨B, j, none⟩ = wx.cell? ⟨B, j, none⟩ := fun j => World.cell?_alloc_lt _ _ _ (by show B < _; omega)
  have r : ∀ j, (wx.alloc o).cell? ⟨R, j, none⟩ = wx.cell? ⟨R, j, none⟩ := fun j => World.cell?_alloc_lt _ _ _ (by show R < _; omega)
  refine ⟨⟨(q 0).trans c0, (q 1).trans c1, (q 2).trans c2, (q 3).trans c3, (q 4).trans c4, (q 5).trans c5, (q 6).trans c6, (q 7).trans c7, (q 8).trans c8⟩, fun j => ?_, ⟨(r 0).trans d0, (r 1).trans d1, (r 2).trans d2, (r 3).trans d3, (r 4).trans d4, (r 5).trans d5, (r 6).trans d6, (r 7).trans d7, (r 8).trans d8⟩, fun j => ?_, hs.alloc _, hm.alloc _, by rw [World.size_alloc]; omega⟩
  · rw [((Below.refl _ _).alloc (Nat.le_refl _) _ : Below _ _ _).frozen (p := ⟨B, j, none⟩) (by show B < _; omega)]
    exact cf j
  · rw [((Below.refl _ _).alloc (Nat.le_refl _) _ : Below _ _ _).frozen (p := ⟨R, j, none⟩) (by show R < _; omega)]
    exact df j
theorem CmdW.mid {K' : Nat} {w' : World} (h : CmdW b a c xs K w B R k cl sq pn n ep rw nm dt wx) (hm' : Mid b (b + 1) wx w') (hs' : SrcAt b a c xs K' w') (hB : b + 1 ≤ B) (hR : b + 1 ≤ R) (hRB : R < B) : CmdW b a c xs K' w B R k cl sq pn n ep rw nm dt w' := by
  obtain ⟨⟨c0, c1, c2, c3, c4, c5, c6, c7, c8⟩, cf, ⟨d0, d1, d2, d3, d4, d5, d6, d7, d8⟩, df, hs, hm, hz⟩ := h
  have hz' := hm'.size
  have q : ∀ j, w'.cell? ⟨B, j, none⟩ = wx.cell? ⟨B, j, none⟩ := fun j => hm'.cell (p := ⟨B, j, none⟩) hz (.inr hB)
  have r : ∀ j, w'.cell? ⟨R, j, none⟩ = wx.cell? ⟨R, j, none⟩ := fun j => hm'.cell (p := ⟨R, j, none⟩) (by show R < _; omega) (.inr hR)
  exact ⟨⟨(q 0).trans c0, (q 1).trans c1, (q 2).trans c2, (q 3).trans c3, (q 4).trans c4, (q 5).trans c5, (q 6).trans c6, (q 7).trans c7, (q 8).trans c8⟩, fun j => (hm'.frozen (p := ⟨B, j, none⟩) hz (.inr hB)).trans (cf j), ⟨(r 0).trans d0, (r 1).trans d1, (r 2).trans d2, (r 3).trans d3, (r 4).trans d4, (r 5).trans d5, (r 6).trans d6, (r 7).trans d7, (r 8).trans d8⟩, fun j => (hm'.frozen (p := ⟨R, j, none⟩) (by show R < _; omega) (.inr hR)).trans (df j), hs', hm.trans hm', by omega⟩
theorem CmdW.store0 (h : CmdW b a c xs K w B R k cl sq pn n ep rw nm dt wx) (u : Int) (hRB : R < B) (hbB : b < B) (hw : w.heap.size ≤ B) (hfar : ∀ b' o, a = some ⟨b', o, none⟩ → xs = [] ∨ b' < w.heap.size) : CmdW b a c xs K w B R u cl sq pn n ep rw nm dt (wx.setCell ⟨B, 0, none⟩ (.int .i64 u)) := by
  obtain ⟨⟨c0, c1, c2, c3, c4, c5, c6, c7, c8⟩, cf, ⟨d0, d1, d2, d3, d4, d5, d6, d7, d8⟩, df, hs, hm, hz⟩ := h
  have n1 : ¬ B = R := by omega
  have n2 : ¬ R = B := by omega
  exact ⟨⟨by simp [go_sem, c0], by simp [go_sem, c1], by simp [go_sem, c2], by simp [go_sem, c3], by simp [go_sem, c4], by simp [go_sem, c5], by simp [go_sem, c6], by simp [go_sem, c7], by simp [go_sem, c8]⟩, fun o => by simp [go_sem, cf], ⟨by simp [go_sem, d0, n1, n2], by simp [go_sem, d1, n1, n2], by simp [go_sem, d2, n1, n2], by simp [go_sem, d3, n1, n2], by simp [go_sem, d4, n1, n2], by simp [go_sem, d5, n1, n2], by simp [go_sem, d6, n1, n2], by simp [go_sem, d7, n1, n2], by simp [go_sem, d8, n1, n2]⟩, fun o => by simp [go_sem, df], hs.setCell (p := ⟨B, 0, none⟩) (by show ¬ B = b; omega) (fun b' o e => (hfar b' o e).imp id (fun h => by show b' ≠ B; omega)) _, hm.setNew (p := ⟨B, 0, none⟩) hw _, by simpa using hz⟩
theorem CmdW.store3 (h : CmdW b a c xs K w B R k cl sq pn n ep rw nm dt wx) (u : Int) (hRB : R < B) (hbB : b < B) (hw : w.heap.size ≤ B) (hfar : ∀ b' o, a = some ⟨b', o, none⟩ → xs = [] ∨ b' < w.heap.size) : CmdW b a c xs K w B R k cl sq u n ep rw nm dt (wx.setCell ⟨B, 3, none⟩ (.int .i64 u)) := by
  obtain ⟨⟨c0, c1, c2, c3, c4, c5, c6, c7, c8⟩, cf, ⟨d0, d1, d2, d3, d4, d5, d6, d7, d8⟩, df, hs, hm, hz⟩ := h
  have n1 : ¬ B = R := by omega
  have n2 : ¬ R = B := by omega
  exact ⟨⟨by simp [go_sem, c0], by simp [go_sem, c1], by simp [go_sem, c2], by simp [go_sem, c3], by simp [go_sem, c4], by simp [go_sem, c5], by simp [go_sem, c6], by simp [go_sem, c7], by simp [go_sem, c8]⟩, fun o => by simp [go_sem, cf], ⟨by simp [go_sem, d0, n1, n2], by simp [go_sem, d1, n1, n2], by simp [go_sem, d2, n1, n2], by simp [go_sem, d3, n1, n2], by simp [go_sem, d4, n1, n2], by simp [go_sem, d5, n1, n2], by simp [go_sem, d6, n1, n2], by simp [go_sem, d7, n1, n2], by simp [go_sem, d8, n1, n2]⟩, fun o => by simp [go_sem, df], hs.setCell (p := ⟨B, 3, none⟩) (by show ¬ B = b; omega) (fun b' o e => (hfar b' o e).imp id (fun h => by show b' ≠ B; omega)) _, hm.setNew (p := ⟨B, 3, none⟩) hw _, by simpa using hz⟩
theorem CmdW.store4 (h : CmdW b a c xs K w B R k cl sq pn n ep rw nm dt wx) (u : Int) (hRB : R < B) (hbB : b < B) (hw : w.heap.size ≤ B) (hfar : ∀ b' o, a = some ⟨b', o, none⟩ → xs = [] ∨ b' < w.heap.size) : CmdW b a c xs K w B R k cl sq pn u ep rw nm dt (wx.setCell ⟨B, 4, none⟩ (.int .i64 u)) := by
  obtain ⟨⟨c0, c1, c2, c3, c4, c5, c6, c7, c8⟩, cf, ⟨d0, d1, d2, d3, d4, d5, d6, d7, d8⟩, df, hs, hm, hz⟩ := h
  have n1 : ¬ B = R := by omega
  have n2 : ¬ R = B := by omega
  exact ⟨⟨by simp [go_sem, c0], by simp [go_sem, c1], by simp [go_sem, c2], by simp [go_sem, c3], by simp [go_sem, c4], by simp [go_sem, c5], by simp [go_sem, c6], by simp [go_sem, c7], by simp [go_sem, c8]⟩, fun o => by simp [go_sem, cf], ⟨by simp [go_sem, d0, n1, n2], by simp [go_sem, d1, n1, n2], by simp [go_sem, d2, n1, n2], by simp [go_sem, d3, n1, n2], by simp [go_sem, d4, n1, n2], by simp [go_sem, d5, n1, n2], by simp [go_sem, d6, n1, n2], by simp [go_sem, d7, n1, n2], by simp [go_sem, d8, n1, n2]⟩, fun o => by simp [go_sem, df], hs.setCell (p := ⟨B, 4, none⟩) (by show ¬ B = b; omega) (fun b' o e => (hfar b' o e).imp id (fun h => by show b' ≠ B; omega)) _, hm.setNew (p := ⟨B, 4, none⟩) hw _, by simpa using hz⟩
theorem CmdW.store5 (h : CmdW b a c xs K w B R k cl sq pn n ep rw nm dt wx) (u : Int) (hRB : R < B) (hbB : b < B) (hw : w.heap.size ≤ B) (hfar : ∀ b' o, a = some ⟨b', o, none⟩ → xs = [] ∨ b' < w.heap.size) : CmdW b a c xs K w B R k cl sq pn n u rw nm dt (wx.setCell ⟨B, 5, none⟩ (.int .i64 u)) := by
  obtain ⟨⟨c0, c1, c2, c3, c4, c5, c6, c7, c8⟩, cf, ⟨d0, d1, d2, d3, d4, d5, d6, d7, d8⟩, df, hs, hm, hz⟩ := h
  have n1 : ¬ B = R := by omega
  have n2 : ¬ R = B := by omega
  exact ⟨⟨by simp [go_sem, c0], by simp [go_sem, c1], by simp [go_sem, c2], by simp [go_sem, c3], by simp [go_sem, c4], by simp [go_sem, c5], by simp [go_sem, c6], by simp [go_sem, c7], by simp [go_sem, c8]⟩, fun o => by simp [go_sem, cf], ⟨by simp [go_sem, d0, n1, n2], by simp [go_sem, d1, n1, n2], by simp [go_sem, d2, n1, n2], by simp [go_sem, d3, n1, n2], by simp [go_sem, d4, n1, n2], by simp [go_sem, d5, n1, n2], by simp [go_sem, d6, n1, n2], by simp [go_sem, d7, n1, n2], by simp [go_sem, d8, n1, n2]⟩, fun o => by simp [go_sem, df], hs.setCell (p := ⟨B, 5, none⟩) (by show ¬ B = b; omega) (fun b' o e => (hfar b' o e).imp id (fun h => by show b' ≠ B; omega)) _, hm.setNew (p := ⟨B, 5, none⟩) hw _, by simpa using hz⟩
theorem CmdW.store6 (h : CmdW b a c xs K w B R k cl sq pn n ep rw nm dt wx) (u : Bool) (hRB : R < B) (hbB : b < B) (hw : w.heap.size ≤ B) (hfar : ∀ b' o, a = some ⟨b', o, none⟩ → xs = [] ∨ b' < w.heap.size) : CmdW b a c xs K w B R k cl sq pn n ep u nm dt (wx.setCell ⟨B, 6, none⟩ (.bool u)) := by
  obtain ⟨⟨c0, c1, c2, c3, c4, c5, c6, c7, c8⟩, cf, ⟨d0, d1, d2, d3, d4, d5, d6, d7, d8⟩, df, hs, hm, hz⟩ := h
  have n1 : ¬ B = R := by omega
  have n2 : ¬ R = B := by omega
  exact ⟨⟨by simp [go_sem, c0], by simp [go_sem, c1], by simp [go_sem, c2], by simp [go_sem, c3], by simp [go_sem, c4], by simp [go_sem, c5], by simp [go_sem, c6], by simp [go_sem, c7], by simp [go_sem, c8]⟩, fun o => by simp [go_sem, cf], ⟨by simp [go_sem, d0, n1, n2], by simp [go_sem, d1, n1, n2], by simp [go_sem, d2, n1, n2], by simp [go_sem, d3, n1, n2], by simp [go_sem, d4, n1, n2], by simp [go_sem, d5, n1, n2], by simp [go_sem, d6, n1, n2], by simp [go_sem, d7, n1, n2], by simp [go_sem, d8, n1, n2]⟩, fun o => by simp [go_sem, df], hs.setCell (p := ⟨B, 6, none⟩) (by show ¬ B = b; omega) (fun b' o e => (hfar b' o e).imp id (fun h => by show b' ≠ B; omega)) _, hm.setNew (p := ⟨B, 6, none⟩) hw _, by simpa using hz⟩
theorem CmdW.store7 (h : CmdW b a c xs K w B R k cl sq pn n ep rw nm dt wx) (u : ByteArray) (hRB : R < B) (hbB : b < B) (hw : w.heap.size ≤ B) (hfar : ∀ b' o, a = some ⟨b', o, none⟩ → xs = [] ∨ b' < w.heap.size) : CmdW b a c xs K w B R k cl sq pn n ep rw u dt (wx.setCell ⟨B, 7, none⟩ (.string u)) := by
  obtain ⟨⟨c0, c1, c2, c3, c4, c5, c6, c7, c8⟩, cf, ⟨d0, d1, d2, d3, d4, d5, d6, d7, d8⟩, df, hs, hm, hz⟩ := h
  have n1 : ¬ B = R := by omega
  have n2 : ¬ R = B := by omega
  exact ⟨⟨by simp [go_sem, c0], by simp [go_sem, c1], by simp [go_sem, c2], by simp [go_sem, c3], by simp [go_sem, c4], by simp [go_sem, c5], by simp [go_sem, c6], by simp [go_sem, c7], by simp [go_sem, c8]⟩, fun o => by simp [go_sem, cf], ⟨by simp [go_sem, d0, n1, n2], by simp [go_sem, d1, n1, n2], by simp [go_sem, d2, n1, n2], by simp [go_sem, d3, n1, n2], by simp [go_sem, d4, n1, n2], by simp [go_sem, d5, n1, n2], by simp [go_sem, d6, n1, n2], by simp [go_sem, d7, n1, n2], by simp [go_sem, d8, n1, n2]⟩, fun o => by simp [go_sem, df], hs.setCell (p := ⟨B, 7, none⟩) (by show ¬ B = b; omega) (fun b' o e => (hfar b' o e).imp id (fun h => by show b' ≠ B; omega)) _, hm.setNew (p := ⟨B, 7, none⟩) hw _, by simpa using hz⟩
theorem CmdW.store8 (h : CmdW b a c xs K w B R k cl sq pn n ep rw nm dt wx) (u : ByteArray) (hRB : R < B) (hbB : b < B) (hw : w.heap.size ≤ B) (hfar : ∀ b' o, a = some ⟨b', o, none⟩ → xs = [] ∨ b' < w.heap.size) : CmdW b a c xs K w B R k cl sq pn n ep rw nm u (wx.setCell ⟨B, 8, none⟩ (.string u)) := by
  obtain ⟨⟨c0, c1, c2, c3, c4, c5, c6, c7, c8⟩, cf, ⟨d0, d1, d2, d3, d4, d5, d6, d7, d8⟩, df, hs, hm, hz⟩ := h
  have n1 : ¬ B = R := by omega
  have n2 : ¬ R = B := by omega
  exact ⟨⟨by simp [go_sem, c0], by simp [go_sem, c1], by simp [go_sem, c2], by simp [go_sem, c3], by simp [go_sem, c4], by simp [go_sem, c5], by simp [go_sem, c6], by simp [go_sem, c7], by simp [go_sem, c8]⟩, fun o => by simp [go_sem, cf], ⟨by simp [go_sem, d0, n1, n2], by simp [go_sem, d1, n1, n2], by simp [go_sem, d2, n1, n2], by simp [go_sem, d3, n1, n2], by simp [go_sem, d4, n1, n2], by simp [go_sem, d5, n1, n2], by simp [go_sem, d6, n1, n2], by simp [go_sem, d7, n1, n2], by simp [go_sem, d8, n1, n2]⟩, fun o => by simp [go_sem, df], hs.setCell (p := ⟨B, 8, none⟩) (by show ¬ B = b; omega) (fun b' o e => (hfar b' o e).imp id (fun h => by show b' ≠ B; omega)) _, hm.setNew (p := ⟨B, 8, none⟩) hw _, by simpa using hz⟩
end
def CommandR (b : Nat) (a : Option Addr) (c : Nat) (xs : List UInt8) (K : Nat) (cl sq : Int) (w : World) (e : Ending) (w' : World) : Prop :=
  ∃ (k pn n ep : Int) (rw : Bool) (nm dt : ByteArray), e = .returned (.agg #[.int .i64 k, .int .i64 cl, .int .i64 sq, .int .i64 pn, .int .i64 n, .int .i64 ep, .bool rw, .string nm, .string dt]) ∧ cmdOK k cl sq pn n ep rw nm dt = true ∧ SrcAt b a c xs K w' ∧ Mid b (b + 1) w w'
set_option maxRecDepth 100000 in
set_option maxHeartbeats 16000000 in
theorem srcCommand_c (b : Nat) (a : Option Addr) (c : Nat) (xs : List UInt8) (K : Nat) (cl sq : Int) (w : World) (h : SrcAt b a c xs K w) (hK : K ≤ 100000000) (hcl : inB cl 0 200 = true) (hsq : inB sq 1 60000 = true) :
    Calls Try.prog 82 #[.pointer (some ⟨b, 0, none⟩), .int .i64 cl, .int .i64 sq] w (CommandR b a c xs (K + 20) cl sq w) := by
  have hb0 : b < w.heap.size := h.lt
  have HFAR := Lib.hid h.far
  have HCL := Lib.hid hcl
  have HSQ := Lib.hid hsq
  clear hcl hsq
  have HS0 := Lib.hid (h.alloc (.cells #[.int .i64 0, .int .i64 0, .int .i64 0, .int .i64 0, .int .i64 0, .int .i64 0, .bool false, .string ⟨#[]⟩, .string ⟨#[]⟩] 58))
  clear h
  go_enter Try.func82, Try.ntmps82
  go_wp2_with fail
  refine (srcNext_c b a c xs K 8 _ HS0.out (by omega) (by omega) (by omega)).mono ?_
  rintro e w1 ⟨m, hm, rfl, hs1, hm1⟩
  have hz1 := hm1.size
  simp only [World.size_alloc] at hz1
  have ek : IntKind.i64.wrap (1 + (m : Int)) = 1 + (m : Int) := IntWalk.i64_in _ ⟨by omega, by omega⟩
  have r_0 : w1.cell? ⟨w.heap.size, 0, none⟩ = some (.int .i64 0) := (hm1.cell (p := ⟨w.heap.size, 0, none⟩) (by show w.heap.size < _; simp) (.inr (by show b + 1 ≤ w.heap.size; omega))).trans (by simp [go_sem])
  have r_1 : w1.cell? ⟨w.heap.size, 1, none⟩ = some (.int .i64 0) := (hm1.cell (p := ⟨w.heap.size, 1, none⟩) (by show w.heap.size < _; simp) (.inr (by show b + 1 ≤ w.heap.size; omega))).trans (by simp [go_sem])
  have r_2 : w1.cell? ⟨w.heap.size, 2, none⟩ = some (.int .i64 0) := (hm1.cell (p := ⟨w.heap.size, 2, none⟩) (by show w.heap.size < _; simp) (.inr (by show b + 1 ≤ w.heap.size; omega))).trans (by simp [go_sem])
  have r_3 : w1.cell? ⟨w.heap.size, 3, none⟩ = some (.int .i64 0) := (hm1.cell (p := ⟨w.heap.size, 3, none⟩) (by show w.heap.size < _; simp) (.inr (by show b + 1 ≤ w.heap.size; omega))).trans (by simp [go_sem])
  have r_4 : w1.cell? ⟨w.heap.size, 4, none⟩ = some (.int .i64 0) := (hm1.cell (p := ⟨w.heap.size, 4, none⟩) (by show w.heap.size < _; simp) (.inr (by show b + 1 ≤ w.heap.size; omega))).trans (by simp [go_sem])
  have r_5 : w1.cell? ⟨w.heap.size, 5, none⟩ = some (.int .i64 0) := (hm1.cell (p := ⟨w.heap.size, 5, none⟩) (by show w.heap.size < _; simp) (.inr (by show b + 1 ≤ w.heap.size; omega))).trans (by simp [go_sem])
  have r_6 : w1.cell? ⟨w.heap.size, 6, none⟩ = some (.bool false) := (hm1.cell (p := ⟨w.heap.size, 6, none⟩) (by show w.heap.size < _; simp) (.inr (by show b + 1 ≤ w.heap.size; omega))).trans (by simp [go_sem])
  have r_7 : w1.cell? ⟨w.heap.size, 7, none⟩ = some (.string ⟨#[]⟩) := (hm1.cell (p := ⟨w.heap.size, 7, none⟩) (by show w.heap.size < _; simp) (.inr (by show b + 1 ≤ w.heap.size; omega))).trans (by simp [go_sem])
  have r_8 : w1.cell? ⟨w.heap.size, 8, none⟩ = some (.string ⟨#[]⟩) := (hm1.cell (p := ⟨w.heap.size, 8, none⟩) (by show w.heap.size < _; simp) (.inr (by show b + 1 ≤ w.heap.size; omega))).trans (by simp [go_sem])
  have rf : ∀ o, w1.frozen? ⟨w.heap.size, o, none⟩ = false := fun o => (hm1.frozen (p := ⟨w.heap.size, o, none⟩) (by show w.heap.size < _; simp) (.inr (by show b + 1 ≤ w.heap.size; omega))).trans (by simp [go_sem])
  have hRB : w.heap.size < w1.heap.size := by omega
  have HW1 : Hid (CmdW b a c xs (K + 1) w w1.heap.size w.heap.size (1 + (m : Int)) cl sq 0 0 0 false ⟨#[]⟩ ⟨#[]⟩ (w1.alloc (.cells #[.int .i64 (1 + (m : Int)), .int .i64 cl, .int .i64 sq, .int .i64 0, .int .i64 0, .int .i64 0, .bool false, .string ⟨#[]⟩, .string ⟨#[]⟩] 58))) := by
    refine ⟨⟨by simp [go_sem], by simp [go_sem], by simp [go_sem], by simp [go_sem], by simp [go_sem], by simp [go_sem], by simp [go_sem], by simp [go_sem], by simp [go_sem]⟩, fun o => by simp [go_sem], ⟨?_, ?_, ?_, ?_, ?_, ?_, ?_, ?_, ?_⟩, fun o => ?_, hs1.alloc _, (((Mid.refl _ _ _).alloc _).trans hm1).alloc _, by simp⟩
    · rw [World.cell?_alloc_lt _ _ _ (by show w.heap.size < _; omega)]
      exact r_0
    · rw [World.cell?_alloc_lt _ _ _ (by show w.heap.size < _; omega)]
      exact r_1
    · rw [World.cell?_alloc_lt _ _ _ (by show w.heap.size < _; omega)]
      exact r_2
    · rw [World.cell?_alloc_lt _ _ _ (by show w.heap.size < _; omega)]
      exact r_3
    · rw [World.cell?_alloc_lt _ _ _ (by show w.heap.size < _; omega)]
      exact r_4
    · rw [World.cell?_alloc_lt _ _ _ (by show w.heap.size < _; omega)]
      exact r_5
    · rw [World.cell?_alloc_lt _ _ _ (by show w.heap.size < _; omega)]
      exact r_6
    · rw [World.cell?_alloc_lt _ _ _ (by show w.heap.size < _; omega)]
      exact r_7
    · rw [World.cell?_alloc_lt _ _ _ (by show w.heap.size < _; omega)]
      exact r_8
    · rw [((Below.refl _ _).alloc (Nat.le_refl _) _ : Below _ _ _).frozen (p := ⟨w.heap.size, o, none⟩) (by show w.heap.size < _; omega)]
      exact rf o
  clear hs1 hm1 rf r_0 r_1 r_2 r_3 r_4 r_5 r_6 r_7 r_8
  have hB1 : b + 1 ≤ w1.heap.size := by omega
  have hR1 : b + 1 ≤ w.heap.size := by omega
  have hbB : b < w1.heap.size := by omega
  have hwB : w.heap.size ≤ w1.heap.size := by omega
  have hneA : ¬ w1.heap.size = w.heap.size := by omega
  have hneB : ¬ w.heap.size = w1.heap.size := by omega
  go_upto_region 2 with fail
  generalize w1.alloc (.cells #[.int .i64 (1 + (m : Int)), .int .i64 cl, .int .i64 sq, .int .i64 0, .int .i64 0, .int .i64 0, .bool false, .string ⟨#[]⟩, .string ⟨#[]⟩] 58) = wa at HW1 ⊢
  clear ek
  go_wp2_with fail
  refine (srcChance_c b a c xs (K + 1) 3 _ HW1.out.src (by omega) (by omega) (by omega)).mono ?_
  rintro e w2 ⟨r3, rfl, hs2, hm2⟩
  have HW2 := Lib.hid (HW1.out.mid hm2 hs2 hB1 hR1 hRB)
  clear hs2 hm2
  have s_0 := HW2.out.1.1
  have sf := HW2.out.2.1

  have HW2x := HW2
  have s_1 : True := trivial
  go_upto_if 15 with fail
  go_cut [7] (fun s wx => s = .pointer (some ⟨w1.heap.size, 0, none⟩) ∧ ∃ k : Int, 1 ≤ k ∧ k ≤ 8 ∧ CmdW b a c xs (K + 1 + 1) w w1.heap.size w.heap.size k cl sq 0 0 0 false ⟨#[]⟩ ⟨#[]⟩ wx)
  case first =>
    cases r3
    · go_wp2_with fail
      go_meet
      exact ⟨rfl, 1 + (m : Int), by omega, by omega, HW2.out⟩
    · go_wp2_with fail
      go_meet
      exact ⟨rfl, 5, by omega, by omega, HW2.out.store0 5 hRB hbB hwB HFAR.out⟩
  case rest =>
    obtain ⟨rfl, k, hk1, hk8, hW⟩ := hcut
    have HWc := Lib.hid hW
    clear hW HW2 HW2x HW1 s_0 sf s_1
    obtain ⟨wd, hwd⟩ : ∃ x, x = wc := ⟨_, rfl⟩
    subst hwd
    by_cases k1 : k = 1
    · subst k1
      have s_0 := HWc.out.1.1
      have sf := HWc.out.2.1
      go_wp2_with fail
      clear s_0 sf
      refine (srcWindow_c b a c xs (K + 1 + 1) _ HWc.out.src (by omega)).mono ?_
      rintro e w3 ⟨nm, hnm, rfl, hs3, hm3⟩
      have HNM := Lib.hid hnm
      clear hnm
      have HW3 := Lib.hid (HWc.out.mid hm3 hs3 hB1 hR1 hRB)
      clear hs3 hm3
      have s_0 := HW3.out.1.1
      have s_7 := HW3.out.1.2.2.2.2.2.2.2.1
      have sf := HW3.out.2.1
      have HS3 := Lib.hid (HW3.out.store7 (nm) hRB hbB hwB HFAR.out)
      obtain ⟨⟨g0, g1, g2, g3, g4, g5, g6, g7, g8⟩, gf, ⟨d0, d1, d2, d3, d4, d5, d6, d7, d8⟩, df, hs9, hm9', hz9⟩ := HW3.out
      go_wp2_with fail
      refine bodyPost_ret (v := .agg #[.int .i64 1, .int .i64 cl, .int .i64 sq, .int .i64 0, .int .i64 0, .int .i64 0, .bool false, .string nm, .string ⟨#[]⟩]) (by simp [results, Try.results82, go_sem, g0, g1, g2, g3, g4, g5, g6, g7, g8, gf, d0, d1, d2, d3, d4, d5, d6, d7, d8, df, hneA, hneB]) rfl ?_
      refine ⟨1, 0, 0, 0, false, nm, ⟨#[]⟩, rfl, ?_, ?_, ?_⟩
      · first | (rw [cmdOK, HCL.out, HSQ.out]; simp [bodyOK, inB, HNM.out]; done) | (rw [cmdOK, HCL.out, HSQ.out]; simp [bodyOK, inB, HNM.out]; omega)
      · refine SrcAt.mono (K := K + 1 + 1 + 1) ?_ (by omega)
        repeat (first | (with_reducible exact HS3.out.src) | (with_reducible refine SrcAt.setCell ?_ ?_ ?_ _; rotate_left; (show ¬ w.heap.size = b; omega); (exact fun b' o e => (HFAR.out b' o e).imp id (fun h => by show b' ≠ w.heap.size; omega))))
      · repeat (first | (with_reducible exact HS3.out.midw) | (with_reducible refine Mid.setNew ?_ ?_ _; rotate_left; (show w.heap.size ≤ w.heap.size; omega)))
    by_cases k2 : k = 2
    · subst k2
      have s_0 := HWc.out.1.1
      have sf := HWc.out.2.1
      go_wp2_with fail
      clear s_0 sf
      refine (srcNext_c b a c xs (K + 1 + 1) 5 _ HWc.out.src (by omega) (by omega) (by omega)).mono ?_
      rintro e w3 ⟨m5, hm5, rfl, hs3, hm3⟩
      have e5 : IntKind.i64.wrap (1 + (m5 : Int)) = 1 + (m5 : Int) := IntWalk.i64_in _ ⟨by omega, by omega⟩
      have HW3 := Lib.hid (HWc.out.mid hm3 hs3 hB1 hR1 hRB)
      clear hs3 hm3
      have s_0 := HW3.out.1.1
      have s_3 := HW3.out.1.2.2.2.1
      have sf := HW3.out.2.1
      have HS3 := Lib.hid (HW3.out.store3 (1 + (m5 : Int)) hRB hbB hwB HFAR.out)
      go_wp2_with fail
      clear s_0 sf s_3
      refine (srcChance_c b a c xs (K + 1 + 1 + 1) 2 _ HS3.out.src (by omega) (by omega) (by omega)).mono ?_
      rintro e w4 ⟨rr, rfl, hs4, hm4⟩
      have HW4 := Lib.hid (HS3.out.mid hm4 hs4 hB1 hR1 hRB)
      clear hs4 hm4
      have s_0 := HW4.out.1.1
      have s_6 := HW4.out.1.2.2.2.2.2.2.1
      have sf := HW4.out.2.1
      have HS4 := Lib.hid (HW4.out.store6 (rr) hRB hbB hwB HFAR.out)
      obtain ⟨⟨g0, g1, g2, g3, g4, g5, g6, g7, g8⟩, gf, ⟨d0, d1, d2, d3, d4, d5, d6, d7, d8⟩, df, hs9, hm9', hz9⟩ := HW4.out
      go_wp2_with fail
      refine bodyPost_ret (v := .agg #[.int .i64 2, .int .i64 cl, .int .i64 sq, .int .i64 (1 + (m5 : Int)), .int .i64 0, .int .i64 0, .bool rr, .string ⟨#[]⟩, .string ⟨#[]⟩]) (by simp [results, Try.results82, go_sem, g0, g1, g2, g3, g4, g5, g6, g7, g8, gf, d0, d1, d2, d3, d4, d5, d6, d7, d8, df, hneA, hneB]) rfl ?_
      refine ⟨2, (1 + (m5 : Int)), 0, 0, rr, ⟨#[]⟩, ⟨#[]⟩, rfl, ?_, ?_, ?_⟩
      · first | (rw [cmdOK, HCL.out, HSQ.out]; simp [bodyOK, inB]; done) | (rw [cmdOK, HCL.out, HSQ.out]; simp [bodyOK, inB]; omega)
      · refine SrcAt.mono (K := K + 1 + 1 + 1 + 1) ?_ (by omega)
        repeat (first | (with_reducible exact HS4.out.src) | (with_reducible refine SrcAt.setCell ?_ ?_ ?_ _; rotate_left; (show ¬ w.heap.size = b; omega); (exact fun b' o e => (HFAR.out b' o e).imp id (fun h => by show b' ≠ w.heap.size; omega))))
      · repeat (first | (with_reducible exact HS4.out.midw) | (with_reducible refine Mid.setNew ?_ ?_ _; rotate_left; (show w.heap.size ≤ w.heap.size; omega)))
    by_cases k3 : k = 3
    · subst k3
      have s_0 := HWc.out.1.1
      have sf := HWc.out.2.1
      go_wp2_with fail
      clear s_0 sf
      refine (srcNext_c b a c xs (K + 1 + 1) 5 _ HWc.out.src (by omega) (by omega) (by omega)).mono ?_
      rintro e w3 ⟨m5, hm5, rfl, hs3, hm3⟩
      have e5 : IntKind.i64.wrap (1 + (m5 : Int)) = 1 + (m5 : Int) := IntWalk.i64_in _ ⟨by omega, by omega⟩
      have HW3 := Lib.hid (HWc.out.mid hm3 hs3 hB1 hR1 hRB)
      clear hs3 hm3
      have s_0 := HW3.out.1.1
      have s_3 := HW3.out.1.2.2.2.1
      have sf := HW3.out.2.1
      have HS3 := Lib.hid (HW3.out.store3 (1 + (m5 : Int)) hRB hbB hwB HFAR.out)
      obtain ⟨⟨g0, g1, g2, g3, g4, g5, g6, g7, g8⟩, gf, ⟨d0, d1, d2, d3, d4, d5, d6, d7, d8⟩, df, hs9, hm9', hz9⟩ := HW3.out
      go_wp2_with fail
      refine bodyPost_ret (v := .agg #[.int .i64 3, .int .i64 cl, .int .i64 sq, .int .i64 (1 + (m5 : Int)), .int .i64 0, .int .i64 0, .bool false, .string ⟨#[]⟩, .string ⟨#[]⟩]) (by simp [results, Try.results82, go_sem, g0, g1, g2, g3, g4, g5, g6, g7, g8, gf, d0, d1, d2, d3, d4, d5, d6, d7, d8, df, hneA, hneB]) rfl ?_
      refine ⟨3, (1 + (m5 : Int)), 0, 0, false, ⟨#[]⟩, ⟨#[]⟩, rfl, ?_, ?_, ?_⟩
      · first | (rw [cmdOK, HCL.out, HSQ.out]; simp [bodyOK, inB]; done) | (rw [cmdOK, HCL.out, HSQ.out]; simp [bodyOK, inB]; omega)
      · refine SrcAt.mono (K := K + 1 + 1 + 1) ?_ (by omega)
        repeat (first | (with_reducible exact HS3.out.src) | (with_reducible refine SrcAt.setCell ?_ ?_ ?_ _; rotate_left; (show ¬ w.heap.size = b; omega); (exact fun b' o e => (HFAR.out b' o e).imp id (fun h => by show b' ≠ w.heap.size; omega))))
      · repeat (first | (with_reducible exact HS3.out.midw) | (with_reducible refine Mid.setNew ?_ ?_ _; rotate_left; (show w.heap.size ≤ w.heap.size; omega)))
    by_cases k4 : k = 4
    · subst k4
      have s_0 := HWc.out.1.1
      have sf := HWc.out.2.1
      go_wp2_with fail
      clear s_0 sf
      refine (srcNext_c b a c xs (K + 1 + 1) 5 _ HWc.out.src (by omega) (by omega) (by omega)).mono ?_
      rintro e w3 ⟨m5, hm5, rfl, hs3, hm3⟩
      have e5 : IntKind.i64.wrap (1 + (m5 : Int)) = 1 + (m5 : Int) := IntWalk.i64_in _ ⟨by omega, by omega⟩
      have HW3 := Lib.hid (HWc.out.mid hm3 hs3 hB1 hR1 hRB)
      clear hs3 hm3
      have s_0 := HW3.out.1.1
      have s_3 := HW3.out.1.2.2.2.1
      have sf := HW3.out.2.1
      have HS3 := Lib.hid (HW3.out.store3 (1 + (m5 : Int)) hRB hbB hwB HFAR.out)
      go_wp2_with fail
      clear s_0 sf s_3
      refine (srcNext_c b a c xs (K + 1 + 1 + 1) 9 _ HS3.out.src (by omega) (by omega) (by omega)).mono ?_
      rintro e w4 ⟨m9, hm9, rfl, hs4, hm4⟩
      have e9 : IntKind.i64.wrap ((m9 : Int) - 4) = (m9 : Int) - 4 := IntWalk.i64_in _ ⟨by omega, by omega⟩
      have HW4 := Lib.hid (HS3.out.mid hm4 hs4 hB1 hR1 hRB)
      clear hs4 hm4
      have s_0 := HW4.out.1.1
      have s_4 := HW4.out.1.2.2.2.2.1
      have sf := HW4.out.2.1
      have HS4 := Lib.hid (HW4.out.store4 ((m9 : Int) - 4) hRB hbB hwB HFAR.out)
      obtain ⟨⟨g0, g1, g2, g3, g4, g5, g6, g7, g8⟩, gf, ⟨d0, d1, d2, d3, d4, d5, d6, d7, d8⟩, df, hs9, hm9', hz9⟩ := HW4.out
      go_wp2_with fail
      refine bodyPost_ret (v := .agg #[.int .i64 4, .int .i64 cl, .int .i64 sq, .int .i64 (1 + (m5 : Int)), .int .i64 ((m9 : Int) - 4), .int .i64 0, .bool false, .string ⟨#[]⟩, .string ⟨#[]⟩]) (by simp [results, Try.results82, go_sem, g0, g1, g2, g3, g4, g5, g6, g7, g8, gf, d0, d1, d2, d3, d4, d5, d6, d7, d8, df, hneA, hneB]) rfl ?_
      refine ⟨4, (1 + (m5 : Int)), ((m9 : Int) - 4), 0, false, ⟨#[]⟩, ⟨#[]⟩, rfl, ?_, ?_, ?_⟩
      · first | (rw [cmdOK, HCL.out, HSQ.out]; simp [bodyOK, inB]; done) | (rw [cmdOK, HCL.out, HSQ.out]; simp [bodyOK, inB]; omega)
      · refine SrcAt.mono (K := K + 1 + 1 + 1 + 1) ?_ (by omega)
        repeat (first | (with_reducible exact HS4.out.src) | (with_reducible refine SrcAt.setCell ?_ ?_ ?_ _; rotate_left; (show ¬ w.heap.size = b; omega); (exact fun b' o e => (HFAR.out b' o e).imp id (fun h => by show b' ≠ w.heap.size; omega))))
      · repeat (first | (with_reducible exact HS4.out.midw) | (with_reducible refine Mid.setNew ?_ ?_ _; rotate_left; (show w.heap.size ≤ w.heap.size; omega)))
    by_cases k5 : k = 5
    · subst k5
      have s_0 := HWc.out.1.1
      have sf := HWc.out.2.1
      go_wp2_with fail
      clear s_0 sf
      refine (srcNext_c b a c xs (K + 1 + 1) 5 _ HWc.out.src (by omega) (by omega) (by omega)).mono ?_
      rintro e w3 ⟨m5, hm5, rfl, hs3, hm3⟩
      have e5 : IntKind.i64.wrap (1 + (m5 : Int)) = 1 + (m5 : Int) := IntWalk.i64_in _ ⟨by omega, by omega⟩
      have HW3 := Lib.hid (HWc.out.mid hm3 hs3 hB1 hR1 hRB)
      clear hs3 hm3
      have s_0 := HW3.out.1.1
      have s_3 := HW3.out.1.2.2.2.1
      have sf := HW3.out.2.1
      have HS3 := Lib.hid (HW3.out.store3 (1 + (m5 : Int)) hRB hbB hwB HFAR.out)
      go_wp2_with fail
      clear s_0 sf s_3
      refine (srcNext_c b a c xs (K + 1 + 1 + 1) 12 _ HS3.out.src (by omega) (by omega) (by omega)).mono ?_
      rintro e w4 ⟨m12, hm12, rfl, hs4, hm4⟩
      have hq : (m12 : Int).tdiv 10 = ((m12 / 10 : Nat) : Int) := by simp
      obtain ⟨q12, hq12⟩ : ∃ q, q = m12 / 10 := ⟨_, rfl⟩
      rw [← hq12] at hq
      have hqb : q12 ≤ 1 := by omega
      clear hq12
      have eq0 : IntKind.i64.wrap ((m12 : Int).tdiv 10) = (q12 : Int) := by rw [hq]; exact IntWalk.i64_in _ ⟨by omega, by omega⟩
      have eq1 : IntKind.i64.wrap (1 + (q12 : Int)) = 1 + (q12 : Int) := IntWalk.i64_in _ ⟨by omega, by omega⟩
      have eq2 : IntKind.i64.wrap (q12 : Int) = (q12 : Int) := IntWalk.i64_in _ ⟨by omega, by omega⟩
      have HW4 := Lib.hid (HS3.out.mid hm4 hs4 hB1 hR1 hRB)
      clear hs4 hm4
      have s_0 := HW4.out.1.1
      have s_5 := HW4.out.1.2.2.2.2.2.1
      have sf := HW4.out.2.1
      have HS4 := Lib.hid (HW4.out.store5 (1 + (q12 : Int)) hRB hbB hwB HFAR.out)
      go_wp2_with fail
      clear s_0 sf s_5
      refine (srcOutput_c b a c xs (K + 1 + 1 + 1 + 1) _ HS4.out.src (by omega)).mono ?_
      rintro e w5 ⟨dt, hdt, rfl, hs5, hm5⟩
      have HDT : Hid (1 ≤ dt.size ∧ dt.size ≤ 200) := hdt
      clear hdt
      have HW5 := Lib.hid (HS4.out.mid hm5 hs5 hB1 hR1 hRB)
      clear hs5 hm5
      have s_0 := HW5.out.1.1
      have s_8 := HW5.out.1.2.2.2.2.2.2.2.2
      have sf := HW5.out.2.1
      have HS5 := Lib.hid (HW5.out.store8 (dt) hRB hbB hwB HFAR.out)
      obtain ⟨⟨g0, g1, g2, g3, g4, g5, g6, g7, g8⟩, gf, ⟨d0, d1, d2, d3, d4, d5, d6, d7, d8⟩, df, hs9, hm9', hz9⟩ := HW5.out
      go_wp2_with fail
      refine bodyPost_ret (v := .agg #[.int .i64 5, .int .i64 cl, .int .i64 sq, .int .i64 (1 + (m5 : Int)), .int .i64 0, .int .i64 (1 + (q12 : Int)), .bool false, .string ⟨#[]⟩, .string dt]) (by simp [results, Try.results82, go_sem, g0, g1, g2, g3, g4, g5, g6, g7, g8, gf, d0, d1, d2, d3, d4, d5, d6, d7, d8, df, hneA, hneB]) rfl ?_
      refine ⟨5, (1 + (m5 : Int)), 0, (1 + (q12 : Int)), false, ⟨#[]⟩, dt, rfl, ?_, ?_, ?_⟩
      · have u := HDT.out
        first | (rw [cmdOK, HCL.out, HSQ.out]; simp [bodyOK, inB]; done) | (rw [cmdOK, HCL.out, HSQ.out]; simp [bodyOK, inB]; omega)
      · refine SrcAt.mono (K := K + 1 + 1 + 1 + 1 + 9) ?_ (by omega)
        repeat (first | (with_reducible exact HS5.out.src) | (with_reducible refine SrcAt.setCell ?_ ?_ ?_ _; rotate_left; (show ¬ w.heap.size = b; omega); (exact fun b' o e => (HFAR.out b' o e).imp id (fun h => by show b' ≠ w.heap.size; omega))))
      · repeat (first | (with_reducible exact HS5.out.midw) | (with_reducible refine Mid.setNew ?_ ?_ _; rotate_left; (show w.heap.size ≤ w.heap.size; omega)))
    by_cases k6 : k = 6
    · subst k6
      have s_0 := HWc.out.1.1
      have sf := HWc.out.2.1
      go_wp2_with fail
      clear s_0 sf
      refine (srcNext_c b a c xs (K + 1 + 1) 5 _ HWc.out.src (by omega) (by omega) (by omega)).mono ?_
      rintro e w3 ⟨m5, hm5, rfl, hs3, hm3⟩
      have e5 : IntKind.i64.wrap (1 + (m5 : Int)) = 1 + (m5 : Int) := IntWalk.i64_in _ ⟨by omega, by omega⟩
      have HW3 := Lib.hid (HWc.out.mid hm3 hs3 hB1 hR1 hRB)
      clear hs3 hm3
      have s_0 := HW3.out.1.1
      have s_3 := HW3.out.1.2.2.2.1
      have sf := HW3.out.2.1
      have HS3 := Lib.hid (HW3.out.store3 (1 + (m5 : Int)) hRB hbB hwB HFAR.out)
      go_wp2_with fail
      clear s_0 sf s_3
      refine (srcNext_c b a c xs (K + 1 + 1 + 1) 3 _ HS3.out.src (by omega) (by omega) (by omega)).mono ?_
      rintro e w4 ⟨m3, hm3, rfl, hs4, hm4⟩
      have HW4 := Lib.hid (HS3.out.mid hm4 hs4 hB1 hR1 hRB)
      clear hs4 hm4
      have s_0 := HW4.out.1.1
      have s_4 := HW4.out.1.2.2.2.2.1
      have sf := HW4.out.2.1
      have HS4 := Lib.hid (HW4.out.store4 ((m3 : Int)) hRB hbB hwB HFAR.out)
      obtain ⟨⟨g0, g1, g2, g3, g4, g5, g6, g7, g8⟩, gf, ⟨d0, d1, d2, d3, d4, d5, d6, d7, d8⟩, df, hs9, hm9', hz9⟩ := HW4.out
      go_wp2_with fail
      refine bodyPost_ret (v := .agg #[.int .i64 6, .int .i64 cl, .int .i64 sq, .int .i64 (1 + (m5 : Int)), .int .i64 ((m3 : Int)), .int .i64 0, .bool false, .string ⟨#[]⟩, .string ⟨#[]⟩]) (by simp [results, Try.results82, go_sem, g0, g1, g2, g3, g4, g5, g6, g7, g8, gf, d0, d1, d2, d3, d4, d5, d6, d7, d8, df, hneA, hneB]) rfl ?_
      refine ⟨6, (1 + (m5 : Int)), ((m3 : Int)), 0, false, ⟨#[]⟩, ⟨#[]⟩, rfl, ?_, ?_, ?_⟩
      · first | (rw [cmdOK, HCL.out, HSQ.out]; simp [bodyOK, inB]; done) | (rw [cmdOK, HCL.out, HSQ.out]; simp [bodyOK, inB]; omega)
      · refine SrcAt.mono (K := K + 1 + 1 + 1 + 1) ?_ (by omega)
        repeat (first | (with_reducible exact HS4.out.src) | (with_reducible refine SrcAt.setCell ?_ ?_ ?_ _; rotate_left; (show ¬ w.heap.size = b; omega); (exact fun b' o e => (HFAR.out b' o e).imp id (fun h => by show b' ≠ w.heap.size; omega))))
      · repeat (first | (with_reducible exact HS4.out.midw) | (with_reducible refine Mid.setNew ?_ ?_ _; rotate_left; (show w.heap.size ≤ w.heap.size; omega)))
    by_cases k7 : k = 7
    · subst k7
      have s_0 := HWc.out.1.1
      have sf := HWc.out.2.1
      go_wp2_with fail
      clear s_0 sf
      refine (srcNext_c b a c xs (K + 1 + 1) 17 _ HWc.out.src (by omega) (by omega) (by omega)).mono ?_
      rintro e w3 ⟨m17, hm17, rfl, hs3, hm3⟩
      have e17 : IntKind.i64.wrap (8 + (m17 : Int)) = 8 + (m17 : Int) := IntWalk.i64_in _ ⟨by omega, by omega⟩
      have HW3 := Lib.hid (HWc.out.mid hm3 hs3 hB1 hR1 hRB)
      clear hs3 hm3
      have s_0 := HW3.out.1.1
      have s_4 := HW3.out.1.2.2.2.2.1
      have sf := HW3.out.2.1
      have HS3 := Lib.hid (HW3.out.store4 (8 + (m17 : Int)) hRB hbB hwB HFAR.out)
      go_wp2_with fail
      clear s_0 sf s_4
      refine (srcNext_c b a c xs (K + 1 + 1 + 1) 7 _ HS3.out.src (by omega) (by omega) (by omega)).mono ?_
      rintro e w4 ⟨m7, hm7, rfl, hs4, hm4⟩
      have e7 : IntKind.i64.wrap (4 + (m7 : Int)) = 4 + (m7 : Int) := IntWalk.i64_in _ ⟨by omega, by omega⟩
      have HW4 := Lib.hid (HS3.out.mid hm4 hs4 hB1 hR1 hRB)
      clear hs4 hm4
      have s_0 := HW4.out.1.1
      have s_5 := HW4.out.1.2.2.2.2.2.1
      have sf := HW4.out.2.1
      have HS4 := Lib.hid (HW4.out.store5 (4 + (m7 : Int)) hRB hbB hwB HFAR.out)
      obtain ⟨⟨g0, g1, g2, g3, g4, g5, g6, g7, g8⟩, gf, ⟨d0, d1, d2, d3, d4, d5, d6, d7, d8⟩, df, hs9, hm9', hz9⟩ := HW4.out
      go_wp2_with fail
      refine bodyPost_ret (v := .agg #[.int .i64 7, .int .i64 cl, .int .i64 sq, .int .i64 0, .int .i64 (8 + (m17 : Int)), .int .i64 (4 + (m7 : Int)), .bool false, .string ⟨#[]⟩, .string ⟨#[]⟩]) (by simp [results, Try.results82, go_sem, g0, g1, g2, g3, g4, g5, g6, g7, g8, gf, d0, d1, d2, d3, d4, d5, d6, d7, d8, df, hneA, hneB]) rfl ?_
      refine ⟨7, 0, (8 + (m17 : Int)), (4 + (m7 : Int)), false, ⟨#[]⟩, ⟨#[]⟩, rfl, ?_, ?_, ?_⟩
      · first | (rw [cmdOK, HCL.out, HSQ.out]; simp [bodyOK, inB]; done) | (rw [cmdOK, HCL.out, HSQ.out]; simp [bodyOK, inB]; omega)
      · refine SrcAt.mono (K := K + 1 + 1 + 1 + 1) ?_ (by omega)
        repeat (first | (with_reducible exact HS4.out.src) | (with_reducible refine SrcAt.setCell ?_ ?_ ?_ _; rotate_left; (show ¬ w.heap.size = b; omega); (exact fun b' o e => (HFAR.out b' o e).imp id (fun h => by show b' ≠ w.heap.size; omega))))
      · repeat (first | (with_reducible exact HS4.out.midw) | (with_reducible refine Mid.setNew ?_ ?_ _; rotate_left; (show w.heap.size ≤ w.heap.size; omega)))
    by_cases k8 : k = 8
    · subst k8
      have s_0 := HWc.out.1.1
      have sf := HWc.out.2.1
      go_wp2_with fail
      clear s_0 sf
      refine (srcWindow_c b a c xs (K + 1 + 1) _ HWc.out.src (by omega)).mono ?_
      rintro e w3 ⟨nm, hnm, rfl, hs3, hm3⟩
      have HNM := Lib.hid hnm
      clear hnm
      have HW3 := Lib.hid (HWc.out.mid hm3 hs3 hB1 hR1 hRB)
      clear hs3 hm3
      have s_0 := HW3.out.1.1
      have s_7 := HW3.out.1.2.2.2.2.2.2.2.1
      have sf := HW3.out.2.1
      have HS3 := Lib.hid (HW3.out.store7 (nm) hRB hbB hwB HFAR.out)
      go_wp2_with fail
      clear s_0 sf s_7
      have hBk := HW3.out.2.2.2.2.2.2
      have HA := Lib.hid (HS3.out.alloc (.cells #[.string ⟨#[109, 97, 105, 110]⟩, .string ⟨#[111, 116, 104, 101, 114]⟩, .string ⟨#[108, 111, 103, 115]⟩] 9) hRB)
      refine (srcPick_c b a c xs (K + 1 + 1 + 1) (some ⟨w3.heap.size, 0, none⟩) 3 oldL _ HA.out.src (by omega) (Sl.boxM (enc := strE) (sz := 1) (fun _ => rfl) oldL #[.string ⟨#[109, 97, 105, 110]⟩, .string ⟨#[111, 116, 104, 101, 114]⟩, .string ⟨#[108, 111, 103, 115]⟩] 9 rfl _ (by simp)) (fun b' o h => by cases h; omega) (by decide) (by decide)).mono ?_
      rintro e w4 ⟨dt, hdt, rfl, hs4, hm4⟩
      have HDT := Lib.hid (oldL_ok dt hdt)
      have HW4 := Lib.hid (HA.out.mid hm4 hs4 hB1 hR1 hRB)
      clear hs4 hm4 hdt
      have s_0 := HW4.out.1.1
      have s_8 := HW4.out.1.2.2.2.2.2.2.2.2
      have sf := HW4.out.2.1
      have HS4 := Lib.hid (HW4.out.store8 dt hRB hbB hwB HFAR.out)
      obtain ⟨⟨g0, g1, g2, g3, g4, g5, g6, g7, g8⟩, gf, ⟨d0, d1, d2, d3, d4, d5, d6, d7, d8⟩, df, hs9, hm9', hz9⟩ := HW4.out
      go_wp2_with fail
      refine bodyPost_ret (v := .agg #[.int .i64 8, .int .i64 cl, .int .i64 sq, .int .i64 0, .int .i64 0, .int .i64 0, .bool false, .string nm, .string dt]) (by simp [results, Try.results82, go_sem, g0, g1, g2, g3, g4, g5, g6, g7, g8, gf, d0, d1, d2, d3, d4, d5, d6, d7, d8, df, hneA, hneB]) rfl ?_
      refine ⟨8, 0, 0, 0, false, nm, dt, rfl, ?_, ?_, ?_⟩
      · first | (rw [cmdOK, HCL.out, HSQ.out]; simp [bodyOK, inB, HNM.out, HDT.out]; done) | (rw [cmdOK, HCL.out, HSQ.out]; simp [bodyOK, inB, HNM.out, HDT.out]; omega)
      · refine SrcAt.mono (K := K + 1 + 1 + 1 + 1) ?_ (by omega)
        repeat (first | (with_reducible exact HS4.out.src) | (with_reducible refine SrcAt.setCell ?_ ?_ ?_ _; rotate_left; (show ¬ w.heap.size = b; omega); (exact fun b' o e => (HFAR.out b' o e).imp id (fun h => by show b' ≠ w.heap.size; omega))))
      · repeat (first | (with_reducible exact HS4.out.midw) | (with_reducible refine Mid.setNew ?_ ?_ _; rotate_left; (show w.heap.size ≤ w.heap.size; omega)))
    exfalso
    omega
end
section
open Go.RowKit
set_option maxRecDepth 100000 in
set_option maxHeartbeats 4000000 in
theorem lawAt2_c (a : Option Addr) (ca : Nat) (xs : List UInt8) (i n : Nat) (w : World) (ha : Sl byteE 1 w a xs) (la : xs.length ≤ 1048576) (hi : i ≤ 1000) (hn : n ≤ 1000000) (h2 : 2 ≤ n) :
    Calls Try.prog 34 #[.slice a xs.length ca, .int .i64 i, .int .i64 n] w fun e w' => (∃ m : Nat, e = .returned (.int .i64 m) ∧ m < n) ∧ Below w.heap.size w w' := by
  have HA := Lib.hid ha
  clear ha
  have h1' : (1 : Int) < (n : Int) := by omega
  have h0 : ¬ n = 0 := by omega
  by_cases hx : xs = []
  · subst hx
    go_enter Try.func34, Try.ntmps34
    go_wp2_with fail
    go_ret
    exact ⟨⟨i * 7 % n, congrArg (fun z => Ending.returned (.int .i64 z)) (by simp), Nat.mod_lt _ (by omega)⟩, Below.refl _ _⟩
  · have hl0 : 0 < xs.length := List.length_pos_iff.2 hx
    have g1 : decide ((xs.length : Int) = 0) = false := decide_eq_false (by omega)
    have g2 : ((xs.length : Int) == 0) = false := by simp; omega
    have g3 : ¬ xs.length = 0 := by omega
    have hp := Nat.mod_lt i hl0
    have hq := Nat.mod_lt (i + 1) hl0
    obtain ⟨b1, o1, rfl, hb1, hc⟩ := HA.out.at hl0
    have d1 := hc _ hp 0 (by omega)
    have d2 := hc _ hq 0 (by omega)
    simp only [byteE, Nat.mul_one, Nat.add_zero, List.getElem?_cons_zero] at d1 d2
    have hn1 := xs[i % xs.length].toNat_lt
    have hn2 := xs[(i + 1) % xs.length].toNat_lt
    clear hc
    generalize xs[i % xs.length].toNat = n1 at *
    generalize xs[(i + 1) % xs.length].toNat = n2 at *
    have e1 : (i : Int) % (xs.length : Int) = ((i % xs.length : Nat) : Int) := by simp
    have e2 : ((i : Int) + 1) % (xs.length : Int) = (((i + 1) % xs.length : Nat) : Int) := by simp
    generalize hP : i % xs.length = p1 at *
    generalize hQ : (i + 1) % xs.length = p2 at *
    have k1 : (0 : Int) ≤ (p1 : Int) := by omega
    have k2 : (p1 : Int) < (xs.length : Int) := by omega
    have k3 : (0 : Int) ≤ (p2 : Int) := by omega
    have k4 : (p2 : Int) < (xs.length : Int) := by omega
    clear hP hQ
    go_enter Try.func34, Try.ntmps34
    go_wp2_with fail
    go_quiet (fail)
    go_wp2_with fail
    go_ret
    have hd : i / xs.length ≤ 1000 := Nat.le_trans (Nat.div_le_self _ _) hi
    have hdv : (i : Int) / (xs.length : Int) = ((i / xs.length : Nat) : Int) := by simp
    generalize i / xs.length = q at hd hdv
    refine ⟨⟨(n1 * 31 + n2 + q) % n, congrArg (fun z => Ending.returned (.int .i64 z)) ?_, Nat.mod_lt _ (by omega)⟩, below_drewN _ _ _⟩
    rw [hdv, IntWalk.wrap64_in (q : Int) ⟨by omega, by omega⟩, IntWalk.wrap64_in _ ⟨by omega, by omega⟩, Int.tmod_eq_emod_of_nonneg (by omega)]
    simp
end
section
open Go.RowKit
def CmdOfR (w : World) (e : Ending) (w' : World) : Prop :=
  ∃ (k cl sq pn n ep : Int) (rw : Bool) (nm dt : ByteArray), e = .returned (.agg #[.int .i64 k, .int .i64 cl, .int .i64 sq, .int .i64 pn, .int .i64 n, .int .i64 ep, .bool rw, .string nm, .string dt]) ∧ cmdOK k cl sq pn n ep rw nm dt = true ∧ Below w.heap.size w w'
set_option maxRecDepth 100000 in
set_option maxHeartbeats 4000000 in
theorem commandOf_c (a : Option Addr) (c : Nat) (xs : List UInt8) (cl sq : Int) (w : World) (ha : Sl byteE 1 w a xs) (hl : xs.length ≤ 1048576) (hcl : inB cl 0 200 = true) (hsq : inB sq 1 60000 = true) :
    Calls Try.prog 33 #[.slice a xs.length c, .int .i64 cl, .int .i64 sq] w (CmdOfR w) := by
  have HA := Lib.hid (ha.alloc (.cells #[.int .i64 0, .int .i64 0, .int .i64 0, .int .i64 0, .int .i64 0, .int .i64 0, .bool false, .string ⟨#[]⟩, .string ⟨#[]⟩] 58))
  have HCL := Lib.hid hcl
  have HSQ := Lib.hid hsq
  clear ha hcl hsq
  go_enter Try.func33, Try.ntmps33
  go_wp2_with fail
  refine (l00Source_c a c xs _ HA.out hl).mono ?_
  rintro e w1 ⟨rfl, hs1, hb1⟩
  rw [World.size_alloc] at hs1 ⊢
  have hz1 := hb1.size
  rw [World.size_alloc] at hz1
  have HS1 := Lib.hid hs1
  have HB1 : Hid (Below w.heap.size w w1) := ((Below.refl _ _).alloc (Nat.le_refl _) _).trans (hb1.mono (by rw [World.size_alloc]; omega))
  have HB1' := Lib.hid hb1
  clear hs1 hb1
  go_wp2_with fail
  refine (srcCommand_c (w.heap.size + 1) a c xs 0 cl sq _ HS1.out (by omega) HCL.out HSQ.out).mono ?_
  rintro e w2 ⟨k, pn, n, ep, rw, nm, dt, rfl, hok, hs2, hm2⟩
  have hz2 := hm2.size
  have HOK := Lib.hid hok
  have HB2 : Hid (Below w.heap.size w w2) := HB1.out.trans (hm2.below (by omega) (by omega))
  have q_0 : w2.cell? ⟨w.heap.size, 0, none⟩ = some (.int .i64 0) := (hm2.cell (p := ⟨w.heap.size, 0, none⟩) (by show w.heap.size < _; omega) (.inl (by show w.heap.size < _; omega))).trans ((HB1'.out.cell (p := ⟨w.heap.size, 0, none⟩) (by show w.heap.size < _; rw [World.size_alloc]; omega)).trans (by simp [go_sem]))
  have q_1 : w2.cell? ⟨w.heap.size, 1, none⟩ = some (.int .i64 0) := (hm2.cell (p := ⟨w.heap.size, 1, none⟩) (by show w.heap.size < _; omega) (.inl (by show w.heap.size < _; omega))).trans ((HB1'.out.cell (p := ⟨w.heap.size, 1, none⟩) (by show w.heap.size < _; rw [World.size_alloc]; omega)).trans (by simp [go_sem]))
  have q_2 : w2.cell? ⟨w.heap.size, 2, none⟩ = some (.int .i64 0) := (hm2.cell (p := ⟨w.heap.size, 2, none⟩) (by show w.heap.size < _; omega) (.inl (by show w.heap.size < _; omega))).trans ((HB1'.out.cell (p := ⟨w.heap.size, 2, none⟩) (by show w.heap.size < _; rw [World.size_alloc]; omega)).trans (by simp [go_sem]))
  have q_3 : w2.cell? ⟨w.heap.size, 3, none⟩ = some (.int .i64 0) := (hm2.cell (p := ⟨w.heap.size, 3, none⟩) (by show w.heap.size < _; omega) (.inl (by show w.heap.size < _; omega))).trans ((HB1'.out.cell (p := ⟨w.heap.size, 3, none⟩) (by show w.heap.size < _; rw [World.size_alloc]; omega)).trans (by simp [go_sem]))
  have q_4 : w2.cell? ⟨w.heap.size, 4, none⟩ = some (.int .i64 0) := (hm2.cell (p := ⟨w.heap.size, 4, none⟩) (by show w.heap.size < _; omega) (.inl (by show w.heap.size < _; omega))).trans ((HB1'.out.cell (p := ⟨w.heap.size, 4, none⟩) (by show w.heap.size < _; rw [World.size_alloc]; omega)).trans (by simp [go_sem]))
  have q_5 : w2.cell? ⟨w.heap.size, 5, none⟩ = some (.int .i64 0) := (hm2.cell (p := ⟨w.heap.size, 5, none⟩) (by show w.heap.size < _; omega) (.inl (by show w.heap.size < _; omega))).trans ((HB1'.out.cell (p := ⟨w.heap.size, 5, none⟩) (by show w.heap.size < _; rw [World.size_alloc]; omega)).trans (by simp [go_sem]))
  have q_6 : w2.cell? ⟨w.heap.size, 6, none⟩ = some (.bool false) := (hm2.cell (p := ⟨w.heap.size, 6, none⟩) (by show w.heap.size < _; omega) (.inl (by show w.heap.size < _; omega))).trans ((HB1'.out.cell (p := ⟨w.heap.size, 6, none⟩) (by show w.heap.size < _; rw [World.size_alloc]; omega)).trans (by simp [go_sem]))
  have q_7 : w2.cell? ⟨w.heap.size, 7, none⟩ = some (.string ⟨#[]⟩) := (hm2.cell (p := ⟨w.heap.size, 7, none⟩) (by show w.heap.size < _; omega) (.inl (by show w.heap.size < _; omega))).trans ((HB1'.out.cell (p := ⟨w.heap.size, 7, none⟩) (by show w.heap.size < _; rw [World.size_alloc]; omega)).trans (by simp [go_sem]))
  have q_8 : w2.cell? ⟨w.heap.size, 8, none⟩ = some (.string ⟨#[]⟩) := (hm2.cell (p := ⟨w.heap.size, 8, none⟩) (by show w.heap.size < _; omega) (.inl (by show w.heap.size < _; omega))).trans ((HB1'.out.cell (p := ⟨w.heap.size, 8, none⟩) (by show w.heap.size < _; rw [World.size_alloc]; omega)).trans (by simp [go_sem]))
  have q_f : ∀ o, w2.frozen? ⟨w.heap.size, o, none⟩ = false := fun o => (hm2.frozen (p := ⟨w.heap.size, o, none⟩) (by show w.heap.size < _; omega) (.inl (by show w.heap.size < _; omega))).trans ((HB1'.out.frozen (p := ⟨w.heap.size, o, none⟩) (by show w.heap.size < _; rw [World.size_alloc]; omega)).trans (by simp [go_sem]))
  clear hok hs2 hm2
  go_wp2_with fail
  refine bodyPost_ret (v := .agg #[.int .i64 k, .int .i64 cl, .int .i64 sq, .int .i64 pn, .int .i64 n, .int .i64 ep, .bool rw, .string nm, .string dt]) (by simp [results, Try.results33, go_sem, q_0, q_1, q_2, q_3, q_4, q_5, q_6, q_7, q_8, q_f]) rfl ?_
  refine ⟨k, cl, sq, pn, n, ep, rw, nm, dt, rfl, HOK.out, ?_⟩
  repeat (first | (with_reducible exact HB2.out) | (with_reducible refine Below.setCell ?_ ?_ _; rotate_left; ((try simp) <;> (try omega))))
set_option maxRecDepth 100000 in
set_option maxHeartbeats 16000000 in
theorem lawCmds_c (a b : Option Addr) (ca cb : Nat) (xs ys : List UInt8) (w : World) (ha : Sl byteE 1 w a xs) (hb : Sl byteE 1 w b ys) (la : xs.length ≤ 9223372036854775807) (lb : ys.length ≤ 9223372036854775807) :
    Calls Try.prog 7 #[.slice a xs.length ca, .slice b ys.length cb] w fun e w' => e = .returned (.bool true) ∧ Below w.heap.size w w' := by
  by_cases hx : 1048576 < xs.length
  · have hx' : (1048576 : Int) < (xs.length : Int) := by omega
    go_enter Try.func7, Try.ntmps7
    go_wp2_with fail
    go_ret
    exact ⟨rfl, Below.refl _ _⟩
  have hx' : (xs.length : Int) ≤ 1048576 := by omega
  by_cases hy : 1048576 < ys.length
  · have hy' : (1048576 : Int) < (ys.length : Int) := by omega
    go_enter Try.func7, Try.ntmps7
    go_wp2_with fail
    go_ret
    exact ⟨rfl, Below.refl _ _⟩
  have hy' : (ys.length : Int) ≤ 1048576 := by omega
  have lx : xs.length ≤ 1048576 := by omega
  have ly : ys.length ≤ 1048576 := by omega
  clear hx hy
  have HAT1 : Hid (∀ w', Sl byteE 1 w' b ys → Calls Try.prog 34 #[.slice b ys.length cb, .int .i64 0, .int .i64 201] w' (fun e w'' => (∃ m : Nat, e = .returned (.int .i64 m) ∧ m < 201) ∧ Below w'.heap.size w' w'')) := Lib.hid (fun w' h => lawAt2_c b cb ys 0 201 w' h ly (by omega) (by omega) (by omega))
  have HAT2 : Hid (∀ w', Sl byteE 1 w' b ys → Calls Try.prog 34 #[.slice b ys.length cb, .int .i64 1, .int .i64 60000] w' (fun e w'' => (∃ m : Nat, e = .returned (.int .i64 m) ∧ m < 60000) ∧ Below w'.heap.size w' w'')) := Lib.hid (fun w' h => lawAt2_c b cb ys 1 60000 w' h ly (by omega) (by omega) (by omega))
  have HCO : Hid (∀ (m1 m2 : Nat) w', m1 < 201 → m2 < 60000 → Sl byteE 1 w' a xs → Calls Try.prog 33 #[.slice a xs.length ca, .int .i64 m1, .int .i64 (1 + (m2 : Int))] w' (CmdOfR w')) := Lib.hid (fun m1 m2 w' h1 h2 h => commandOf_c a ca xs m1 (1 + (m2 : Int)) w' h lx (by simp [inB]; omega) (by simp [inB]; omega))
  go_enter Try.func7, Try.ntmps7
  go_wp2_with fail
  refine (HAT1.out _ hb).mono ?_
  rintro e w1 ⟨⟨m1, rfl, hm1⟩, hb1⟩
  have hz1 := hb1.size
  have HB1 := Lib.hid hb1
  clear hb1
  go_wp2_with fail
  refine (HAT2.out _ (hb.keep HB1.out)).mono ?_
  rintro e w2 ⟨⟨m2, rfl, hm2⟩, hb2⟩
  have hz2 := hb2.size
  have ew : IntKind.i64.wrap (1 + (m2 : Int)) = 1 + (m2 : Int) := IntWalk.i64_in _ ⟨by omega, by omega⟩
  have HB2 : Hid (Below w.heap.size w w2) := HB1.out.trans (hb2.mono (by (try simp) <;> (try omega)))
  clear hb2
  go_wp2_with fail
  refine (HCO.out m1 m2 _ hm1 hm2 (ha.keep HB2.out)).mono ?_
  rintro e w3 ⟨k, cl, sq, pn, n, ep, rw, nm, dt, rfl, hc, hb3⟩
  have hz3 := hb3.size
  clear ew hm1 hm2
  have HC := Lib.hid hc
  have hf := cmd_facts hc
  have hnm : nm.size ≤ 1048576 := by omega
  have hdt : dt.size ≤ 1048576 := by omega
  clear hf
  have HIS : Hid (CmdIs (encC k cl sq pn n ep rw nm dt) k cl sq pn n ep rw nm dt) := ⟨hc, rfl⟩
  have hlE := HIS.out.len
  have HB1c : Hid (∀ w', Calls Try.prog 35 #[.agg #[.int .i64 k, .int .i64 cl, .int .i64 sq, .int .i64 pn, .int .i64 n, .int .i64 ep, .bool rw, .string nm, .string dt]] w' fun e w'' => (∃ a c, e = .returned (.tuple #[.slice (some ⟨a, 0, none⟩) (encC k cl sq pn n ep rw nm dt).length c, .int .i64 0]) ∧ Sl byteE 1 w'' (some ⟨a, 0, none⟩) (encC k cl sq pn n ep rw nm dt) ∧ w'.heap.size ≤ a) ∧ Below w'.heap.size w' w'') := Lib.hid (fun w' => implCmdBytes_c k cl sq pn n ep rw nm dt w' HC.out)
  have HB2c : Hid (∀ w', Calls Try.prog 36 #[.agg #[.int .i64 k, .int .i64 cl, .int .i64 sq, .int .i64 pn, .int .i64 n, .int .i64 ep, .bool rw, .string nm, .string dt]] w' fun e w'' => (∃ a c, e = .returned (.tuple #[.slice (some ⟨a, 0, none⟩) (encC k cl sq pn n ep rw nm dt).length c, .int .i64 0]) ∧ Sl byteE 1 w'' (some ⟨a, 0, none⟩) (encC k cl sq pn n ep rw nm dt) ∧ w'.heap.size ≤ a) ∧ Below w'.heap.size w' w'') := Lib.hid (fun w' => specCmdBytes_c k cl sq pn n ep rw nm dt w' HC.out)
  generalize encC k cl sq pn n ep rw nm dt = E at *
  have HRD : Hid (∀ (a : Option Addr) (c : Nat) (w' : World), Sl byteE 1 w' a E → Calls Try.prog 37 #[.slice a E.length c] w' fun e w'' => e = .returned (.tuple #[.agg #[.int .i64 k, .int .i64 cl, .int .i64 sq, .int .i64 pn, .int .i64 n, .int .i64 ep, .bool rw, .string nm, .string dt], .int .i64 0]) ∧ Below w'.heap.size w' w'') := Lib.hid (fun a c w' h => by
    refine (implReadCmd_c a c E w' h (by omega)).mono ?_
    rintro e w'' ⟨k', cl', sq', pn', n', ep', rw', nm', dt', rfl, _, _, hyes, hb⟩
    have h0 := rdCode_is HIS.out
    obtain ⟨rfl, rfl, rfl, rfl, rfl, rfl, rfl, rfl, rfl⟩ := HIS.out.uniq (hyes h0)
    exact ⟨by rw [h0], hb⟩)
  clear hc HIS
  have HB3 : Hid (Below w.heap.size w w3) := HB2.out.trans (hb3.mono (by (try simp) <;> (try omega)))
  clear hb3
  go_wp2_with fail
  refine (HB1c.out _).mono ?_
  rintro e w4 ⟨⟨a4, c4, rfl, hsl4, _⟩, hb4⟩
  have hz4 := hb4.size
  simp only [World.size_alloc] at hz4
  have HY4 := Lib.hid hsl4
  clear hsl4
  have q4_0_0 : w4.cell? ⟨w3.heap.size, 0, none⟩ = some (.int .i64 k) := by
    rw [hb4.cell (p := ⟨w3.heap.size, 0, none⟩) (show w3.heap.size < _ by (try simp) <;> (try omega))]
    first | assumption | (simp [go_sem, *])
  have q4_0_1 : w4.cell? ⟨w3.heap.size, 1, none⟩ = some (.int .i64 cl) := by
    rw [hb4.cell (p := ⟨w3.heap.size, 1, none⟩) (show w3.heap.size < _ by (try simp) <;> (try omega))]
    first | assumption | (simp [go_sem, *])
  have q4_0_2 : w4.cell? ⟨w3.heap.size, 2, none⟩ = some (.int .i64 sq) := by
    rw [hb4.cell (p := ⟨w3.heap.size, 2, none⟩) (show w3.heap.size < _ by (try simp) <;> (try omega))]
    first | assumption | (simp [go_sem, *])
  have q4_0_3 : w4.cell? ⟨w3.heap.size, 3, none⟩ = some (.int .i64 pn) := by
    rw [hb4.cell (p := ⟨w3.heap.size, 3, none⟩) (show w3.heap.size < _ by (try simp) <;> (try omega))]
    first | assumption | (simp [go_sem, *])
  have q4_0_4 : w4.cell? ⟨w3.heap.size, 4, none⟩ = some (.int .i64 n) := by
    rw [hb4.cell (p := ⟨w3.heap.size, 4, none⟩) (show w3.heap.size < _ by (try simp) <;> (try omega))]
    first | assumption | (simp [go_sem, *])
  have q4_0_5 : w4.cell? ⟨w3.heap.size, 5, none⟩ = some (.int .i64 ep) := by
    rw [hb4.cell (p := ⟨w3.heap.size, 5, none⟩) (show w3.heap.size < _ by (try simp) <;> (try omega))]
    first | assumption | (simp [go_sem, *])
  have q4_0_6 : w4.cell? ⟨w3.heap.size, 6, none⟩ = some (.bool rw) := by
    rw [hb4.cell (p := ⟨w3.heap.size, 6, none⟩) (show w3.heap.size < _ by (try simp) <;> (try omega))]
    first | assumption | (simp [go_sem, *])
  have q4_0_7 : w4.cell? ⟨w3.heap.size, 7, none⟩ = some (.string nm) := by
    rw [hb4.cell (p := ⟨w3.heap.size, 7, none⟩) (show w3.heap.size < _ by (try simp) <;> (try omega))]
    first | assumption | (simp [go_sem, *])
  have q4_0_8 : w4.cell? ⟨w3.heap.size, 8, none⟩ = some (.string dt) := by
    rw [hb4.cell (p := ⟨w3.heap.size, 8, none⟩) (show w3.heap.size < _ by (try simp) <;> (try omega))]
    first | assumption | (simp [go_sem, *])
  have hl4_0 : w3.heap.size < w4.heap.size := by omega
  have HB4 : Hid (Below w.heap.size w w4) := (HB3.out.alloc (by (try simp) <;> (try omega)) _).trans (hb4.mono (by (try simp) <;> (try omega)))
  clear hb4
  go_wp2_with fail
  refine (HB2c.out _).mono ?_
  rintro e w5 ⟨⟨a5, c5, rfl, hsl5, _⟩, hb5⟩
  have hz5 := hb5.size
  have HZ5 := Lib.hid hsl5
  clear hsl5
  have HY5 := Lib.hid (HY4.out.keep hb5)
  clear HY4
  have q5_0_0 : w5.cell? ⟨w3.heap.size, 0, none⟩ = some (.int .i64 k) := by
    rw [hb5.cell (p := ⟨w3.heap.size, 0, none⟩) (show w3.heap.size < _ by (try simp) <;> (try omega))]
    exact q4_0_0
  have q5_0_1 : w5.cell? ⟨w3.heap.size, 1, none⟩ = some (.int .i64 cl) := by
    rw [hb5.cell (p := ⟨w3.heap.size, 1, none⟩) (show w3.heap.size < _ by (try simp) <;> (try omega))]
    exact q4_0_1
  have q5_0_2 : w5.cell? ⟨w3.heap.size, 2, none⟩ = some (.int .i64 sq) := by
    rw [hb5.cell (p := ⟨w3.heap.size, 2, none⟩) (show w3.heap.size < _ by (try simp) <;> (try omega))]
    exact q4_0_2
  have q5_0_3 : w5.cell? ⟨w3.heap.size, 3, none⟩ = some (.int .i64 pn) := by
    rw [hb5.cell (p := ⟨w3.heap.size, 3, none⟩) (show w3.heap.size < _ by (try simp) <;> (try omega))]
    exact q4_0_3
  have q5_0_4 : w5.cell? ⟨w3.heap.size, 4, none⟩ = some (.int .i64 n) := by
    rw [hb5.cell (p := ⟨w3.heap.size, 4, none⟩) (show w3.heap.size < _ by (try simp) <;> (try omega))]
    exact q4_0_4
  have q5_0_5 : w5.cell? ⟨w3.heap.size, 5, none⟩ = some (.int .i64 ep) := by
    rw [hb5.cell (p := ⟨w3.heap.size, 5, none⟩) (show w3.heap.size < _ by (try simp) <;> (try omega))]
    exact q4_0_5
  have q5_0_6 : w5.cell? ⟨w3.heap.size, 6, none⟩ = some (.bool rw) := by
    rw [hb5.cell (p := ⟨w3.heap.size, 6, none⟩) (show w3.heap.size < _ by (try simp) <;> (try omega))]
    exact q4_0_6
  have q5_0_7 : w5.cell? ⟨w3.heap.size, 7, none⟩ = some (.string nm) := by
    rw [hb5.cell (p := ⟨w3.heap.size, 7, none⟩) (show w3.heap.size < _ by (try simp) <;> (try omega))]
    exact q4_0_7
  have q5_0_8 : w5.cell? ⟨w3.heap.size, 8, none⟩ = some (.string dt) := by
    rw [hb5.cell (p := ⟨w3.heap.size, 8, none⟩) (show w3.heap.size < _ by (try simp) <;> (try omega))]
    exact q4_0_8
  have hl5_0 : w3.heap.size < w5.heap.size := by omega
  clear q4_0_0 q4_0_1 q4_0_2 q4_0_3 q4_0_4 q4_0_5 q4_0_6 q4_0_7 q4_0_8
  have HB5 : Hid (Below w.heap.size w w5) := HB4.out.trans (hb5.mono (by (try simp) <;> (try omega)))
  clear hb5
  go_wp2_with fail
  refine (HRD.out _ c4 _ HY5.out).mono ?_
  rintro e w6 ⟨rfl, hb6⟩
  have hz6 := hb6.size
  have HY6 := Lib.hid (HY5.out.keep hb6)
  clear HY5
  have HZ6 := Lib.hid (HZ5.out.keep hb6)
  clear HZ5
  have q6_0_0 : w6.cell? ⟨w3.heap.size, 0, none⟩ = some (.int .i64 k) := by
    rw [hb6.cell (p := ⟨w3.heap.size, 0, none⟩) (show w3.heap.size < _ by (try simp) <;> (try omega))]
    exact q5_0_0
  have q6_0_1 : w6.cell? ⟨w3.heap.size, 1, none⟩ = some (.int .i64 cl) := by
    rw [hb6.cell (p := ⟨w3.heap.size, 1, none⟩) (show w3.heap.size < _ by (try simp) <;> (try omega))]
    exact q5_0_1
  have q6_0_2 : w6.cell? ⟨w3.heap.size, 2, none⟩ = some (.int .i64 sq) := by
    rw [hb6.cell (p := ⟨w3.heap.size, 2, none⟩) (show w3.heap.size < _ by (try simp) <;> (try omega))]
    exact q5_0_2
  have q6_0_3 : w6.cell? ⟨w3.heap.size, 3, none⟩ = some (.int .i64 pn) := by
    rw [hb6.cell (p := ⟨w3.heap.size, 3, none⟩) (show w3.heap.size < _ by (try simp) <;> (try omega))]
    exact q5_0_3
  have q6_0_4 : w6.cell? ⟨w3.heap.size, 4, none⟩ = some (.int .i64 n) := by
    rw [hb6.cell (p := ⟨w3.heap.size, 4, none⟩) (show w3.heap.size < _ by (try simp) <;> (try omega))]
    exact q5_0_4
  have q6_0_5 : w6.cell? ⟨w3.heap.size, 5, none⟩ = some (.int .i64 ep) := by
    rw [hb6.cell (p := ⟨w3.heap.size, 5, none⟩) (show w3.heap.size < _ by (try simp) <;> (try omega))]
    exact q5_0_5
  have q6_0_6 : w6.cell? ⟨w3.heap.size, 6, none⟩ = some (.bool rw) := by
    rw [hb6.cell (p := ⟨w3.heap.size, 6, none⟩) (show w3.heap.size < _ by (try simp) <;> (try omega))]
    exact q5_0_6
  have q6_0_7 : w6.cell? ⟨w3.heap.size, 7, none⟩ = some (.string nm) := by
    rw [hb6.cell (p := ⟨w3.heap.size, 7, none⟩) (show w3.heap.size < _ by (try simp) <;> (try omega))]
    exact q5_0_7
  have q6_0_8 : w6.cell? ⟨w3.heap.size, 8, none⟩ = some (.string dt) := by
    rw [hb6.cell (p := ⟨w3.heap.size, 8, none⟩) (show w3.heap.size < _ by (try simp) <;> (try omega))]
    exact q5_0_8
  have hl6_0 : w3.heap.size < w6.heap.size := by omega
  clear q5_0_0 q5_0_1 q5_0_2 q5_0_3 q5_0_4 q5_0_5 q5_0_6 q5_0_7 q5_0_8
  have HB6 : Hid (Below w.heap.size w w6) := HB5.out.trans (hb6.mono (by (try simp) <;> (try omega)))
  clear hb6
  have hcv4 := conv_sl (ca := c4) ((HY6.out.alloc (.cells #[.int .i64 k, .int .i64 cl, .int .i64 sq, .int .i64 pn, .int .i64 n, .int .i64 ep, .bool rw, .string nm, .string dt] 58)))
  have hcv5 := conv_sl (ca := c5) ((HZ6.out.alloc (.cells #[.int .i64 k, .int .i64 cl, .int .i64 sq, .int .i64 pn, .int .i64 n, .int .i64 ep, .bool rw, .string nm, .string dt] 58)))
  have x5_0 : (w6.alloc (.cells #[.int .i64 k, .int .i64 cl, .int .i64 sq, .int .i64 pn, .int .i64 n, .int .i64 ep, .bool rw, .string nm, .string dt] 58)).cell? ⟨w3.heap.size, 0, none⟩ = some (.int .i64 k) := (World.cell?_alloc_lt w6 _ _ (by show w3.heap.size < _; omega)).trans q6_0_0
  have x5_1 : (w6.alloc (.cells #[.int .i64 k, .int .i64 cl, .int .i64 sq, .int .i64 pn, .int .i64 n, .int .i64 ep, .bool rw, .string nm, .string dt] 58)).cell? ⟨w3.heap.size, 1, none⟩ = some (.int .i64 cl) := (World.cell?_alloc_lt w6 _ _ (by show w3.heap.size < _; omega)).trans q6_0_1
  have x5_2 : (w6.alloc (.cells #[.int .i64 k, .int .i64 cl, .int .i64 sq, .int .i64 pn, .int .i64 n, .int .i64 ep, .bool rw, .string nm, .string dt] 58)).cell? ⟨w3.heap.size, 2, none⟩ = some (.int .i64 sq) := (World.cell?_alloc_lt w6 _ _ (by show w3.heap.size < _; omega)).trans q6_0_2
  have x5_3 : (w6.alloc (.cells #[.int .i64 k, .int .i64 cl, .int .i64 sq, .int .i64 pn, .int .i64 n, .int .i64 ep, .bool rw, .string nm, .string dt] 58)).cell? ⟨w3.heap.size, 3, none⟩ = some (.int .i64 pn) := (World.cell?_alloc_lt w6 _ _ (by show w3.heap.size < _; omega)).trans q6_0_3
  have x5_4 : (w6.alloc (.cells #[.int .i64 k, .int .i64 cl, .int .i64 sq, .int .i64 pn, .int .i64 n, .int .i64 ep, .bool rw, .string nm, .string dt] 58)).cell? ⟨w3.heap.size, 4, none⟩ = some (.int .i64 n) := (World.cell?_alloc_lt w6 _ _ (by show w3.heap.size < _; omega)).trans q6_0_4
  have x5_5 : (w6.alloc (.cells #[.int .i64 k, .int .i64 cl, .int .i64 sq, .int .i64 pn, .int .i64 n, .int .i64 ep, .bool rw, .string nm, .string dt] 58)).cell? ⟨w3.heap.size, 5, none⟩ = some (.int .i64 ep) := (World.cell?_alloc_lt w6 _ _ (by show w3.heap.size < _; omega)).trans q6_0_5
  have x5_6 : (w6.alloc (.cells #[.int .i64 k, .int .i64 cl, .int .i64 sq, .int .i64 pn, .int .i64 n, .int .i64 ep, .bool rw, .string nm, .string dt] 58)).cell? ⟨w3.heap.size, 6, none⟩ = some (.bool rw) := (World.cell?_alloc_lt w6 _ _ (by show w3.heap.size < _; omega)).trans q6_0_6
  have x5_7 : (w6.alloc (.cells #[.int .i64 k, .int .i64 cl, .int .i64 sq, .int .i64 pn, .int .i64 n, .int .i64 ep, .bool rw, .string nm, .string dt] 58)).cell? ⟨w3.heap.size, 7, none⟩ = some (.string nm) := (World.cell?_alloc_lt w6 _ _ (by show w3.heap.size < _; omega)).trans q6_0_7
  have x5_8 : (w6.alloc (.cells #[.int .i64 k, .int .i64 cl, .int .i64 sq, .int .i64 pn, .int .i64 n, .int .i64 ep, .bool rw, .string nm, .string dt] 58)).cell? ⟨w3.heap.size, 8, none⟩ = some (.string dt) := (World.cell?_alloc_lt w6 _ _ (by show w3.heap.size < _; omega)).trans q6_0_8
  go_wp2_with fail
  refine (implCmdOK_c k cl sq pn n ep rw nm dt _ (by omega) (by omega)).mono ?_
  clear hcv4 hcv5
  rw [HC.out]
  rintro e w7 ⟨rfl, hb7⟩
  have hz7 := hb7.size
  simp only [World.size_alloc] at hz7
  have HY7 := Lib.hid ((HY6.out.alloc _).keep hb7)
  clear HY6
  have HZ7 := Lib.hid ((HZ6.out.alloc _).keep hb7)
  clear HZ6
  have q7_0_0 : w7.cell? ⟨w3.heap.size, 0, none⟩ = some (.int .i64 k) := by
    rw [hb7.cell (p := ⟨w3.heap.size, 0, none⟩) (show w3.heap.size < _ by (try simp) <;> (try omega))]
    first | assumption | (simp [go_sem, *])
  have q7_0_1 : w7.cell? ⟨w3.heap.size, 1, none⟩ = some (.int .i64 cl) := by
    rw [hb7.cell (p := ⟨w3.heap.size, 1, none⟩) (show w3.heap.size < _ by (try simp) <;> (try omega))]
    first | assumption | (simp [go_sem, *])
  have q7_0_2 : w7.cell? ⟨w3.heap.size, 2, none⟩ = some (.int .i64 sq) := by
    rw [hb7.cell (p := ⟨w3.heap.size, 2, none⟩) (show w3.heap.size < _ by (try simp) <;> (try omega))]
    first | assumption | (simp [go_sem, *])
  have q7_0_3 : w7.cell? ⟨w3.heap.size, 3, none⟩ = some (.int .i64 pn) := by
    rw [hb7.cell (p := ⟨w3.heap.size, 3, none⟩) (show w3.heap.size < _ by (try simp) <;> (try omega))]
    first | assumption | (simp [go_sem, *])
  have q7_0_4 : w7.cell? ⟨w3.heap.size, 4, none⟩ = some (.int .i64 n) := by
    rw [hb7.cell (p := ⟨w3.heap.size, 4, none⟩) (show w3.heap.size < _ by (try simp) <;> (try omega))]
    first | assumption | (simp [go_sem, *])
  have q7_0_5 : w7.cell? ⟨w3.heap.size, 5, none⟩ = some (.int .i64 ep) := by
    rw [hb7.cell (p := ⟨w3.heap.size, 5, none⟩) (show w3.heap.size < _ by (try simp) <;> (try omega))]
    first | assumption | (simp [go_sem, *])
  have q7_0_6 : w7.cell? ⟨w3.heap.size, 6, none⟩ = some (.bool rw) := by
    rw [hb7.cell (p := ⟨w3.heap.size, 6, none⟩) (show w3.heap.size < _ by (try simp) <;> (try omega))]
    first | assumption | (simp [go_sem, *])
  have q7_0_7 : w7.cell? ⟨w3.heap.size, 7, none⟩ = some (.string nm) := by
    rw [hb7.cell (p := ⟨w3.heap.size, 7, none⟩) (show w3.heap.size < _ by (try simp) <;> (try omega))]
    first | assumption | (simp [go_sem, *])
  have q7_0_8 : w7.cell? ⟨w3.heap.size, 8, none⟩ = some (.string dt) := by
    rw [hb7.cell (p := ⟨w3.heap.size, 8, none⟩) (show w3.heap.size < _ by (try simp) <;> (try omega))]
    first | assumption | (simp [go_sem, *])
  have hl7_0 : w3.heap.size < w7.heap.size := by omega
  clear q6_0_0 q6_0_1 q6_0_2 q6_0_3 q6_0_4 q6_0_5 q6_0_6 q6_0_7 q6_0_8
  have q7_1_0 : w7.cell? ⟨w6.heap.size, 0, none⟩ = some (.int .i64 k) := by
    rw [hb7.cell (p := ⟨w6.heap.size, 0, none⟩) (show w6.heap.size < _ by (try simp) <;> (try omega))]
    first | assumption | (simp [go_sem, *])
  have q7_1_1 : w7.cell? ⟨w6.heap.size, 1, none⟩ = some (.int .i64 cl) := by
    rw [hb7.cell (p := ⟨w6.heap.size, 1, none⟩) (show w6.heap.size < _ by (try simp) <;> (try omega))]
    first | assumption | (simp [go_sem, *])
  have q7_1_2 : w7.cell? ⟨w6.heap.size, 2, none⟩ = some (.int .i64 sq) := by
    rw [hb7.cell (p := ⟨w6.heap.size, 2, none⟩) (show w6.heap.size < _ by (try simp) <;> (try omega))]
    first | assumption | (simp [go_sem, *])
  have q7_1_3 : w7.cell? ⟨w6.heap.size, 3, none⟩ = some (.int .i64 pn) := by
    rw [hb7.cell (p := ⟨w6.heap.size, 3, none⟩) (show w6.heap.size < _ by (try simp) <;> (try omega))]
    first | assumption | (simp [go_sem, *])
  have q7_1_4 : w7.cell? ⟨w6.heap.size, 4, none⟩ = some (.int .i64 n) := by
    rw [hb7.cell (p := ⟨w6.heap.size, 4, none⟩) (show w6.heap.size < _ by (try simp) <;> (try omega))]
    first | assumption | (simp [go_sem, *])
  have q7_1_5 : w7.cell? ⟨w6.heap.size, 5, none⟩ = some (.int .i64 ep) := by
    rw [hb7.cell (p := ⟨w6.heap.size, 5, none⟩) (show w6.heap.size < _ by (try simp) <;> (try omega))]
    first | assumption | (simp [go_sem, *])
  have q7_1_6 : w7.cell? ⟨w6.heap.size, 6, none⟩ = some (.bool rw) := by
    rw [hb7.cell (p := ⟨w6.heap.size, 6, none⟩) (show w6.heap.size < _ by (try simp) <;> (try omega))]
    first | assumption | (simp [go_sem, *])
  have q7_1_7 : w7.cell? ⟨w6.heap.size, 7, none⟩ = some (.string nm) := by
    rw [hb7.cell (p := ⟨w6.heap.size, 7, none⟩) (show w6.heap.size < _ by (try simp) <;> (try omega))]
    first | assumption | (simp [go_sem, *])
  have q7_1_8 : w7.cell? ⟨w6.heap.size, 8, none⟩ = some (.string dt) := by
    rw [hb7.cell (p := ⟨w6.heap.size, 8, none⟩) (show w6.heap.size < _ by (try simp) <;> (try omega))]
    first | assumption | (simp [go_sem, *])
  have hl7_1 : w6.heap.size < w7.heap.size := by omega
  have HB7 : Hid (Below w.heap.size w w7) := (HB6.out.alloc (by (try simp) <;> (try omega)) _).trans (hb7.mono (by (try simp) <;> (try omega)))
  clear hb7
  clear x5_0 x5_1 x5_2 x5_3 x5_4 x5_5 x5_6 x5_7 x5_8 q7_0_0 q7_1_0 q7_0_1 q7_1_1 q7_0_2 q7_1_2 q7_0_3 q7_1_3 q7_0_4 q7_1_4 q7_0_5 q7_1_5 q7_0_6 q7_1_6 q7_0_7 q7_1_7 q7_0_8 q7_1_8 hl7_0 hl7_1
  clear HY7
  clear HZ7
  obtain ⟨rc, hrc⟩ : ∃ rc, rdCode ys = rc := ⟨_, rfl⟩
  have HRC := Lib.hid hrc
  clear hrc
  go_wp2_with fail
  refine (implReadCmd_c b cb ys _ (hb.keep HB7.out) ly).mono ?_
  unfold RdC
  rw [HRC.out]
  rintro e w8 ⟨y0, y1, y2, y3, y4, y5, y6, y7, y8, rfl, s7, s8, hyes, hb8⟩
  have hz8 := hb8.size
  have HYES := Lib.hid hyes
  clear hyes
  have HB8 : Hid (Below w.heap.size w w8) := HB7.out.trans (hb8.mono (by (try simp) <;> (try omega)))
  clear hb8
  go_wp2_with fail
  refine (specReadCmd_c b cb ys _ ((hb.keep HB8.out).alloc _) ly).mono ?_
  unfold RdC
  rw [HRC.out]
  rintro e w9 ⟨z0, z1, z2, z3, z4, z5, z6, z7, z8, rfl, _, _, _, hb9⟩
  have hz9 := hb9.size
  simp only [World.size_alloc] at hz9
  have q9_0_0 : w9.cell? ⟨w8.heap.size, 0, none⟩ = some (.int .i64 y0) := by
    rw [hb9.cell (p := ⟨w8.heap.size, 0, none⟩) (show w8.heap.size < _ by (try simp) <;> (try omega))]
    first | assumption | (simp [go_sem, *])
  have q9_0_1 : w9.cell? ⟨w8.heap.size, 1, none⟩ = some (.int .i64 y1) := by
    rw [hb9.cell (p := ⟨w8.heap.size, 1, none⟩) (show w8.heap.size < _ by (try simp) <;> (try omega))]
    first | assumption | (simp [go_sem, *])
  have q9_0_2 : w9.cell? ⟨w8.heap.size, 2, none⟩ = some (.int .i64 y2) := by
    rw [hb9.cell (p := ⟨w8.heap.size, 2, none⟩) (show w8.heap.size < _ by (try simp) <;> (try omega))]
    first | assumption | (simp [go_sem, *])
  have q9_0_3 : w9.cell? ⟨w8.heap.size, 3, none⟩ = some (.int .i64 y3) := by
    rw [hb9.cell (p := ⟨w8.heap.size, 3, none⟩) (show w8.heap.size < _ by (try simp) <;> (try omega))]
    first | assumption | (simp [go_sem, *])
  have q9_0_4 : w9.cell? ⟨w8.heap.size, 4, none⟩ = some (.int .i64 y4) := by
    rw [hb9.cell (p := ⟨w8.heap.size, 4, none⟩) (show w8.heap.size < _ by (try simp) <;> (try omega))]
    first | assumption | (simp [go_sem, *])
  have q9_0_5 : w9.cell? ⟨w8.heap.size, 5, none⟩ = some (.int .i64 y5) := by
    rw [hb9.cell (p := ⟨w8.heap.size, 5, none⟩) (show w8.heap.size < _ by (try simp) <;> (try omega))]
    first | assumption | (simp [go_sem, *])
  have q9_0_6 : w9.cell? ⟨w8.heap.size, 6, none⟩ = some (.bool y6) := by
    rw [hb9.cell (p := ⟨w8.heap.size, 6, none⟩) (show w8.heap.size < _ by (try simp) <;> (try omega))]
    first | assumption | (simp [go_sem, *])
  have q9_0_7 : w9.cell? ⟨w8.heap.size, 7, none⟩ = some (.string y7) := by
    rw [hb9.cell (p := ⟨w8.heap.size, 7, none⟩) (show w8.heap.size < _ by (try simp) <;> (try omega))]
    first | assumption | (simp [go_sem, *])
  have q9_0_8 : w9.cell? ⟨w8.heap.size, 8, none⟩ = some (.string y8) := by
    rw [hb9.cell (p := ⟨w8.heap.size, 8, none⟩) (show w8.heap.size < _ by (try simp) <;> (try omega))]
    first | assumption | (simp [go_sem, *])
  have hl9_0 : w8.heap.size < w9.heap.size := by omega
  have HB9 : Hid (Below w.heap.size w w9) := (HB8.out.alloc (by (try simp) <;> (try omega)) _).trans (hb9.mono (by (try simp) <;> (try omega)))
  clear hb9
  by_cases h0 : rc = 0
  rotate_left
  · have h0b : (rc == 0) = false := by simpa using h0
    have h0c : (rc != 0) = true := by simpa using h0
    go_wp2_with fail
    go_ret
    exact ⟨rfl, HB9.out.alloc (by omega) _⟩
  subst h0
  have hcy := HYES.out rfl
  have HCY := Lib.hid hcy
  have hyz : encC y0 y1 y2 y3 y4 y5 y6 y7 y8 = ys := hcy.2
  clear hcy
  have x12_0 : (w9.alloc (.cells #[.int .i64 z0, .int .i64 z1, .int .i64 z2, .int .i64 z3, .int .i64 z4, .int .i64 z5, .bool z6, .string z7, .string z8] 58)).cell? ⟨w8.heap.size, 0, none⟩ = some (.int .i64 y0) := (World.cell?_alloc_lt w9 _ _ (by show w8.heap.size < _; omega)).trans q9_0_0
  have x12_1 : (w9.alloc (.cells #[.int .i64 z0, .int .i64 z1, .int .i64 z2, .int .i64 z3, .int .i64 z4, .int .i64 z5, .bool z6, .string z7, .string z8] 58)).cell? ⟨w8.heap.size, 1, none⟩ = some (.int .i64 y1) := (World.cell?_alloc_lt w9 _ _ (by show w8.heap.size < _; omega)).trans q9_0_1
  have x12_2 : (w9.alloc (.cells #[.int .i64 z0, .int .i64 z1, .int .i64 z2, .int .i64 z3, .int .i64 z4, .int .i64 z5, .bool z6, .string z7, .string z8] 58)).cell? ⟨w8.heap.size, 2, none⟩ = some (.int .i64 y2) := (World.cell?_alloc_lt w9 _ _ (by show w8.heap.size < _; omega)).trans q9_0_2
  have x12_3 : (w9.alloc (.cells #[.int .i64 z0, .int .i64 z1, .int .i64 z2, .int .i64 z3, .int .i64 z4, .int .i64 z5, .bool z6, .string z7, .string z8] 58)).cell? ⟨w8.heap.size, 3, none⟩ = some (.int .i64 y3) := (World.cell?_alloc_lt w9 _ _ (by show w8.heap.size < _; omega)).trans q9_0_3
  have x12_4 : (w9.alloc (.cells #[.int .i64 z0, .int .i64 z1, .int .i64 z2, .int .i64 z3, .int .i64 z4, .int .i64 z5, .bool z6, .string z7, .string z8] 58)).cell? ⟨w8.heap.size, 4, none⟩ = some (.int .i64 y4) := (World.cell?_alloc_lt w9 _ _ (by show w8.heap.size < _; omega)).trans q9_0_4
  have x12_5 : (w9.alloc (.cells #[.int .i64 z0, .int .i64 z1, .int .i64 z2, .int .i64 z3, .int .i64 z4, .int .i64 z5, .bool z6, .string z7, .string z8] 58)).cell? ⟨w8.heap.size, 5, none⟩ = some (.int .i64 y5) := (World.cell?_alloc_lt w9 _ _ (by show w8.heap.size < _; omega)).trans q9_0_5
  have x12_6 : (w9.alloc (.cells #[.int .i64 z0, .int .i64 z1, .int .i64 z2, .int .i64 z3, .int .i64 z4, .int .i64 z5, .bool z6, .string z7, .string z8] 58)).cell? ⟨w8.heap.size, 6, none⟩ = some (.bool y6) := (World.cell?_alloc_lt w9 _ _ (by show w8.heap.size < _; omega)).trans q9_0_6
  have x12_7 : (w9.alloc (.cells #[.int .i64 z0, .int .i64 z1, .int .i64 z2, .int .i64 z3, .int .i64 z4, .int .i64 z5, .bool z6, .string z7, .string z8] 58)).cell? ⟨w8.heap.size, 7, none⟩ = some (.string y7) := (World.cell?_alloc_lt w9 _ _ (by show w8.heap.size < _; omega)).trans q9_0_7
  have x12_8 : (w9.alloc (.cells #[.int .i64 z0, .int .i64 z1, .int .i64 z2, .int .i64 z3, .int .i64 z4, .int .i64 z5, .bool z6, .string z7, .string z8] 58)).cell? ⟨w8.heap.size, 8, none⟩ = some (.string y8) := (World.cell?_alloc_lt w9 _ _ (by show w8.heap.size < _; omega)).trans q9_0_8
  have HB3c : Hid (∀ w', Calls Try.prog 35 #[.agg #[.int .i64 y0, .int .i64 y1, .int .i64 y2, .int .i64 y3, .int .i64 y4, .int .i64 y5, .bool y6, .string y7, .string y8]] w' fun e w'' => (∃ a c, e = .returned (.tuple #[.slice (some ⟨a, 0, none⟩) ys.length c, .int .i64 0]) ∧ Sl byteE 1 w'' (some ⟨a, 0, none⟩) ys ∧ w'.heap.size ≤ a) ∧ Below w'.heap.size w' w'') := Lib.hid (fun w' => by
    have h := implCmdBytes_c y0 y1 y2 y3 y4 y5 y6 y7 y8 w' HCY.out.1
    rw [hyz] at h
    exact h)
  clear hyz
  go_wp2_with fail
  refine (HB3c.out _).mono ?_
  rintro e w10 ⟨⟨a10, c10, rfl, hsl10, _⟩, hb10⟩
  have hz10 := hb10.size
  simp only [World.size_alloc] at hz10
  have HY10 := Lib.hid hsl10
  clear hsl10
  have HB10 : Hid (Below w.heap.size w w10) := (HB9.out.alloc (by (try simp) <;> (try omega)) _).trans (hb10.mono (by (try simp) <;> (try omega)))
  clear hb10
  have hcvA := conv_sl (ca := c10) HY10.out
  have hcvB := conv_sl (ca := cb) ((hb.keep HB10.out))
  go_wp2_with fail
  clear hcvA hcvB
  go_ret
  exact ⟨rfl, HB10.out⟩
end
end Go.Proofs.Ytmdjcoeijlnloaa
