/- The contents of a screen keep their positions when it grows and are restored when it shrinks back: the law FnResize returns true for all bytes, and its arguments read afterwards as they read before. The row lists the two tables of utf8, tied to the program's text. No conditions. -/
import Derived.Test.YtjmpgeffkdjpdaaGreatDoorPRzf
import Derived.Laws.IdiomStrings
import Derived.Lib.Hide
import Derived.BigQuiet
import Derived.Test.YtjmpgeffkdjpdaaGreatDoorRows
import Derived.ProofKit
import Derived.Below
import Derived.OpenShut
import Derived.Carry
import Derived.Lib.SmallJoins
import Derived.Deep.Slices
import Derived.Test.YtjmpgeffkdjpdaaGreatDoorTie
import Derived.Test.YtjmpgeffkdjpdaaGreatDoorCards
namespace Go.Proofs.YtjmpgeffkdjpdaaGreatDoor
set_option linter.unusedVariables false
set_option linter.unusedSimpArgs false
set_option maxRecDepth 100000
set_option maxHeartbeats 16000000
section
open Go.RowKit
noncomputable def cvC (s : ByteArray) (w : World) : Nat := grownCap w s.size 0 5
noncomputable def cvW (s : ByteArray) (w : World) : World := w.drew.alloc (.cells (bytesRow s (cvC s w)) 5 ((bytesRow s (cvC s w)).size, (bytesRow s (cvC s w)).size + 1))
theorem cv_run (s : ByteArray) (w : World) : (convert 9 22 (.string s)).run Tryz.prog w = .ok (.slice (some ⟨w.heap.size, 0, none⟩) s.size (cvC s w)) (cvW s w) :=
  run_bytes_of_string w 9 22 5 s Tryz.underlying9 Tryz.underlying22 Tryz.underlying5
theorem cvW_below (s : ByteArray) (w : World) {B : Nat} (h : B ≤ w.heap.size) : Below B w (cvW s w) := ((Below.refl B w).drew).alloc h _
theorem cvW_sl (s : ByteArray) (w : World) : Sl byteE 1 (cvW s w) (some ⟨w.heap.size, 0, none⟩) s.data.toList := by
  refine .inr ⟨w.heap.size, 0, rfl, by simp [cvW], fun i hi j hj => ?_⟩
  obtain rfl : j = 0 := by omega
  have h1 : (cvW s w).cell? ⟨w.heap.size, 0 + i * 1 + 0, none⟩ = (bytesRow s (cvC s w))[0 + i * 1 + 0]? :=
    cell_of_row (cvW s w) w.heap.size _ _ _ _ (heap_alloc_new w.drew _)
  rw [h1]
  have h2 := bytesRow_at s (cvC s w) i (by simpa using hi)
  simp only [Nat.zero_add, Nat.mul_one, Nat.add_zero]
  rw [h2]
  simp [byteE]
end
section
open Go.RowKit
def BytesR (l : List UInt8) (w : World) (e : Ending) (w' : World) : Prop :=
  ∃ a c, e = .returned (.tuple #[.slice a l.length c, .int .i64 0]) ∧ Sl byteE 1 w' a l ∧ Below w.heap.size w w'
theorem isScr_c (s : Scr) (HO : ScrOK s) (ac : Option Addr) (cc : Nat) (ah : Option Addr) (dh : Nat) (w : World) (h : ScrS s ac ah w) :
    Calls Tryz.prog 24 #[scrV s ac cc ah dh] w fun e w' => e = .returned (.bool true) ∧ Below w.heap.size w w' := by
  have := isScreen_c s.i ac cc ah dh w h.cs h.hs (by have := HO.cn; have := Nat.mul_le_mul HO.w2 HO.h2; simp only [Scr.i]; omega) (by have := HO.hn; simp only [Scr.i]; omega) (by have := (titB_iff.1 HO.ti).1; simp only [Scr.i]; omega)
  rw [HO.b] at this
  exact this
theorem scrOK_c (s : Scr) (HO : ScrOK s) (ac : Option Addr) (cc : Nat) (ah : Option Addr) (dh : Nat) (w : World) (h : ScrS s ac ah w) :
    Calls Tryz.prog 27 #[scrV s ac cc ah dh] w fun e w' => e = .returned (.bool true) ∧ Below w.heap.size w w' := by
  have := specScreenOK_c s.i ac cc ah dh w h.cs h.hs (by have := HO.cn; have := Nat.mul_le_mul HO.w2 HO.h2; simp only [Scr.i]; omega) (by have := HO.hn; simp only [Scr.i]; omega)
  rw [HO.b] at this
  exact this
theorem specScreenBytes_c (s : Scr) (HO : ScrOK s) (ac : Option Addr) (cc : Nat) (ah : Option Addr) (dh : Nat) (w : World) (h : ScrS s ac ah w) :
    Calls Tryz.prog 30 #[scrV s ac cc ah dh] w (BytesR (scrText s.i) w) := by
  have HR := Lib.hid h
  have HI : Hid (∀ W, ScrS s ac ah W → Calls Tryz.prog 27 #[.agg #[.int .i64 (s.w : Int), .int .i64 (s.h : Int), .int .i64 (s.x : Int), .int .i64 (s.y : Int), .int .i64 (s.look : Int), .int .i64 (s.top : Int), .int .i64 (s.bot : Int), .int .i64 (s.sx : Int), .int .i64 (s.sy : Int), .string s.title, .slice ac s.cells.length cc, .slice ah s.hist.length dh]] W fun e w' => e = .returned (.bool true) ∧ Below W.heap.size W w') := Lib.hid (fun W hW => scrOK_c s HO ac cc ah dh W hW)
  have HT : Hid (∀ W, ScrS s ac ah W → Calls Tryz.prog 62 #[.agg #[.int .i64 (s.w : Int), .int .i64 (s.h : Int), .int .i64 (s.x : Int), .int .i64 (s.y : Int), .int .i64 (s.look : Int), .int .i64 (s.top : Int), .int .i64 (s.bot : Int), .int .i64 (s.sx : Int), .int .i64 (s.sy : Int), .string s.title, .slice ac s.cells.length cc, .slice ah s.hist.length dh]] W fun e w' => e = .returned (.string (strOf (scrText s.i))) ∧ Below W.heap.size W w') := Lib.hid (fun W hW => l04Bytes_c s HO ac cc ah dh W hW)
  unfold scrV
  obtain ⟨l, hl⟩ : ∃ l, scrText s.i = l := ⟨_, rfl⟩
  obtain ⟨S, hS⟩ : ∃ S, strOf l = S := ⟨_, rfl⟩
  rw [hl] at HT ⊢
  rw [hS] at HT
  have HSZ : Hid (S.size = l.length) := Lib.hid (by rw [← hS]; rfl)
  have HSD : Hid (S.data.toList = l) := Lib.hid (by rw [← hS]; exact strOf_data' l)
  clear h HO hl hS
  go_enter Tryz.func30, Tryz.ntmps30
  go_wp2_with fail
  refine (HI.out _ (HR.out.alloc _)).mono ?_
  rintro e w1 ⟨rfl, hb1⟩
  have hzz := hb1.size
  simp only [World.size_alloc] at hzz
  have k_0 : w1.cell? ⟨w.heap.size, 0, none⟩ = some (.int .i64 (s.w : Int)) := kC hb1 (by simp) (by simp [go_sem])
  have k_1 : w1.cell? ⟨w.heap.size, 1, none⟩ = some (.int .i64 (s.h : Int)) := kC hb1 (by simp) (by simp [go_sem])
  have k_2 : w1.cell? ⟨w.heap.size, 2, none⟩ = some (.int .i64 (s.x : Int)) := kC hb1 (by simp) (by simp [go_sem])
  have k_3 : w1.cell? ⟨w.heap.size, 3, none⟩ = some (.int .i64 (s.y : Int)) := kC hb1 (by simp) (by simp [go_sem])
  have k_4 : w1.cell? ⟨w.heap.size, 4, none⟩ = some (.int .i64 (s.look : Int)) := kC hb1 (by simp) (by simp [go_sem])
  have k_5 : w1.cell? ⟨w.heap.size, 5, none⟩ = some (.int .i64 (s.top : Int)) := kC hb1 (by simp) (by simp [go_sem])
  have k_6 : w1.cell? ⟨w.heap.size, 6, none⟩ = some (.int .i64 (s.bot : Int)) := kC hb1 (by simp) (by simp [go_sem])
  have k_7 : w1.cell? ⟨w.heap.size, 7, none⟩ = some (.int .i64 (s.sx : Int)) := kC hb1 (by simp) (by simp [go_sem])
  have k_8 : w1.cell? ⟨w.heap.size, 8, none⟩ = some (.int .i64 (s.sy : Int)) := kC hb1 (by simp) (by simp [go_sem])
  have k_9 : w1.cell? ⟨w.heap.size, 9, none⟩ = some (.string s.title) := kC hb1 (by simp) (by simp [go_sem])
  have k_10 : w1.cell? ⟨w.heap.size, 10, none⟩ = some (.slice ac s.cells.length cc) := kC hb1 (by simp) (by simp [go_sem])
  have k_11 : w1.cell? ⟨w.heap.size, 11, none⟩ = some (.slice ah s.hist.length dh) := kC hb1 (by simp) (by simp [go_sem])
  have HR1 : Hid (ScrS s ac ah w1) := Lib.hid ((HR.out.alloc _).below hb1)
  have HB1 : Hid (Below w.heap.size w w1) := Lib.hid (((Below.refl _ _).alloc (Nat.le_refl _) _).trans (hb1.mono (by simp)))
  clear hb1
  go_wp2_with fail
  refine (HT.out _ HR1.out).mono ?_
  rintro e w2 ⟨rfl, hb2⟩
  have HB2 := Lib.hid hb2
  clear hb2 k_0 k_1 k_2 k_3 k_4 k_5 k_6 k_7 k_8 k_9 k_10 k_11
  have hcv := cv_run S w2
  go_wp2_with fail
  go_ret2
  refine ⟨some ⟨w2.heap.size, 0, none⟩, cvC S w2, by rw [HSZ.out]; rfl, by rw [← HSD.out]; exact cvW_sl S w2, ?_⟩
  exact HB1.out.trans ((HB2.out.mono HB1.out.size).trans (cvW_below S w2 (Nat.le_trans HB1.out.size HB2.out.size)))
theorem sameScreens_c (s t : Scr) (HO : ScrOK s) (HP : ScrOK t) (ac : Option Addr) (cc : Nat) (ah : Option Addr) (dh : Nat) (bc : Option Addr) (ec : Nat) (bh : Option Addr) (fh : Nat) (w : World) (h : ScrS s ac ah w) (k : ScrS t bc bh w) (hst : scrText s.i = scrText t.i) :
    Calls Tryz.prog 10 #[scrV s ac cc ah dh, scrV t bc ec bh fh] w fun e w' => e = .returned (.bool true) ∧ Below w.heap.size w w' := by
  have HR := Lib.hid h
  have HQ := Lib.hid k
  have HT : Hid (∀ W, ScrS s ac ah W → Calls Tryz.prog 30 #[.agg #[.int .i64 (s.w : Int), .int .i64 (s.h : Int), .int .i64 (s.x : Int), .int .i64 (s.y : Int), .int .i64 (s.look : Int), .int .i64 (s.top : Int), .int .i64 (s.bot : Int), .int .i64 (s.sx : Int), .int .i64 (s.sy : Int), .string s.title, .slice ac s.cells.length cc, .slice ah s.hist.length dh]] W (BytesR (scrText s.i) W)) := Lib.hid (fun W hW => specScreenBytes_c s HO ac cc ah dh W hW)
  have HU : Hid (∀ W, ScrS t bc bh W → Calls Tryz.prog 30 #[.agg #[.int .i64 (t.w : Int), .int .i64 (t.h : Int), .int .i64 (t.x : Int), .int .i64 (t.y : Int), .int .i64 (t.look : Int), .int .i64 (t.top : Int), .int .i64 (t.bot : Int), .int .i64 (t.sx : Int), .int .i64 (t.sy : Int), .string t.title, .slice bc t.cells.length ec, .slice bh t.hist.length fh]] W (BytesR (scrText s.i) W)) := Lib.hid (fun W hW => by rw [hst]; exact specScreenBytes_c t HP bc ec bh fh W hW)
  unfold scrV
  obtain ⟨l, hl⟩ : ∃ l, scrText s.i = l := ⟨_, rfl⟩
  rw [hl] at HT HU
  clear h k HO HP hl hst
  go_enter Tryz.func10, Tryz.ntmps10
  go_wp2_with fail
  refine (HT.out _ ((HR.out.alloc _).alloc _)).mono ?_
  rintro e w1 ⟨a1, c1, rfl, hs1, hb1⟩
  have hzz := hb1.size
  simp only [World.size_alloc] at hzz
  have k_0 : w1.cell? ⟨w.heap.size, 0, none⟩ = some (.int .i64 (s.w : Int)) := kC hb1 (by simp; omega) (by simp [go_sem])
  have k_1 : w1.cell? ⟨w.heap.size, 1, none⟩ = some (.int .i64 (s.h : Int)) := kC hb1 (by simp; omega) (by simp [go_sem])
  have k_2 : w1.cell? ⟨w.heap.size, 2, none⟩ = some (.int .i64 (s.x : Int)) := kC hb1 (by simp; omega) (by simp [go_sem])
  have k_3 : w1.cell? ⟨w.heap.size, 3, none⟩ = some (.int .i64 (s.y : Int)) := kC hb1 (by simp; omega) (by simp [go_sem])
  have k_4 : w1.cell? ⟨w.heap.size, 4, none⟩ = some (.int .i64 (s.look : Int)) := kC hb1 (by simp; omega) (by simp [go_sem])
  have k_5 : w1.cell? ⟨w.heap.size, 5, none⟩ = some (.int .i64 (s.top : Int)) := kC hb1 (by simp; omega) (by simp [go_sem])
  have k_6 : w1.cell? ⟨w.heap.size, 6, none⟩ = some (.int .i64 (s.bot : Int)) := kC hb1 (by simp; omega) (by simp [go_sem])
  have k_7 : w1.cell? ⟨w.heap.size, 7, none⟩ = some (.int .i64 (s.sx : Int)) := kC hb1 (by simp; omega) (by simp [go_sem])
  have k_8 : w1.cell? ⟨w.heap.size, 8, none⟩ = some (.int .i64 (s.sy : Int)) := kC hb1 (by simp; omega) (by simp [go_sem])
  have k_9 : w1.cell? ⟨w.heap.size, 9, none⟩ = some (.string s.title) := kC hb1 (by simp; omega) (by simp [go_sem])
  have k_10 : w1.cell? ⟨w.heap.size, 10, none⟩ = some (.slice ac s.cells.length cc) := kC hb1 (by simp; omega) (by simp [go_sem])
  have k_11 : w1.cell? ⟨w.heap.size, 11, none⟩ = some (.slice ah s.hist.length dh) := kC hb1 (by simp; omega) (by simp [go_sem])
  have q_0 : w1.cell? ⟨w.heap.size + 1, 0, none⟩ = some (.int .i64 (t.w : Int)) := kC hb1 (by simp) (by simp [go_sem])
  have q_1 : w1.cell? ⟨w.heap.size + 1, 1, none⟩ = some (.int .i64 (t.h : Int)) := kC hb1 (by simp) (by simp [go_sem])
  have q_2 : w1.cell? ⟨w.heap.size + 1, 2, none⟩ = some (.int .i64 (t.x : Int)) := kC hb1 (by simp) (by simp [go_sem])
  have q_3 : w1.cell? ⟨w.heap.size + 1, 3, none⟩ = some (.int .i64 (t.y : Int)) := kC hb1 (by simp) (by simp [go_sem])
  have q_4 : w1.cell? ⟨w.heap.size + 1, 4, none⟩ = some (.int .i64 (t.look : Int)) := kC hb1 (by simp) (by simp [go_sem])
  have q_5 : w1.cell? ⟨w.heap.size + 1, 5, none⟩ = some (.int .i64 (t.top : Int)) := kC hb1 (by simp) (by simp [go_sem])
  have q_6 : w1.cell? ⟨w.heap.size + 1, 6, none⟩ = some (.int .i64 (t.bot : Int)) := kC hb1 (by simp) (by simp [go_sem])
  have q_7 : w1.cell? ⟨w.heap.size + 1, 7, none⟩ = some (.int .i64 (t.sx : Int)) := kC hb1 (by simp) (by simp [go_sem])
  have q_8 : w1.cell? ⟨w.heap.size + 1, 8, none⟩ = some (.int .i64 (t.sy : Int)) := kC hb1 (by simp) (by simp [go_sem])
  have q_9 : w1.cell? ⟨w.heap.size + 1, 9, none⟩ = some (.string t.title) := kC hb1 (by simp) (by simp [go_sem])
  have q_10 : w1.cell? ⟨w.heap.size + 1, 10, none⟩ = some (.slice bc t.cells.length ec) := kC hb1 (by simp) (by simp [go_sem])
  have q_11 : w1.cell? ⟨w.heap.size + 1, 11, none⟩ = some (.slice bh t.hist.length fh) := kC hb1 (by simp) (by simp [go_sem])
  have HQ1 : Hid (ScrS t bc bh w1) := Lib.hid (((HQ.out.alloc _).alloc _).below hb1)
  have HB1 : Hid (Below w.heap.size w w1) := Lib.hid ((((Below.refl _ _).alloc (Nat.le_refl _) _).alloc (by simp) _).trans (hb1.mono (by simp; omega)))
  have HS1 := Lib.hid hs1
  clear hb1 hs1
  go_wp2_with fail
  refine (HU.out _ HQ1.out).mono ?_
  rintro e w2 ⟨a2, c2, rfl, hs2, hb2⟩
  have HB2 := Lib.hid hb2
  have hs1 := HS1.out.keep hb2
  have hcv1 : (convert 22 9 (.slice a1 l.length c1)).run Tryz.prog w2 = .ok (.string (strOf l)) w2 := convT hs1
  have hcv2 : (convert 22 9 (.slice a2 l.length c2)).run Tryz.prog w2 = .ok (.string (strOf l)) w2 := convT hs2
  clear hb2 hs1 hs2 k_0 k_1 k_2 k_3 k_4 k_5 k_6 k_7 k_8 k_9 k_10 k_11 q_0 q_1 q_2 q_3 q_4 q_5 q_6 q_7 q_8 q_9 q_10 q_11
  have he : ((strOf l).toList == (strOf l).toList) = true := beq_self_eq_true _
  generalize strOf l = S at hcv1 hcv2 he
  go_wp2_with fail
  go_ret
  exact ⟨rfl, HB1.out.trans (HB2.out.mono HB1.out.size)⟩
end
section
open Go.RowKit
def ScrM (s : Scr) (w : World) (e : Ending) (w' : World) : Prop :=
  ∃ ac cc ah dh, e = .returned (.tuple #[scrV s ac cc ah dh, .int .i64 0]) ∧ ScrF w.heap.size s ac cc ah dh w' ∧ Below w.heap.size w w'
theorem inB2 {wd : Nat} {a b : Int} (h1 : a ≤ wd) (h2 : wd ≤ b) : inB (wd : Int) a b = true := by
  simp only [inB, Bool.and_eq_true, decide_eq_true_eq]
  omega
theorem implResizeScreen_c (s : Scr) (HO : ScrOK s) (ac : Option Addr) (cc : Nat) (ah : Option Addr) (dh : Nat) (wd ht : Nat) (w : World) (h : ScrS s ac ah w) (hcc : s.cells.length ≤ cc) (w1 : 2 ≤ wd) (w2 : wd ≤ 24) (h1 : 2 ≤ ht) (h2 : ht ≤ 10) :
    Calls Tryz.prog 8 #[scrV s ac cc ah dh, .int .i64 wd, .int .i64 ht] w (ScrM (resS s wd ht) w) := by
  have HR := Lib.hid h
  have HI : Hid (∀ W, ScrS s ac ah W → Calls Tryz.prog 24 #[.agg #[.int .i64 (s.w : Int), .int .i64 (s.h : Int), .int .i64 (s.x : Int), .int .i64 (s.y : Int), .int .i64 (s.look : Int), .int .i64 (s.top : Int), .int .i64 (s.bot : Int), .int .i64 (s.sx : Int), .int .i64 (s.sy : Int), .string s.title, .slice ac s.cells.length cc, .slice ah s.hist.length dh]] W fun e w' => e = .returned (.bool true) ∧ Below W.heap.size W w') := Lib.hid (fun W hW => isScr_c s HO ac cc ah dh W hW)
  have HZ : Hid (∀ W, Calls Tryz.prog 25 #[.int .i64 (wd : Int), .int .i64 (ht : Int)] W fun e w' => e = .returned (.bool true) ∧ W = w') := Lib.hid (fun W => by
    have := isSize_c (wd : Int) (ht : Int) W
    rw [inB2 (wd := wd) (a := 2) (b := 24) (by omega) (by omega), inB2 (wd := ht) (a := 2) (b := 10) (by omega) (by omega)] at this
    exact this)
  have HT : Hid (∀ W, ScrS s ac ah W → Calls Tryz.prog 26 #[.agg #[.int .i64 (s.w : Int), .int .i64 (s.h : Int), .int .i64 (s.x : Int), .int .i64 (s.y : Int), .int .i64 (s.look : Int), .int .i64 (s.top : Int), .int .i64 (s.bot : Int), .int .i64 (s.sx : Int), .int .i64 (s.sy : Int), .string s.title, .slice ac s.cells.length cc, .slice ah s.hist.length dh], .int .i64 (wd : Int), .int .i64 (ht : Int)] W (ScrN (resS s wd ht) W)) := Lib.hid (fun W hW => resized_c s HO ac cc ah dh wd ht W hW hcc w1 w2 h1 h2)
  unfold scrV
  obtain ⟨t, ht'⟩ : ∃ t, resS s wd ht = t := ⟨_, rfl⟩
  rw [ht'] at HT ⊢
  clear h HO ht' w1 w2 h1 h2 hcc
  go_enter Tryz.func8, Tryz.ntmps8
  go_wp2_with fail
  refine (HI.out _ ((HR.out.alloc _).alloc _)).mono ?_
  rintro e w1 ⟨rfl, hb1⟩
  have hzz := hb1.size
  simp only [World.size_alloc] at hzz
  have k_0 : w1.cell? ⟨w.heap.size, 0, none⟩ = some (.int .i64 (s.w : Int)) := kC hb1 (by simp; omega) (by simp [go_sem])
  have k_1 : w1.cell? ⟨w.heap.size, 1, none⟩ = some (.int .i64 (s.h : Int)) := kC hb1 (by simp; omega) (by simp [go_sem])
  have k_2 : w1.cell? ⟨w.heap.size, 2, none⟩ = some (.int .i64 (s.x : Int)) := kC hb1 (by simp; omega) (by simp [go_sem])
  have k_3 : w1.cell? ⟨w.heap.size, 3, none⟩ = some (.int .i64 (s.y : Int)) := kC hb1 (by simp; omega) (by simp [go_sem])
  have k_4 : w1.cell? ⟨w.heap.size, 4, none⟩ = some (.int .i64 (s.look : Int)) := kC hb1 (by simp; omega) (by simp [go_sem])
  have k_5 : w1.cell? ⟨w.heap.size, 5, none⟩ = some (.int .i64 (s.top : Int)) := kC hb1 (by simp; omega) (by simp [go_sem])
  have k_6 : w1.cell? ⟨w.heap.size, 6, none⟩ = some (.int .i64 (s.bot : Int)) := kC hb1 (by simp; omega) (by simp [go_sem])
  have k_7 : w1.cell? ⟨w.heap.size, 7, none⟩ = some (.int .i64 (s.sx : Int)) := kC hb1 (by simp; omega) (by simp [go_sem])
  have k_8 : w1.cell? ⟨w.heap.size, 8, none⟩ = some (.int .i64 (s.sy : Int)) := kC hb1 (by simp; omega) (by simp [go_sem])
  have k_9 : w1.cell? ⟨w.heap.size, 9, none⟩ = some (.string s.title) := kC hb1 (by simp; omega) (by simp [go_sem])
  have k_10 : w1.cell? ⟨w.heap.size, 10, none⟩ = some (.slice ac s.cells.length cc) := kC hb1 (by simp; omega) (by simp [go_sem])
  have k_11 : w1.cell? ⟨w.heap.size, 11, none⟩ = some (.slice ah s.hist.length dh) := kC hb1 (by simp; omega) (by simp [go_sem])
  have HR1 : Hid (ScrS s ac ah w1) := Lib.hid (((HR.out.alloc _).alloc _).below hb1)
  have HB1 : Hid (Below w.heap.size w w1) := Lib.hid ((((Below.refl _ _).alloc (Nat.le_refl _) _).alloc (by simp) _).trans (hb1.mono (by simp; omega)))
  have HB0 := Lib.hid hb1
  clear hb1
  go_wp2_with fail
  refine (HZ.out _).mono ?_
  rintro e _ ⟨rfl, rfl⟩
  go_wp2_with fail
  refine (HT.out _ HR1.out).mono ?_
  rintro e w2 ⟨a2, c2, b2, d2, rfl, hf2, hb2⟩
  have HF2 := Lib.hid hf2
  clear hf2 k_0 k_1 k_2 k_3 k_4 k_5 k_6 k_7 k_8 k_9 k_10 k_11
  unfold scrV
  have hH1 : w.heap.size + 1 < w1.heap.size := by omega
  have z1_0 : w1.cell? ⟨(w.heap.size + 1), 0, none⟩ = some (.int .i64 0) := kC HB0.out (by simp) (by simp [go_sem])
  have z1_1 : w1.cell? ⟨(w.heap.size + 1), 1, none⟩ = some (.int .i64 0) := kC HB0.out (by simp) (by simp [go_sem])
  have z1_2 : w1.cell? ⟨(w.heap.size + 1), 2, none⟩ = some (.int .i64 0) := kC HB0.out (by simp) (by simp [go_sem])
  have z1_3 : w1.cell? ⟨(w.heap.size + 1), 3, none⟩ = some (.int .i64 0) := kC HB0.out (by simp) (by simp [go_sem])
  have z1_4 : w1.cell? ⟨(w.heap.size + 1), 4, none⟩ = some (.int .i64 0) := kC HB0.out (by simp) (by simp [go_sem])
  have z1_5 : w1.cell? ⟨(w.heap.size + 1), 5, none⟩ = some (.int .i64 0) := kC HB0.out (by simp) (by simp [go_sem])
  have z1_6 : w1.cell? ⟨(w.heap.size + 1), 6, none⟩ = some (.int .i64 0) := kC HB0.out (by simp) (by simp [go_sem])
  have z1_7 : w1.cell? ⟨(w.heap.size + 1), 7, none⟩ = some (.int .i64 0) := kC HB0.out (by simp) (by simp [go_sem])
  have z1_8 : w1.cell? ⟨(w.heap.size + 1), 8, none⟩ = some (.int .i64 0) := kC HB0.out (by simp) (by simp [go_sem])
  have z1_9 : w1.cell? ⟨(w.heap.size + 1), 9, none⟩ = some (.string ⟨#[]⟩) := kC HB0.out (by simp) (by simp [go_sem])
  have z1_10 : w1.cell? ⟨(w.heap.size + 1), 10, none⟩ = some (.slice none 0 0) := kC HB0.out (by simp) (by simp [go_sem])
  have z1_11 : w1.cell? ⟨(w.heap.size + 1), 11, none⟩ = some (.slice none 0 0) := kC HB0.out (by simp) (by simp [go_sem])
  have z1_l : (w.heap.size + 1) < w1.heap.size := hH1
  have z1_f : ∀ o, w1.frozen? ⟨(w.heap.size + 1), o, none⟩ = false := fun o => (HB0.out.frozen (p := ⟨w.heap.size + 1, o, none⟩) (by show w.heap.size + 1 < _; simp)).trans (by simp [go_sem])
  have z2_0 := kC hb2 z1_l z1_0
  have z2_1 := kC hb2 z1_l z1_1
  have z2_2 := kC hb2 z1_l z1_2
  have z2_3 := kC hb2 z1_l z1_3
  have z2_4 := kC hb2 z1_l z1_4
  have z2_5 := kC hb2 z1_l z1_5
  have z2_6 := kC hb2 z1_l z1_6
  have z2_7 := kC hb2 z1_l z1_7
  have z2_8 := kC hb2 z1_l z1_8
  have z2_9 := kC hb2 z1_l z1_9
  have z2_10 := kC hb2 z1_l z1_10
  have z2_11 := kC hb2 z1_l z1_11
  have z2_l : (w.heap.size + 1) < w2.heap.size := Nat.lt_of_lt_of_le z1_l hb2.size
  have z2_f := fun o => kF hb2 z1_l (z1_f o)
  clear z1_0 z1_1 z1_2 z1_3 z1_4 z1_5 z1_6 z1_7 z1_8 z1_9 z1_10 z1_11 z1_l z1_f
  have HB2 := Lib.hid (HB1.out.trans (hb2.mono HB1.out.size))
  clear hb2
  go_wp2_with fail
  refine bodyPost_ret (v := .tuple #[.agg #[.int .i64 (t.w : Int), .int .i64 (t.h : Int), .int .i64 (t.x : Int), .int .i64 (t.y : Int), .int .i64 (t.look : Int), .int .i64 (t.top : Int), .int .i64 (t.bot : Int), .int .i64 (t.sx : Int), .int .i64 (t.sy : Int), .string t.title, .slice a2 t.cells.length c2, .slice b2 t.hist.length d2], .int .i64 0]) (by simp [results, Tryz.results8, go_sem, z2_0, z2_1, z2_2, z2_3, z2_4, z2_5, z2_6, z2_7, z2_8, z2_9, z2_10, z2_11, z2_f]) rfl ?_
  refine ⟨a2, c2, b2, d2, rfl, (HF2.out.ch ((((((((((((((Ch.refl : Ch (fun k => k = w.heap.size + 1) w2 w2)).setB 0 _).setB 1 _).setB 2 _).setB 3 _).setB 4 _).setB 5 _).setB 6 _).setB 7 _).setB 8 _).setB 9 _).setB 10 _).setB 11 _) (fun k hk e => ?_) (fun k hk e => ?_)).low HB1.out.size, ((((((((((((HB2.out.setCell (Nat.le_succ _) _).setCell (Nat.le_succ _) _).setCell (Nat.le_succ _) _).setCell (Nat.le_succ _) _).setCell (Nat.le_succ _) _).setCell (Nat.le_succ _) _).setCell (Nat.le_succ _) _).setCell (Nat.le_succ _) _).setCell (Nat.le_succ _) _).setCell (Nat.le_succ _) _).setCell (Nat.le_succ _) _).setCell (Nat.le_succ _) _)⟩
  · have h1 := (FreshIn.blks HF2.out.row k hk).1
    omega
  · have h1 := (HF2.out.win.blk k hk).1
    omega
theorem specResizeScreen_c (s : Scr) (HO : ScrOK s) (ac : Option Addr) (cc : Nat) (ah : Option Addr) (dh : Nat) (wd ht : Nat) (w : World) (h : ScrS s ac ah w) (w1 : 2 ≤ wd) (w2 : wd ≤ 24) (h1 : 2 ≤ ht) (h2 : ht ≤ 10) :
    Calls Tryz.prog 9 #[scrV s ac cc ah dh, .int .i64 wd, .int .i64 ht] w (ScrM (resS s wd ht) w) := by
  have HR := Lib.hid h
  have HI : Hid (∀ W, ScrS s ac ah W → Calls Tryz.prog 27 #[.agg #[.int .i64 (s.w : Int), .int .i64 (s.h : Int), .int .i64 (s.x : Int), .int .i64 (s.y : Int), .int .i64 (s.look : Int), .int .i64 (s.top : Int), .int .i64 (s.bot : Int), .int .i64 (s.sx : Int), .int .i64 (s.sy : Int), .string s.title, .slice ac s.cells.length cc, .slice ah s.hist.length dh]] W fun e w' => e = .returned (.bool true) ∧ Below W.heap.size W w') := Lib.hid (fun W hW => scrOK_c s HO ac cc ah dh W hW)
  have HZ : Hid (∀ W, Calls Tryz.prog 28 #[.int .i64 (wd : Int), .int .i64 (ht : Int)] W fun e w' => e = .returned (.bool true) ∧ W = w') := Lib.hid (fun W => by
    have := l04Size_c (wd : Int) (ht : Int) W
    rw [inB2 (wd := wd) (a := 2) (b := 24) (by omega) (by omega), inB2 (wd := ht) (a := 2) (b := 10) (by omega) (by omega)] at this
    exact this)
  have HT : Hid (∀ W, ScrS s ac ah W → Calls Tryz.prog 29 #[.agg #[.int .i64 (s.w : Int), .int .i64 (s.h : Int), .int .i64 (s.x : Int), .int .i64 (s.y : Int), .int .i64 (s.look : Int), .int .i64 (s.top : Int), .int .i64 (s.bot : Int), .int .i64 (s.sx : Int), .int .i64 (s.sy : Int), .string s.title, .slice ac s.cells.length cc, .slice ah s.hist.length dh], .int .i64 (wd : Int), .int .i64 (ht : Int)] W (ScrN (resS s wd ht) W)) := Lib.hid (fun W hW => l04Resize_c s HO ac cc ah dh wd ht W hW w1 w2 h1 h2)
  unfold scrV
  obtain ⟨t, ht'⟩ : ∃ t, resS s wd ht = t := ⟨_, rfl⟩
  rw [ht'] at HT ⊢
  clear h HO ht' w1 w2 h1 h2
  go_enter Tryz.func9, Tryz.ntmps9
  go_wp2_with fail
  refine (HI.out _ ((HR.out.alloc _).alloc _)).mono ?_
  rintro e w1 ⟨rfl, hb1⟩
  have hzz := hb1.size
  simp only [World.size_alloc] at hzz
  have k_0 : w1.cell? ⟨w.heap.size, 0, none⟩ = some (.int .i64 (s.w : Int)) := kC hb1 (by simp; omega) (by simp [go_sem])
  have k_1 : w1.cell? ⟨w.heap.size, 1, none⟩ = some (.int .i64 (s.h : Int)) := kC hb1 (by simp; omega) (by simp [go_sem])
  have k_2 : w1.cell? ⟨w.heap.size, 2, none⟩ = some (.int .i64 (s.x : Int)) := kC hb1 (by simp; omega) (by simp [go_sem])
  have k_3 : w1.cell? ⟨w.heap.size, 3, none⟩ = some (.int .i64 (s.y : Int)) := kC hb1 (by simp; omega) (by simp [go_sem])
  have k_4 : w1.cell? ⟨w.heap.size, 4, none⟩ = some (.int .i64 (s.look : Int)) := kC hb1 (by simp; omega) (by simp [go_sem])
  have k_5 : w1.cell? ⟨w.heap.size, 5, none⟩ = some (.int .i64 (s.top : Int)) := kC hb1 (by simp; omega) (by simp [go_sem])
  have k_6 : w1.cell? ⟨w.heap.size, 6, none⟩ = some (.int .i64 (s.bot : Int)) := kC hb1 (by simp; omega) (by simp [go_sem])
  have k_7 : w1.cell? ⟨w.heap.size, 7, none⟩ = some (.int .i64 (s.sx : Int)) := kC hb1 (by simp; omega) (by simp [go_sem])
  have k_8 : w1.cell? ⟨w.heap.size, 8, none⟩ = some (.int .i64 (s.sy : Int)) := kC hb1 (by simp; omega) (by simp [go_sem])
  have k_9 : w1.cell? ⟨w.heap.size, 9, none⟩ = some (.string s.title) := kC hb1 (by simp; omega) (by simp [go_sem])
  have k_10 : w1.cell? ⟨w.heap.size, 10, none⟩ = some (.slice ac s.cells.length cc) := kC hb1 (by simp; omega) (by simp [go_sem])
  have k_11 : w1.cell? ⟨w.heap.size, 11, none⟩ = some (.slice ah s.hist.length dh) := kC hb1 (by simp; omega) (by simp [go_sem])
  have HR1 : Hid (ScrS s ac ah w1) := Lib.hid (((HR.out.alloc _).alloc _).below hb1)
  have HB1 : Hid (Below w.heap.size w w1) := Lib.hid ((((Below.refl _ _).alloc (Nat.le_refl _) _).alloc (by simp) _).trans (hb1.mono (by simp; omega)))
  have HB0 := Lib.hid hb1
  clear hb1
  go_wp2_with fail
  refine (HZ.out _).mono ?_
  rintro e _ ⟨rfl, rfl⟩
  go_wp2_with fail
  refine (HT.out _ HR1.out).mono ?_
  rintro e w2 ⟨a2, c2, b2, d2, rfl, hf2, hb2⟩
  have HF2 := Lib.hid hf2
  clear hf2 k_0 k_1 k_2 k_3 k_4 k_5 k_6 k_7 k_8 k_9 k_10 k_11
  unfold scrV
  have hH1 : w.heap.size + 1 < w1.heap.size := by omega
  have z1_0 : w1.cell? ⟨(w.heap.size + 1), 0, none⟩ = some (.int .i64 0) := kC HB0.out (by simp) (by simp [go_sem])
  have z1_1 : w1.cell? ⟨(w.heap.size + 1), 1, none⟩ = some (.int .i64 0) := kC HB0.out (by simp) (by simp [go_sem])
  have z1_2 : w1.cell? ⟨(w.heap.size + 1), 2, none⟩ = some (.int .i64 0) := kC HB0.out (by simp) (by simp [go_sem])
  have z1_3 : w1.cell? ⟨(w.heap.size + 1), 3, none⟩ = some (.int .i64 0) := kC HB0.out (by simp) (by simp [go_sem])
  have z1_4 : w1.cell? ⟨(w.heap.size + 1), 4, none⟩ = some (.int .i64 0) := kC HB0.out (by simp) (by simp [go_sem])
  have z1_5 : w1.cell? ⟨(w.heap.size + 1), 5, none⟩ = some (.int .i64 0) := kC HB0.out (by simp) (by simp [go_sem])
  have z1_6 : w1.cell? ⟨(w.heap.size + 1), 6, none⟩ = some (.int .i64 0) := kC HB0.out (by simp) (by simp [go_sem])
  have z1_7 : w1.cell? ⟨(w.heap.size + 1), 7, none⟩ = some (.int .i64 0) := kC HB0.out (by simp) (by simp [go_sem])
  have z1_8 : w1.cell? ⟨(w.heap.size + 1), 8, none⟩ = some (.int .i64 0) := kC HB0.out (by simp) (by simp [go_sem])
  have z1_9 : w1.cell? ⟨(w.heap.size + 1), 9, none⟩ = some (.string ⟨#[]⟩) := kC HB0.out (by simp) (by simp [go_sem])
  have z1_10 : w1.cell? ⟨(w.heap.size + 1), 10, none⟩ = some (.slice none 0 0) := kC HB0.out (by simp) (by simp [go_sem])
  have z1_11 : w1.cell? ⟨(w.heap.size + 1), 11, none⟩ = some (.slice none 0 0) := kC HB0.out (by simp) (by simp [go_sem])
  have z1_l : (w.heap.size + 1) < w1.heap.size := hH1
  have z1_f : ∀ o, w1.frozen? ⟨(w.heap.size + 1), o, none⟩ = false := fun o => (HB0.out.frozen (p := ⟨w.heap.size + 1, o, none⟩) (by show w.heap.size + 1 < _; simp)).trans (by simp [go_sem])
  have z2_0 := kC hb2 z1_l z1_0
  have z2_1 := kC hb2 z1_l z1_1
  have z2_2 := kC hb2 z1_l z1_2
  have z2_3 := kC hb2 z1_l z1_3
  have z2_4 := kC hb2 z1_l z1_4
  have z2_5 := kC hb2 z1_l z1_5
  have z2_6 := kC hb2 z1_l z1_6
  have z2_7 := kC hb2 z1_l z1_7
  have z2_8 := kC hb2 z1_l z1_8
  have z2_9 := kC hb2 z1_l z1_9
  have z2_10 := kC hb2 z1_l z1_10
  have z2_11 := kC hb2 z1_l z1_11
  have z2_l : (w.heap.size + 1) < w2.heap.size := Nat.lt_of_lt_of_le z1_l hb2.size
  have z2_f := fun o => kF hb2 z1_l (z1_f o)
  clear z1_0 z1_1 z1_2 z1_3 z1_4 z1_5 z1_6 z1_7 z1_8 z1_9 z1_10 z1_11 z1_l z1_f
  have HB2 := Lib.hid (HB1.out.trans (hb2.mono HB1.out.size))
  clear hb2
  go_wp2_with fail
  refine bodyPost_ret (v := .tuple #[.agg #[.int .i64 (t.w : Int), .int .i64 (t.h : Int), .int .i64 (t.x : Int), .int .i64 (t.y : Int), .int .i64 (t.look : Int), .int .i64 (t.top : Int), .int .i64 (t.bot : Int), .int .i64 (t.sx : Int), .int .i64 (t.sy : Int), .string t.title, .slice a2 t.cells.length c2, .slice b2 t.hist.length d2], .int .i64 0]) (by simp [results, Tryz.results9, go_sem, z2_0, z2_1, z2_2, z2_3, z2_4, z2_5, z2_6, z2_7, z2_8, z2_9, z2_10, z2_11, z2_f]) rfl ?_
  refine ⟨a2, c2, b2, d2, rfl, (HF2.out.ch ((((((((((((((Ch.refl : Ch (fun k => k = w.heap.size + 1) w2 w2)).setB 0 _).setB 1 _).setB 2 _).setB 3 _).setB 4 _).setB 5 _).setB 6 _).setB 7 _).setB 8 _).setB 9 _).setB 10 _).setB 11 _) (fun k hk e => ?_) (fun k hk e => ?_)).low HB1.out.size, ((((((((((((HB2.out.setCell (Nat.le_succ _) _).setCell (Nat.le_succ _) _).setCell (Nat.le_succ _) _).setCell (Nat.le_succ _) _).setCell (Nat.le_succ _) _).setCell (Nat.le_succ _) _).setCell (Nat.le_succ _) _).setCell (Nat.le_succ _) _).setCell (Nat.le_succ _) _).setCell (Nat.le_succ _) _).setCell (Nat.le_succ _) _).setCell (Nat.le_succ _) _)⟩
  · have h1 := (FreshIn.blks HF2.out.row k hk).1
    omega
  · have h1 := (HF2.out.win.blk k hk).1
    omega
end
section
open Go.RowKit
def ApR (B : Nat) (v : Value) (n : Nat) (xs : List Value) (l : List UInt8) (w : World) (e : Ending) (w' : World) : Prop :=
  ∃ v', e = .returned v' ∧ w'.ownsRow B 5 1 v' (n + l.length) (xs ++ Lib.byteCells l) ∧ ∃ o, (w.alloc o).grownBy w' v.ownBlock
def ApC (B : Nat) (v : Value) (n k : Nat) (xs ys : List Value) (w : World) (e : Ending) (w' : World) : Prop :=
  ∃ v', e = .returned v' ∧ w'.ownsRow B 5 1 v' (n + k) (xs ++ ys) ∧ ∃ o, (w.alloc o).grownBy w' v.ownBlock
theorem apRune2 (B : Nat) (v : Value) (n : Nat) (xs : List Value) (r : Int) (h0 : 128 ≤ r) (h1 : r ≤ 2047) (w : World) (hown : w.ownsRow B 5 1 v n xs) (hn : n ≤ 1099511627776) (hBw : B ≤ w.heap.size) :
    Calls Tryz.prog 130 #[v, .int .i32 r] w (ApC B v n 2 xs [.int .u8 (192 + r / 64), .int .u8 (128 + r % 64)] w) := by
  obtain ⟨i0, hi, hz0, hz1, hz2⟩ := info_parts Tryz.infoByte
  go_enter Tryz.func130, Tryz.ntmps130
  go_wp2_with (at_builtin; refine wpList_append_own _ rfl _ _ 22 rfl B 5 i0 (.int .u8 0) 1 1 Tryz.underlying22 hi hz0 hz1 hz2 rfl (by decide) _ _ _ rfl (hown.alloc _) ⟨w.heap.size, 0, none⟩ 2 2 [.int .u8 (192 + r / 64), .int .u8 (128 + r % 64)] rfl rfl ?c1 ?c2 ?c4 ?c5 ?c6 ?_)
  case c1 =>
    intro j u hj
    match j, hj with
    | 0, hj => simp at hj; subst hj; simp [Addr.add]
    | 1, hj => simp at hj; subst hj; simp [Addr.add]
    | (j + 2), hj => simp at hj
  case c2 => intro u hu; simp at hu; (try rcases hu with rfl | rfl) <;> (try subst hu) <;> rfl
  case c4 => unfold maxLen; omega
  case c5 => omega
  case c6 => simp; omega
  intro v' w2 hown' hgrow _
  go_wp2
  go_ret
  exact ⟨_, rfl, hown', _, hgrow⟩
theorem apRune3a (B : Nat) (v : Value) (n : Nat) (xs : List Value) (r : Int) (h0 : 2048 ≤ r) (h1 : r < 55296) (w : World) (hown : w.ownsRow B 5 1 v n xs) (hn : n ≤ 1099511627776) (hBw : B ≤ w.heap.size) :
    Calls Tryz.prog 130 #[v, .int .i32 r] w (ApC B v n 3 xs [.int .u8 (224 + r / 4096), .int .u8 (128 + r / 64 % 64), .int .u8 (128 + r % 64)] w) := by
  obtain ⟨i0, hi, hz0, hz1, hz2⟩ := info_parts Tryz.infoByte
  go_enter Tryz.func130, Tryz.ntmps130
  go_wp2_with (at_builtin; refine wpList_append_own _ rfl _ _ 22 rfl B 5 i0 (.int .u8 0) 1 1 Tryz.underlying22 hi hz0 hz1 hz2 rfl (by decide) _ _ _ rfl (hown.alloc _) ⟨w.heap.size, 0, none⟩ 3 3 [.int .u8 (224 + r / 4096), .int .u8 (128 + r / 64 % 64), .int .u8 (128 + r % 64)] rfl rfl ?c1 ?c2 ?c4 ?c5 ?c6 ?_)
  case c1 =>
    intro j u hj
    match j, hj with
    | 0, hj => simp at hj; subst hj; simp [Addr.add]
    | 1, hj => simp at hj; subst hj; simp [Addr.add]
    | 2, hj => simp at hj; subst hj; simp [Addr.add]
    | (j + 3), hj => simp at hj
  case c2 => intro u hu; simp at hu; (try rcases hu with rfl | rfl | rfl) <;> (try subst hu) <;> rfl
  case c4 => unfold maxLen; omega
  case c5 => omega
  case c6 => simp; omega
  intro v' w2 hown' hgrow _
  go_wp2
  go_ret
  exact ⟨_, rfl, hown', _, hgrow⟩
theorem apRune3b (B : Nat) (v : Value) (n : Nat) (xs : List Value) (r : Int) (h0 : 57343 < r) (h1 : r ≤ 65535) (w : World) (hown : w.ownsRow B 5 1 v n xs) (hn : n ≤ 1099511627776) (hBw : B ≤ w.heap.size) :
    Calls Tryz.prog 130 #[v, .int .i32 r] w (ApC B v n 3 xs [.int .u8 (224 + r / 4096), .int .u8 (128 + r / 64 % 64), .int .u8 (128 + r % 64)] w) := by
  obtain ⟨i0, hi, hz0, hz1, hz2⟩ := info_parts Tryz.infoByte
  go_enter Tryz.func130, Tryz.ntmps130
  go_wp2_with (at_builtin; refine wpList_append_own _ rfl _ _ 22 rfl B 5 i0 (.int .u8 0) 1 1 Tryz.underlying22 hi hz0 hz1 hz2 rfl (by decide) _ _ _ rfl (hown.alloc _) ⟨w.heap.size, 0, none⟩ 3 3 [.int .u8 (224 + r / 4096), .int .u8 (128 + r / 64 % 64), .int .u8 (128 + r % 64)] rfl rfl ?c1 ?c2 ?c4 ?c5 ?c6 ?_)
  case c1 =>
    intro j u hj
    match j, hj with
    | 0, hj => simp at hj; subst hj; simp [Addr.add]
    | 1, hj => simp at hj; subst hj; simp [Addr.add]
    | 2, hj => simp at hj; subst hj; simp [Addr.add]
    | (j + 3), hj => simp at hj
  case c2 => intro u hu; simp at hu; (try rcases hu with rfl | rfl | rfl) <;> (try subst hu) <;> rfl
  case c4 => unfold maxLen; omega
  case c5 => omega
  case c6 => simp; omega
  intro v' w2 hown' hgrow _
  go_wp2
  go_ret
  exact ⟨_, rfl, hown', _, hgrow⟩
theorem apRune4 (B : Nat) (v : Value) (n : Nat) (xs : List Value) (r : Int) (h0 : 65535 < r) (h1 : r ≤ 1114111) (w : World) (hown : w.ownsRow B 5 1 v n xs) (hn : n ≤ 1099511627776) (hBw : B ≤ w.heap.size) :
    Calls Tryz.prog 130 #[v, .int .i32 r] w (ApC B v n 4 xs [.int .u8 (240 + r / 262144), .int .u8 (128 + r / 4096 % 64), .int .u8 (128 + r / 64 % 64), .int .u8 (128 + r % 64)] w) := by
  obtain ⟨i0, hi, hz0, hz1, hz2⟩ := info_parts Tryz.infoByte
  go_enter Tryz.func130, Tryz.ntmps130
  go_wp2_with (at_builtin; refine wpList_append_own _ rfl _ _ 22 rfl B 5 i0 (.int .u8 0) 1 1 Tryz.underlying22 hi hz0 hz1 hz2 rfl (by decide) _ _ _ rfl (hown.alloc _) ⟨w.heap.size, 0, none⟩ 4 4 [.int .u8 (240 + r / 262144), .int .u8 (128 + r / 4096 % 64), .int .u8 (128 + r / 64 % 64), .int .u8 (128 + r % 64)] rfl rfl ?c1 ?c2 ?c4 ?c5 ?c6 ?_)
  case c1 =>
    intro j u hj
    match j, hj with
    | 0, hj => simp at hj; subst hj; simp [Addr.add]
    | 1, hj => simp at hj; subst hj; simp [Addr.add]
    | 2, hj => simp at hj; subst hj; simp [Addr.add]
    | 3, hj => simp at hj; subst hj; simp [Addr.add]
    | (j + 4), hj => simp at hj
  case c2 => intro u hu; simp at hu; (try rcases hu with rfl | rfl | rfl | rfl) <;> (try subst hu) <;> rfl
  case c4 => unfold maxLen; omega
  case c5 => omega
  case c6 => simp; omega
  intro v' w2 hown' hgrow _
  go_wp2
  go_ret
  exact ⟨_, rfl, hown', _, hgrow⟩
theorem apRune1 (B : Nat) (v : Value) (n : Nat) (xs : List Value) (r : Int) (h0 : 32 ≤ r) (h1 : r ≤ 127) (w : World) (hown : w.ownsRow B 5 1 v n xs) (hn : n ≤ 1099511627776) (hBw : B ≤ w.heap.size) :
    Calls Tryz.prog 100 #[v, .int .i32 r] w (ApC B v n 1 xs [.int .u8 r] w) := by
  obtain ⟨i0, hi, hz0, hz1, hz2⟩ := info_parts Tryz.infoByte
  go_enter Tryz.func100, Tryz.ntmps100
  go_wp2_with (at_builtin; refine wpList_append_own _ rfl _ _ 22 rfl B 5 i0 (.int .u8 0) 1 1 Tryz.underlying22 hi hz0 hz1 hz2 rfl (by decide) _ _ _ rfl (hown.alloc _) ⟨w.heap.size, 0, none⟩ 1 1 [.int .u8 r] rfl rfl ?c1 ?c2 ?c4 ?c5 ?c6 ?_)
  case c1 =>
    intro j u hj
    match j, hj with
    | 0, hj => simp at hj; subst hj; simp [Addr.add]
    | (j + 1), hj => simp at hj
  case c2 => intro u hu; simp at hu; (try rcases hu with rfl) <;> (try subst hu) <;> rfl
  case c4 => unfold maxLen; omega
  case c5 => omega
  case c6 => simp; omega
  intro v' w2 hown' hgrow _
  go_wp2
  go_ret
  exact ⟨_, rfl, hown', _, hgrow⟩
theorem ApC.to {B : Nat} {v : Value} {n k : Nat} {xs ys : List Value} {l : List UInt8} {w : World} (hk : k = l.length) (h : ys = Lib.byteCells l) : ApC B v n k xs ys w = ApR B v n xs l w := by subst hk; subst h; rfl
theorem cellsB1 (a : Nat) (ha : a < 256) : Lib.byteCells [u8 a] = [.int .u8 (a : Int)] := by simp only [Lib.byteCells, List.map_cons, List.map_nil, u8N ha]
theorem cellsBc (a : Nat) (ha : a < 256) (l : List UInt8) : Lib.byteCells (u8 a :: l) = .int .u8 (a : Int) :: Lib.byteCells l := by simp only [Lib.byteCells, List.map_cons, u8N ha]
theorem appendRune_c (B : Nat) (v : Value) (n : Nat) (xs : List Value) (r : Nat) (hr : rnOK (r : Int)) (w : World) (hown : w.ownsRow B 5 1 v n xs) (hn : n ≤ 1099511627776) (hBw : B ≤ w.heap.size) :
    Calls Tryz.prog 100 #[v, .int .i32 r] w (ApR B v n xs (utfB r) w) := by
  obtain ⟨r1, r2, r3, r4⟩ := hr
  by_cases h1 : r < 128
  · rw [utfB, if_pos h1]
    rw [← ApC.to (k := 1) (ys := [.int .u8 (r : Int)]) rfl (cellsB1 r (by omega)).symm]
    exact apRune1 B v n xs r (by omega) (by omega) w hown hn hBw
  have HNA : Hid (Calls Tryz.prog 130 #[v, .int .i32 r] w (ApR B v n xs (utfB r) w)) := Lib.hid (by
    rw [utfB, if_neg h1]
    by_cases h2 : r < 2048
    · rw [if_pos h2]
      rw [← ApC.to (k := 2) (ys := [.int .u8 (192 + (r : Int) / 64), .int .u8 (128 + (r : Int) % 64)]) rfl (by rw [cellsBc _ (by omega), cellsB1 _ (by omega)]; rfl)]
      exact apRune2 B v n xs r (by omega) (by omega) w hown hn hBw
    rw [if_neg h2]
    by_cases h3 : r < 65536
    · rw [if_pos h3]
      rw [← ApC.to (k := 3) (ys := [.int .u8 (224 + (r : Int) / 4096), .int .u8 (128 + (r : Int) / 64 % 64), .int .u8 (128 + (r : Int) % 64)]) rfl (by rw [cellsBc _ (by omega), cellsBc _ (by omega), cellsB1 _ (by omega)]; rfl)]
      by_cases h4 : r < 55296
      · exact apRune3a B v n xs r (by omega) (by omega) w hown hn hBw
      · exact apRune3b B v n xs r (by omega) (by omega) w hown hn hBw
    · rw [if_neg h3]
      rw [← ApC.to (k := 4) (ys := [.int .u8 (240 + (r : Int) / 262144), .int .u8 (128 + (r : Int) / 4096 % 64), .int .u8 (128 + (r : Int) / 64 % 64), .int .u8 (128 + (r : Int) % 64)]) rfl (by rw [cellsBc _ (by omega), cellsBc _ (by omega), cellsBc _ (by omega), cellsB1 _ (by omega)]; rfl)]
      exact apRune4 B v n xs r (by omega) (by omega) w hown hn hBw)
  have h5 : (127 : Int) < (r : Int) := by omega
  have h6 : (r : Int) ≤ 1114111 := by omega
  clear r1 r2 r3 r4 h1
  go_enter Tryz.func100, Tryz.ntmps100
  go_wp2_with fail
  refine HNA.out.mono ?_
  rintro e w2 ⟨v', rfl, ho, hg⟩
  have HO := Lib.hid ho
  have HG := Lib.hid hg
  clear ho hg
  go_wp2_with fail
  go_ret
  exact ⟨_, rfl, HO.out, HG.out⟩
theorem writeRune_c (B b : Nat) (l : List UInt8) (r : Nat) (hr : rnOK (r : Int)) (w : World) (h : Bld B b l w) (hl : l.length ≤ 1099511627776) (hBw : B ≤ w.heap.size) :
    Calls Tryz.prog 63 #[.pointer (some ⟨b, 0, none⟩), .int .i32 r] w fun e w' => (∃ m : Int, e = .returned (.tuple #[.int .i64 m, .nilIface])) ∧ Bld B b (l ++ utfB r) w' ∧ Below B w w' := by
  have hbl := Lib.byteCells_length l
  have HRR := Lib.hid hr
  clear hr
  go_enter Tryz.func63, Tryz.ntmps63
  go_wp2_with (go_at_call 99; refine (copyCheck_c B b _ _ h).mono ?_)
  rintro e w1 ⟨rfl, h1, hb1⟩
  obtain ⟨hB, v, hbk, hown, hne⟩ := h1
  have c0 : w1.cell? ⟨b, 0, none⟩ = some (.pointer (some ⟨b, 0, none⟩)) := by rw [Lib.cell_of_heap hbk]; rfl
  have c1 : w1.cell? ⟨b, 1, none⟩ = some v := by rw [Lib.cell_of_heap hbk]; rfl
  rw [hbl] at hown
  obtain ⟨ao, cap, rfl⟩ : ∃ ao cap, v = .slice ao l.length cap := by
    rcases hown.2 with ⟨hv, h0⟩ | ⟨g, cap, cur, hv, _⟩
    · exact ⟨none, 0, by rw [hv, h0]⟩
    · exact ⟨_, _, hv⟩
  have HW := Lib.hid hown
  have HK := Lib.hid hbk
  have HNE := Lib.hid hne
  have HB1 := Lib.hid hb1
  clear hbk hown hne hb1
  go_wp2_with fail
  refine (appendRune_c B _ l.length _ r HRR.out w1 HW.out hl (by have := HB1.out.size; omega)).mono ?_
  rintro e w2 ⟨v', rfl, hown', o, hgrow⟩
  have hlt : b < w1.heap.size := by
    rcases Nat.lt_or_ge b w1.heap.size with h' | h'
    · exact h'
    · have := HK.out
      simp [Array.getElem?_eq_none h'] at this
  have hb2 : w2.heap[b]? = some (.cells #[.pointer (some ⟨b, 0, none⟩), .slice ao l.length cap] 95 (0, 0)) := by
    rw [hgrow.block b (by simp; omega) (fun e => HNE.out e.symm)]
    have e1 : (w1.alloc o).heap[b]? = w1.heap[b]? := (((Below.refl w1.heap.size w1).alloc (Nat.le_refl _) o).block b hlt)
    rw [e1]
    exact HK.out
  have d0 : w2.cell? ⟨b, 0, none⟩ = some (.pointer (some ⟨b, 0, none⟩)) := by rw [Lib.cell_of_heap hb2]; rfl
  have d1 : w2.cell? ⟨b, 1, none⟩ = some (.slice ao l.length cap) := by rw [Lib.cell_of_heap hb2]; rfl
  have f1 : w2.frozen? ⟨b, 1, none⟩ = false := Lib.frozen_of_heap hb2 1
  obtain ⟨ao', n', cap', rfl⟩ : ∃ ao n' cap, v' = .slice ao n' cap := by
    rcases hown'.2 with ⟨hv, _⟩ | ⟨g, cap, cur, hv, _⟩
    · exact ⟨_, _, _, hv⟩
    · exact ⟨_, _, _, hv⟩
  have HO := Lib.hid hown'
  have HG := Lib.hid hgrow
  have HB2 := Lib.hid hb2
  clear hown' hgrow hb2
  go_wp2
  go_ret2
  refine ⟨⟨_, rfl⟩, .inr ?_, ?_⟩
  · rw [byteCells_app]
    exact Lib.BuilderAt.put (T := 95) (e := 5) hB HB2.out (bs' := Lib.byteCells l ++ Lib.byteCells (utfB r)) (by rw [List.length_append, Lib.byteCells_length, Lib.byteCells_length]; exact HO.out) (by decide)
  · exact (((HB1.out.alloc (by have := HB1.out.size; omega) o).grown HG.out (by have := HB1.out.size; simp; omega) (fun k hk => (HW.out.lt k hk).1)).setCell (p := ⟨b, 1, none⟩) hB _)
def trimB (l : List UInt8) : List UInt8 := (l.reverse.dropWhile (· == 32)).reverse
theorem trimB_snoc (l : List UInt8) (c : UInt8) : trimB (l ++ [c]) = if c = 32 then trimB l else l ++ [c] := by
  unfold trimB
  rw [List.reverse_append, List.reverse_cons, List.reverse_nil, List.nil_append, List.singleton_append, List.dropWhile_cons]
  by_cases h : c = 32
  · rw [if_pos h, if_pos (by simp [h])]
  · rw [if_neg h, if_neg (by simp [h])]
    simp
theorem utfB_last (n : Nat) (h : rnOK (n : Int)) : ∃ p c, utfB n = p ++ [c] ∧ (c = 32 ↔ n = 32) ∧ (n = 32 → p = []) := by
  obtain ⟨r1, r2, r3, r4⟩ := h
  have key : ∀ m, 128 ≤ m → m < 256 → ¬ u8 m = 32 := fun m h1 h2 e => by
    have := congrArg UInt8.toNat e
    rw [u8N h2] at this
    have h32 : (32 : UInt8).toNat = 32 := rfl
    omega
  unfold utfB
  split
  · refine ⟨[], u8 n, rfl, ⟨fun e => ?_, fun e => by rw [e]; rfl⟩, fun _ => rfl⟩
    have := congrArg UInt8.toNat e
    rw [u8N (by omega)] at this
    exact this
  split
  · exact ⟨[_], _, rfl, ⟨fun e => absurd e (key _ (by omega) (by omega)), fun e => by omega⟩, fun e => by omega⟩
  split
  · exact ⟨[_, _], _, rfl, ⟨fun e => absurd e (key _ (by omega) (by omega)), fun e => by omega⟩, fun e => by omega⟩
  · exact ⟨[_, _, _], _, rfl, ⟨fun e => absurd e (key _ (by omega) (by omega)), fun e => by omega⟩, fun e => by omega⟩
theorem trimB_utf : ∀ m : List Cl, (∀ c ∈ m, rnOK c.1) → trimB (utfL m.reverse) = rowL m.reverse
  | [], _ => rfl
  | c :: m, h => by
    have ih := trimB_utf m (fun x hx => h x (by simp [hx]))
    have hc := h c (by simp)
    obtain ⟨n, hn⟩ : ∃ n : Nat, c.1 = (n : Int) := ⟨c.1.toNat, by have := hc.1; omega⟩
    rw [hn] at hc
    obtain ⟨p, x, h1, h2, h3⟩ := utfB_last n hc
    rw [List.reverse_cons, utfL_snoc, hn, Int.toNat_natCast, h1, ← List.append_assoc, trimB_snoc, rowL_utf, trimC_snoc, hn]
    by_cases e : n = 32
    · rw [if_pos (h2.2 e), if_pos (by omega), h3 e, List.append_nil, ih, rowL_utf]
    · rw [if_neg (fun k => e (h2.1 k)), if_neg (by omega), utfL_snoc, hn, Int.toNat_natCast, h1, List.append_assoc]
theorem trimB_row (l : List Cl) (h : ∀ c ∈ l, rnOK c.1) : trimB (utfL l) = rowL l := by
  have := trimB_utf l.reverse (fun c hc => h c (List.mem_reverse.1 hc))
  rwa [List.reverse_reverse] at this
theorem trimRightByte_c (l : List UInt8) (hl : l.length ≤ 1099511627776) (w : World) :
    Calls Tryz.prog 101 #[.string (strOf l), .int .u8 32] w fun e w' => e = .returned (.string (strOf (trimB l))) ∧ w = w' := by
  go_enter Tryz.func101, Tryz.ntmps101
  go_wp2_with fail
  go_loop [0] (fun s => ∃ m : List UInt8, s = .string (strOf m) ∧ m.length ≤ 1099511627776 ∧ Hid (trimB m = trimB l)) (fun s => lenOf s)
  case atStart => exact ⟨l, rfl, hl, rfl⟩
  case round =>
    obtain ⟨m, rfl, hm, HT⟩ := hrel
    have hsz : (strOf m).size = m.length := rfl
    by_cases h0 : 0 < m.length
    · obtain ⟨p, c, hpc⟩ : ∃ p c, m = p ++ [c] := ⟨m.dropLast, m.getLast (by intro e; rw [e] at h0; cases h0), (List.dropLast_concat_getLast _).symm⟩
      have hpl : m.length = p.length + 1 := by rw [hpc]; simp
      have h0s : (0 : Int) < ((strOf m).size : Int) := by omega
      have h0n : 0 < (strOf m).size := by omega
      have h1s : (strOf m).size - 1 < (strOf m).size := by omega
      have hidx : (((strOf m)[(strOf m).size - 1]'h1s).toNat : Int) = (c.toNat : Int) := by
        have e : (strOf m)[(strOf m).size - 1]'h1s = c := by
          show m[(strOf m).size - 1]'(by omega) = c
          simp only [hsz]
          subst hpc
          simp
        rw [e]
      have HEX : Hid ((strOf m).extract 0 ((strOf m).size - 1) = strOf p) := Lib.hid (by
        rw [extract_takeN, hsz, hpl, hpc, Nat.add_sub_cancel, List.take_left])
      have HSN : Hid (trimB m = if c = 32 then trimB p else m) := Lib.hid (by rw [hpc]; exact trimB_snoc p c)
      have hcc := c.toNat_lt
      have hsm : (strOf m).size ≤ 1099511627776 := by omega
      have HPL := Lib.hid hpl
      clear hpc hsz hpl
      by_cases h32 : c = 32
      · have HTP : Hid (trimB p = trimB l) := Lib.hid (by rw [← HT.out, HSN.out, if_pos h32])
        have e32 : (c.toNat : Int) = 32 := by rw [h32]; rfl
        rw [e32] at hidx
        have HME : Hid (p.length < m.length) := Lib.hid (by have := HPL.out; omega)
        have HPM : Hid (p.length ≤ 1099511627776) := Lib.hid (by have := HPL.out; omega)
        clear h32 e32
        go_wp2_with fail
        go_round
        case rel => exact ⟨p, by rw [HEX.out], HPM.out, HTP.out⟩
        case measure => rw [HEX.out]; simp only [lenOf, strOf_size]; exact HME.out
      · have HTP : Hid (m = trimB l) := Lib.hid (by rw [← HT.out, HSN.out, if_neg h32])
        have hne : ¬ (c.toNat : Int) = 32 := fun e => h32 (UInt8.toNat_inj.1 (by have h3 : (32 : UInt8).toNat = 32 := rfl; omega))
        have hne2 : ((c.toNat : Int) == 32) = false := by simpa using hne
        clear h32
        go_wp2_with fail
        go_ret
        exact ⟨by rw [HTP.out]; rfl, rfl⟩
    · have hm0 : m = [] := List.length_eq_zero_iff.1 (by omega)
      have HTP : Hid ([] = trimB l) := Lib.hid (by rw [← HT.out, hm0]; rfl)
      have h0s : ¬ (0 : Int) < ((strOf m).size : Int) := by omega
      have HM := Lib.hid hm0
      clear hsz h0 hm0
      go_wp2_with fail
      go_ret
      exact ⟨by rw [HM.out, HTP.out]; rfl, rfl⟩
theorem trimRight_c (l : List UInt8) (hl : l.length ≤ 1099511627776) (w : World) :
    Calls Tryz.prog 64 #[.string (strOf l), .string ⟨#[32]⟩] w fun e w' => e = .returned (.string (strOf (trimB l))) ∧ w = w' := by
  by_cases h0 : l = []
  · subst h0
    have e1 : (strOf ([] : List UInt8)).toList = [] := strOf_toL _
    go_enter Tryz.func64, Tryz.ntmps64
    go_wp2_with fail
    go_ret
    exact ⟨rfl, rfl⟩
  · have hne : ((strOf l).toList == []) = false := by rw [strOf_toL]; exact beq_eq_false_iff_ne.2 h0
    have hne2 : ¬ (strOf l).toList = [] := by rw [strOf_toL]; exact h0
    have HC := Lib.hid (trimRightByte_c l hl)
    clear h0
    go_enter Tryz.func64, Tryz.ntmps64
    go_wp2_with fail
    refine (HC.out _).mono ?_
    rintro e w1 ⟨rfl, rfl⟩
    go_wp2_with fail
    go_ret
    exact ⟨rfl, rfl⟩
end
section
open Go.RowKit
theorem utfL_take_snoc (l : List Cl) (k : Nat) (hk : k < l.length) : utfL (l.take (k + 1)) = utfL (l.take k) ++ utfB l[k].1.toNat := by
  rw [List.take_succ_eq_append_getElem hk, utfL_snoc]
theorem rowText_c (b o b1 o1 cc : Nat) (s : Scr) (ok : ScrOK s) (y : Nat) (hy : y < s.h) (w : World) (hlt : b < w.heap.size) (c0 : w.cell? ⟨b, o, none⟩ = some (.int .i64 (s.w : Int))) (c10 : w.cell? ⟨b, o + 10, none⟩ = some (.slice (some ⟨b1, o1, none⟩) s.cells.length cc)) (hs : Sl celE 2 w (some ⟨b1, o1, none⟩) s.cells) (hcc : s.cells.length ≤ cc) :
    Calls Tryz.prog 32 #[.pointer (some ⟨b, o, none⟩), .int .i64 y] w fun e w' => e = .returned (.string (rowT s y)) ∧ Below w.heap.size w w' := by
  obtain ⟨wd, hwd⟩ : ∃ n, s.w = n := ⟨_, rfl⟩
  obtain ⟨n, hn⟩ : ∃ n, s.cells.length = n := ⟨_, rfl⟩
  obtain ⟨row, hrow⟩ : ∃ r, rowC s y = r := ⟨_, rfl⟩
  have hw2 : wd ≤ 24 := by rw [← hwd]; exact ok.w2
  have hw1 : 2 ≤ wd := by rw [← hwd]; exact ok.w1
  have hyh : y < 10 := by have := ok.h2; omega
  have hyw : (y + 1) * wd ≤ n := by rw [← hn, ok.cn, hwd, Nat.mul_comm]; exact Nat.mul_le_mul_left _ hy
  have hn240 : n ≤ 240 := by rw [← hn, ok.cn]; exact Nat.mul_le_mul ok.w2 ok.h2
  have hrl : row.length = wd := by
    rw [← hrow]
    simp only [rowC, List.length_take, List.length_drop, hn, hwd]
    rw [Nat.succ_mul] at hyw
    omega
  have HRR : Hid (∀ c ∈ row, rnOK c.1) := Lib.hid (fun c hc => (ok.cs c (by
    rw [← hrow] at hc
    exact List.mem_of_mem_drop (List.mem_of_mem_take hc))).1)
  obtain ⟨p, hp⟩ : ∃ p, y * wd = p := ⟨_, rfl⟩
  obtain ⟨q, hq⟩ : ∃ q, (y + 1) * wd = q := ⟨_, rfl⟩
  have hpq : q = p + wd := by rw [← hq, ← hp, Nat.succ_mul]
  rw [hq] at hyw
  have HSUB : Hid (Sl celE 2 w (some ⟨b1, o1 + p * 2, none⟩) row) := Lib.hid (by
    rw [← hrow]
    unfold rowC
    rw [hwd, hp]
    exact Sl.sub hs p wd (by omega))
  have HTT : Hid (rowT s y = strOf (trimB (utfL row))) := Lib.hid (by rw [trimB_row row HRR.out, ← hrow]; rfl)
  have HRL := Lib.hid hrl
  have HPQ := Lib.hid hpq
  have hpq1 : p ≤ q := by omega
  have hpn : p < n := by omega
  have hcp : ¬ cc = p := by omega
  have hqd : q - p = wd := by omega
  have HQD := Lib.hid hqd
  have i1 : (p : Int) ≤ (q : Int) := by omega
  have i2 : (q : Int) ≤ (cc : Int) := by omega
  have i3 : q ≤ cc := by omega
  have hw1' : IntKind.i64.wrap ((y : Int) * (wd : Int)) = (p : Int) := by rw [← Int.natCast_mul, hp]; exact IntWalk.i64_in _ ⟨by omega, by omega⟩
  have hw2' : IntKind.i64.wrap ((y : Int) + 1) = ((y : Int) + 1) := IntWalk.i64_in _ ⟨by omega, by omega⟩
  have hw3' : IntKind.i64.wrap (((y : Int) + 1) * (wd : Int)) = (q : Int) := by
    rw [show ((y : Int) + 1) * (wd : Int) = (q : Int) by rw [← hq]; exact (Int.natCast_mul (y + 1) wd).symm]
    exact IntWalk.i64_in _ ⟨by omega, by omega⟩
  rw [hwd] at c0
  rw [hn] at c10 hcc
  rw [HTT.out]
  clear hrl hp hq hpq hwd hn hrow ok hy hs hqd
  go_enter Tryz.func32, Tryz.ntmps32
  go_upto_region 2 with fail
  obtain ⟨x1, hx1⟩ : ∃ x, w.alloc (.cells #[.pointer none, .slice none 0 0] 95) = x := ⟨_, rfl⟩
  have HBL : Hid (Bld w.heap.size w.heap.size [] x1) := Lib.hid (by rw [← hx1]; exact bld_new w _ (Nat.le_refl _))
  have HB1 : Hid (Below w.heap.size w x1) := Lib.hid (by rw [← hx1]; exact (Below.refl _ _).alloc (Nat.le_refl _) _)
  have HXS : Hid (w.heap.size < x1.heap.size) := Lib.hid (by rw [← hx1]; simp)
  have hS0 : x1.cell? ⟨b, o, none⟩ = some (.int .i64 (wd : Int)) ∧ x1.cell? ⟨b, o + 10, none⟩ = some (.slice (some ⟨b1, o1, none⟩) n cc) := ⟨(HB1.out.cell (p := ⟨b, o, none⟩) hlt).trans c0, (HB1.out.cell (p := ⟨b, o + 10, none⟩) hlt).trans c10⟩
  rw [hx1]
  clear hx1 c0 c10
  refine wp_region_G (fun w' => w'.cell? ⟨b, o, none⟩ = some (.int .i64 (wd : Int)) ∧ w'.cell? ⟨b, o + 10, none⟩ = some (.slice (some ⟨b1, o1, none⟩) n cc)) (fun i => false) (by kernel_rfl) hS0 ?_
  refine tW ?_ 0 rfl ?_ ?_; rotate_left
  · intro w' hSw; go_simp; try rfl
  try simp only [Act.put,j1,j2,j3,j4,j5,j6]
  refine tW ?_ 1 rfl ?_ ?_; rotate_left
  · intro w' hSw; go_simp; try rfl
  try simp only [Act.put,j1,j2,j3,j4,j5,j6]
  refine tW ?_ 2 rfl ?_ ?_; rotate_left
  · intro w' hSw; go_simp; try rfl
  try simp only [Act.put,j1,j2,j3,j4,j5,j6]
  refine tL ?_ 3 rfl hS0 ?_ ?_; rotate_left
  · intro w' hSw; obtain ⟨s0, s1⟩ := hSw; go_simp; try rfl
  try simp only [Act.put,j1,j2,j3,j4,j5,j6]
  refine tW ?_ 4 rfl ?_ ?_; rotate_left
  · intro w' hSw; go_simp; try rfl
  try simp only [Act.put,j1,j2,j3,j4,j5,j6]
  refine tW ?_ 5 rfl ?_ ?_; rotate_left
  · intro w' hSw; go_simp; try rfl
  try simp only [Act.put,j1,j2,j3,j4,j5,j6]
  refine tW ?_ 6 rfl ?_ ?_; rotate_left
  · intro w' hSw; go_simp; try rfl
  try simp only [Act.put,j1,j2,j3,j4,j5,j6]
  refine tW ?_ 7 rfl ?_ ?_; rotate_left
  · intro w' hSw; go_simp; try rfl
  try simp only [Act.put,j1,j2,j3,j4,j5,j6]
  refine tL ?_ 8 rfl hS0 ?_ ?_; rotate_left
  · intro w' hSw; obtain ⟨s0, s1⟩ := hSw; go_simp; try rfl
  try simp only [Act.put,j1,j2,j3,j4,j5,j6]
  refine tW ?_ 9 rfl ?_ ?_; rotate_left
  · intro w' hSw; go_simp; try rfl
  try simp only [Act.put,j1,j2,j3,j4,j5,j6]
  refine tW ?_ 10 rfl ?_ ?_; rotate_left
  · intro w' hSw; go_simp; try rfl
  try simp only [Act.put,j1,j2,j3,j4,j5,j6]
  refine tW ?_ 11 rfl ?_ ?_; rotate_left
  · intro w' hSw; go_simp; try rfl
  try simp only [Act.put,j1,j2,j3,j4,j5,j6]
  refine tW ?_ 12 rfl ?_ ?_; rotate_left
  · intro w' hSw; go_simp; try rfl
  try simp only [Act.put,j1,j2,j3,j4,j5,j6]
  refine tW ?_ 13 rfl ?_ ?_; rotate_left
  · intro w' hSw; go_simp; try rfl
  try simp only [Act.put,j1,j2,j3,j4,j5,j6]
  refine tW ?_ 14 rfl ?_ ?_; rotate_left
  · intro w' hSw; go_simp; try rfl
  try simp only [Act.put,j1,j2,j3,j4,j5,j6]
  refine tL ?_ 15 rfl hS0 ?_ ?_; rotate_left
  · intro w' hSw; obtain ⟨s0, s1⟩ := hSw; go_simp; try rfl
  try simp only [Act.put,j1,j2,j3,j4,j5,j6]
  refine tW ?_ 16 rfl ?_ ?_; rotate_left
  · intro w' hSw; go_simp; try rfl
  try simp only [Act.put,j1,j2,j3,j4,j5,j6]
  refine tW ?_ 17 rfl ?_ ?_; rotate_left
  · intro w' hSw; go_simp; try rfl
  try simp only [Act.put,j1,j2,j3,j4,j5,j6]
  refine tW ?_ 18 rfl ?_ ?_; rotate_left
  · intro w' hSw; go_simp; try rfl
  try simp only [Act.put,j1,j2,j3,j4,j5,j6]
  refine tW ?_ 19 rfl ?_ ?_; rotate_left
  · intro w' hSw; go_simp; try rfl
  try simp only [Act.put,j1,j2,j3,j4,j5,j6]
  refine wpAnyG_done (by kernel_rfl) ?_ _
  obtain ⟨x2, hx2⟩ : ∃ x, x1.drew = x := ⟨_, rfl⟩
  have HB2 : Hid (Below w.heap.size w x2) := Lib.hid (by rw [← hx2]; exact HB1.out.drew)
  have HBL2 : Hid (Bld w.heap.size w.heap.size [] x2) := Lib.hid (by rw [← hx2]; exact HBL.out.below ((Below.refl _ _).drew))
  rw [hx2]
  clear hx2 hS0 hw1' hw2' hw3'
  rw [HQD.out]
  go_wp2_with fail
  go_loopw [27] (fun i wr => ∃ k : Nat, k ≤ wd ∧ i = .int .i64 k ∧ Bld w.heap.size w.heap.size (utfL (row.take k)) wr ∧ Below w.heap.size w wr) (fun i _ => wd - (intOf i).toNat)
  case atStart => exact ⟨0, Nat.zero_le _, rfl, HBL2.out, HB2.out⟩
  case round =>
    obtain ⟨k, hk, rfl, hB, hbel⟩ := hrel
    have HB := Lib.hid hB
    have HBW := Lib.hid hbel
    have hz := hbel.size
    have hul := utfL_len (row.take k)
    have hul' : (utfL (row.take k)).length ≤ 96 := by rw [List.length_take] at hul; omega
    clear hB hul
    by_cases hlt2 : k < wd
    · have hlt' : (k : Int) < (wd : Int) := by omega
      have hkr : k < row.length := by rw [HRL.out]; exact hlt2
      have HSN := Lib.hid (utfL_take_snoc row k hkr)
      obtain ⟨b', o', hae, hbk, hc1⟩ := (HSUB.out.keep hbel).at hkr
      cases hae
      have c1 := hc1 k hkr 0 (by omega)
      have c2 := hc1 k hkr 1 (by omega)
      have hrn := HRR.out row[k] (List.getElem_mem _)
      obtain ⟨c, hc⟩ : ∃ c, row[k] = c := ⟨_, rfl⟩
      rw [hc] at c1 c2 hrn HSN
      obtain ⟨n1, n2⟩ := c
      obtain ⟨r, rfl⟩ : ∃ r : Nat, n1 = (r : Int) := ⟨n1.toNat, by have := hrn.1; simp only at this; omega⟩
      simp only [celE, Nat.add_zero, List.getElem?_cons_zero, List.getElem?_cons_succ] at c1 c2
      simp only [Int.toNat_natCast] at HSN
      have hr1 : (r : Int) ≤ 1114111 := hrn.2.1
      have HRN := Lib.hid hrn
      obtain ⟨L, hL⟩ : ∃ L, utfL (row.take k) = L := ⟨_, rfl⟩
      rw [hL] at HB HSN hul'
      clear hc1 hc hrn hL hbel
      go_wp2_with fail
      refine (writeRune_c w.heap.size w.heap.size L r HRN.out _ (HB.out.below ((Below.refl _ _).alloc (Nat.le_refl _) _)) (by omega) (by simp; omega)).mono ?_
      rintro e w3 ⟨⟨m, rfl⟩, hB3, hb3⟩
      have HB3 := Lib.hid hB3
      have HBB3 := Lib.hid hb3
      clear hB3 hb3
      go_wp2_with fail
      go_roundw
      case rel => exact ⟨k + 1, by omega, by go_num, by rw [HSN.out]; exact HB3.out, (HBW.out.alloc hz _).trans HBB3.out⟩
      case measure => simp [intOf]; omega
    · obtain rfl : k = wd := by omega
      have HTK : Hid (row.take k = row) := Lib.hid (List.take_of_length_le (by rw [HRL.out]; exact Nat.le_refl _))
      rw [HTK.out] at HB hul'
      obtain ⟨L, hL⟩ : ∃ L, utfL row = L := ⟨_, rfl⟩
      rw [hL] at HB hul'
      have HLL := Lib.hid hL
      clear hbel hL
      go_wp2_with fail
      refine (bldString_c w.heap.size w.heap.size L _ HB.out hz).mono ?_
      rintro e w3 ⟨rfl, hb3⟩
      have HB3 := Lib.hid hb3
      clear hb3
      go_wp2_with fail
      refine (trimRight_c L (by omega) _).mono ?_
      rintro e w4 ⟨rfl, rfl⟩
      go_wp2_with fail
      go_ret
      exact ⟨by rw [HLL.out]; rfl, HBW.out.trans HB3.out⟩
end
section
open Go.RowKit
theorem implRowText_c (s : Scr) (HO : ScrOK s) (b1 o1 : Nat) (cc : Nat) (ah : Option Addr) (dh : Nat) (y : Nat) (hy : y < s.h) (w : World) (h : ScrS s (some ⟨b1, o1, none⟩) ah w) (hcc : s.cells.length ≤ cc) :
    Calls Tryz.prog 12 #[scrV s (some ⟨b1, o1, none⟩) cc ah dh, .int .i64 y] w fun e w' => e = .returned (.tuple #[.string (rowT s y), .int .i64 0]) ∧ Below w.heap.size w w' := by
  have HR := Lib.hid h
  have hh2 := HO.h2
  have HI : Hid (∀ W, ScrS s (some ⟨b1, o1, none⟩) ah W → Calls Tryz.prog 24 #[.agg #[.int .i64 (s.w : Int), .int .i64 (s.h : Int), .int .i64 (s.x : Int), .int .i64 (s.y : Int), .int .i64 (s.look : Int), .int .i64 (s.top : Int), .int .i64 (s.bot : Int), .int .i64 (s.sx : Int), .int .i64 (s.sy : Int), .string s.title, .slice (some ⟨b1, o1, none⟩) s.cells.length cc, .slice ah s.hist.length dh]] W fun e w' => e = .returned (.bool true) ∧ Below W.heap.size W w') := Lib.hid (fun W hW => isScr_c s HO _ cc ah dh W hW)
  have HZ : Hid (∀ W, Calls Tryz.prog 31 #[.int .i64 (y : Int), .int .i64 0, .int .i64 ((s.h : Int) - 1)] W fun e w' => e = .returned (.bool true) ∧ W = w') := Lib.hid (fun W => by
    have := within_c (y : Int) 0 ((s.h : Int) - 1) W
    rw [inB2 (wd := y) (a := 0) (b := (s.h : Int) - 1) (by omega) (by omega)] at this
    exact this)
  have HT : Hid (∀ b (W : World), b < W.heap.size → W.cell? ⟨b, 0, none⟩ = some (.int .i64 (s.w : Int)) → W.cell? ⟨b, 10, none⟩ = some (.slice (some ⟨b1, o1, none⟩) s.cells.length cc) → ScrS s (some ⟨b1, o1, none⟩) ah W → Calls Tryz.prog 32 #[.pointer (some ⟨b, 0, none⟩), .int .i64 (y : Int)] W fun e w' => e = .returned (.string (rowT s y)) ∧ Below W.heap.size W w') := Lib.hid (fun b W hb c0 c1 hW => rowText_c b 0 b1 o1 cc s HO y hy W hb c0 c1 hW.cs hcc)
  have hwr : IntKind.i64.wrap ((s.h : Int) - 1) = (s.h : Int) - 1 := IntWalk.i64_in _ ⟨by omega, by omega⟩
  unfold scrV
  obtain ⟨t, ht'⟩ : ∃ t, rowT s y = t := ⟨_, rfl⟩
  rw [ht'] at HT ⊢
  clear h HO ht' hcc
  go_enter Tryz.func12, Tryz.ntmps12
  go_wp2_with fail
  refine (HI.out _ (HR.out.alloc _)).mono ?_
  rintro e w1 ⟨rfl, hb1⟩
  have hzz := hb1.size
  simp only [World.size_alloc] at hzz
  have k_0 : w1.cell? ⟨w.heap.size, 0, none⟩ = some (.int .i64 (s.w : Int)) := kC hb1 (by simp) (by simp [go_sem])
  have k_1 : w1.cell? ⟨w.heap.size, 1, none⟩ = some (.int .i64 (s.h : Int)) := kC hb1 (by simp) (by simp [go_sem])
  have k_2 : w1.cell? ⟨w.heap.size, 2, none⟩ = some (.int .i64 (s.x : Int)) := kC hb1 (by simp) (by simp [go_sem])
  have k_3 : w1.cell? ⟨w.heap.size, 3, none⟩ = some (.int .i64 (s.y : Int)) := kC hb1 (by simp) (by simp [go_sem])
  have k_4 : w1.cell? ⟨w.heap.size, 4, none⟩ = some (.int .i64 (s.look : Int)) := kC hb1 (by simp) (by simp [go_sem])
  have k_5 : w1.cell? ⟨w.heap.size, 5, none⟩ = some (.int .i64 (s.top : Int)) := kC hb1 (by simp) (by simp [go_sem])
  have k_6 : w1.cell? ⟨w.heap.size, 6, none⟩ = some (.int .i64 (s.bot : Int)) := kC hb1 (by simp) (by simp [go_sem])
  have k_7 : w1.cell? ⟨w.heap.size, 7, none⟩ = some (.int .i64 (s.sx : Int)) := kC hb1 (by simp) (by simp [go_sem])
  have k_8 : w1.cell? ⟨w.heap.size, 8, none⟩ = some (.int .i64 (s.sy : Int)) := kC hb1 (by simp) (by simp [go_sem])
  have k_9 : w1.cell? ⟨w.heap.size, 9, none⟩ = some (.string s.title) := kC hb1 (by simp) (by simp [go_sem])
  have k_10 : w1.cell? ⟨w.heap.size, 10, none⟩ = some (.slice (some ⟨b1, o1, none⟩) s.cells.length cc) := kC hb1 (by simp) (by simp [go_sem])
  have k_11 : w1.cell? ⟨w.heap.size, 11, none⟩ = some (.slice ah s.hist.length dh) := kC hb1 (by simp) (by simp [go_sem])
  have HR1 : Hid (ScrS s (some ⟨b1, o1, none⟩) ah w1) := Lib.hid ((HR.out.alloc _).below hb1)
  have HB1 : Hid (Below w.heap.size w w1) := Lib.hid (((Below.refl _ _).alloc (Nat.le_refl _) _).trans (hb1.mono (by simp)))
  clear hb1
  have HK0 := Lib.hid k_0
  have HK10 := Lib.hid k_10
  go_wp2_with fail
  refine (HZ.out _).mono ?_
  rintro e _ ⟨rfl, rfl⟩
  go_wp2_with fail
  refine (HT.out _ _ (by omega) HK0.out HK10.out HR1.out).mono ?_
  rintro e w2 ⟨rfl, hb2⟩
  have HB2 := Lib.hid hb2
  clear hb2 k_0 k_1 k_2 k_3 k_4 k_5 k_6 k_7 k_8 k_9 k_10 k_11
  go_wp2_with fail
  go_ret2
  exact ⟨rfl, HB1.out.trans (HB2.out.mono HB1.out.size)⟩
end
section
open Go.RowKit
theorem implRowCells_c (s : Scr) (HO : ScrOK s) (b1 : Nat) (cc : Nat) (ah : Option Addr) (dh : Nat) (y : Nat) (hy : y < s.h) (w : World) (h : ScrS s (some ⟨b1, 0, none⟩) ah w) (hcc : s.cells.length ≤ cc) :
    Calls Tryz.prog 13 #[scrV s (some ⟨b1, 0, none⟩) cc ah dh, .int .i64 y] w fun e w' => e = .returned (.tuple #[.string (strOf (celL (rowC s y))), .int .i64 0]) ∧ Below w.heap.size w w' := by
  have HR := Lib.hid h
  have hh2 := HO.h2
  obtain ⟨wd, hwd⟩ : ∃ n, s.w = n := ⟨_, rfl⟩
  obtain ⟨n, hn⟩ : ∃ n, s.cells.length = n := ⟨_, rfl⟩
  obtain ⟨row, hrow⟩ : ∃ r, rowC s y = r := ⟨_, rfl⟩
  have hw2 : wd ≤ 24 := by rw [← hwd]; exact HO.w2
  have hw1 : 2 ≤ wd := by rw [← hwd]; exact HO.w1
  have hyh : y < 10 := by omega
  have hyw : (y + 1) * wd ≤ n := by rw [← hn, HO.cn, hwd, Nat.mul_comm]; exact Nat.mul_le_mul_left _ hy
  have hn240 : n ≤ 240 := by rw [← hn, HO.cn]; exact Nat.mul_le_mul HO.w2 HO.h2
  have hrl : row.length = wd := by
    rw [← hrow]
    simp only [rowC, List.length_take, List.length_drop, hn, hwd]
    rw [Nat.succ_mul] at hyw
    omega
  obtain ⟨p, hp⟩ : ∃ p, y * wd = p := ⟨_, rfl⟩
  obtain ⟨q, hq⟩ : ∃ q, (y + 1) * wd = q := ⟨_, rfl⟩
  have hpq : q = p + wd := by rw [← hq, ← hp, Nat.succ_mul]
  rw [hq] at hyw
  have HSUB : Hid (∀ W, ScrS s (some ⟨b1, 0, none⟩) ah W → Sl celE 2 W (some ⟨b1, p * 2, none⟩) row) := Lib.hid (fun W hW => by
    rw [← hrow]
    unfold rowC
    rw [hwd, hp]
    have := Sl.sub hW.cs p wd (by omega)
    rw [Nat.zero_add] at this
    exact this)
  have HT : Hid (∀ W, ScrS s (some ⟨b1, 0, none⟩) ah W → Calls Tryz.prog 33 #[.slice (some ⟨b1, p * 2, none⟩) wd (cc - p)] W fun e w' => e = .returned (.string (strOf (celL row))) ∧ Below W.heap.size W w') := Lib.hid (fun W hW => by
    have := cellsText_c (some ⟨b1, p * 2, none⟩) (cc - p) row W (HSUB.out W hW) (by omega) (fun c hc => by
      have := HO.cs c (by rw [← hrow] at hc; exact List.mem_of_mem_drop (List.mem_of_mem_take hc))
      have h9 := this.1
      have h8 := this.2
      unfold rnOK at h9
      omega)
    rw [hrl] at this
    exact this)
  have hpq1 : p ≤ q := by omega
  have hpn : p < n := by omega
  have hqd : q - p = wd := by omega
  have hcc2 : n ≤ cc := by omega
  have hcp : ¬ cc = p := by omega
  have i1 : (p : Int) ≤ (q : Int) := by omega
  have i2 : (q : Int) ≤ (cc : Int) := by omega
  have i3 : q ≤ cc := by omega
  have hw1' : IntKind.i64.wrap ((y : Int) * (wd : Int)) = (p : Int) := by rw [← Int.natCast_mul, hp]; exact IntWalk.i64_in _ ⟨by omega, by omega⟩
  have hw2' : IntKind.i64.wrap ((y : Int) + 1) = ((y : Int) + 1) := IntWalk.i64_in _ ⟨by omega, by omega⟩
  have hw3' : IntKind.i64.wrap (((y : Int) + 1) * (wd : Int)) = (q : Int) := by
    rw [show ((y : Int) + 1) * (wd : Int) = (q : Int) by rw [← hq]; exact (Int.natCast_mul (y + 1) wd).symm]
    exact IntWalk.i64_in _ ⟨by omega, by omega⟩
  have HI : Hid (∀ W, ScrS s (some ⟨b1, 0, none⟩) ah W → Calls Tryz.prog 24 #[.agg #[.int .i64 (s.w : Int), .int .i64 (s.h : Int), .int .i64 (s.x : Int), .int .i64 (s.y : Int), .int .i64 (s.look : Int), .int .i64 (s.top : Int), .int .i64 (s.bot : Int), .int .i64 (s.sx : Int), .int .i64 (s.sy : Int), .string s.title, .slice (some ⟨b1, 0, none⟩) s.cells.length cc, .slice ah s.hist.length dh]] W fun e w' => e = .returned (.bool true) ∧ Below W.heap.size W w') := Lib.hid (fun W hW => isScr_c s HO _ cc ah dh W hW)
  have HZ : Hid (∀ W, Calls Tryz.prog 31 #[.int .i64 (y : Int), .int .i64 0, .int .i64 ((s.h : Int) - 1)] W fun e w' => e = .returned (.bool true) ∧ W = w') := Lib.hid (fun W => by
    have := within_c (y : Int) 0 ((s.h : Int) - 1) W
    rw [inB2 (wd := y) (a := 0) (b := (s.h : Int) - 1) (by omega) (by omega)] at this
    exact this)
  have hwr : IntKind.i64.wrap ((s.h : Int) - 1) = (s.h : Int) - 1 := IntWalk.i64_in _ ⟨by omega, by omega⟩
  unfold scrV
  rw [hwd, hn] at HI ⊢
  rw [hrow]
  clear h HO hcc hp hq hpq hwd hn hrow hy hrl
  go_enter Tryz.func13, Tryz.ntmps13
  go_wp2_with fail
  refine (HI.out _ (HR.out.alloc _)).mono ?_
  rintro e w1 ⟨rfl, hb1⟩
  have hzz := hb1.size
  simp only [World.size_alloc] at hzz
  have k_0 : w1.cell? ⟨w.heap.size, 0, none⟩ = some (.int .i64 (wd : Int)) := kC hb1 (by simp) (by simp [go_sem])
  have k_1 : w1.cell? ⟨w.heap.size, 1, none⟩ = some (.int .i64 (s.h : Int)) := kC hb1 (by simp) (by simp [go_sem])
  have k_2 : w1.cell? ⟨w.heap.size, 2, none⟩ = some (.int .i64 (s.x : Int)) := kC hb1 (by simp) (by simp [go_sem])
  have k_3 : w1.cell? ⟨w.heap.size, 3, none⟩ = some (.int .i64 (s.y : Int)) := kC hb1 (by simp) (by simp [go_sem])
  have k_4 : w1.cell? ⟨w.heap.size, 4, none⟩ = some (.int .i64 (s.look : Int)) := kC hb1 (by simp) (by simp [go_sem])
  have k_5 : w1.cell? ⟨w.heap.size, 5, none⟩ = some (.int .i64 (s.top : Int)) := kC hb1 (by simp) (by simp [go_sem])
  have k_6 : w1.cell? ⟨w.heap.size, 6, none⟩ = some (.int .i64 (s.bot : Int)) := kC hb1 (by simp) (by simp [go_sem])
  have k_7 : w1.cell? ⟨w.heap.size, 7, none⟩ = some (.int .i64 (s.sx : Int)) := kC hb1 (by simp) (by simp [go_sem])
  have k_8 : w1.cell? ⟨w.heap.size, 8, none⟩ = some (.int .i64 (s.sy : Int)) := kC hb1 (by simp) (by simp [go_sem])
  have k_9 : w1.cell? ⟨w.heap.size, 9, none⟩ = some (.string s.title) := kC hb1 (by simp) (by simp [go_sem])
  have k_10 : w1.cell? ⟨w.heap.size, 10, none⟩ = some (.slice (some ⟨b1, 0, none⟩) n cc) := kC hb1 (by simp) (by simp [go_sem])
  have k_11 : w1.cell? ⟨w.heap.size, 11, none⟩ = some (.slice ah s.hist.length dh) := kC hb1 (by simp) (by simp [go_sem])
  have HR1 : Hid (ScrS s (some ⟨b1, 0, none⟩) ah w1) := Lib.hid ((HR.out.alloc _).below hb1)
  have HB1 : Hid (Below w.heap.size w w1) := Lib.hid (((Below.refl _ _).alloc (Nat.le_refl _) _).trans (hb1.mono (by simp)))
  clear hb1
  go_wp2_with fail
  refine (HZ.out _).mono ?_
  rintro e _ ⟨rfl, rfl⟩
  go_wp2_with fail
  refine (HT.out _ HR1.out).mono ?_
  rintro e w2 ⟨rfl, hb2⟩
  have HB2 := Lib.hid hb2
  clear hb2 k_0 k_1 k_2 k_3 k_4 k_5 k_6 k_7 k_8 k_9 k_10 k_11
  go_wp2_with fail
  go_ret2
  exact ⟨rfl, HB1.out.trans (HB2.out.mono HB1.out.size)⟩
end
section
open Go.RowKit
theorem lawAt2_c (a : Option Addr) (ca : Nat) (xs : List UInt8) (i n : Nat) (w : World) (ha : Sl byteE 1 w a xs) (la : xs.length ≤ 1048576) (hi : i ≤ 1000) (hn : n ≤ 1000000) (h2 : 2 ≤ n) :
    Calls Tryz.prog 7 #[.slice a xs.length ca, .int .i64 i, .int .i64 n] w fun e w' => (∃ m : Nat, e = .returned (.int .i64 m) ∧ m < n) ∧ Below w.heap.size w w' := by
  have HA := Lib.hid ha
  clear ha
  have h1' : (1 : Int) < (n : Int) := by omega
  have h0 : ¬ n = 0 := by omega
  by_cases hx : xs = []
  · subst hx
    go_enter Tryz.func7, Tryz.ntmps7
    go_wp2_with fail
    go_ret
    exact ⟨⟨i * 7 % n, congrArg (fun z => Ending.returned (.int .i64 z)) (by simp), Nat.mod_lt _ (by omega)⟩, Below.refl _ _⟩
  · have hl0 : 0 < xs.length := List.length_pos_iff.2 hx
    have g1 : decide ((xs.length : Int) = 0) = false := decide_eq_false (by omega)
    have g2 : ((xs.length : Int) == 0) = false := by simp; omega
    have g3 : ¬ xs.length = 0 := by omega
    have hp := Nat.mod_lt i hl0
    have hq := Nat.mod_lt (i + 1) hl0
    obtain ⟨b1, o1, rfl, hb1, hc⟩ := HA.out.at hl0
    have d1 := hc _ hp 0 (by omega)
    have d2 := hc _ hq 0 (by omega)
    simp only [byteE, Nat.mul_one, Nat.add_zero, List.getElem?_cons_zero] at d1 d2
    have hn1 := xs[i % xs.length].toNat_lt
    have hn2 := xs[(i + 1) % xs.length].toNat_lt
    clear hc
    generalize xs[i % xs.length].toNat = n1 at *
    generalize xs[(i + 1) % xs.length].toNat = n2 at *
    have e1 : (i : Int) % (xs.length : Int) = ((i % xs.length : Nat) : Int) := by simp
    have e2 : ((i : Int) + 1) % (xs.length : Int) = (((i + 1) % xs.length : Nat) : Int) := by simp
    generalize hP : i % xs.length = p1 at *
    generalize hQ : (i + 1) % xs.length = p2 at *
    have k1 : (0 : Int) ≤ (p1 : Int) := by omega
    have k2 : (p1 : Int) < (xs.length : Int) := by omega
    have k3 : (0 : Int) ≤ (p2 : Int) := by omega
    have k4 : (p2 : Int) < (xs.length : Int) := by omega
    clear hP hQ
    go_enter Tryz.func7, Tryz.ntmps7
    go_wp2_with fail
    go_quiet (fail)
    go_wp2_with fail
    go_ret
    have hd : i / xs.length ≤ 1000 := Nat.le_trans (Nat.div_le_self _ _) hi
    have hdv : (i : Int) / (xs.length : Int) = ((i / xs.length : Nat) : Int) := by simp
    generalize i / xs.length = q at hd hdv
    refine ⟨⟨(n1 * 31 + n2 + q) % n, congrArg (fun z => Ending.returned (.int .i64 z)) ?_, Nat.mod_lt _ (by omega)⟩, below_drewN _ _ _⟩
    rw [hdv, IntWalk.wrap64_in (q : Int) ⟨by omega, by omega⟩, IntWalk.wrap64_in _ ⟨by omega, by omega⟩, Int.tmod_eq_emod_of_nonneg (by omega)]
    simp
end
section
open Go.RowKit
theorem ScrF.cap {lo : Nat} {s : Scr} {ac : Option Addr} {cc : Nat} {ah : Option Addr} {dh : Nat} {w : World} (h : ScrF lo s ac cc ah dh w) : s.cells.length ≤ cc := hcapE h.row rfl
theorem lawAt3_c (a : Option Addr) (ca : Nat) (xs : List UInt8) (i n : Nat) (w : World) (ha : Sl byteE 1 w a xs) (la : xs.length ≤ 1048576) (hi : i ≤ 1000) (hn : n ≤ 1000000) (h1 : 1 ≤ n) :
    Calls Tryz.prog 7 #[.slice a xs.length ca, .int .i64 i, .int .i64 n] w fun e w' => (∃ m : Nat, e = .returned (.int .i64 m) ∧ m < n) ∧ Below w.heap.size w w' := by
  by_cases h2 : 2 ≤ n
  · exact lawAt2_c a ca xs i n w ha la hi hn h2
  · have h3 : (n : Int) ≤ 1 := by omega
    go_enter Tryz.func7, Tryz.ntmps7
    go_wp2_with fail
    go_ret
    exact ⟨⟨0, rfl, by omega⟩, Below.refl _ _⟩
theorem implScreenOK_t (s : Scr) (HO : ScrOK s) (ac : Option Addr) (cc : Nat) (ah : Option Addr) (dh : Nat) (w : World) (h : ScrS s ac ah w) :
    Calls Tryz.prog 11 #[scrV s ac cc ah dh] w fun e w' => e = .returned (.bool true) ∧ Below w.heap.size w w' := by
  have HI : Hid (∀ W, ScrS s ac ah W → Calls Tryz.prog 24 #[.agg #[.int .i64 (s.w : Int), .int .i64 (s.h : Int), .int .i64 (s.x : Int), .int .i64 (s.y : Int), .int .i64 (s.look : Int), .int .i64 (s.top : Int), .int .i64 (s.bot : Int), .int .i64 (s.sx : Int), .int .i64 (s.sy : Int), .string s.title, .slice ac s.cells.length cc, .slice ah s.hist.length dh]] W fun e w' => e = .returned (.bool true) ∧ Below W.heap.size W w') := Lib.hid (fun W hW => isScr_c s HO ac cc ah dh W hW)
  have HR := Lib.hid h
  unfold scrV
  clear h HO
  go_enter Tryz.func11, Tryz.ntmps11
  go_wp2_with fail
  refine (HI.out _ (HR.out.alloc _)).mono ?_
  rintro e w1 ⟨rfl, hb1⟩
  go_wp2_with fail
  go_ret
  exact ⟨rfl, ((Below.refl _ _).alloc (Nat.le_refl _) _).trans (hb1.mono (by simp))⟩
theorem lawResize_c (a b : Option Addr) (ca cb : Nat) (xs ys : List UInt8) (w : World) (ha : Sl byteE 1 w a xs) (hb : Sl byteE 1 w b ys) (la : xs.length ≤ 9223372036854775807) (lb : ys.length ≤ 9223372036854775807) :
    Calls Tryz.prog 3 #[.slice a xs.length ca, .slice b ys.length cb] w fun e w' => e = .returned (.bool true) ∧ Below w.heap.size w w' := by
  by_cases hx : 1048576 < xs.length
  · have hx' : (1048576 : Int) < (xs.length : Int) := by omega
    go_enter Tryz.func3, Tryz.ntmps3
    go_wp2_with fail
    go_ret
    exact ⟨rfl, Below.refl _ _⟩
  have hx' : (xs.length : Int) ≤ 1048576 := by omega
  by_cases hy : 1048576 < ys.length
  · have hy' : (1048576 : Int) < (ys.length : Int) := by omega
    go_enter Tryz.func3, Tryz.ntmps3
    go_wp2_with fail
    go_ret
    exact ⟨rfl, Below.refl _ _⟩
  have hy' : (ys.length : Int) ≤ 1048576 := by omega
  have lx : xs.length ≤ 1048576 := by omega
  have ly : ys.length ≤ 1048576 := by omega
  clear hx hy
  have HB := Lib.hid hb
  have HSO := Lib.hid (screenOf_c a ca xs w ha lx)
  have HAT : Hid (∀ (W : World) (i n : Nat), Below w.heap.size w W → i ≤ 1000 → n ≤ 1000000 → 1 ≤ n → Calls Tryz.prog 7 #[.slice b ys.length cb, .int .i64 (i : Int), .int .i64 (n : Int)] W fun e w' => (∃ m : Nat, e = .returned (.int .i64 m) ∧ m < n) ∧ Below W.heap.size W w') := Lib.hid (fun W i n h h1 h2 h3 => lawAt3_c b cb ys i n W (HB.out.keep h) ly h1 h2 h3)
  clear ha hb
  go_enter Tryz.func3, Tryz.ntmps3
  go_wp2_with fail
  refine HSO.out.mono ?_
  rintro e w1 ⟨s, hok, hb1, ac, cc, ah, dh, rfl, hF⟩
  have HOK := Lib.hid hok
  have hcc := hF.cap
  have hs1 := hok.w1
  have hs2 := hok.w2
  have hs3 := hok.h1
  have hs4 := hok.h2
  have h0 : 0 < s.cells.length := by rw [hok.cn]; exact Nat.mul_pos (by omega) (by omega)
  obtain ⟨g, rfl⟩ := hF.blk h0
  have HF := Lib.hid hF
  unfold scrV
  go_upto_region 4 with fail
  obtain ⟨x1, hx1⟩ : ∃ x, w1.alloc (.cells #[.int .i64 (s.w : Int), .int .i64 (s.h : Int), .int .i64 (s.x : Int), .int .i64 (s.y : Int), .int .i64 (s.look : Int), .int .i64 (s.top : Int), .int .i64 (s.bot : Int), .int .i64 (s.sx : Int), .int .i64 (s.sy : Int), .string s.title, .slice (some ⟨g, 0, none⟩) s.cells.length cc, .slice ah s.hist.length dh] 26) = x := ⟨_, rfl⟩
  have hbx : Below w1.heap.size w1 x1 := by rw [← hx1]; exact (Below.refl _ _).alloc (Nat.le_refl _) _
  have k1_0 : x1.cell? ⟨w1.heap.size, 0, none⟩ = some (.int .i64 (s.w : Int)) := (by rw [← hx1]; simp [go_sem])
  have k1_1 : x1.cell? ⟨w1.heap.size, 1, none⟩ = some (.int .i64 (s.h : Int)) := (by rw [← hx1]; simp [go_sem])
  have k1_2 : x1.cell? ⟨w1.heap.size, 2, none⟩ = some (.int .i64 (s.x : Int)) := (by rw [← hx1]; simp [go_sem])
  have k1_3 : x1.cell? ⟨w1.heap.size, 3, none⟩ = some (.int .i64 (s.y : Int)) := (by rw [← hx1]; simp [go_sem])
  have k1_4 : x1.cell? ⟨w1.heap.size, 4, none⟩ = some (.int .i64 (s.look : Int)) := (by rw [← hx1]; simp [go_sem])
  have k1_5 : x1.cell? ⟨w1.heap.size, 5, none⟩ = some (.int .i64 (s.top : Int)) := (by rw [← hx1]; simp [go_sem])
  have k1_6 : x1.cell? ⟨w1.heap.size, 6, none⟩ = some (.int .i64 (s.bot : Int)) := (by rw [← hx1]; simp [go_sem])
  have k1_7 : x1.cell? ⟨w1.heap.size, 7, none⟩ = some (.int .i64 (s.sx : Int)) := (by rw [← hx1]; simp [go_sem])
  have k1_8 : x1.cell? ⟨w1.heap.size, 8, none⟩ = some (.int .i64 (s.sy : Int)) := (by rw [← hx1]; simp [go_sem])
  have k1_9 : x1.cell? ⟨w1.heap.size, 9, none⟩ = some (.string s.title) := (by rw [← hx1]; simp [go_sem])
  have k1_10 : x1.cell? ⟨w1.heap.size, 10, none⟩ = some (.slice (some ⟨g, 0, none⟩) s.cells.length cc) := (by rw [← hx1]; simp [go_sem])
  have k1_11 : x1.cell? ⟨w1.heap.size, 11, none⟩ = some (.slice ah s.hist.length dh) := (by rw [← hx1]; simp [go_sem])
  have k1_l : w1.heap.size < x1.heap.size := (by rw [← hx1]; simp)
  obtain ⟨B, hB⟩ : ∃ n, w1.heap.size = n := ⟨_, rfl⟩
  have HB1 : Hid (Below w.heap.size w x1) := Lib.hid (hb1.trans (hbx.mono hb1.size))
  have HS1 : Hid (∀ W, Below x1.heap.size x1 W → ScrS s (some ⟨g, 0, none⟩) ah W) := Lib.hid (fun W h => (HF.out.rd.below hbx).below h)
  rw [hx1, hB]
  rw [hB] at k1_0 k1_1 k1_2 k1_3 k1_4 k1_5 k1_6 k1_7 k1_8 k1_9 k1_10 k1_11 k1_l
  clear hx1 hbx hb1 hok hF hB
  have hwr0 : IntKind.i64.wrap ((24 : Int) - (s.w : Int)) = (24 : Int) - (s.w : Int) := IntWalk.i64_in _ ⟨by omega, by omega⟩
  have hwr1 : IntKind.i64.wrap ((24 : Int) - (s.w : Int) + 1) = ((24 - s.w + 1 : Nat) : Int) := by rw [IntWalk.i64_in _ ⟨by omega, by omega⟩]; omega
  have hwr2 : IntKind.i64.wrap ((10 : Int) - (s.h : Int)) = (10 : Int) - (s.h : Int) := IntWalk.i64_in _ ⟨by omega, by omega⟩
  have hwr3 : IntKind.i64.wrap ((10 : Int) - (s.h : Int) + 1) = ((10 - s.h + 1 : Nat) : Int) := by rw [IntWalk.i64_in _ ⟨by omega, by omega⟩]; omega
  have HA0 : Hid (∀ W : World, Below w.heap.size w W → Calls Tryz.prog 7 #[.slice b ys.length cb, .int .i64 0, .int .i64 ((24 - s.w + 1 : Nat) : Int)] W fun e w' => (∃ m : Nat, e = .returned (.int .i64 m) ∧ m < 24 - s.w + 1) ∧ Below W.heap.size W w') := Lib.hid (fun W h => HAT.out W 0 (24 - s.w + 1) h (by omega) (by omega) (by omega))
  have HA1 : Hid (∀ W : World, Below w.heap.size w W → Calls Tryz.prog 7 #[.slice b ys.length cb, .int .i64 1, .int .i64 ((10 - s.h + 1 : Nat) : Int)] W fun e w' => (∃ m : Nat, e = .returned (.int .i64 m) ∧ m < 10 - s.h + 1) ∧ Below W.heap.size W w') := Lib.hid (fun W h => HAT.out W 1 (10 - s.h + 1) h (by omega) (by omega) (by omega))
  have HSB : Hid (∀ x, Below x1.heap.size x1 x → x.cell? ⟨B, 0, none⟩ = some (.int .i64 (s.w : Int)) ∧ x.cell? ⟨B, 1, none⟩ = some (.int .i64 (s.h : Int))) := Lib.hid (fun x h => ⟨(h.cell (p := ⟨B, 0, none⟩) k1_l).trans k1_0, (h.cell (p := ⟨B, 1, none⟩) k1_l).trans k1_1⟩)
  have hS1 := HSB.out x1 (Below.refl _ _)
  refine wp_region_O (fun w' => w'.cell? ⟨B, 0, none⟩ = some (.int .i64 (s.w : Int)) ∧ w'.cell? ⟨B, 1, none⟩ = some (.int .i64 (s.h : Int))) [] [0,1,2,3,4,5,6,7,8,9] ?_
  iterate 7 (first | refine oW (h := ?_) | refine oL (hS := hS1) (h := ?_))
  refine oO (hS := .inr hS1) (h := ?_)
  intro K' hK
  go_simp
  refine (HA0.out _ (HB1.out.drew)).mono ?_
  rintro e w2 ⟨⟨m, rfl, hm⟩, hb2⟩
  have hb2' : Below x1.heap.size x1 w2 := (Below.refl _ _).drew.trans hb2
  have HB2 := Lib.hid hb2'
  obtain ⟨wd, hwd⟩ : ∃ q, s.w + m = q := ⟨_, rfl⟩
  have hw4 : IntKind.i64.wrap ((s.w : Int) + (m : Int)) = (wd : Int) := by rw [IntWalk.i64_in _ ⟨by omega, by omega⟩]; omega
  have hwd1 : s.w ≤ wd := by omega
  have hwd2 : wd ≤ 24 := by omega
  clear hwd hb2 hb2'
  refine oN hK (hS := .inr (HSB.out w2 HB2.out)) (h := ?_)
  clear hK K'
  iterate 2 refine oW (h := ?_)
  refine oD ?_
  clear hw4 hwr0 hwr1 hS1
  have hS2 := HSB.out w2 HB2.out
  go_upto_region 5 with fail
  refine wp_region_O (fun w' => w'.cell? ⟨B, 0, none⟩ = some (.int .i64 (s.w : Int)) ∧ w'.cell? ⟨B, 1, none⟩ = some (.int .i64 (s.h : Int))) [] [0,1,2,3,4,5,6,7,8,9] ?_
  iterate 7 (first | refine oW (h := ?_) | refine oL (hS := hS2) (h := ?_))
  refine oO (hS := .inr hS2) (h := ?_)
  intro K' hK
  go_simp
  refine (HA1.out _ ((HB1.out.trans (HB2.out.mono HB1.out.size)).drew)).mono ?_
  rintro e w3 ⟨⟨m1, rfl, hm1⟩, hb3⟩
  have hb3' : Below x1.heap.size x1 w3 := HB2.out.drew.trans (hb3.mono HB2.out.size)
  have HB3 := Lib.hid hb3'
  obtain ⟨ht, hht⟩ : ∃ q, s.h + m1 = q := ⟨_, rfl⟩
  have hw5 : IntKind.i64.wrap ((s.h : Int) + (m1 : Int)) = (ht : Int) := by rw [IntWalk.i64_in _ ⟨by omega, by omega⟩]; omega
  have hht1 : s.h ≤ ht := by omega
  have hht2 : ht ≤ 10 := by omega
  clear hht hb3 hb3'
  refine oN hK (hS := .inr (HSB.out w3 HB3.out)) (h := ?_)
  clear hK K'
  iterate 2 refine oW (h := ?_)
  refine oD ?_
  clear hw5 hwr2 hwr3 hS2 hm hm1
  have k2_0 := kC HB3.out k1_l k1_0
  have k2_1 := kC HB3.out k1_l k1_1
  have k2_2 := kC HB3.out k1_l k1_2
  have k2_3 := kC HB3.out k1_l k1_3
  have k2_4 := kC HB3.out k1_l k1_4
  have k2_5 := kC HB3.out k1_l k1_5
  have k2_6 := kC HB3.out k1_l k1_6
  have k2_7 := kC HB3.out k1_l k1_7
  have k2_8 := kC HB3.out k1_l k1_8
  have k2_9 := kC HB3.out k1_l k1_9
  have k2_10 := kC HB3.out k1_l k1_10
  have k2_11 := kC HB3.out k1_l k1_11
  have k2_l := Nat.lt_of_lt_of_le k1_l HB3.out.size
  clear k1_0 k1_1 k1_2 k1_3 k1_4 k1_5 k1_6 k1_7 k1_8 k1_9 k1_10 k1_11 k1_l
  obtain ⟨t, ht'⟩ : ∃ t, resS s wd ht = t := ⟨_, rfl⟩
  obtain ⟨u, hu'⟩ : ∃ u, resS t s.w s.h = u := ⟨_, rfl⟩
  have HT := Lib.hid ht'
  have HU := Lib.hid hu'
  have HTO : Hid (ScrOK t) := Lib.hid (by rw [← ht']; exact resS_ok HOK.out (by omega) hwd2 (by omega) hht2)
  have HUO : Hid (ScrOK u) := Lib.hid (by rw [← hu']; exact resS_ok HTO.out hs1 hs2 hs3 hs4)
  have HTW : Hid ((t.w : Int) = (wd : Int)) := Lib.hid (by rw [← ht']; rfl)
  have HTH : Hid ((t.h : Int) = (ht : Int)) := Lib.hid (by rw [← ht']; rfl)
  have HIR : Hid (∀ W, Below x1.heap.size x1 W → Calls Tryz.prog 8 #[.agg #[.int .i64 (s.w : Int), .int .i64 (s.h : Int), .int .i64 (s.x : Int), .int .i64 (s.y : Int), .int .i64 (s.look : Int), .int .i64 (s.top : Int), .int .i64 (s.bot : Int), .int .i64 (s.sx : Int), .int .i64 (s.sy : Int), .string s.title, .slice (some ⟨g, 0, none⟩) s.cells.length cc, .slice ah s.hist.length dh], .int .i64 (wd : Int), .int .i64 (ht : Int)] W (ScrM t W)) := Lib.hid (fun W h => by rw [← HT.out]; exact implResizeScreen_c s HOK.out _ cc ah dh wd ht W (HS1.out W h) hcc (by omega) hwd2 (by omega) hht2)
  have HSR : Hid (∀ W, Below x1.heap.size x1 W → Calls Tryz.prog 9 #[.agg #[.int .i64 (s.w : Int), .int .i64 (s.h : Int), .int .i64 (s.x : Int), .int .i64 (s.y : Int), .int .i64 (s.look : Int), .int .i64 (s.top : Int), .int .i64 (s.bot : Int), .int .i64 (s.sx : Int), .int .i64 (s.sy : Int), .string s.title, .slice (some ⟨g, 0, none⟩) s.cells.length cc, .slice ah s.hist.length dh], .int .i64 (wd : Int), .int .i64 (ht : Int)] W (ScrM t W)) := Lib.hid (fun W h => by rw [← HT.out]; exact specResizeScreen_c s HOK.out _ cc ah dh wd ht W (HS1.out W h) (by omega) hwd2 (by omega) hht2)
  clear ht' hu'
  go_wp2_with fail
  refine (HIR.out _ HB3.out).mono ?_
  rintro e w4 ⟨a4', c4, a4, d4, rfl, hF4, hb4⟩
  have h04 : 0 < t.cells.length := by rw [HTO.out.cn]; exact Nat.mul_pos (by have := HTO.out.w1; omega) (by have := HTO.out.h1; omega)
  obtain ⟨g4, rfl⟩ := hF4.blk h04
  have hc4 := hF4.cap
  have k3_0 := kC hb4 k2_l k2_0
  have k3_1 := kC hb4 k2_l k2_1
  have k3_2 := kC hb4 k2_l k2_2
  have k3_3 := kC hb4 k2_l k2_3
  have k3_4 := kC hb4 k2_l k2_4
  have k3_5 := kC hb4 k2_l k2_5
  have k3_6 := kC hb4 k2_l k2_6
  have k3_7 := kC hb4 k2_l k2_7
  have k3_8 := kC hb4 k2_l k2_8
  have k3_9 := kC hb4 k2_l k2_9
  have k3_10 := kC hb4 k2_l k2_10
  have k3_11 := kC hb4 k2_l k2_11
  have k3_l := Nat.lt_of_lt_of_le k2_l hb4.size
  clear k2_0 k2_1 k2_2 k2_3 k2_4 k2_5 k2_6 k2_7 k2_8 k2_9 k2_10 k2_11 k2_l
  unfold scrV
  go_upto_region 7 with fail
  obtain ⟨x4, hx4⟩ : ∃ x, w4.alloc (.cells #[.int .i64 (t.w : Int), .int .i64 (t.h : Int), .int .i64 (t.x : Int), .int .i64 (t.y : Int), .int .i64 (t.look : Int), .int .i64 (t.top : Int), .int .i64 (t.bot : Int), .int .i64 (t.sx : Int), .int .i64 (t.sy : Int), .string t.title, .slice (some ⟨g4, 0, none⟩) t.cells.length c4, .slice a4 t.hist.length d4] 26) = x := ⟨_, rfl⟩
  have hbx : Below w4.heap.size w4 x4 := by rw [← hx4]; exact (Below.refl _ _).alloc (Nat.le_refl _) _
  have q4_0 : x4.cell? ⟨w4.heap.size, 0, none⟩ = some (.int .i64 (t.w : Int)) := (by rw [← hx4]; simp [go_sem])
  have q4_1 : x4.cell? ⟨w4.heap.size, 1, none⟩ = some (.int .i64 (t.h : Int)) := (by rw [← hx4]; simp [go_sem])
  have q4_2 : x4.cell? ⟨w4.heap.size, 2, none⟩ = some (.int .i64 (t.x : Int)) := (by rw [← hx4]; simp [go_sem])
  have q4_3 : x4.cell? ⟨w4.heap.size, 3, none⟩ = some (.int .i64 (t.y : Int)) := (by rw [← hx4]; simp [go_sem])
  have q4_4 : x4.cell? ⟨w4.heap.size, 4, none⟩ = some (.int .i64 (t.look : Int)) := (by rw [← hx4]; simp [go_sem])
  have q4_5 : x4.cell? ⟨w4.heap.size, 5, none⟩ = some (.int .i64 (t.top : Int)) := (by rw [← hx4]; simp [go_sem])
  have q4_6 : x4.cell? ⟨w4.heap.size, 6, none⟩ = some (.int .i64 (t.bot : Int)) := (by rw [← hx4]; simp [go_sem])
  have q4_7 : x4.cell? ⟨w4.heap.size, 7, none⟩ = some (.int .i64 (t.sx : Int)) := (by rw [← hx4]; simp [go_sem])
  have q4_8 : x4.cell? ⟨w4.heap.size, 8, none⟩ = some (.int .i64 (t.sy : Int)) := (by rw [← hx4]; simp [go_sem])
  have q4_9 : x4.cell? ⟨w4.heap.size, 9, none⟩ = some (.string t.title) := (by rw [← hx4]; simp [go_sem])
  have q4_10 : x4.cell? ⟨w4.heap.size, 10, none⟩ = some (.slice (some ⟨g4, 0, none⟩) t.cells.length c4) := (by rw [← hx4]; simp [go_sem])
  have q4_11 : x4.cell? ⟨w4.heap.size, 11, none⟩ = some (.slice a4 t.hist.length d4) := (by rw [← hx4]; simp [go_sem])
  have q4_l : w4.heap.size < x4.heap.size := (by rw [← hx4]; simp)
  have k5_0 := kC hbx k3_l k3_0
  have k5_1 := kC hbx k3_l k3_1
  have k5_2 := kC hbx k3_l k3_2
  have k5_3 := kC hbx k3_l k3_3
  have k5_4 := kC hbx k3_l k3_4
  have k5_5 := kC hbx k3_l k3_5
  have k5_6 := kC hbx k3_l k3_6
  have k5_7 := kC hbx k3_l k3_7
  have k5_8 := kC hbx k3_l k3_8
  have k5_9 := kC hbx k3_l k3_9
  have k5_10 := kC hbx k3_l k3_10
  have k5_11 := kC hbx k3_l k3_11
  have k5_l := Nat.lt_of_lt_of_le k3_l hbx.size
  clear k3_0 k3_1 k3_2 k3_3 k3_4 k3_5 k3_6 k3_7 k3_8 k3_9 k3_10 k3_11 k3_l
  have Hx4 : Hid (Below x1.heap.size x1 x4) := Lib.hid ((HB3.out.trans (hb4.mono HB3.out.size)).trans (hbx.mono (Nat.le_trans HB3.out.size hb4.size)))
  have HQx4 : Hid (∀ W, Below x4.heap.size x4 W → ScrS t (some ⟨g4, 0, none⟩) a4 W) := Lib.hid (fun W h => (hF4.rd.below hbx).below h)
  have HNx4 : Hid (Below w3.heap.size w3 x4) := Lib.hid (hb4.trans (hbx.mono hb4.size))
  rw [hx4]
  obtain ⟨B4, hblk⟩ : ∃ n, w4.heap.size = n := ⟨_, rfl⟩
  rw [hblk] at q4_0 q4_1 q4_2 q4_3 q4_4 q4_5 q4_6 q4_7 q4_8 q4_9 q4_10 q4_11 q4_l
  rw [hblk]
  clear hx4 hbx hb4 hF4 hblk
  have HIR2 : Hid (∀ W, Below x4.heap.size x4 W → Calls Tryz.prog 8 #[.agg #[.int .i64 (t.w : Int), .int .i64 (t.h : Int), .int .i64 (t.x : Int), .int .i64 (t.y : Int), .int .i64 (t.look : Int), .int .i64 (t.top : Int), .int .i64 (t.bot : Int), .int .i64 (t.sx : Int), .int .i64 (t.sy : Int), .string t.title, .slice (some ⟨g4, 0, none⟩) t.cells.length c4, .slice a4 t.hist.length d4], .int .i64 (s.w : Int), .int .i64 (s.h : Int)] W (ScrM u W)) := Lib.hid (fun W h => by rw [← HU.out]; exact implResizeScreen_c t HTO.out _ c4 a4 d4 s.w s.h W (HQx4.out W h) hc4 hs1 hs2 hs3 hs4)
  go_wp2_with fail
  refine (HIR2.out _ (Below.refl _ _)).mono ?_
  rintro e w5 ⟨a5', c5, a5, d5, rfl, hF5, hb5⟩
  have h05 : 0 < u.cells.length := by rw [HUO.out.cn]; exact Nat.mul_pos (by have := HUO.out.w1; omega) (by have := HUO.out.h1; omega)
  obtain ⟨g5, rfl⟩ := hF5.blk h05
  have hc5 := hF5.cap
  have k6_0 := kC hb5 k5_l k5_0
  have k6_1 := kC hb5 k5_l k5_1
  have k6_2 := kC hb5 k5_l k5_2
  have k6_3 := kC hb5 k5_l k5_3
  have k6_4 := kC hb5 k5_l k5_4
  have k6_5 := kC hb5 k5_l k5_5
  have k6_6 := kC hb5 k5_l k5_6
  have k6_7 := kC hb5 k5_l k5_7
  have k6_8 := kC hb5 k5_l k5_8
  have k6_9 := kC hb5 k5_l k5_9
  have k6_10 := kC hb5 k5_l k5_10
  have k6_11 := kC hb5 k5_l k5_11
  have k6_l := Nat.lt_of_lt_of_le k5_l hb5.size
  clear k5_0 k5_1 k5_2 k5_3 k5_4 k5_5 k5_6 k5_7 k5_8 k5_9 k5_10 k5_11 k5_l
  have q7_0 := kC hb5 q4_l q4_0
  have q7_1 := kC hb5 q4_l q4_1
  have q7_2 := kC hb5 q4_l q4_2
  have q7_3 := kC hb5 q4_l q4_3
  have q7_4 := kC hb5 q4_l q4_4
  have q7_5 := kC hb5 q4_l q4_5
  have q7_6 := kC hb5 q4_l q4_6
  have q7_7 := kC hb5 q4_l q4_7
  have q7_8 := kC hb5 q4_l q4_8
  have q7_9 := kC hb5 q4_l q4_9
  have q7_10 := kC hb5 q4_l q4_10
  have q7_11 := kC hb5 q4_l q4_11
  have q7_l := Nat.lt_of_lt_of_le q4_l hb5.size
  clear q4_0 q4_1 q4_2 q4_3 q4_4 q4_5 q4_6 q4_7 q4_8 q4_9 q4_10 q4_11 q4_l
  unfold scrV
  go_upto_region 8 with fail
  obtain ⟨x5, hx5⟩ : ∃ x, w5.alloc (.cells #[.int .i64 (u.w : Int), .int .i64 (u.h : Int), .int .i64 (u.x : Int), .int .i64 (u.y : Int), .int .i64 (u.look : Int), .int .i64 (u.top : Int), .int .i64 (u.bot : Int), .int .i64 (u.sx : Int), .int .i64 (u.sy : Int), .string u.title, .slice (some ⟨g5, 0, none⟩) u.cells.length c5, .slice a5 u.hist.length d5] 26) = x := ⟨_, rfl⟩
  have hbx : Below w5.heap.size w5 x5 := by rw [← hx5]; exact (Below.refl _ _).alloc (Nat.le_refl _) _
  have r8_0 : x5.cell? ⟨w5.heap.size, 0, none⟩ = some (.int .i64 (u.w : Int)) := (by rw [← hx5]; simp [go_sem])
  have r8_1 : x5.cell? ⟨w5.heap.size, 1, none⟩ = some (.int .i64 (u.h : Int)) := (by rw [← hx5]; simp [go_sem])
  have r8_2 : x5.cell? ⟨w5.heap.size, 2, none⟩ = some (.int .i64 (u.x : Int)) := (by rw [← hx5]; simp [go_sem])
  have r8_3 : x5.cell? ⟨w5.heap.size, 3, none⟩ = some (.int .i64 (u.y : Int)) := (by rw [← hx5]; simp [go_sem])
  have r8_4 : x5.cell? ⟨w5.heap.size, 4, none⟩ = some (.int .i64 (u.look : Int)) := (by rw [← hx5]; simp [go_sem])
  have r8_5 : x5.cell? ⟨w5.heap.size, 5, none⟩ = some (.int .i64 (u.top : Int)) := (by rw [← hx5]; simp [go_sem])
  have r8_6 : x5.cell? ⟨w5.heap.size, 6, none⟩ = some (.int .i64 (u.bot : Int)) := (by rw [← hx5]; simp [go_sem])
  have r8_7 : x5.cell? ⟨w5.heap.size, 7, none⟩ = some (.int .i64 (u.sx : Int)) := (by rw [← hx5]; simp [go_sem])
  have r8_8 : x5.cell? ⟨w5.heap.size, 8, none⟩ = some (.int .i64 (u.sy : Int)) := (by rw [← hx5]; simp [go_sem])
  have r8_9 : x5.cell? ⟨w5.heap.size, 9, none⟩ = some (.string u.title) := (by rw [← hx5]; simp [go_sem])
  have r8_10 : x5.cell? ⟨w5.heap.size, 10, none⟩ = some (.slice (some ⟨g5, 0, none⟩) u.cells.length c5) := (by rw [← hx5]; simp [go_sem])
  have r8_11 : x5.cell? ⟨w5.heap.size, 11, none⟩ = some (.slice a5 u.hist.length d5) := (by rw [← hx5]; simp [go_sem])
  have r8_l : w5.heap.size < x5.heap.size := (by rw [← hx5]; simp)
  have k9_0 := kC hbx k6_l k6_0
  have k9_1 := kC hbx k6_l k6_1
  have k9_2 := kC hbx k6_l k6_2
  have k9_3 := kC hbx k6_l k6_3
  have k9_4 := kC hbx k6_l k6_4
  have k9_5 := kC hbx k6_l k6_5
  have k9_6 := kC hbx k6_l k6_6
  have k9_7 := kC hbx k6_l k6_7
  have k9_8 := kC hbx k6_l k6_8
  have k9_9 := kC hbx k6_l k6_9
  have k9_10 := kC hbx k6_l k6_10
  have k9_11 := kC hbx k6_l k6_11
  have k9_l := Nat.lt_of_lt_of_le k6_l hbx.size
  clear k6_0 k6_1 k6_2 k6_3 k6_4 k6_5 k6_6 k6_7 k6_8 k6_9 k6_10 k6_11 k6_l
  have q10_0 := kC hbx q7_l q7_0
  have q10_1 := kC hbx q7_l q7_1
  have q10_2 := kC hbx q7_l q7_2
  have q10_3 := kC hbx q7_l q7_3
  have q10_4 := kC hbx q7_l q7_4
  have q10_5 := kC hbx q7_l q7_5
  have q10_6 := kC hbx q7_l q7_6
  have q10_7 := kC hbx q7_l q7_7
  have q10_8 := kC hbx q7_l q7_8
  have q10_9 := kC hbx q7_l q7_9
  have q10_10 := kC hbx q7_l q7_10
  have q10_11 := kC hbx q7_l q7_11
  have q10_l := Nat.lt_of_lt_of_le q7_l hbx.size
  clear q7_0 q7_1 q7_2 q7_3 q7_4 q7_5 q7_6 q7_7 q7_8 q7_9 q7_10 q7_11 q7_l
  have Hx5 : Hid (Below x1.heap.size x1 x5) := Lib.hid ((Hx4.out.trans (hb5.mono Hx4.out.size)).trans (hbx.mono (Nat.le_trans Hx4.out.size hb5.size)))
  have HQx5 : Hid (∀ W, Below x5.heap.size x5 W → ScrS u (some ⟨g5, 0, none⟩) a5 W) := Lib.hid (fun W h => (hF5.rd.below hbx).below h)
  have HNx5 : Hid (Below x4.heap.size x4 x5) := Lib.hid (hb5.trans (hbx.mono hb5.size))
  rw [hx5]
  obtain ⟨B5, hblk⟩ : ∃ n, w5.heap.size = n := ⟨_, rfl⟩
  rw [hblk] at r8_0 r8_1 r8_2 r8_3 r8_4 r8_5 r8_6 r8_7 r8_8 r8_9 r8_10 r8_11 r8_l
  rw [hblk]
  clear hx5 hbx hb5 hF5 hblk
  go_wp2_with fail
  refine (HSR.out _ Hx5.out).mono ?_
  rintro e w6 ⟨g6, c6, a6, d6, rfl, hF6, hb6⟩
  have k11_0 := kC hb6 k9_l k9_0
  have k11_1 := kC hb6 k9_l k9_1
  have k11_2 := kC hb6 k9_l k9_2
  have k11_3 := kC hb6 k9_l k9_3
  have k11_4 := kC hb6 k9_l k9_4
  have k11_5 := kC hb6 k9_l k9_5
  have k11_6 := kC hb6 k9_l k9_6
  have k11_7 := kC hb6 k9_l k9_7
  have k11_8 := kC hb6 k9_l k9_8
  have k11_9 := kC hb6 k9_l k9_9
  have k11_10 := kC hb6 k9_l k9_10
  have k11_11 := kC hb6 k9_l k9_11
  have k11_l := Nat.lt_of_lt_of_le k9_l hb6.size
  clear k9_0 k9_1 k9_2 k9_3 k9_4 k9_5 k9_6 k9_7 k9_8 k9_9 k9_10 k9_11 k9_l
  have q12_0 := kC hb6 q10_l q10_0
  have q12_1 := kC hb6 q10_l q10_1
  have q12_2 := kC hb6 q10_l q10_2
  have q12_3 := kC hb6 q10_l q10_3
  have q12_4 := kC hb6 q10_l q10_4
  have q12_5 := kC hb6 q10_l q10_5
  have q12_6 := kC hb6 q10_l q10_6
  have q12_7 := kC hb6 q10_l q10_7
  have q12_8 := kC hb6 q10_l q10_8
  have q12_9 := kC hb6 q10_l q10_9
  have q12_10 := kC hb6 q10_l q10_10
  have q12_11 := kC hb6 q10_l q10_11
  have q12_l := Nat.lt_of_lt_of_le q10_l hb6.size
  clear q10_0 q10_1 q10_2 q10_3 q10_4 q10_5 q10_6 q10_7 q10_8 q10_9 q10_10 q10_11 q10_l
  have r13_0 := kC hb6 r8_l r8_0
  have r13_1 := kC hb6 r8_l r8_1
  have r13_2 := kC hb6 r8_l r8_2
  have r13_3 := kC hb6 r8_l r8_3
  have r13_4 := kC hb6 r8_l r8_4
  have r13_5 := kC hb6 r8_l r8_5
  have r13_6 := kC hb6 r8_l r8_6
  have r13_7 := kC hb6 r8_l r8_7
  have r13_8 := kC hb6 r8_l r8_8
  have r13_9 := kC hb6 r8_l r8_9
  have r13_10 := kC hb6 r8_l r8_10
  have r13_11 := kC hb6 r8_l r8_11
  have r13_l := Nat.lt_of_lt_of_le r8_l hb6.size
  clear r8_0 r8_1 r8_2 r8_3 r8_4 r8_5 r8_6 r8_7 r8_8 r8_9 r8_10 r8_11 r8_l
  unfold scrV
  go_upto_region 9 with fail
  obtain ⟨x6, hx6⟩ : ∃ x, w6.alloc (.cells #[.int .i64 (t.w : Int), .int .i64 (t.h : Int), .int .i64 (t.x : Int), .int .i64 (t.y : Int), .int .i64 (t.look : Int), .int .i64 (t.top : Int), .int .i64 (t.bot : Int), .int .i64 (t.sx : Int), .int .i64 (t.sy : Int), .string t.title, .slice g6 t.cells.length c6, .slice a6 t.hist.length d6] 26) = x := ⟨_, rfl⟩
  have hbx : Below w6.heap.size w6 x6 := by rw [← hx6]; exact (Below.refl _ _).alloc (Nat.le_refl _) _
  have z14_0 : x6.cell? ⟨w6.heap.size, 0, none⟩ = some (.int .i64 (t.w : Int)) := (by rw [← hx6]; simp [go_sem])
  have z14_1 : x6.cell? ⟨w6.heap.size, 1, none⟩ = some (.int .i64 (t.h : Int)) := (by rw [← hx6]; simp [go_sem])
  have z14_2 : x6.cell? ⟨w6.heap.size, 2, none⟩ = some (.int .i64 (t.x : Int)) := (by rw [← hx6]; simp [go_sem])
  have z14_3 : x6.cell? ⟨w6.heap.size, 3, none⟩ = some (.int .i64 (t.y : Int)) := (by rw [← hx6]; simp [go_sem])
  have z14_4 : x6.cell? ⟨w6.heap.size, 4, none⟩ = some (.int .i64 (t.look : Int)) := (by rw [← hx6]; simp [go_sem])
  have z14_5 : x6.cell? ⟨w6.heap.size, 5, none⟩ = some (.int .i64 (t.top : Int)) := (by rw [← hx6]; simp [go_sem])
  have z14_6 : x6.cell? ⟨w6.heap.size, 6, none⟩ = some (.int .i64 (t.bot : Int)) := (by rw [← hx6]; simp [go_sem])
  have z14_7 : x6.cell? ⟨w6.heap.size, 7, none⟩ = some (.int .i64 (t.sx : Int)) := (by rw [← hx6]; simp [go_sem])
  have z14_8 : x6.cell? ⟨w6.heap.size, 8, none⟩ = some (.int .i64 (t.sy : Int)) := (by rw [← hx6]; simp [go_sem])
  have z14_9 : x6.cell? ⟨w6.heap.size, 9, none⟩ = some (.string t.title) := (by rw [← hx6]; simp [go_sem])
  have z14_10 : x6.cell? ⟨w6.heap.size, 10, none⟩ = some (.slice g6 t.cells.length c6) := (by rw [← hx6]; simp [go_sem])
  have z14_11 : x6.cell? ⟨w6.heap.size, 11, none⟩ = some (.slice a6 t.hist.length d6) := (by rw [← hx6]; simp [go_sem])
  have z14_l : w6.heap.size < x6.heap.size := (by rw [← hx6]; simp)
  have k15_0 := kC hbx k11_l k11_0
  have k15_1 := kC hbx k11_l k11_1
  have k15_2 := kC hbx k11_l k11_2
  have k15_3 := kC hbx k11_l k11_3
  have k15_4 := kC hbx k11_l k11_4
  have k15_5 := kC hbx k11_l k11_5
  have k15_6 := kC hbx k11_l k11_6
  have k15_7 := kC hbx k11_l k11_7
  have k15_8 := kC hbx k11_l k11_8
  have k15_9 := kC hbx k11_l k11_9
  have k15_10 := kC hbx k11_l k11_10
  have k15_11 := kC hbx k11_l k11_11
  have k15_l := Nat.lt_of_lt_of_le k11_l hbx.size
  clear k11_0 k11_1 k11_2 k11_3 k11_4 k11_5 k11_6 k11_7 k11_8 k11_9 k11_10 k11_11 k11_l
  have q16_0 := kC hbx q12_l q12_0
  have q16_1 := kC hbx q12_l q12_1
  have q16_2 := kC hbx q12_l q12_2
  have q16_3 := kC hbx q12_l q12_3
  have q16_4 := kC hbx q12_l q12_4
  have q16_5 := kC hbx q12_l q12_5
  have q16_6 := kC hbx q12_l q12_6
  have q16_7 := kC hbx q12_l q12_7
  have q16_8 := kC hbx q12_l q12_8
  have q16_9 := kC hbx q12_l q12_9
  have q16_10 := kC hbx q12_l q12_10
  have q16_11 := kC hbx q12_l q12_11
  have q16_l := Nat.lt_of_lt_of_le q12_l hbx.size
  clear q12_0 q12_1 q12_2 q12_3 q12_4 q12_5 q12_6 q12_7 q12_8 q12_9 q12_10 q12_11 q12_l
  have r17_0 := kC hbx r13_l r13_0
  have r17_1 := kC hbx r13_l r13_1
  have r17_2 := kC hbx r13_l r13_2
  have r17_3 := kC hbx r13_l r13_3
  have r17_4 := kC hbx r13_l r13_4
  have r17_5 := kC hbx r13_l r13_5
  have r17_6 := kC hbx r13_l r13_6
  have r17_7 := kC hbx r13_l r13_7
  have r17_8 := kC hbx r13_l r13_8
  have r17_9 := kC hbx r13_l r13_9
  have r17_10 := kC hbx r13_l r13_10
  have r17_11 := kC hbx r13_l r13_11
  have r17_l := Nat.lt_of_lt_of_le r13_l hbx.size
  clear r13_0 r13_1 r13_2 r13_3 r13_4 r13_5 r13_6 r13_7 r13_8 r13_9 r13_10 r13_11 r13_l
  have Hx6 : Hid (Below x1.heap.size x1 x6) := Lib.hid ((Hx5.out.trans (hb6.mono Hx5.out.size)).trans (hbx.mono (Nat.le_trans Hx5.out.size hb6.size)))
  have HQx6 : Hid (∀ W, Below x6.heap.size x6 W → ScrS t g6 a6 W) := Lib.hid (fun W h => (hF6.rd.below hbx).below h)
  have HNx6 : Hid (Below x5.heap.size x5 x6) := Lib.hid (hb6.trans (hbx.mono hb6.size))
  rw [hx6]
  obtain ⟨B6, hblk⟩ : ∃ n, w6.heap.size = n := ⟨_, rfl⟩
  rw [hblk] at z14_0 z14_1 z14_2 z14_3 z14_4 z14_5 z14_6 z14_7 z14_8 z14_9 z14_10 z14_11 z14_l
  rw [hblk]
  clear hx6 hbx hb6 hF6 hblk
  have HX46 : Hid (Below x4.heap.size x4 x6) := Lib.hid (HNx5.out.trans (HNx6.out.mono HNx5.out.size))
  have HX56 : Hid (Below x5.heap.size x5 x6) := Lib.hid HNx6.out
  have HSA : Hid (∀ W, Below x6.heap.size x6 W → Calls Tryz.prog 10 #[.agg #[.int .i64 (t.w : Int), .int .i64 (t.h : Int), .int .i64 (t.x : Int), .int .i64 (t.y : Int), .int .i64 (t.look : Int), .int .i64 (t.top : Int), .int .i64 (t.bot : Int), .int .i64 (t.sx : Int), .int .i64 (t.sy : Int), .string t.title, .slice (some ⟨g4, 0, none⟩) t.cells.length c4, .slice a4 t.hist.length d4], .agg #[.int .i64 (t.w : Int), .int .i64 (t.h : Int), .int .i64 (t.x : Int), .int .i64 (t.y : Int), .int .i64 (t.look : Int), .int .i64 (t.top : Int), .int .i64 (t.bot : Int), .int .i64 (t.sx : Int), .int .i64 (t.sy : Int), .string t.title, .slice g6 t.cells.length c6, .slice a6 t.hist.length d6]] W fun e w' => e = .returned (.bool true) ∧ Below W.heap.size W w') := Lib.hid (fun W h => sameScreens_c t t HTO.out HTO.out _ c4 a4 d4 g6 c6 a6 d6 W (HQx4.out W (HX46.out.trans (h.mono HX46.out.size))) (HQx6.out W h) rfl)
  have HIO : Hid (∀ W, Below x6.heap.size x6 W → Calls Tryz.prog 11 #[.agg #[.int .i64 (u.w : Int), .int .i64 (u.h : Int), .int .i64 (u.x : Int), .int .i64 (u.y : Int), .int .i64 (u.look : Int), .int .i64 (u.top : Int), .int .i64 (u.bot : Int), .int .i64 (u.sx : Int), .int .i64 (u.sy : Int), .string u.title, .slice (some ⟨g5, 0, none⟩) u.cells.length c5, .slice a5 u.hist.length d5]] W fun e w' => e = .returned (.bool true) ∧ Below W.heap.size W w') := Lib.hid (fun W h => implScreenOK_t u HUO.out _ c5 a5 d5 W (HQx5.out W (HX56.out.trans (h.mono HX56.out.size))))
  have hnw : ((t.w : Int) != (wd : Int)) = false := by rw [HTW.out]; simp
  have hnh : ((t.h : Int) != (ht : Int)) = false := by rw [HTH.out]; simp
  go_wp2_with fail
  refine (HSA.out _ (Below.refl _ _)).mono ?_
  rintro e w7 ⟨rfl, hb7⟩
  have k18_0 := kC hb7 k15_l k15_0
  have k18_1 := kC hb7 k15_l k15_1
  have k18_2 := kC hb7 k15_l k15_2
  have k18_3 := kC hb7 k15_l k15_3
  have k18_4 := kC hb7 k15_l k15_4
  have k18_5 := kC hb7 k15_l k15_5
  have k18_6 := kC hb7 k15_l k15_6
  have k18_7 := kC hb7 k15_l k15_7
  have k18_8 := kC hb7 k15_l k15_8
  have k18_9 := kC hb7 k15_l k15_9
  have k18_10 := kC hb7 k15_l k15_10
  have k18_11 := kC hb7 k15_l k15_11
  have k18_l := Nat.lt_of_lt_of_le k15_l hb7.size
  clear k15_0 k15_1 k15_2 k15_3 k15_4 k15_5 k15_6 k15_7 k15_8 k15_9 k15_10 k15_11 k15_l
  have q19_0 := kC hb7 q16_l q16_0
  have q19_1 := kC hb7 q16_l q16_1
  have q19_2 := kC hb7 q16_l q16_2
  have q19_3 := kC hb7 q16_l q16_3
  have q19_4 := kC hb7 q16_l q16_4
  have q19_5 := kC hb7 q16_l q16_5
  have q19_6 := kC hb7 q16_l q16_6
  have q19_7 := kC hb7 q16_l q16_7
  have q19_8 := kC hb7 q16_l q16_8
  have q19_9 := kC hb7 q16_l q16_9
  have q19_10 := kC hb7 q16_l q16_10
  have q19_11 := kC hb7 q16_l q16_11
  have q19_l := Nat.lt_of_lt_of_le q16_l hb7.size
  clear q16_0 q16_1 q16_2 q16_3 q16_4 q16_5 q16_6 q16_7 q16_8 q16_9 q16_10 q16_11 q16_l
  have r20_0 := kC hb7 r17_l r17_0
  have r20_1 := kC hb7 r17_l r17_1
  have r20_2 := kC hb7 r17_l r17_2
  have r20_3 := kC hb7 r17_l r17_3
  have r20_4 := kC hb7 r17_l r17_4
  have r20_5 := kC hb7 r17_l r17_5
  have r20_6 := kC hb7 r17_l r17_6
  have r20_7 := kC hb7 r17_l r17_7
  have r20_8 := kC hb7 r17_l r17_8
  have r20_9 := kC hb7 r17_l r17_9
  have r20_10 := kC hb7 r17_l r17_10
  have r20_11 := kC hb7 r17_l r17_11
  have r20_l := Nat.lt_of_lt_of_le r17_l hb7.size
  clear r17_0 r17_1 r17_2 r17_3 r17_4 r17_5 r17_6 r17_7 r17_8 r17_9 r17_10 r17_11 r17_l
  have z21_0 := kC hb7 z14_l z14_0
  have z21_1 := kC hb7 z14_l z14_1
  have z21_2 := kC hb7 z14_l z14_2
  have z21_3 := kC hb7 z14_l z14_3
  have z21_4 := kC hb7 z14_l z14_4
  have z21_5 := kC hb7 z14_l z14_5
  have z21_6 := kC hb7 z14_l z14_6
  have z21_7 := kC hb7 z14_l z14_7
  have z21_8 := kC hb7 z14_l z14_8
  have z21_9 := kC hb7 z14_l z14_9
  have z21_10 := kC hb7 z14_l z14_10
  have z21_11 := kC hb7 z14_l z14_11
  have z21_l := Nat.lt_of_lt_of_le z14_l hb7.size
  clear z14_0 z14_1 z14_2 z14_3 z14_4 z14_5 z14_6 z14_7 z14_8 z14_9 z14_10 z14_11 z14_l
  go_wp2_with fail
  refine (HIO.out _ hb7).mono ?_
  rintro e w8 ⟨rfl, hb8⟩
  have HB8 : Hid (Below x6.heap.size x6 w8) := Lib.hid (hb7.trans (hb8.mono hb7.size))
  have k22_0 := kC hb8 k18_l k18_0
  have k22_1 := kC hb8 k18_l k18_1
  have k22_2 := kC hb8 k18_l k18_2
  have k22_3 := kC hb8 k18_l k18_3
  have k22_4 := kC hb8 k18_l k18_4
  have k22_5 := kC hb8 k18_l k18_5
  have k22_6 := kC hb8 k18_l k18_6
  have k22_7 := kC hb8 k18_l k18_7
  have k22_8 := kC hb8 k18_l k18_8
  have k22_9 := kC hb8 k18_l k18_9
  have k22_10 := kC hb8 k18_l k18_10
  have k22_11 := kC hb8 k18_l k18_11
  have k22_l := Nat.lt_of_lt_of_le k18_l hb8.size
  clear k18_0 k18_1 k18_2 k18_3 k18_4 k18_5 k18_6 k18_7 k18_8 k18_9 k18_10 k18_11 k18_l
  have q23_0 := kC hb8 q19_l q19_0
  have q23_1 := kC hb8 q19_l q19_1
  have q23_2 := kC hb8 q19_l q19_2
  have q23_3 := kC hb8 q19_l q19_3
  have q23_4 := kC hb8 q19_l q19_4
  have q23_5 := kC hb8 q19_l q19_5
  have q23_6 := kC hb8 q19_l q19_6
  have q23_7 := kC hb8 q19_l q19_7
  have q23_8 := kC hb8 q19_l q19_8
  have q23_9 := kC hb8 q19_l q19_9
  have q23_10 := kC hb8 q19_l q19_10
  have q23_11 := kC hb8 q19_l q19_11
  have q23_l := Nat.lt_of_lt_of_le q19_l hb8.size
  clear q19_0 q19_1 q19_2 q19_3 q19_4 q19_5 q19_6 q19_7 q19_8 q19_9 q19_10 q19_11 q19_l
  have r24_0 := kC hb8 r20_l r20_0
  have r24_1 := kC hb8 r20_l r20_1
  have r24_2 := kC hb8 r20_l r20_2
  have r24_3 := kC hb8 r20_l r20_3
  have r24_4 := kC hb8 r20_l r20_4
  have r24_5 := kC hb8 r20_l r20_5
  have r24_6 := kC hb8 r20_l r20_6
  have r24_7 := kC hb8 r20_l r20_7
  have r24_8 := kC hb8 r20_l r20_8
  have r24_9 := kC hb8 r20_l r20_9
  have r24_10 := kC hb8 r20_l r20_10
  have r24_11 := kC hb8 r20_l r20_11
  have r24_l := Nat.lt_of_lt_of_le r20_l hb8.size
  clear r20_0 r20_1 r20_2 r20_3 r20_4 r20_5 r20_6 r20_7 r20_8 r20_9 r20_10 r20_11 r20_l
  have z25_0 := kC hb8 z21_l z21_0
  have z25_1 := kC hb8 z21_l z21_1
  have z25_2 := kC hb8 z21_l z21_2
  have z25_3 := kC hb8 z21_l z21_3
  have z25_4 := kC hb8 z21_l z21_4
  have z25_5 := kC hb8 z21_l z21_5
  have z25_6 := kC hb8 z21_l z21_6
  have z25_7 := kC hb8 z21_l z21_7
  have z25_8 := kC hb8 z21_l z21_8
  have z25_9 := kC hb8 z21_l z21_9
  have z25_10 := kC hb8 z21_l z21_10
  have z25_11 := kC hb8 z21_l z21_11
  have z25_l := Nat.lt_of_lt_of_le z21_l hb8.size
  clear z21_0 z21_1 z21_2 z21_3 z21_4 z21_5 z21_6 z21_7 z21_8 z21_9 z21_10 z21_11 z21_l
  clear z25_0 z25_1 z25_2 z25_3 z25_4 z25_5 z25_6 z25_7 z25_8 z25_9 z25_10 z25_11 z25_l
  have HX8 : Hid (Below x1.heap.size x1 w8) := Lib.hid (Hx6.out.trans (HB8.out.mono Hx6.out.size))
  have HX48 : Hid (Below x4.heap.size x4 w8) := Lib.hid (HX46.out.trans (HB8.out.mono HX46.out.size))
  have HX58 : Hid (Below x5.heap.size x5 w8) := Lib.hid (HX56.out.trans (HB8.out.mono HX56.out.size))
  have hux : u.x = s.x := by rw [← HU.out, ← HT.out]; show min (min s.x wd) s.w = s.x; have := HOK.out.hx; omega
  have huy : u.y = s.y := by rw [← HU.out, ← HT.out]; show min (min s.y (ht - 1)) (s.h - 1) = s.y; have := HOK.out.hy; omega
  have hut : u.title = s.title := by rw [← HU.out, ← HT.out]; rfl
  have HUX := Lib.hid hux
  have HUY := Lib.hid huy
  have HUT := Lib.hid hut
  have HWD := Lib.hid hwd1
  have HHT := Lib.hid hht1
  clear hnw hnh hux huy hut hwd1 hht1 hb7 hb8
  go_wp2_with fail
  go_loopw [14] (fun i wr => ∃ k : Nat, k ≤ s.h ∧ i = .int .i64 k ∧ Below w8.heap.size w8 wr) (fun i _ => s.h - (intOf i).toNat)
  case atStart => exact ⟨0, Nat.zero_le _, rfl, Below.refl _ _⟩
  case round =>
    obtain ⟨k, hk, rfl, hb⟩ := hrel
    have HR := Lib.hid hb
    have k26_0 : wr.cell? ⟨B, 0, none⟩ = some (.int .i64 (s.w : Int)) := (HR.out.cell (p := ⟨B, 0, none⟩) k22_l).trans k22_0
    have k26_1 : wr.cell? ⟨B, 1, none⟩ = some (.int .i64 (s.h : Int)) := (HR.out.cell (p := ⟨B, 1, none⟩) k22_l).trans k22_1
    have k26_2 : wr.cell? ⟨B, 2, none⟩ = some (.int .i64 (s.x : Int)) := (HR.out.cell (p := ⟨B, 2, none⟩) k22_l).trans k22_2
    have k26_3 : wr.cell? ⟨B, 3, none⟩ = some (.int .i64 (s.y : Int)) := (HR.out.cell (p := ⟨B, 3, none⟩) k22_l).trans k22_3
    have k26_4 : wr.cell? ⟨B, 4, none⟩ = some (.int .i64 (s.look : Int)) := (HR.out.cell (p := ⟨B, 4, none⟩) k22_l).trans k22_4
    have k26_5 : wr.cell? ⟨B, 5, none⟩ = some (.int .i64 (s.top : Int)) := (HR.out.cell (p := ⟨B, 5, none⟩) k22_l).trans k22_5
    have k26_6 : wr.cell? ⟨B, 6, none⟩ = some (.int .i64 (s.bot : Int)) := (HR.out.cell (p := ⟨B, 6, none⟩) k22_l).trans k22_6
    have k26_7 : wr.cell? ⟨B, 7, none⟩ = some (.int .i64 (s.sx : Int)) := (HR.out.cell (p := ⟨B, 7, none⟩) k22_l).trans k22_7
    have k26_8 : wr.cell? ⟨B, 8, none⟩ = some (.int .i64 (s.sy : Int)) := (HR.out.cell (p := ⟨B, 8, none⟩) k22_l).trans k22_8
    have k26_9 : wr.cell? ⟨B, 9, none⟩ = some (.string s.title) := (HR.out.cell (p := ⟨B, 9, none⟩) k22_l).trans k22_9
    have k26_10 : wr.cell? ⟨B, 10, none⟩ = some (.slice (some ⟨g, 0, none⟩) s.cells.length cc) := (HR.out.cell (p := ⟨B, 10, none⟩) k22_l).trans k22_10
    have k26_11 : wr.cell? ⟨B, 11, none⟩ = some (.slice ah s.hist.length dh) := (HR.out.cell (p := ⟨B, 11, none⟩) k22_l).trans k22_11
    have k26_l := Nat.lt_of_lt_of_le k22_l HR.out.size
    clear k22_0 k22_1 k22_2 k22_3 k22_4 k22_5 k22_6 k22_7 k22_8 k22_9 k22_10 k22_11 k22_l
    have q27_0 : wr.cell? ⟨B4, 0, none⟩ = some (.int .i64 (t.w : Int)) := (HR.out.cell (p := ⟨B4, 0, none⟩) q23_l).trans q23_0
    have q27_1 : wr.cell? ⟨B4, 1, none⟩ = some (.int .i64 (t.h : Int)) := (HR.out.cell (p := ⟨B4, 1, none⟩) q23_l).trans q23_1
    have q27_2 : wr.cell? ⟨B4, 2, none⟩ = some (.int .i64 (t.x : Int)) := (HR.out.cell (p := ⟨B4, 2, none⟩) q23_l).trans q23_2
    have q27_3 : wr.cell? ⟨B4, 3, none⟩ = some (.int .i64 (t.y : Int)) := (HR.out.cell (p := ⟨B4, 3, none⟩) q23_l).trans q23_3
    have q27_4 : wr.cell? ⟨B4, 4, none⟩ = some (.int .i64 (t.look : Int)) := (HR.out.cell (p := ⟨B4, 4, none⟩) q23_l).trans q23_4
    have q27_5 : wr.cell? ⟨B4, 5, none⟩ = some (.int .i64 (t.top : Int)) := (HR.out.cell (p := ⟨B4, 5, none⟩) q23_l).trans q23_5
    have q27_6 : wr.cell? ⟨B4, 6, none⟩ = some (.int .i64 (t.bot : Int)) := (HR.out.cell (p := ⟨B4, 6, none⟩) q23_l).trans q23_6
    have q27_7 : wr.cell? ⟨B4, 7, none⟩ = some (.int .i64 (t.sx : Int)) := (HR.out.cell (p := ⟨B4, 7, none⟩) q23_l).trans q23_7
    have q27_8 : wr.cell? ⟨B4, 8, none⟩ = some (.int .i64 (t.sy : Int)) := (HR.out.cell (p := ⟨B4, 8, none⟩) q23_l).trans q23_8
    have q27_9 : wr.cell? ⟨B4, 9, none⟩ = some (.string t.title) := (HR.out.cell (p := ⟨B4, 9, none⟩) q23_l).trans q23_9
    have q27_10 : wr.cell? ⟨B4, 10, none⟩ = some (.slice (some ⟨g4, 0, none⟩) t.cells.length c4) := (HR.out.cell (p := ⟨B4, 10, none⟩) q23_l).trans q23_10
    have q27_11 : wr.cell? ⟨B4, 11, none⟩ = some (.slice a4 t.hist.length d4) := (HR.out.cell (p := ⟨B4, 11, none⟩) q23_l).trans q23_11
    have q27_l := Nat.lt_of_lt_of_le q23_l HR.out.size
    clear q23_0 q23_1 q23_2 q23_3 q23_4 q23_5 q23_6 q23_7 q23_8 q23_9 q23_10 q23_11 q23_l
    have r28_0 : wr.cell? ⟨B5, 0, none⟩ = some (.int .i64 (u.w : Int)) := (HR.out.cell (p := ⟨B5, 0, none⟩) r24_l).trans r24_0
    have r28_1 : wr.cell? ⟨B5, 1, none⟩ = some (.int .i64 (u.h : Int)) := (HR.out.cell (p := ⟨B5, 1, none⟩) r24_l).trans r24_1
    have r28_2 : wr.cell? ⟨B5, 2, none⟩ = some (.int .i64 (u.x : Int)) := (HR.out.cell (p := ⟨B5, 2, none⟩) r24_l).trans r24_2
    have r28_3 : wr.cell? ⟨B5, 3, none⟩ = some (.int .i64 (u.y : Int)) := (HR.out.cell (p := ⟨B5, 3, none⟩) r24_l).trans r24_3
    have r28_4 : wr.cell? ⟨B5, 4, none⟩ = some (.int .i64 (u.look : Int)) := (HR.out.cell (p := ⟨B5, 4, none⟩) r24_l).trans r24_4
    have r28_5 : wr.cell? ⟨B5, 5, none⟩ = some (.int .i64 (u.top : Int)) := (HR.out.cell (p := ⟨B5, 5, none⟩) r24_l).trans r24_5
    have r28_6 : wr.cell? ⟨B5, 6, none⟩ = some (.int .i64 (u.bot : Int)) := (HR.out.cell (p := ⟨B5, 6, none⟩) r24_l).trans r24_6
    have r28_7 : wr.cell? ⟨B5, 7, none⟩ = some (.int .i64 (u.sx : Int)) := (HR.out.cell (p := ⟨B5, 7, none⟩) r24_l).trans r24_7
    have r28_8 : wr.cell? ⟨B5, 8, none⟩ = some (.int .i64 (u.sy : Int)) := (HR.out.cell (p := ⟨B5, 8, none⟩) r24_l).trans r24_8
    have r28_9 : wr.cell? ⟨B5, 9, none⟩ = some (.string u.title) := (HR.out.cell (p := ⟨B5, 9, none⟩) r24_l).trans r24_9
    have r28_10 : wr.cell? ⟨B5, 10, none⟩ = some (.slice (some ⟨g5, 0, none⟩) u.cells.length c5) := (HR.out.cell (p := ⟨B5, 10, none⟩) r24_l).trans r24_10
    have r28_11 : wr.cell? ⟨B5, 11, none⟩ = some (.slice a5 u.hist.length d5) := (HR.out.cell (p := ⟨B5, 11, none⟩) r24_l).trans r24_11
    have r28_l := Nat.lt_of_lt_of_le r24_l HR.out.size
    clear r24_0 r24_1 r24_2 r24_3 r24_4 r24_5 r24_6 r24_7 r24_8 r24_9 r24_10 r24_11 r24_l
    clear hb
    by_cases hlt : k < s.h
    · have hlt' : (k : Int) < (s.h : Int) := by omega
      obtain ⟨T, hT⟩ : ∃ T, rowT s k = T := ⟨_, rfl⟩
      obtain ⟨C, hC⟩ : ∃ C, strOf (celL (rowC s k)) = C := ⟨_, rfl⟩
      have H1 : Hid (∀ W, Below w8.heap.size w8 W → Calls Tryz.prog 12 #[.agg #[.int .i64 (s.w : Int), .int .i64 (s.h : Int), .int .i64 (s.x : Int), .int .i64 (s.y : Int), .int .i64 (s.look : Int), .int .i64 (s.top : Int), .int .i64 (s.bot : Int), .int .i64 (s.sx : Int), .int .i64 (s.sy : Int), .string s.title, .slice (some ⟨g, 0, none⟩) s.cells.length cc, .slice ah s.hist.length dh], .int .i64 (k : Int)] W fun e w' => e = .returned (.tuple #[.string T, .int .i64 0]) ∧ Below W.heap.size W w') := Lib.hid (fun W h => by rw [← hT]; exact implRowText_c s HOK.out g 0 cc ah dh k hlt W (HS1.out W (HX8.out.trans (h.mono HX8.out.size))) hcc)
      have H2 : Hid (∀ W, Below w8.heap.size w8 W → Calls Tryz.prog 12 #[.agg #[.int .i64 (t.w : Int), .int .i64 (t.h : Int), .int .i64 (t.x : Int), .int .i64 (t.y : Int), .int .i64 (t.look : Int), .int .i64 (t.top : Int), .int .i64 (t.bot : Int), .int .i64 (t.sx : Int), .int .i64 (t.sy : Int), .string t.title, .slice (some ⟨g4, 0, none⟩) t.cells.length c4, .slice a4 t.hist.length d4], .int .i64 (k : Int)] W fun e w' => e = .returned (.tuple #[.string T, .int .i64 0]) ∧ Below W.heap.size W w') := Lib.hid (fun W h => by
        have h1 := implRowText_c t HTO.out g4 0 c4 a4 d4 k (by have := HTH.out; have := HHT.out; omega) W (HQx4.out W (HX48.out.trans (h.mono HX48.out.size))) hc4
        rw [show rowT t k = T by rw [← hT, ← HT.out]; exact rowT_res HOK.out HWD.out HHT.out hlt] at h1
        exact h1)
      have H3 : Hid (∀ W, Below w8.heap.size w8 W → Calls Tryz.prog 13 #[.agg #[.int .i64 (s.w : Int), .int .i64 (s.h : Int), .int .i64 (s.x : Int), .int .i64 (s.y : Int), .int .i64 (s.look : Int), .int .i64 (s.top : Int), .int .i64 (s.bot : Int), .int .i64 (s.sx : Int), .int .i64 (s.sy : Int), .string s.title, .slice (some ⟨g, 0, none⟩) s.cells.length cc, .slice ah s.hist.length dh], .int .i64 (k : Int)] W fun e w' => e = .returned (.tuple #[.string C, .int .i64 0]) ∧ Below W.heap.size W w') := Lib.hid (fun W h => by rw [← hC]; exact implRowCells_c s HOK.out g cc ah dh k hlt W (HS1.out W (HX8.out.trans (h.mono HX8.out.size))) hcc)
      have H4 : Hid (∀ W, Below w8.heap.size w8 W → Calls Tryz.prog 13 #[.agg #[.int .i64 (u.w : Int), .int .i64 (u.h : Int), .int .i64 (u.x : Int), .int .i64 (u.y : Int), .int .i64 (u.look : Int), .int .i64 (u.top : Int), .int .i64 (u.bot : Int), .int .i64 (u.sx : Int), .int .i64 (u.sy : Int), .string u.title, .slice (some ⟨g5, 0, none⟩) u.cells.length c5, .slice a5 u.hist.length d5], .int .i64 (k : Int)] W fun e w' => e = .returned (.tuple #[.string C, .int .i64 0]) ∧ Below W.heap.size W w') := Lib.hid (fun W h => by
        have h1 := implRowCells_c u HUO.out g5 c5 a5 d5 k (by rw [← HU.out]; exact hlt) W (HQx5.out W (HX58.out.trans (h.mono HX58.out.size))) hc5
        rw [show rowC u k = rowC s k by rw [← HU.out, ← HT.out]; exact rowC_back HOK.out (by have := HWD.out; omega) hwd2 (by have := HHT.out; omega) hht2 HWD.out HHT.out hlt, hC] at h1
        exact h1)
      have e1 : (T.toList != T.toList) = false := by simp
      have e2 : (C.toList != C.toList) = false := by simp
      clear hT hC
      go_wp2_with fail
      refine (H1.out _ HR.out).mono ?_
      rintro e y1 ⟨rfl, hb⟩
      have HY1 : Hid (Below w8.heap.size w8 y1) := Lib.hid (HR.out.trans (hb.mono HR.out.size))
      have k29_0 := kC hb k26_l k26_0
      have k29_1 := kC hb k26_l k26_1
      have k29_2 := kC hb k26_l k26_2
      have k29_3 := kC hb k26_l k26_3
      have k29_4 := kC hb k26_l k26_4
      have k29_5 := kC hb k26_l k26_5
      have k29_6 := kC hb k26_l k26_6
      have k29_7 := kC hb k26_l k26_7
      have k29_8 := kC hb k26_l k26_8
      have k29_9 := kC hb k26_l k26_9
      have k29_10 := kC hb k26_l k26_10
      have k29_11 := kC hb k26_l k26_11
      have k29_l := Nat.lt_of_lt_of_le k26_l hb.size
      clear k26_0 k26_1 k26_2 k26_3 k26_4 k26_5 k26_6 k26_7 k26_8 k26_9 k26_10 k26_11 k26_l
      have q30_0 := kC hb q27_l q27_0
      have q30_1 := kC hb q27_l q27_1
      have q30_2 := kC hb q27_l q27_2
      have q30_3 := kC hb q27_l q27_3
      have q30_4 := kC hb q27_l q27_4
      have q30_5 := kC hb q27_l q27_5
      have q30_6 := kC hb q27_l q27_6
      have q30_7 := kC hb q27_l q27_7
      have q30_8 := kC hb q27_l q27_8
      have q30_9 := kC hb q27_l q27_9
      have q30_10 := kC hb q27_l q27_10
      have q30_11 := kC hb q27_l q27_11
      have q30_l := Nat.lt_of_lt_of_le q27_l hb.size
      clear q27_0 q27_1 q27_2 q27_3 q27_4 q27_5 q27_6 q27_7 q27_8 q27_9 q27_10 q27_11 q27_l
      have r31_0 := kC hb r28_l r28_0
      have r31_1 := kC hb r28_l r28_1
      have r31_2 := kC hb r28_l r28_2
      have r31_3 := kC hb r28_l r28_3
      have r31_4 := kC hb r28_l r28_4
      have r31_5 := kC hb r28_l r28_5
      have r31_6 := kC hb r28_l r28_6
      have r31_7 := kC hb r28_l r28_7
      have r31_8 := kC hb r28_l r28_8
      have r31_9 := kC hb r28_l r28_9
      have r31_10 := kC hb r28_l r28_10
      have r31_11 := kC hb r28_l r28_11
      have r31_l := Nat.lt_of_lt_of_le r28_l hb.size
      clear r28_0 r28_1 r28_2 r28_3 r28_4 r28_5 r28_6 r28_7 r28_8 r28_9 r28_10 r28_11 r28_l
      clear hb
      go_wp2_with fail
      refine (H2.out _ HY1.out).mono ?_
      rintro e y2 ⟨rfl, hb⟩
      have HY2 : Hid (Below w8.heap.size w8 y2) := Lib.hid (HY1.out.trans (hb.mono HY1.out.size))
      have k32_0 := kC hb k29_l k29_0
      have k32_1 := kC hb k29_l k29_1
      have k32_2 := kC hb k29_l k29_2
      have k32_3 := kC hb k29_l k29_3
      have k32_4 := kC hb k29_l k29_4
      have k32_5 := kC hb k29_l k29_5
      have k32_6 := kC hb k29_l k29_6
      have k32_7 := kC hb k29_l k29_7
      have k32_8 := kC hb k29_l k29_8
      have k32_9 := kC hb k29_l k29_9
      have k32_10 := kC hb k29_l k29_10
      have k32_11 := kC hb k29_l k29_11
      have k32_l := Nat.lt_of_lt_of_le k29_l hb.size
      clear k29_0 k29_1 k29_2 k29_3 k29_4 k29_5 k29_6 k29_7 k29_8 k29_9 k29_10 k29_11 k29_l
      have q33_0 := kC hb q30_l q30_0
      have q33_1 := kC hb q30_l q30_1
      have q33_2 := kC hb q30_l q30_2
      have q33_3 := kC hb q30_l q30_3
      have q33_4 := kC hb q30_l q30_4
      have q33_5 := kC hb q30_l q30_5
      have q33_6 := kC hb q30_l q30_6
      have q33_7 := kC hb q30_l q30_7
      have q33_8 := kC hb q30_l q30_8
      have q33_9 := kC hb q30_l q30_9
      have q33_10 := kC hb q30_l q30_10
      have q33_11 := kC hb q30_l q30_11
      have q33_l := Nat.lt_of_lt_of_le q30_l hb.size
      clear q30_0 q30_1 q30_2 q30_3 q30_4 q30_5 q30_6 q30_7 q30_8 q30_9 q30_10 q30_11 q30_l
      have r34_0 := kC hb r31_l r31_0
      have r34_1 := kC hb r31_l r31_1
      have r34_2 := kC hb r31_l r31_2
      have r34_3 := kC hb r31_l r31_3
      have r34_4 := kC hb r31_l r31_4
      have r34_5 := kC hb r31_l r31_5
      have r34_6 := kC hb r31_l r31_6
      have r34_7 := kC hb r31_l r31_7
      have r34_8 := kC hb r31_l r31_8
      have r34_9 := kC hb r31_l r31_9
      have r34_10 := kC hb r31_l r31_10
      have r34_11 := kC hb r31_l r31_11
      have r34_l := Nat.lt_of_lt_of_le r31_l hb.size
      clear r31_0 r31_1 r31_2 r31_3 r31_4 r31_5 r31_6 r31_7 r31_8 r31_9 r31_10 r31_11 r31_l
      clear hb
      go_wp2_with fail
      refine (H3.out _ HY2.out).mono ?_
      rintro e y3 ⟨rfl, hb⟩
      have HY3 : Hid (Below w8.heap.size w8 y3) := Lib.hid (HY2.out.trans (hb.mono HY2.out.size))
      have k35_0 := kC hb k32_l k32_0
      have k35_1 := kC hb k32_l k32_1
      have k35_2 := kC hb k32_l k32_2
      have k35_3 := kC hb k32_l k32_3
      have k35_4 := kC hb k32_l k32_4
      have k35_5 := kC hb k32_l k32_5
      have k35_6 := kC hb k32_l k32_6
      have k35_7 := kC hb k32_l k32_7
      have k35_8 := kC hb k32_l k32_8
      have k35_9 := kC hb k32_l k32_9
      have k35_10 := kC hb k32_l k32_10
      have k35_11 := kC hb k32_l k32_11
      have k35_l := Nat.lt_of_lt_of_le k32_l hb.size
      clear k32_0 k32_1 k32_2 k32_3 k32_4 k32_5 k32_6 k32_7 k32_8 k32_9 k32_10 k32_11 k32_l
      have q36_0 := kC hb q33_l q33_0
      have q36_1 := kC hb q33_l q33_1
      have q36_2 := kC hb q33_l q33_2
      have q36_3 := kC hb q33_l q33_3
      have q36_4 := kC hb q33_l q33_4
      have q36_5 := kC hb q33_l q33_5
      have q36_6 := kC hb q33_l q33_6
      have q36_7 := kC hb q33_l q33_7
      have q36_8 := kC hb q33_l q33_8
      have q36_9 := kC hb q33_l q33_9
      have q36_10 := kC hb q33_l q33_10
      have q36_11 := kC hb q33_l q33_11
      have q36_l := Nat.lt_of_lt_of_le q33_l hb.size
      clear q33_0 q33_1 q33_2 q33_3 q33_4 q33_5 q33_6 q33_7 q33_8 q33_9 q33_10 q33_11 q33_l
      have r37_0 := kC hb r34_l r34_0
      have r37_1 := kC hb r34_l r34_1
      have r37_2 := kC hb r34_l r34_2
      have r37_3 := kC hb r34_l r34_3
      have r37_4 := kC hb r34_l r34_4
      have r37_5 := kC hb r34_l r34_5
      have r37_6 := kC hb r34_l r34_6
      have r37_7 := kC hb r34_l r34_7
      have r37_8 := kC hb r34_l r34_8
      have r37_9 := kC hb r34_l r34_9
      have r37_10 := kC hb r34_l r34_10
      have r37_11 := kC hb r34_l r34_11
      have r37_l := Nat.lt_of_lt_of_le r34_l hb.size
      clear r34_0 r34_1 r34_2 r34_3 r34_4 r34_5 r34_6 r34_7 r34_8 r34_9 r34_10 r34_11 r34_l
      clear hb
      go_wp2_with fail
      refine (H4.out _ HY3.out).mono ?_
      rintro e y4 ⟨rfl, hb⟩
      have HY4 : Hid (Below w8.heap.size w8 y4) := Lib.hid (HY3.out.trans (hb.mono HY3.out.size))
      have k38_0 := kC hb k35_l k35_0
      have k38_1 := kC hb k35_l k35_1
      have k38_2 := kC hb k35_l k35_2
      have k38_3 := kC hb k35_l k35_3
      have k38_4 := kC hb k35_l k35_4
      have k38_5 := kC hb k35_l k35_5
      have k38_6 := kC hb k35_l k35_6
      have k38_7 := kC hb k35_l k35_7
      have k38_8 := kC hb k35_l k35_8
      have k38_9 := kC hb k35_l k35_9
      have k38_10 := kC hb k35_l k35_10
      have k38_11 := kC hb k35_l k35_11
      have k38_l := Nat.lt_of_lt_of_le k35_l hb.size
      clear k35_0 k35_1 k35_2 k35_3 k35_4 k35_5 k35_6 k35_7 k35_8 k35_9 k35_10 k35_11 k35_l
      have q39_0 := kC hb q36_l q36_0
      have q39_1 := kC hb q36_l q36_1
      have q39_2 := kC hb q36_l q36_2
      have q39_3 := kC hb q36_l q36_3
      have q39_4 := kC hb q36_l q36_4
      have q39_5 := kC hb q36_l q36_5
      have q39_6 := kC hb q36_l q36_6
      have q39_7 := kC hb q36_l q36_7
      have q39_8 := kC hb q36_l q36_8
      have q39_9 := kC hb q36_l q36_9
      have q39_10 := kC hb q36_l q36_10
      have q39_11 := kC hb q36_l q36_11
      have q39_l := Nat.lt_of_lt_of_le q36_l hb.size
      clear q36_0 q36_1 q36_2 q36_3 q36_4 q36_5 q36_6 q36_7 q36_8 q36_9 q36_10 q36_11 q36_l
      have r40_0 := kC hb r37_l r37_0
      have r40_1 := kC hb r37_l r37_1
      have r40_2 := kC hb r37_l r37_2
      have r40_3 := kC hb r37_l r37_3
      have r40_4 := kC hb r37_l r37_4
      have r40_5 := kC hb r37_l r37_5
      have r40_6 := kC hb r37_l r37_6
      have r40_7 := kC hb r37_l r37_7
      have r40_8 := kC hb r37_l r37_8
      have r40_9 := kC hb r37_l r37_9
      have r40_10 := kC hb r37_l r37_10
      have r40_11 := kC hb r37_l r37_11
      have r40_l := Nat.lt_of_lt_of_le r37_l hb.size
      clear r37_0 r37_1 r37_2 r37_3 r37_4 r37_5 r37_6 r37_7 r37_8 r37_9 r37_10 r37_11 r37_l
      clear hb
      go_wp2_with fail
      go_round
      case rel => exact ⟨k + 1, by omega, by go_num, HY4.out⟩
      case measure => simp [intOf]; omega
    · obtain rfl : k = s.h := by omega
      have z_2 : wr.cell? ⟨B5, 2, none⟩ = some (.int .i64 (s.x : Int)) := by rw [← HUX.out]; exact r28_2
      have z_3 : wr.cell? ⟨B5, 3, none⟩ = some (.int .i64 (s.y : Int)) := by rw [← HUY.out]; exact r28_3
      have z_9 : wr.cell? ⟨B5, 9, none⟩ = some (.string s.title) := by rw [← HUT.out]; exact r28_9
      clear r28_2 r28_3 r28_9
      have e9 : (s.title.toList == s.title.toList) = true := by simp
      go_wp2_with fail
      go_ret
      exact ⟨rfl, HB1.out.trans ((HX8.out.trans (HR.out.mono HX8.out.size)).mono HB1.out.size)⟩
end
section
open Go.ChangeShapes Go.WideShapes Go.ChangeAt Go.RowKit
theorem Tryz.own : ownKnob Tryz.prog.godebug = none := by kernel_rfl
theorem Tryz.laidOut : laidOutB Tryz.prog = true := by kernel_rfl
theorem trodAll_below {H : Type} {enc : TypeId × Value → H} {P : Program} (hl : laidOutB P = true) {W W' : World} (hb : Below W.heap.size W W') :
    ∀ {ts : List TypeId} {vs : List Value} {ds : List (DataW H)} {ps : List MemPlace}, (ts.all fun t => P.readableRec t && decide (t < P.types.size)) = true → (∀ x ∈ ps, x.block < W.heap.size) →
      DataW.TrodAll enc P W 0 (fun _ => true) true ts vs ds ps → DataW.TrodAll enc P W' 0 (fun b => decide (b < W.heap.size)) true ts vs ds ps
  | [], vs, ds, ps, _, _, h => by
    obtain ⟨rfl, rfl, rfl⟩ := trodAll_nil h
    exact trodAll_mk0
  | t :: ts, vs, ds, ps, hr, hlt, h => by
    obtain ⟨v, vs', d, ds', p, q, rfl, rfl, rfl, h1, h2⟩ := trodAll_cons h
    simp only [List.all_cons, Bool.and_eq_true, decide_eq_true_eq] at hr
    exact trodAll_cons_mk (Below.trod hl hr.1.1 hr.1.2 h1 hb (fun x hx => hlt x (List.mem_append_left _ hx)))
      (trodAll_below hl hb hr.2 (fun x hx => hlt x (List.mem_append_right _ hx)) h2)
theorem law_calls {H : Type} {enc : TypeId × Value → H} {F : Nat} {fn : Func} {s : ChangeSpec} {W : World} {args : Array Value} {ds gs : List (DataW H)} {before : List MemPlace}
    (hvars : s.vars = []) (hrt : fn.resultTypes = #[4])
    (hread : (fn.params.toList.all fun t => Tryz.prog.readableRec t && decide (t < Tryz.prog.types.size)) = true)
    (hW : DataW.Whole enc Tryz.checked.prog fn.params.toList s.vars false W args.toList ds gs before)
    (hsp : s.fn H (ds ++ gs) = { results := [.lit (.bool true)], args := ds })
    (hc : Calls Tryz.prog F args W fun e W' => e = .returned (.bool true) ∧ Below W.heap.size W W') :
    Calls Tryz.checked.prog F args W fun e W' => ∃ v, e = .returned v ∧ s.post enc Tryz.checked.prog fn false true false false W args v W' := by
  refine Calls.mono (P := Tryz.prog) hc fun e W' ⟨he, hb⟩ => ?_
  subst he
  have hlt : ∀ x ∈ before, x.block < W.heap.size := fun x hx => hW.lt x hx
  have hW' := hW
  obtain ⟨p, q, hA, hV, rfl, _, _⟩ := hW
  rw [hvars] at hV
  obtain ⟨rfl, rfl⟩ := trodVars_none hV
  refine ⟨_, rfl, _, _, _, [], p, [], hW', ?_, ?_, ?_, hb.frame _, fun h => by cases h⟩
  · rw [hsp, hrt]
    exact trodAll_mk1 (shut_bool Tryz.underlying4 _)
  · rw [hsp]
    exact trodAll_below Tryz.laidOut hb hread (fun x hx => hlt x (List.mem_append_left _ hx)) hA
  · rw [hsp, hvars]
    rfl
/-! slices -/
theorem open_slc {H : Type} {enc' : TypeId × Value → H} {α : Type} {enc : α → List Value} {sz : Nat} {Q : α → Prop} {W : World} {fuel : Nat} {t e : TypeId} {cs : List Value} {x : DataW H × List MemPlace}
    (ht : Tryz.prog.underlying t = some (.slice e)) (hc : Tryz.prog.cellsOf e = sz) (hsz : 0 < sz)
    (hel : ∀ (n : Nat) (cs : List Value) (x : DataW H × List MemPlace), DataW.trod enc' Tryz.prog W 0 (fun _ => true) true n e cs = some x → ∃ y : α, cs = enc y ∧ Q y)
    (hf : DataW.trod enc' Tryz.prog W 0 (fun _ => true) true fuel t cs = some x) :
    ∃ (a : Option Addr) (cap : Nat) (xs : List α), cs = [.slice a xs.length cap] ∧ xs.length ≤ 9223372036854775807 ∧ (∀ x ∈ xs, Q x) ∧ Sl enc sz W a xs := by
  rcases Deep.open_slice ht hf with ⟨hcs, _⟩ | ⟨a, len, cap, m, n, D, Pl, hcs, _, hl, hm, hmm, _, hx⟩
  · subst hcs
    exact ⟨none, 0, [], rfl, by simp, by simp, .inl rfl⟩
  · subst hcs
    simp only [if_true] at hmm
    subst hmm
    have each : ∀ i, i < len → ∃ y : α, W.cells? 0 (a.add (i * sz)) sz = some (enc y) ∧ Q y := by
      intro i hi
      obtain ⟨cs', h1, h2⟩ := hx i (by omega)
      obtain ⟨y, rfl, hq⟩ := hel n cs' _ h2
      exact ⟨y, by rw [← hc]; exact h1, hq⟩
    by_cases h0 : len = 0
    · subst h0
      exact ⟨_, _, [], rfl, by simp, by simp, .inl rfl⟩
    · obtain ⟨y0, _⟩ := each 0 (by omega)
      obtain ⟨f, hf'⟩ := @Deep.choose_lt α ⟨y0⟩ len (fun i y => W.cells? 0 (a.add (i * sz)) sz = some (enc y) ∧ Q y) each
      have cellAt : ∀ i, i < len → ∀ j, j < sz → W.cell? ((a.add (i * sz)).add j) = (enc (f i))[j]? := by
        intro i hi j hj
        obtain ⟨_, hlen, hcell⟩ := World.cells?_some (hf' i hi).1
        exact hcell j hj
      have hc00 := cellAt 0 (by omega) 0 hsz
      have hlen0 : (enc (f 0)).length = sz := (World.cells?_some (hf' 0 (by omega)).1).2.1
      rw [List.getElem?_eq_getElem (by omega)] at hc00
      simp only [Nat.zero_mul] at hc00
      have hadd0 : (a.add 0).add 0 = a := by simp [Addr.add]
      rw [hadd0] at hc00
      obtain ⟨b, off, spot⟩ := a
      have hspot : spot = none := by simpa using World.cell?_spot hc00
      subst hspot
      have hb := World.block_lt_of_cell? W _ hc00
      refine ⟨some ⟨b, off, none⟩, m, (List.range len).map f, by simp, by simp; unfold maxLen at hm; omega, ?_, .inr ⟨b, off, rfl, hb, ?_⟩⟩
      · intro x hx'
        obtain ⟨i, hi, rfl⟩ := List.mem_map.1 hx'
        exact (hf' i (List.mem_range.1 hi)).2
      · intro i hi j hj
        have hi' : i < len := by simpa using hi
        have := cellAt i hi' j hj
        rw [Deep.add_add] at this
        have hadd : (⟨b, off, none⟩ : Addr).add (i * sz + j) = ⟨b, off + i * sz + j, none⟩ := by
          unfold Addr.add; split <;> simp_all [Nat.add_assoc]
        rw [hadd] at this
        rw [this]
        simp
theorem open_sl {H : Type} {enc' : TypeId × Value → H} {α : Type} {enc : α → List Value} {sz : Nat} {Q : α → Prop} {W : World} {base : Nat} {t e : TypeId} {v : Value} {d : DataW H} {p : List MemPlace}
    (ht : Tryz.prog.underlying t = some (.slice e)) (hc : Tryz.prog.cellsOf e = sz) (hsz : 0 < sz)
    (hel : ∀ (n : Nat) (cs : List Value) (x : DataW H × List MemPlace), DataW.trod enc' Tryz.prog W 0 (fun _ => true) true n e cs = some x → ∃ y : α, cs = enc y ∧ Q y)
    (hv : Value.okWide Tryz.prog W .any base t v) (h : DataW.Trod enc' Tryz.prog W 0 (fun _ => true) true t v d p) :
    ∃ (a : Option Addr) (cap : Nat) (xs : List α), v = .slice a xs.length cap ∧ xs.length ≤ 9223372036854775807 ∧ (∀ x ∈ xs, Q x) ∧ Sl enc sz W a xs := by
  obtain ⟨a0, len, cap, rfl⟩ := okWide_slice ht hv
  obtain ⟨fuel, hf⟩ := h
  obtain ⟨a, c, xs, hcs, h1, h2, h3⟩ := open_slc (enc := enc) ht hc hsz hel hf
  simp [Value.cells] at hcs
  obtain ⟨rfl, rfl, rfl⟩ := hcs
  exact ⟨_, _, xs, rfl, h1, h2, h3⟩
/-! entries, states -/
/-! stores -/
section
open Go.Joins
end
end
section
open Go.ChangeShapes Go.WideShapes Go.ChangeAt Go.RowKit
theorem open_byteSl {H : Type} {enc' : TypeId × Value → H} {W : World} {base : Nat} {v : Value} {d : DataW H} {p : List MemPlace} (hv : Value.okWide Tryz.prog W .any base 22 v)
    (h : DataW.Trod enc' Tryz.prog W 0 (fun _ => true) true 22 v d p) : ∃ (a : Option Addr) (cap : Nat) (xs : List UInt8), v = .slice a xs.length cap ∧ xs.length ≤ 9223372036854775807 ∧ (∀ s ∈ xs, (fun _ : UInt8 => True) s) ∧ Sl byteE 1 W a xs :=
  open_sl Tryz.underlying22 (by kernel_rfl) (by decide) (fun n cs x hx => by
    obtain ⟨s, rfl, _, hs⟩ := DataW.trod_int Tryz.underlying5 hx
    have h0 : 0 ≤ s ∧ s < 256 := by
      simp [Lit.wf, IntKind.min, IntKind.max, IntKind.bits, IntKind.signed] at hs
      omega
    exact ⟨UInt8.ofNat s.toNat, by simp [byteE]; omega, trivial⟩) hv h
end
section
open Go.ChangeShapes Go.WideShapes Go.ChangeAt Go.RowKit
theorem fnResize_lifted (os : Os) (started : os.Started) (H : Type) (enc : TypeId × Value → H) :
    ReturnsInHanded {} Tryz.checked os 3 .any (fun w args => (Rows.fnResizeSpec.pre enc Tryz.prog Tryz.f3 [] false w args ∧ laidMetH Tryz.prog Rows.fnResizeRow.laid w) ∧ sizedMet enc Tryz.prog Tryz.f3 (OpenSpec.ofChange Rows.fnResizeSpec) false w args)
      (Rows.fnResizeSpec.post enc Tryz.prog Tryz.f3 false true false false) := by
  refine returnsInHanded_of_change_and (C := Tryz.checked) (X := fun w _ => laidMetH Tryz.prog Rows.fnResizeRow.laid w) (fun _ _ _ hh h => h.of_heap hh) Tryz.own started (by kernel_rfl) Tryz.func3
    (ChangeSpec.witness_shaped (enc := enc) (C := Tryz.checked) (os := os) (X := fun w _ => laidMetH Tryz.prog Rows.fnResizeRow.laid w) false (World.laidAll Tryz.prog os Rows.fnResizeRow.laid) #[.slice none 0 0, .slice none 0 0] 8 (World.laidAll_os _ _ _)
      (World.shaped_of_ZipB (by kernel_rfl) (by kernel_rfl)) (by kernel_rfl) (by kernel_rfl) (by kernel_rfl)
      (by rw [MakeChecks.laidMetH_plain _ _ _ (by kernel_rfl)]; exact laidMet_laidAll _ (by kernel_rfl) (by kernel_rfl))) ?_
  intro W base args ds gs before hval0 hW hc _ hL0 _
  have hval : ∀ (j : Nat) t v, Tryz.f3.params[j]? = some t → args[j]? = some v → Value.okWide Tryz.prog W .any base t v := hval0
  have hW' := hW
  obtain ⟨p, q, hA0, hV, rfl, _, _⟩ := hW
  have hA : DataW.TrodAll enc Tryz.prog W 0 (fun _ => true) true Tryz.f3.params.toList args.toList ds p := hA0
  rw [Tryz.params3] at hA hval
  rw [MakeChecks.laidMetH_plain _ _ _ (by kernel_rfl)] at hL0
  have hL : laidMet Tryz.prog Rows.fnResizeRow.laid W := hL0
  obtain ⟨v0, v1, d0, d1, p0, p1, rfl, rfl, rfl, h0, h1⟩ := trodAll_two hA
  obtain ⟨rfl, rfl⟩ := trodVars_none hV
  obtain ⟨a, ca, xs, rfl, la, _, ha⟩ := open_byteSl (hval 0 22 v0 rfl rfl) h0
  obtain ⟨b, cb, ys, rfl, lb, _, hb⟩ := open_byteSl (hval 1 22 v1 rfl rfl) h1
  skip
  exact law_calls rfl rfl (by kernel_rfl) hW' rfl (lawResize_c a b ca cb xs ys W ha hb la lb)
theorem fnResize_said : Rows.FnResizeSaid :=
  OpenClaim.holds_of_wide 3 Tryz.f3 rfl rfl rfl rfl rfl rfl rfl ⟨rfl, rfl, rfl, rfl, rfl⟩ rfl rfl rfl rfl rfl (by kernel_rfl) Tryz.func3 (by kernel_rfl)
    (of_decide_eq_true (by kernel_rfl)) (by unfold Func.isWrapper; first | (rw [if_pos (by decide +kernel)]; kernel_rfl) | (rw [if_neg (by decide +kernel)]; exact ⟨rfl, rfl⟩))
    (fun os started H enc _ => fnResize_lifted os started H enc)
theorem fnResize_holds : Rows.FnResizeCardSaid :=
  Claim7.holds_tied_plain_at .later [] [.data, .pinned] true (true, "ffbd75a9134906c58089c102deb558f93b5b8d6148756965b8f25dfd65a36cee") false fnResize_said (fun _ h => by cases h) (by kernel_rfl) (fun _ h => by cases h) fnResize_row_tie rfl ⟨rfl, rfl⟩ (by kernel_rfl) rfl
    (fun f fn hf hfn => by
      obtain rfl : f = 3 := Option.some.inj ((show Tryz.prog.funcNamed "loop.example/g00308/laws.FnResize" = some 3 by kernel_rfl).symm.trans hf) |>.symm
      obtain rfl : fn = Tryz.f3 := (Option.some.inj (Tryz.func3.symm.trans hfn)).symm
      exact ⟨by kernel_rfl, fun j t ht => by
        rw [Tryz.params3] at ht
        have hm : t ∈ [22, 22] := by simpa using Array.mem_of_getElem? ht
        have hall : ([22, 22].all fun u => !Tryz.prog.wantsStandIn u) = true := by kernel_rfl
        exact (show Tryz.prog.wantsStandIn t = false by simpa using List.all_eq_true.1 hall t hm)⟩)
    (by kernel_rfl)
end
end Go.Proofs.YtjmpgeffkdjpdaaGreatDoor
