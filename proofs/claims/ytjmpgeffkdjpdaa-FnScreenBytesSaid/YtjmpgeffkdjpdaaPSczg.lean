/- Contracts of the functions that the claim reaches. No conditions but sizes. -/
import Derived.Test.YtjmpgeffkdjpdaaPSczf
namespace Go.Proofs.Ytjmpgeffkdjpdaa
set_option linter.unusedVariables false
set_option linter.unusedSimpArgs false
set_option maxRecDepth 100000
set_option maxHeartbeats 16000000
section
open Go.RowKit
def BytesR (l : List UInt8) (w : World) (e : Ending) (w' : World) : Prop :=
  ∃ a c, e = .returned (.tuple #[.slice a l.length c, .int .i64 0]) ∧ Sl byteE 1 w' a l ∧ Below w.heap.size w w'
theorem isScr_c (s : Scr) (HO : ScrOK s) (ac : Option Addr) (cc : Nat) (ah : Option Addr) (dh : Nat) (w : World) (h : ScrS s ac ah w) :
    Calls Try.prog 13 #[scrV s ac cc ah dh] w fun e w' => e = .returned (.bool true) ∧ Below w.heap.size w w' := by
  have := isScreen_c s.i ac cc ah dh w h.cs h.hs (by have := HO.cn; have := Nat.mul_le_mul HO.w2 HO.h2; simp only [Scr.i]; omega) (by have := HO.hn; simp only [Scr.i]; omega) (by have := (titB_iff.1 HO.ti).1; simp only [Scr.i]; omega)
  rw [HO.b] at this
  exact this
theorem scrOK_c (s : Scr) (HO : ScrOK s) (ac : Option Addr) (cc : Nat) (ah : Option Addr) (dh : Nat) (w : World) (h : ScrS s ac ah w) :
    Calls Try.prog 15 #[scrV s ac cc ah dh] w fun e w' => e = .returned (.bool true) ∧ Below w.heap.size w w' := by
  have := specScreenOK_c s.i ac cc ah dh w h.cs h.hs (by have := HO.cn; have := Nat.mul_le_mul HO.w2 HO.h2; simp only [Scr.i]; omega) (by have := HO.hn; simp only [Scr.i]; omega)
  rw [HO.b] at this
  exact this
theorem implScreenBytes_c (s : Scr) (HO : ScrOK s) (ac : Option Addr) (cc : Nat) (ah : Option Addr) (dh : Nat) (w : World) (h : ScrS s ac ah w) (hcc : s.cells.length ≤ cc) :
    Calls Try.prog 5 #[scrV s ac cc ah dh] w (BytesR (scrText s.i) w) := by
  have HR := Lib.hid h
  have HI : Hid (∀ W, ScrS s ac ah W → Calls Try.prog 13 #[.agg #[.int .i64 (s.w : Int), .int .i64 (s.h : Int), .int .i64 (s.x : Int), .int .i64 (s.y : Int), .int .i64 (s.look : Int), .int .i64 (s.top : Int), .int .i64 (s.bot : Int), .int .i64 (s.sx : Int), .int .i64 (s.sy : Int), .string s.title, .slice ac s.cells.length cc, .slice ah s.hist.length dh]] W fun e w' => e = .returned (.bool true) ∧ Below W.heap.size W w') := Lib.hid (fun W hW => isScr_c s HO ac cc ah dh W hW)
  have HT : Hid (∀ W, ScrS s ac ah W → Calls Try.prog 14 #[.agg #[.int .i64 (s.w : Int), .int .i64 (s.h : Int), .int .i64 (s.x : Int), .int .i64 (s.y : Int), .int .i64 (s.look : Int), .int .i64 (s.top : Int), .int .i64 (s.bot : Int), .int .i64 (s.sx : Int), .int .i64 (s.sy : Int), .string s.title, .slice ac s.cells.length cc, .slice ah s.hist.length dh]] W fun e w' => e = .returned (.string (strOf (scrText s.i))) ∧ Below W.heap.size W w') := Lib.hid (fun W hW => screenText_c s HO ac cc ah dh W hW.cs hW.hs hcc)
  unfold scrV
  obtain ⟨l, hl⟩ : ∃ l, scrText s.i = l := ⟨_, rfl⟩
  obtain ⟨S, hS⟩ : ∃ S, strOf l = S := ⟨_, rfl⟩
  rw [hl] at HT ⊢
  rw [hS] at HT
  have HSZ : Hid (S.size = l.length) := Lib.hid (by rw [← hS]; rfl)
  have HSD : Hid (S.data.toList = l) := Lib.hid (by rw [← hS]; exact strOf_data' l)
  clear h HO hl hS
  go_enter Try.func5, Try.ntmps5
  go_wp2_with fail
  refine (HI.out _ (HR.out.alloc _)).mono ?_
  rintro e w1 ⟨rfl, hb1⟩
  have hzz := hb1.size
  simp only [World.size_alloc] at hzz
  have k_0 : w1.cell? ⟨w.heap.size, 0, none⟩ = some (.int .i64 (s.w : Int)) := kC hb1 (by simp) (by simp [go_sem])
  have k_1 : w1.cell? ⟨w.heap.size, 1, none⟩ = some (.int .i64 (s.h : Int)) := kC hb1 (by simp) (by simp [go_sem])
  have k_2 : w1.cell? ⟨w.heap.size, 2, none⟩ = some (.int .i64 (s.x : Int)) := kC hb1 (by simp) (by simp [go_sem])
  have k_3 : w1.cell? ⟨w.heap.size, 3, none⟩ = some (.int .i64 (s.y : Int)) := kC hb1 (by simp) (by simp [go_sem])
  have k_4 : w1.cell? ⟨w.heap.size, 4, none⟩ = some (.int .i64 (s.look : Int)) := kC hb1 (by simp) (by simp [go_sem])
  have k_5 : w1.cell? ⟨w.heap.size, 5, none⟩ = some (.int .i64 (s.top : Int)) := kC hb1 (by simp) (by simp [go_sem])
  have k_6 : w1.cell? ⟨w.heap.size, 6, none⟩ = some (.int .i64 (s.bot : Int)) := kC hb1 (by simp) (by simp [go_sem])
  have k_7 : w1.cell? ⟨w.heap.size, 7, none⟩ = some (.int .i64 (s.sx : Int)) := kC hb1 (by simp) (by simp [go_sem])
  have k_8 : w1.cell? ⟨w.heap.size, 8, none⟩ = some (.int .i64 (s.sy : Int)) := kC hb1 (by simp) (by simp [go_sem])
  have k_9 : w1.cell? ⟨w.heap.size, 9, none⟩ = some (.string s.title) := kC hb1 (by simp) (by simp [go_sem])
  have k_10 : w1.cell? ⟨w.heap.size, 10, none⟩ = some (.slice ac s.cells.length cc) := kC hb1 (by simp) (by simp [go_sem])
  have k_11 : w1.cell? ⟨w.heap.size, 11, none⟩ = some (.slice ah s.hist.length dh) := kC hb1 (by simp) (by simp [go_sem])
  have HR1 : Hid (ScrS s ac ah w1) := Lib.hid ((HR.out.alloc _).below hb1)
  have HB1 : Hid (Below w.heap.size w w1) := Lib.hid (((Below.refl _ _).alloc (Nat.le_refl _) _).trans (hb1.mono (by simp)))
  clear hb1
  go_wp2_with fail
  refine (HT.out _ HR1.out).mono ?_
  rintro e w2 ⟨rfl, hb2⟩
  have HB2 := Lib.hid hb2
  clear hb2 k_0 k_1 k_2 k_3 k_4 k_5 k_6 k_7 k_8 k_9 k_10 k_11
  have hcv := cv_run S w2
  go_wp2_with fail
  go_ret2
  refine ⟨some ⟨w2.heap.size, 0, none⟩, cvC S w2, by rw [HSZ.out]; rfl, by rw [← HSD.out]; exact cvW_sl S w2, ?_⟩
  exact HB1.out.trans ((HB2.out.mono HB1.out.size).trans (cvW_below S w2 (Nat.le_trans HB1.out.size HB2.out.size)))
theorem specScreenBytes_c (s : Scr) (HO : ScrOK s) (ac : Option Addr) (cc : Nat) (ah : Option Addr) (dh : Nat) (w : World) (h : ScrS s ac ah w) :
    Calls Try.prog 6 #[scrV s ac cc ah dh] w (BytesR (scrText s.i) w) := by
  have HR := Lib.hid h
  have HI : Hid (∀ W, ScrS s ac ah W → Calls Try.prog 15 #[.agg #[.int .i64 (s.w : Int), .int .i64 (s.h : Int), .int .i64 (s.x : Int), .int .i64 (s.y : Int), .int .i64 (s.look : Int), .int .i64 (s.top : Int), .int .i64 (s.bot : Int), .int .i64 (s.sx : Int), .int .i64 (s.sy : Int), .string s.title, .slice ac s.cells.length cc, .slice ah s.hist.length dh]] W fun e w' => e = .returned (.bool true) ∧ Below W.heap.size W w') := Lib.hid (fun W hW => scrOK_c s HO ac cc ah dh W hW)
  have HT : Hid (∀ W, ScrS s ac ah W → Calls Try.prog 16 #[.agg #[.int .i64 (s.w : Int), .int .i64 (s.h : Int), .int .i64 (s.x : Int), .int .i64 (s.y : Int), .int .i64 (s.look : Int), .int .i64 (s.top : Int), .int .i64 (s.bot : Int), .int .i64 (s.sx : Int), .int .i64 (s.sy : Int), .string s.title, .slice ac s.cells.length cc, .slice ah s.hist.length dh]] W fun e w' => e = .returned (.string (strOf (scrText s.i))) ∧ Below W.heap.size W w') := Lib.hid (fun W hW => l04Bytes_c s HO ac cc ah dh W hW)
  unfold scrV
  obtain ⟨l, hl⟩ : ∃ l, scrText s.i = l := ⟨_, rfl⟩
  obtain ⟨S, hS⟩ : ∃ S, strOf l = S := ⟨_, rfl⟩
  rw [hl] at HT ⊢
  rw [hS] at HT
  have HSZ : Hid (S.size = l.length) := Lib.hid (by rw [← hS]; rfl)
  have HSD : Hid (S.data.toList = l) := Lib.hid (by rw [← hS]; exact strOf_data' l)
  clear h HO hl hS
  go_enter Try.func6, Try.ntmps6
  go_wp2_with fail
  refine (HI.out _ (HR.out.alloc _)).mono ?_
  rintro e w1 ⟨rfl, hb1⟩
  have hzz := hb1.size
  simp only [World.size_alloc] at hzz
  have k_0 : w1.cell? ⟨w.heap.size, 0, none⟩ = some (.int .i64 (s.w : Int)) := kC hb1 (by simp) (by simp [go_sem])
  have k_1 : w1.cell? ⟨w.heap.size, 1, none⟩ = some (.int .i64 (s.h : Int)) := kC hb1 (by simp) (by simp [go_sem])
  have k_2 : w1.cell? ⟨w.heap.size, 2, none⟩ = some (.int .i64 (s.x : Int)) := kC hb1 (by simp) (by simp [go_sem])
  have k_3 : w1.cell? ⟨w.heap.size, 3, none⟩ = some (.int .i64 (s.y : Int)) := kC hb1 (by simp) (by simp [go_sem])
  have k_4 : w1.cell? ⟨w.heap.size, 4, none⟩ = some (.int .i64 (s.look : Int)) := kC hb1 (by simp) (by simp [go_sem])
  have k_5 : w1.cell? ⟨w.heap.size, 5, none⟩ = some (.int .i64 (s.top : Int)) := kC hb1 (by simp) (by simp [go_sem])
  have k_6 : w1.cell? ⟨w.heap.size, 6, none⟩ = some (.int .i64 (s.bot : Int)) := kC hb1 (by simp) (by simp [go_sem])
  have k_7 : w1.cell? ⟨w.heap.size, 7, none⟩ = some (.int .i64 (s.sx : Int)) := kC hb1 (by simp) (by simp [go_sem])
  have k_8 : w1.cell? ⟨w.heap.size, 8, none⟩ = some (.int .i64 (s.sy : Int)) := kC hb1 (by simp) (by simp [go_sem])
  have k_9 : w1.cell? ⟨w.heap.size, 9, none⟩ = some (.string s.title) := kC hb1 (by simp) (by simp [go_sem])
  have k_10 : w1.cell? ⟨w.heap.size, 10, none⟩ = some (.slice ac s.cells.length cc) := kC hb1 (by simp) (by simp [go_sem])
  have k_11 : w1.cell? ⟨w.heap.size, 11, none⟩ = some (.slice ah s.hist.length dh) := kC hb1 (by simp) (by simp [go_sem])
  have HR1 : Hid (ScrS s ac ah w1) := Lib.hid ((HR.out.alloc _).below hb1)
  have HB1 : Hid (Below w.heap.size w w1) := Lib.hid (((Below.refl _ _).alloc (Nat.le_refl _) _).trans (hb1.mono (by simp)))
  clear hb1
  go_wp2_with fail
  refine (HT.out _ HR1.out).mono ?_
  rintro e w2 ⟨rfl, hb2⟩
  have HB2 := Lib.hid hb2
  clear hb2 k_0 k_1 k_2 k_3 k_4 k_5 k_6 k_7 k_8 k_9 k_10 k_11
  have hcv := cv_run S w2
  go_wp2_with fail
  go_ret2
  refine ⟨some ⟨w2.heap.size, 0, none⟩, cvC S w2, by rw [HSZ.out]; rfl, by rw [← HSD.out]; exact cvW_sl S w2, ?_⟩
  exact HB1.out.trans ((HB2.out.mono HB1.out.size).trans (cvW_below S w2 (Nat.le_trans HB1.out.size HB2.out.size)))
theorem sameScreens_c (s t : Scr) (HO : ScrOK s) (HP : ScrOK t) (ac : Option Addr) (cc : Nat) (ah : Option Addr) (dh : Nat) (bc : Option Addr) (ec : Nat) (bh : Option Addr) (fh : Nat) (w : World) (h : ScrS s ac ah w) (k : ScrS t bc bh w) (hst : scrText s.i = scrText t.i) :
    Calls Try.prog 8 #[scrV s ac cc ah dh, scrV t bc ec bh fh] w fun e w' => e = .returned (.bool true) ∧ Below w.heap.size w w' := by
  have HR := Lib.hid h
  have HQ := Lib.hid k
  have HT : Hid (∀ W, ScrS s ac ah W → Calls Try.prog 6 #[.agg #[.int .i64 (s.w : Int), .int .i64 (s.h : Int), .int .i64 (s.x : Int), .int .i64 (s.y : Int), .int .i64 (s.look : Int), .int .i64 (s.top : Int), .int .i64 (s.bot : Int), .int .i64 (s.sx : Int), .int .i64 (s.sy : Int), .string s.title, .slice ac s.cells.length cc, .slice ah s.hist.length dh]] W (BytesR (scrText s.i) W)) := Lib.hid (fun W hW => specScreenBytes_c s HO ac cc ah dh W hW)
  have HU : Hid (∀ W, ScrS t bc bh W → Calls Try.prog 6 #[.agg #[.int .i64 (t.w : Int), .int .i64 (t.h : Int), .int .i64 (t.x : Int), .int .i64 (t.y : Int), .int .i64 (t.look : Int), .int .i64 (t.top : Int), .int .i64 (t.bot : Int), .int .i64 (t.sx : Int), .int .i64 (t.sy : Int), .string t.title, .slice bc t.cells.length ec, .slice bh t.hist.length fh]] W (BytesR (scrText s.i) W)) := Lib.hid (fun W hW => by rw [hst]; exact specScreenBytes_c t HP bc ec bh fh W hW)
  unfold scrV
  obtain ⟨l, hl⟩ : ∃ l, scrText s.i = l := ⟨_, rfl⟩
  rw [hl] at HT HU
  clear h k HO HP hl hst
  go_enter Try.func8, Try.ntmps8
  go_wp2_with fail
  refine (HT.out _ ((HR.out.alloc _).alloc _)).mono ?_
  rintro e w1 ⟨a1, c1, rfl, hs1, hb1⟩
  have hzz := hb1.size
  simp only [World.size_alloc] at hzz
  have k_0 : w1.cell? ⟨w.heap.size, 0, none⟩ = some (.int .i64 (s.w : Int)) := kC hb1 (by simp; omega) (by simp [go_sem])
  have k_1 : w1.cell? ⟨w.heap.size, 1, none⟩ = some (.int .i64 (s.h : Int)) := kC hb1 (by simp; omega) (by simp [go_sem])
  have k_2 : w1.cell? ⟨w.heap.size, 2, none⟩ = some (.int .i64 (s.x : Int)) := kC hb1 (by simp; omega) (by simp [go_sem])
  have k_3 : w1.cell? ⟨w.heap.size, 3, none⟩ = some (.int .i64 (s.y : Int)) := kC hb1 (by simp; omega) (by simp [go_sem])
  have k_4 : w1.cell? ⟨w.heap.size, 4, none⟩ = some (.int .i64 (s.look : Int)) := kC hb1 (by simp; omega) (by simp [go_sem])
  have k_5 : w1.cell? ⟨w.heap.size, 5, none⟩ = some (.int .i64 (s.top : Int)) := kC hb1 (by simp; omega) (by simp [go_sem])
  have k_6 : w1.cell? ⟨w.heap.size, 6, none⟩ = some (.int .i64 (s.bot : Int)) := kC hb1 (by simp; omega) (by simp [go_sem])
  have k_7 : w1.cell? ⟨w.heap.size, 7, none⟩ = some (.int .i64 (s.sx : Int)) := kC hb1 (by simp; omega) (by simp [go_sem])
  have k_8 : w1.cell? ⟨w.heap.size, 8, none⟩ = some (.int .i64 (s.sy : Int)) := kC hb1 (by simp; omega) (by simp [go_sem])
  have k_9 : w1.cell? ⟨w.heap.size, 9, none⟩ = some (.string s.title) := kC hb1 (by simp; omega) (by simp [go_sem])
  have k_10 : w1.cell? ⟨w.heap.size, 10, none⟩ = some (.slice ac s.cells.length cc) := kC hb1 (by simp; omega) (by simp [go_sem])
  have k_11 : w1.cell? ⟨w.heap.size, 11, none⟩ = some (.slice ah s.hist.length dh) := kC hb1 (by simp; omega) (by simp [go_sem])
  have q_0 : w1.cell? ⟨w.heap.size + 1, 0, none⟩ = some (.int .i64 (t.w : Int)) := kC hb1 (by simp) (by simp [go_sem])
  have q_1 : w1.cell? ⟨w.heap.size + 1, 1, none⟩ = some (.int .i64 (t.h : Int)) := kC hb1 (by simp) (by simp [go_sem])
  have q_2 : w1.cell? ⟨w.heap.size + 1, 2, none⟩ = some (.int .i64 (t.x : Int)) := kC hb1 (by simp) (by simp [go_sem])
  have q_3 : w1.cell? ⟨w.heap.size + 1, 3, none⟩ = some (.int .i64 (t.y : Int)) := kC hb1 (by simp) (by simp [go_sem])
  have q_4 : w1.cell? ⟨w.heap.size + 1, 4, none⟩ = some (.int .i64 (t.look : Int)) := kC hb1 (by simp) (by simp [go_sem])
  have q_5 : w1.cell? ⟨w.heap.size + 1, 5, none⟩ = some (.int .i64 (t.top : Int)) := kC hb1 (by simp) (by simp [go_sem])
  have q_6 : w1.cell? ⟨w.heap.size + 1, 6, none⟩ = some (.int .i64 (t.bot : Int)) := kC hb1 (by simp) (by simp [go_sem])
  have q_7 : w1.cell? ⟨w.heap.size + 1, 7, none⟩ = some (.int .i64 (t.sx : Int)) := kC hb1 (by simp) (by simp [go_sem])
  have q_8 : w1.cell? ⟨w.heap.size + 1, 8, none⟩ = some (.int .i64 (t.sy : Int)) := kC hb1 (by simp) (by simp [go_sem])
  have q_9 : w1.cell? ⟨w.heap.size + 1, 9, none⟩ = some (.string t.title) := kC hb1 (by simp) (by simp [go_sem])
  have q_10 : w1.cell? ⟨w.heap.size + 1, 10, none⟩ = some (.slice bc t.cells.length ec) := kC hb1 (by simp) (by simp [go_sem])
  have q_11 : w1.cell? ⟨w.heap.size + 1, 11, none⟩ = some (.slice bh t.hist.length fh) := kC hb1 (by simp) (by simp [go_sem])
  have HQ1 : Hid (ScrS t bc bh w1) := Lib.hid (((HQ.out.alloc _).alloc _).below hb1)
  have HB1 : Hid (Below w.heap.size w w1) := Lib.hid ((((Below.refl _ _).alloc (Nat.le_refl _) _).alloc (by simp) _).trans (hb1.mono (by simp; omega)))
  have HS1 := Lib.hid hs1
  clear hb1 hs1
  go_wp2_with fail
  refine (HU.out _ HQ1.out).mono ?_
  rintro e w2 ⟨a2, c2, rfl, hs2, hb2⟩
  have HB2 := Lib.hid hb2
  have hs1 := HS1.out.keep hb2
  have hcv1 : (convert 22 9 (.slice a1 l.length c1)).run Try.prog w2 = .ok (.string (strOf l)) w2 := convT hs1
  have hcv2 : (convert 22 9 (.slice a2 l.length c2)).run Try.prog w2 = .ok (.string (strOf l)) w2 := convT hs2
  clear hb2 hs1 hs2 k_0 k_1 k_2 k_3 k_4 k_5 k_6 k_7 k_8 k_9 k_10 k_11 q_0 q_1 q_2 q_3 q_4 q_5 q_6 q_7 q_8 q_9 q_10 q_11
  have he : ((strOf l).toList == (strOf l).toList) = true := beq_self_eq_true _
  generalize strOf l = S at hcv1 hcv2 he
  go_wp2_with fail
  go_ret
  exact ⟨rfl, HB1.out.trans (HB2.out.mono HB1.out.size)⟩
theorem implSameScreen_c (s t : Scr) (HO : ScrOK s) (HP : ScrOK t) (ac : Option Addr) (cc : Nat) (ah : Option Addr) (dh : Nat) (bc : Option Addr) (ec : Nat) (bh : Option Addr) (fh : Nat) (w : World) (h : ScrS s ac ah w) (k : ScrS t bc bh w) (hst : scrText s.i = scrText t.i) (hcc : s.cells.length ≤ cc) (hec : t.cells.length ≤ ec) :
    Calls Try.prog 9 #[scrV s ac cc ah dh, scrV t bc ec bh fh] w fun e w' => e = .returned (.tuple #[.bool true, .int .i64 0]) ∧ Below w.heap.size w w' := by
  have HR := Lib.hid h
  have HQ := Lib.hid k
  have HI : Hid (∀ W, ScrS s ac ah W → Calls Try.prog 13 #[.agg #[.int .i64 (s.w : Int), .int .i64 (s.h : Int), .int .i64 (s.x : Int), .int .i64 (s.y : Int), .int .i64 (s.look : Int), .int .i64 (s.top : Int), .int .i64 (s.bot : Int), .int .i64 (s.sx : Int), .int .i64 (s.sy : Int), .string s.title, .slice ac s.cells.length cc, .slice ah s.hist.length dh]] W fun e w' => e = .returned (.bool true) ∧ Below W.heap.size W w') := Lib.hid (fun W hW => isScr_c s HO ac cc ah dh W hW)
  have HJ : Hid (∀ W, ScrS t bc bh W → Calls Try.prog 13 #[.agg #[.int .i64 (t.w : Int), .int .i64 (t.h : Int), .int .i64 (t.x : Int), .int .i64 (t.y : Int), .int .i64 (t.look : Int), .int .i64 (t.top : Int), .int .i64 (t.bot : Int), .int .i64 (t.sx : Int), .int .i64 (t.sy : Int), .string t.title, .slice bc t.cells.length ec, .slice bh t.hist.length fh]] W fun e w' => e = .returned (.bool true) ∧ Below W.heap.size W w') := Lib.hid (fun W hW => isScr_c t HP bc ec bh fh W hW)
  have HT : Hid (∀ W, ScrS s ac ah W → Calls Try.prog 14 #[.agg #[.int .i64 (s.w : Int), .int .i64 (s.h : Int), .int .i64 (s.x : Int), .int .i64 (s.y : Int), .int .i64 (s.look : Int), .int .i64 (s.top : Int), .int .i64 (s.bot : Int), .int .i64 (s.sx : Int), .int .i64 (s.sy : Int), .string s.title, .slice ac s.cells.length cc, .slice ah s.hist.length dh]] W fun e w' => e = .returned (.string (strOf (scrText s.i))) ∧ Below W.heap.size W w') := Lib.hid (fun W hW => screenText_c s HO ac cc ah dh W hW.cs hW.hs hcc)
  have HU : Hid (∀ W, ScrS t bc bh W → Calls Try.prog 14 #[.agg #[.int .i64 (t.w : Int), .int .i64 (t.h : Int), .int .i64 (t.x : Int), .int .i64 (t.y : Int), .int .i64 (t.look : Int), .int .i64 (t.top : Int), .int .i64 (t.bot : Int), .int .i64 (t.sx : Int), .int .i64 (t.sy : Int), .string t.title, .slice bc t.cells.length ec, .slice bh t.hist.length fh]] W fun e w' => e = .returned (.string (strOf (scrText s.i))) ∧ Below W.heap.size W w') := Lib.hid (fun W hW => by rw [hst]; exact screenText_c t HP bc ec bh fh W hW.cs hW.hs hec)
  unfold scrV
  obtain ⟨S, hl⟩ : ∃ l, strOf (scrText s.i) = l := ⟨_, rfl⟩
  rw [hl] at HT HU
  clear h k HO HP hl hst hcc hec
  go_enter Try.func9, Try.ntmps9
  go_wp2_with fail
  refine (HI.out _ ((HR.out.alloc _).alloc _)).mono ?_
  rintro e w1 ⟨rfl, hb1⟩
  have hzz := hb1.size
  simp only [World.size_alloc] at hzz
  have k_0 : w1.cell? ⟨w.heap.size, 0, none⟩ = some (.int .i64 (s.w : Int)) := kC hb1 (by simp; omega) (by simp [go_sem])
  have k_1 : w1.cell? ⟨w.heap.size, 1, none⟩ = some (.int .i64 (s.h : Int)) := kC hb1 (by simp; omega) (by simp [go_sem])
  have k_2 : w1.cell? ⟨w.heap.size, 2, none⟩ = some (.int .i64 (s.x : Int)) := kC hb1 (by simp; omega) (by simp [go_sem])
  have k_3 : w1.cell? ⟨w.heap.size, 3, none⟩ = some (.int .i64 (s.y : Int)) := kC hb1 (by simp; omega) (by simp [go_sem])
  have k_4 : w1.cell? ⟨w.heap.size, 4, none⟩ = some (.int .i64 (s.look : Int)) := kC hb1 (by simp; omega) (by simp [go_sem])
  have k_5 : w1.cell? ⟨w.heap.size, 5, none⟩ = some (.int .i64 (s.top : Int)) := kC hb1 (by simp; omega) (by simp [go_sem])
  have k_6 : w1.cell? ⟨w.heap.size, 6, none⟩ = some (.int .i64 (s.bot : Int)) := kC hb1 (by simp; omega) (by simp [go_sem])
  have k_7 : w1.cell? ⟨w.heap.size, 7, none⟩ = some (.int .i64 (s.sx : Int)) := kC hb1 (by simp; omega) (by simp [go_sem])
  have k_8 : w1.cell? ⟨w.heap.size, 8, none⟩ = some (.int .i64 (s.sy : Int)) := kC hb1 (by simp; omega) (by simp [go_sem])
  have k_9 : w1.cell? ⟨w.heap.size, 9, none⟩ = some (.string s.title) := kC hb1 (by simp; omega) (by simp [go_sem])
  have k_10 : w1.cell? ⟨w.heap.size, 10, none⟩ = some (.slice ac s.cells.length cc) := kC hb1 (by simp; omega) (by simp [go_sem])
  have k_11 : w1.cell? ⟨w.heap.size, 11, none⟩ = some (.slice ah s.hist.length dh) := kC hb1 (by simp; omega) (by simp [go_sem])
  have q_0 : w1.cell? ⟨w.heap.size + 1, 0, none⟩ = some (.int .i64 (t.w : Int)) := kC hb1 (by simp) (by simp [go_sem])
  have q_1 : w1.cell? ⟨w.heap.size + 1, 1, none⟩ = some (.int .i64 (t.h : Int)) := kC hb1 (by simp) (by simp [go_sem])
  have q_2 : w1.cell? ⟨w.heap.size + 1, 2, none⟩ = some (.int .i64 (t.x : Int)) := kC hb1 (by simp) (by simp [go_sem])
  have q_3 : w1.cell? ⟨w.heap.size + 1, 3, none⟩ = some (.int .i64 (t.y : Int)) := kC hb1 (by simp) (by simp [go_sem])
  have q_4 : w1.cell? ⟨w.heap.size + 1, 4, none⟩ = some (.int .i64 (t.look : Int)) := kC hb1 (by simp) (by simp [go_sem])
  have q_5 : w1.cell? ⟨w.heap.size + 1, 5, none⟩ = some (.int .i64 (t.top : Int)) := kC hb1 (by simp) (by simp [go_sem])
  have q_6 : w1.cell? ⟨w.heap.size + 1, 6, none⟩ = some (.int .i64 (t.bot : Int)) := kC hb1 (by simp) (by simp [go_sem])
  have q_7 : w1.cell? ⟨w.heap.size + 1, 7, none⟩ = some (.int .i64 (t.sx : Int)) := kC hb1 (by simp) (by simp [go_sem])
  have q_8 : w1.cell? ⟨w.heap.size + 1, 8, none⟩ = some (.int .i64 (t.sy : Int)) := kC hb1 (by simp) (by simp [go_sem])
  have q_9 : w1.cell? ⟨w.heap.size + 1, 9, none⟩ = some (.string t.title) := kC hb1 (by simp) (by simp [go_sem])
  have q_10 : w1.cell? ⟨w.heap.size + 1, 10, none⟩ = some (.slice bc t.cells.length ec) := kC hb1 (by simp) (by simp [go_sem])
  have q_11 : w1.cell? ⟨w.heap.size + 1, 11, none⟩ = some (.slice bh t.hist.length fh) := kC hb1 (by simp) (by simp [go_sem])
  have HR1 : Hid (ScrS s ac ah w1) := Lib.hid (((HR.out.alloc _).alloc _).below hb1)
  have HQ1 : Hid (ScrS t bc bh w1) := Lib.hid (((HQ.out.alloc _).alloc _).below hb1)
  have HB1 : Hid (Below w.heap.size w w1) := Lib.hid ((((Below.refl _ _).alloc (Nat.le_refl _) _).alloc (by simp) _).trans (hb1.mono (by simp; omega)))
  clear hb1
  go_wp2_with fail
  refine (HJ.out _ HQ1.out).mono ?_
  rintro e x0 ⟨rfl, hb2⟩
  have HB2 := Lib.hid hb2
  have hzz2 := hb2.size
  have HSB : Hid (∀ x, Below x0.heap.size x0 x → x.cell? ⟨w.heap.size, 0, none⟩ = some (.int .i64 (s.w : Int)) ∧ x.cell? ⟨w.heap.size, 1, none⟩ = some (.int .i64 (s.h : Int)) ∧ x.cell? ⟨w.heap.size, 2, none⟩ = some (.int .i64 (s.x : Int)) ∧ x.cell? ⟨w.heap.size, 3, none⟩ = some (.int .i64 (s.y : Int)) ∧ x.cell? ⟨w.heap.size, 4, none⟩ = some (.int .i64 (s.look : Int)) ∧ x.cell? ⟨w.heap.size, 5, none⟩ = some (.int .i64 (s.top : Int)) ∧ x.cell? ⟨w.heap.size, 6, none⟩ = some (.int .i64 (s.bot : Int)) ∧ x.cell? ⟨w.heap.size, 7, none⟩ = some (.int .i64 (s.sx : Int)) ∧ x.cell? ⟨w.heap.size, 8, none⟩ = some (.int .i64 (s.sy : Int)) ∧ x.cell? ⟨w.heap.size, 9, none⟩ = some (.string s.title) ∧ x.cell? ⟨w.heap.size, 10, none⟩ = some (.slice ac s.cells.length cc) ∧ x.cell? ⟨w.heap.size, 11, none⟩ = some (.slice ah s.hist.length dh) ∧ x.cell? ⟨w.heap.size + 1, 0, none⟩ = some (.int .i64 (t.w : Int)) ∧ x.cell? ⟨w.heap.size + 1, 1, none⟩ = some (.int .i64 (t.h : Int)) ∧ x.cell? ⟨w.heap.size + 1, 2, none⟩ = some (.int .i64 (t.x : Int)) ∧ x.cell? ⟨w.heap.size + 1, 3, none⟩ = some (.int .i64 (t.y : Int)) ∧ x.cell? ⟨w.heap.size + 1, 4, none⟩ = some (.int .i64 (t.look : Int)) ∧ x.cell? ⟨w.heap.size + 1, 5, none⟩ = some (.int .i64 (t.top : Int)) ∧ x.cell? ⟨w.heap.size + 1, 6, none⟩ = some (.int .i64 (t.bot : Int)) ∧ x.cell? ⟨w.heap.size + 1, 7, none⟩ = some (.int .i64 (t.sx : Int)) ∧ x.cell? ⟨w.heap.size + 1, 8, none⟩ = some (.int .i64 (t.sy : Int)) ∧ x.cell? ⟨w.heap.size + 1, 9, none⟩ = some (.string t.title) ∧ x.cell? ⟨w.heap.size + 1, 10, none⟩ = some (.slice bc t.cells.length ec) ∧ x.cell? ⟨w.heap.size + 1, 11, none⟩ = some (.slice bh t.hist.length fh)) := Lib.hid (fun x h => by
    have h' : Below w1.heap.size w1 x := HB2.out.trans (h.mono HB2.out.size)
    exact ⟨(h'.cell (p := ⟨w.heap.size, 0, none⟩) (by show w.heap.size < _; omega)).trans k_0, (h'.cell (p := ⟨w.heap.size, 1, none⟩) (by show w.heap.size < _; omega)).trans k_1, (h'.cell (p := ⟨w.heap.size, 2, none⟩) (by show w.heap.size < _; omega)).trans k_2, (h'.cell (p := ⟨w.heap.size, 3, none⟩) (by show w.heap.size < _; omega)).trans k_3, (h'.cell (p := ⟨w.heap.size, 4, none⟩) (by show w.heap.size < _; omega)).trans k_4, (h'.cell (p := ⟨w.heap.size, 5, none⟩) (by show w.heap.size < _; omega)).trans k_5, (h'.cell (p := ⟨w.heap.size, 6, none⟩) (by show w.heap.size < _; omega)).trans k_6, (h'.cell (p := ⟨w.heap.size, 7, none⟩) (by show w.heap.size < _; omega)).trans k_7, (h'.cell (p := ⟨w.heap.size, 8, none⟩) (by show w.heap.size < _; omega)).trans k_8, (h'.cell (p := ⟨w.heap.size, 9, none⟩) (by show w.heap.size < _; omega)).trans k_9, (h'.cell (p := ⟨w.heap.size, 10, none⟩) (by show w.heap.size < _; omega)).trans k_10, (h'.cell (p := ⟨w.heap.size, 11, none⟩) (by show w.heap.size < _; omega)).trans k_11, (h'.cell (p := ⟨w.heap.size + 1, 0, none⟩) (by show w.heap.size + 1 < _; omega)).trans q_0, (h'.cell (p := ⟨w.heap.size + 1, 1, none⟩) (by show w.heap.size + 1 < _; omega)).trans q_1, (h'.cell (p := ⟨w.heap.size + 1, 2, none⟩) (by show w.heap.size + 1 < _; omega)).trans q_2, (h'.cell (p := ⟨w.heap.size + 1, 3, none⟩) (by show w.heap.size + 1 < _; omega)).trans q_3, (h'.cell (p := ⟨w.heap.size + 1, 4, none⟩) (by show w.heap.size + 1 < _; omega)).trans q_4, (h'.cell (p := ⟨w.heap.size + 1, 5, none⟩) (by show w.heap.size + 1 < _; omega)).trans q_5, (h'.cell (p := ⟨w.heap.size + 1, 6, none⟩) (by show w.heap.size + 1 < _; omega)).trans q_6, (h'.cell (p := ⟨w.heap.size + 1, 7, none⟩) (by show w.heap.size + 1 < _; omega)).trans q_7, (h'.cell (p := ⟨w.heap.size + 1, 8, none⟩) (by show w.heap.size + 1 < _; omega)).trans q_8, (h'.cell (p := ⟨w.heap.size + 1, 9, none⟩) (by show w.heap.size + 1 < _; omega)).trans q_9, (h'.cell (p := ⟨w.heap.size + 1, 10, none⟩) (by show w.heap.size + 1 < _; omega)).trans q_10, (h'.cell (p := ⟨w.heap.size + 1, 11, none⟩) (by show w.heap.size + 1 < _; omega)).trans q_11⟩)
  clear hb2 k_0 k_1 k_2 k_3 k_4 k_5 k_6 k_7 k_8 k_9 k_10 k_11 q_0 q_1 q_2 q_3 q_4 q_5 q_6 q_7 q_8 q_9 q_10 q_11
  have he : (S.toList == S.toList) = true := beq_self_eq_true _
  go_upto_region 3 with fail
  have hS0 := HSB.out x0 (Below.refl _ _)
  refine wp_region_G (fun w' => w'.cell? ⟨w.heap.size, 0, none⟩ = some (.int .i64 (s.w : Int)) ∧ w'.cell? ⟨w.heap.size, 1, none⟩ = some (.int .i64 (s.h : Int)) ∧ w'.cell? ⟨w.heap.size, 2, none⟩ = some (.int .i64 (s.x : Int)) ∧ w'.cell? ⟨w.heap.size, 3, none⟩ = some (.int .i64 (s.y : Int)) ∧ w'.cell? ⟨w.heap.size, 4, none⟩ = some (.int .i64 (s.look : Int)) ∧ w'.cell? ⟨w.heap.size, 5, none⟩ = some (.int .i64 (s.top : Int)) ∧ w'.cell? ⟨w.heap.size, 6, none⟩ = some (.int .i64 (s.bot : Int)) ∧ w'.cell? ⟨w.heap.size, 7, none⟩ = some (.int .i64 (s.sx : Int)) ∧ w'.cell? ⟨w.heap.size, 8, none⟩ = some (.int .i64 (s.sy : Int)) ∧ w'.cell? ⟨w.heap.size, 9, none⟩ = some (.string s.title) ∧ w'.cell? ⟨w.heap.size, 10, none⟩ = some (.slice ac s.cells.length cc) ∧ w'.cell? ⟨w.heap.size, 11, none⟩ = some (.slice ah s.hist.length dh) ∧ w'.cell? ⟨w.heap.size + 1, 0, none⟩ = some (.int .i64 (t.w : Int)) ∧ w'.cell? ⟨w.heap.size + 1, 1, none⟩ = some (.int .i64 (t.h : Int)) ∧ w'.cell? ⟨w.heap.size + 1, 2, none⟩ = some (.int .i64 (t.x : Int)) ∧ w'.cell? ⟨w.heap.size + 1, 3, none⟩ = some (.int .i64 (t.y : Int)) ∧ w'.cell? ⟨w.heap.size + 1, 4, none⟩ = some (.int .i64 (t.look : Int)) ∧ w'.cell? ⟨w.heap.size + 1, 5, none⟩ = some (.int .i64 (t.top : Int)) ∧ w'.cell? ⟨w.heap.size + 1, 6, none⟩ = some (.int .i64 (t.bot : Int)) ∧ w'.cell? ⟨w.heap.size + 1, 7, none⟩ = some (.int .i64 (t.sx : Int)) ∧ w'.cell? ⟨w.heap.size + 1, 8, none⟩ = some (.int .i64 (t.sy : Int)) ∧ w'.cell? ⟨w.heap.size + 1, 9, none⟩ = some (.string t.title) ∧ w'.cell? ⟨w.heap.size + 1, 10, none⟩ = some (.slice bc t.cells.length ec) ∧ w'.cell? ⟨w.heap.size + 1, 11, none⟩ = some (.slice bh t.hist.length fh)) (fun i => false) (by kernel_rfl) hS0 ?_
  refine tL ?_ 0 rfl hS0 ?_ ?_; rotate_left
  · intro w' hSw; obtain ⟨s0, s1, s2, s3, s4, s5, s6, s7, s8, s9, s10, s11, s12, s13, s14, s15, s16, s17, s18, s19, s20, s21, s22, s23⟩ := hSw; go_simp; try rfl
  try simp only [Act.put,j1,j2,j3,j4,j5,j6]
  refine tL ?_ 2 rfl hS0 ?_ ?_; rotate_left
  · intro w' hSw; obtain ⟨s0, s1, s2, s3, s4, s5, s6, s7, s8, s9, s10, s11, s12, s13, s14, s15, s16, s17, s18, s19, s20, s21, s22, s23⟩ := hSw; go_simp; try rfl
  try simp only [Act.put,j1,j2,j3,j4,j5,j6]
  refine wpAnyG_one (i := 1) (by kernel_rfl) rfl hS0 (fun K' hK => ?_)
  simp only [j1,j2,j3]
  go_simp
  go_at_call 14
  refine (HT.out _ ((HR1.out.below HB2.out).drew)).mono ?_
  rintro e x2 ⟨rfl, hbc⟩
  have HC2 : Hid (Below x0.heap.size x0 x2) := Lib.hid (((Below.refl _ _).drew).trans (by simpa using hbc))
  clear hbc
  refine hK.out _ _ (Or.inr (HSB.out x2 HC2.out)) ?_
  clear hK K'
  try simp only [Act.put,j1,j2,j3,j4,j5,j6]
  refine wpAnyG_one (i := 3) (by kernel_rfl) rfl ((HSB.out x2 HC2.out)) (fun K' hK => ?_)
  simp only [j1,j2,j3]
  go_simp
  go_at_call 14
  refine (HU.out _ ((HQ1.out.below HB2.out).below HC2.out)).mono ?_
  rintro e x3 ⟨rfl, hbc⟩
  have HC3 : Hid (Below x0.heap.size x0 x3) := Lib.hid (HC2.out.trans (hbc.mono HC2.out.size))
  clear hbc
  refine hK.out _ _ (Or.inr (HSB.out x3 HC3.out)) ?_
  clear hK K'
  try simp only [Act.put,j1,j2,j3,j4,j5,j6]
  refine tW ?_ 4 rfl ?_ ?_; rotate_left
  · intro w' hSw; go_simp; try rfl
  try simp only [Act.put,j1,j2,j3,j4,j5,j6]
  refine tW ?_ 5 rfl ?_ ?_; rotate_left
  · intro w' hSw; go_simp; try rfl
  try simp only [Act.put,j1,j2,j3,j4,j5,j6]
  refine tW ?_ 6 rfl ?_ ?_; rotate_left
  · intro w' hSw; go_simp; try rfl
  try simp only [Act.put,j1,j2,j3,j4,j5,j6]
  refine wpAnyG_done (by kernel_rfl) ?_ _
  go_wp2_with fail
  go_ret2
  exact ⟨rfl, HB1.out.trans ((HB2.out.trans (HC3.out.mono HB2.out.size)).mono HB1.out.size)⟩
end
section
open Go.RowKit
theorem hcapF {α : Type} {enc : α → List Value} {e : TypeId} {sz B : Nat} {a : Option Addr} {c : Nat} {xs : List α} {w : World} (h : Fresh enc e sz B (.slice a xs.length c) xs w) : xs.length ≤ c := by
  obtain ⟨a', c', hv, h1, _⟩ := h
  cases hv
  exact h1
def RdR (l : List UInt8) (w : World) (e : Ending) (w' : World) : Prop :=
  (NoScr l ∧ (∃ s ac cc ah dh, e = .returned (.tuple #[scrVI s ac cc ah dh, .bool false])) ∧ Below w.heap.size w w') ∨
  (∃ u ac cc ah dh, ScrOK u ∧ ScrIs l u.i ∧ e = .returned (.tuple #[scrV u ac cc ah dh, .bool true]) ∧ ScrF w.heap.size u ac cc ah dh w' ∧ Below w.heap.size w w')
theorem RdR.no {l : List UInt8} {w w' : World} (h : NoScr l) (hb : Below w.heap.size w w') : RdR l w (.returned (.tuple #[.agg #[.int .i64 0, .int .i64 0, .int .i64 0, .int .i64 0, .int .i64 0, .int .i64 0, .int .i64 0, .int .i64 0, .int .i64 0, .string ⟨#[]⟩, .slice none 0 0, .slice none 0 0], .bool false])) w' :=
  .inl ⟨h, ⟨⟨0, 0, 0, 0, 0, 0, 0, 0, 0, ⟨#[]⟩, [], []⟩, none, 0, none, 0, rfl⟩, hb⟩
theorem readScreen_n1 (l : List UInt8) (w : World) (hl : l.length ≤ 65536) (hn : ∀ F, rdAll l = some F → F.length < 3) : Calls Try.prog 18 #[.string (strOf l)] w (RdR l w) := by
  cases ho : rdAll l with
  | none =>
    have HNO := Lib.hid (NoScr.none ho)
    have HO := Lib.hid ho
    clear ho hn
    go_enter Try.func18, Try.ntmps18
    go_wp2_with fail
    refine (readFields_c l _ hl).mono ?_
    rw [HO.out]
    rintro e w1 ⟨aF, cF, F, rfl, hfF, hF, hb1⟩
    have z1_0 : w1.cell? ⟨w.heap.size, 0, none⟩ = some (.int .i64 0) := kC hb1 (by simp) (by simp [go_sem])
    have z1_1 : w1.cell? ⟨w.heap.size, 1, none⟩ = some (.int .i64 0) := kC hb1 (by simp) (by simp [go_sem])
    have z1_2 : w1.cell? ⟨w.heap.size, 2, none⟩ = some (.int .i64 0) := kC hb1 (by simp) (by simp [go_sem])
    have z1_3 : w1.cell? ⟨w.heap.size, 3, none⟩ = some (.int .i64 0) := kC hb1 (by simp) (by simp [go_sem])
    have z1_4 : w1.cell? ⟨w.heap.size, 4, none⟩ = some (.int .i64 0) := kC hb1 (by simp) (by simp [go_sem])
    have z1_5 : w1.cell? ⟨w.heap.size, 5, none⟩ = some (.int .i64 0) := kC hb1 (by simp) (by simp [go_sem])
    have z1_6 : w1.cell? ⟨w.heap.size, 6, none⟩ = some (.int .i64 0) := kC hb1 (by simp) (by simp [go_sem])
    have z1_7 : w1.cell? ⟨w.heap.size, 7, none⟩ = some (.int .i64 0) := kC hb1 (by simp) (by simp [go_sem])
    have z1_8 : w1.cell? ⟨w.heap.size, 8, none⟩ = some (.int .i64 0) := kC hb1 (by simp) (by simp [go_sem])
    have z1_9 : w1.cell? ⟨w.heap.size, 9, none⟩ = some (.string ⟨#[]⟩) := kC hb1 (by simp) (by simp [go_sem])
    have z1_10 : w1.cell? ⟨w.heap.size, 10, none⟩ = some (.slice none 0 0) := kC hb1 (by simp) (by simp [go_sem])
    have z1_11 : w1.cell? ⟨w.heap.size, 11, none⟩ = some (.slice none 0 0) := kC hb1 (by simp) (by simp [go_sem])
    have z1_l : w.heap.size < w1.heap.size := (by have := hb1.size; simp at this; omega)
    have z1_f : ∀ o, w1.frozen? ⟨w.heap.size, o, none⟩ = false := fun o => (hb1.frozen (p := ⟨w.heap.size, o, none⟩) (by show w.heap.size < _; simp)).trans (by simp [go_sem])
    have hz1L : w.heap.size < w1.heap.size := by have := hb1.size; simp at this; omega
    have HB1 : Hid (Below w.heap.size w w1) := Lib.hid (((Below.refl _ _).alloc (Nat.le_refl _) _).trans (hb1.mono (by simp)))
    clear hfF hF hb1
    go_wp2_with fail
    refine bodyPost_ret (v := .tuple #[.agg #[.int .i64 0, .int .i64 0, .int .i64 0, .int .i64 0, .int .i64 0, .int .i64 0, .int .i64 0, .int .i64 0, .int .i64 0, .string ⟨#[]⟩, .slice none 0 0, .slice none 0 0], .bool false]) (by simp [results, Try.results18, go_sem, z1_0, z1_1, z1_2, z1_3, z1_4, z1_5, z1_6, z1_7, z1_8, z1_9, z1_10, z1_11, z1_f]) rfl ?_
    exact RdR.no HNO.out ((b12 HB1.out))
  | some F0 =>
    have h3 := hn F0 ho
    have HNO := Lib.hid (NoScr.short ho h3)
    have HO := Lib.hid ho
    have H3 := Lib.hid h3
    clear ho h3 hn
    go_enter Try.func18, Try.ntmps18
    go_wp2_with fail
    refine (readFields_c l _ hl).mono ?_
    rw [HO.out]
    rintro e w1 ⟨aF, cF, F, rfl, hfF, hF, hb1⟩
    have z1_0 : w1.cell? ⟨w.heap.size, 0, none⟩ = some (.int .i64 0) := kC hb1 (by simp) (by simp [go_sem])
    have z1_1 : w1.cell? ⟨w.heap.size, 1, none⟩ = some (.int .i64 0) := kC hb1 (by simp) (by simp [go_sem])
    have z1_2 : w1.cell? ⟨w.heap.size, 2, none⟩ = some (.int .i64 0) := kC hb1 (by simp) (by simp [go_sem])
    have z1_3 : w1.cell? ⟨w.heap.size, 3, none⟩ = some (.int .i64 0) := kC hb1 (by simp) (by simp [go_sem])
    have z1_4 : w1.cell? ⟨w.heap.size, 4, none⟩ = some (.int .i64 0) := kC hb1 (by simp) (by simp [go_sem])
    have z1_5 : w1.cell? ⟨w.heap.size, 5, none⟩ = some (.int .i64 0) := kC hb1 (by simp) (by simp [go_sem])
    have z1_6 : w1.cell? ⟨w.heap.size, 6, none⟩ = some (.int .i64 0) := kC hb1 (by simp) (by simp [go_sem])
    have z1_7 : w1.cell? ⟨w.heap.size, 7, none⟩ = some (.int .i64 0) := kC hb1 (by simp) (by simp [go_sem])
    have z1_8 : w1.cell? ⟨w.heap.size, 8, none⟩ = some (.int .i64 0) := kC hb1 (by simp) (by simp [go_sem])
    have z1_9 : w1.cell? ⟨w.heap.size, 9, none⟩ = some (.string ⟨#[]⟩) := kC hb1 (by simp) (by simp [go_sem])
    have z1_10 : w1.cell? ⟨w.heap.size, 10, none⟩ = some (.slice none 0 0) := kC hb1 (by simp) (by simp [go_sem])
    have z1_11 : w1.cell? ⟨w.heap.size, 11, none⟩ = some (.slice none 0 0) := kC hb1 (by simp) (by simp [go_sem])
    have z1_l : w.heap.size < w1.heap.size := (by have := hb1.size; simp at this; omega)
    have z1_f : ∀ o, w1.frozen? ⟨w.heap.size, o, none⟩ = false := fun o => (hb1.frozen (p := ⟨w.heap.size, o, none⟩) (by show w.heap.size < _; simp)).trans (by simp [go_sem])
    have hz1L : w.heap.size < w1.heap.size := by have := hb1.size; simp at this; omega
    have HB1 : Hid (Below w.heap.size w w1) := Lib.hid (((Below.refl _ _).alloc (Nat.le_refl _) _).trans (hb1.mono (by simp)))
    have h3 : (F.length : Int) < 3 := by
      rw [hF F0 rfl]
      have := H3.out
      omega
    clear hfF hF hb1
    go_wp2_with fail
    refine bodyPost_ret (v := .tuple #[.agg #[.int .i64 0, .int .i64 0, .int .i64 0, .int .i64 0, .int .i64 0, .int .i64 0, .int .i64 0, .int .i64 0, .int .i64 0, .string ⟨#[]⟩, .slice none 0 0, .slice none 0 0], .bool false]) (by simp [results, Try.results18, go_sem, z1_0, z1_1, z1_2, z1_3, z1_4, z1_5, z1_6, z1_7, z1_8, z1_9, z1_10, z1_11, z1_f]) rfl ?_
    exact RdR.no HNO.out ((b12 HB1.out))
theorem readScreen_n2 (l : List UInt8) (w : World) (hl : l.length ≤ 65536) (a t hh : ByteArray) (rows : List ByteArray) (ho : rdAll l = some (a :: t :: hh :: rows)) (h27 : a.data.toList.length ≠ 27) : Calls Try.prog 18 #[.string (strOf l)] w (RdR l w) := by
  obtain ⟨hlf, hln, hsz⟩ := rdAll_canon ho
  have hln' : rows.length ≤ 57 := by simp only [List.length_cons] at hln; omega
  have ha2 : a.size ≤ 20000 := hsz a (by simp)
  have hh2 : hh.size ≤ 20000 := hsz hh (by simp)
  have HRS : Hid (∀ r ∈ rows, r.size ≤ 20000) := Lib.hid (fun r hr => hsz r (by simp [hr]))
  clear hlf hsz hln
  have HSN : Hid (∀ W, Calls Try.prog 44 #[.string a, .int .i64 9] W (NumsR (someN a.data.toList 9) W)) := Lib.hid (fun W => by
    have h := someNumbers_c a.data.toList 9 W (by have : a.data.toList.length = a.size := rfl; omega) (by omega)
    rw [strOf_data] at h
    exact h)
  have HRF : Hid (∀ W, Calls Try.prog 43 #[.string hh] W (ReadR (rdAll hh.data.toList) W)) := Lib.hid (fun W => by
    have h := readFields_c hh.data.toList W (by have : hh.data.toList.length = hh.size := rfl; omega)
    rw [strOf_data] at h
    exact h)
  have HO := Lib.hid ho
  clear ho
  have HNO := Lib.hid (NoScr.nums HO.out h27)
  have HV : Hid (someN a.data.toList 9 = none) := Lib.hid (by rw [someN, if_neg (by omega)])
  obtain ⟨o2, ho2⟩ : ∃ o, rdAll hh.data.toList = o := ⟨_, rfl⟩
  have HV2 := Lib.hid ho2
  clear ho2 h27
  go_enter Try.func18, Try.ntmps18
  go_wp2_with fail
  refine (readFields_c l _ hl).mono ?_
  rw [HO.out]
  rintro e w1 ⟨aF, cF, F, rfl, hfF, hF, hb1⟩
  have z1_0 : w1.cell? ⟨w.heap.size, 0, none⟩ = some (.int .i64 0) := kC hb1 (by simp) (by simp [go_sem])
  have z1_1 : w1.cell? ⟨w.heap.size, 1, none⟩ = some (.int .i64 0) := kC hb1 (by simp) (by simp [go_sem])
  have z1_2 : w1.cell? ⟨w.heap.size, 2, none⟩ = some (.int .i64 0) := kC hb1 (by simp) (by simp [go_sem])
  have z1_3 : w1.cell? ⟨w.heap.size, 3, none⟩ = some (.int .i64 0) := kC hb1 (by simp) (by simp [go_sem])
  have z1_4 : w1.cell? ⟨w.heap.size, 4, none⟩ = some (.int .i64 0) := kC hb1 (by simp) (by simp [go_sem])
  have z1_5 : w1.cell? ⟨w.heap.size, 5, none⟩ = some (.int .i64 0) := kC hb1 (by simp) (by simp [go_sem])
  have z1_6 : w1.cell? ⟨w.heap.size, 6, none⟩ = some (.int .i64 0) := kC hb1 (by simp) (by simp [go_sem])
  have z1_7 : w1.cell? ⟨w.heap.size, 7, none⟩ = some (.int .i64 0) := kC hb1 (by simp) (by simp [go_sem])
  have z1_8 : w1.cell? ⟨w.heap.size, 8, none⟩ = some (.int .i64 0) := kC hb1 (by simp) (by simp [go_sem])
  have z1_9 : w1.cell? ⟨w.heap.size, 9, none⟩ = some (.string ⟨#[]⟩) := kC hb1 (by simp) (by simp [go_sem])
  have z1_10 : w1.cell? ⟨w.heap.size, 10, none⟩ = some (.slice none 0 0) := kC hb1 (by simp) (by simp [go_sem])
  have z1_11 : w1.cell? ⟨w.heap.size, 11, none⟩ = some (.slice none 0 0) := kC hb1 (by simp) (by simp [go_sem])
  have z1_l : w.heap.size < w1.heap.size := (by have := hb1.size; simp at this; omega)
  have z1_f : ∀ o, w1.frozen? ⟨w.heap.size, o, none⟩ = false := fun o => (hb1.frozen (p := ⟨w.heap.size, o, none⟩) (by show w.heap.size < _; simp)).trans (by simp [go_sem])
  have hz1L : w.heap.size < w1.heap.size := by have := hb1.size; simp at this; omega
  have HB1 : Hid (Below w.heap.size w w1) := Lib.hid (((Below.refl _ _).alloc (Nat.le_refl _) _).trans (hb1.mono (by simp)))
  have hF' := hF _ rfl
  have hSF : Sl strE 1 w1 aF F := hfF.sl (fun _ => rfl)
  rw [hF'] at hSF
  have hnF : F.length = rows.length + 3 := by rw [hF']; rfl
  have hcF' : F.length ≤ cF := hcapF hfF
  clear hfF hF hF'
  generalize F.length = nF at *
  subst hnF
  obtain ⟨bF, oF, rfl, hbF, hcF⟩ := hSF.at (i := 0) (by simp)
  have HSF := Lib.hid hSF
  have hge3 : ¬ ((rows.length : Int) + 3 < 3) := by omega
  have d2_0 : w1.cell? ⟨bF, oF, none⟩ = some (.string a) := (by have := hcF 0 (by simp) 0 (by omega); simpa [strE] using this)
  have d2_1 : w1.cell? ⟨bF, oF + 1, none⟩ = some (.string t) := (by have := hcF 1 (by simp) 0 (by omega); simpa [strE] using this)
  have d2_2 : w1.cell? ⟨bF, oF + 2, none⟩ = some (.string hh) := (by have := hcF 2 (by simp) 0 (by omega); simpa [strE] using this)
  have d2_l : bF < w1.heap.size := hbF
  clear hcF hSF hbF hb1
  go_wp2_with fail
  refine (HSN.out _).mono ?_
  rw [HV.out]
  rintro e w2 ⟨aN, cN, N, rfl, hfN, hN, hb2⟩
  have z3_0 := kC hb2 z1_l z1_0
  have z3_1 := kC hb2 z1_l z1_1
  have z3_2 := kC hb2 z1_l z1_2
  have z3_3 := kC hb2 z1_l z1_3
  have z3_4 := kC hb2 z1_l z1_4
  have z3_5 := kC hb2 z1_l z1_5
  have z3_6 := kC hb2 z1_l z1_6
  have z3_7 := kC hb2 z1_l z1_7
  have z3_8 := kC hb2 z1_l z1_8
  have z3_9 := kC hb2 z1_l z1_9
  have z3_10 := kC hb2 z1_l z1_10
  have z3_11 := kC hb2 z1_l z1_11
  have z3_l := Nat.lt_of_lt_of_le z1_l hb2.size
  have z3_f := fun o => kF hb2 z1_l (z1_f o)
  clear z1_0 z1_1 z1_2 z1_3 z1_4 z1_5 z1_6 z1_7 z1_8 z1_9 z1_10 z1_11 z1_l z1_f
  have d4_0 := kC hb2 d2_l d2_0
  have d4_1 := kC hb2 d2_l d2_1
  have d4_2 := kC hb2 d2_l d2_2
  have d4_l := Nat.lt_of_lt_of_le d2_l hb2.size
  clear d2_0 d2_1 d2_2 d2_l
  have HZ2 : Hid (w.heap.size < w1.heap.size ∧ w1.heap.size ≤ w2.heap.size) := Lib.hid ⟨by have := hz1L; omega, hb2.size⟩
  have HB2 : Hid (Below w.heap.size w w2) := Lib.hid (HB1.out.trans (hb2.mono HB1.out.size))
  have HSF2 := Lib.hid (HSF.out.keep hb2)
  clear hfN hN hb2
  go_wp2_with fail
  refine (HRF.out _).mono ?_
  rw [HV2.out]
  rintro e w3 ⟨aH, cH, hs, rfl, hfH, hH, hb3⟩
  have z5_0 := kC hb3 z3_l z3_0
  have z5_1 := kC hb3 z3_l z3_1
  have z5_2 := kC hb3 z3_l z3_2
  have z5_3 := kC hb3 z3_l z3_3
  have z5_4 := kC hb3 z3_l z3_4
  have z5_5 := kC hb3 z3_l z3_5
  have z5_6 := kC hb3 z3_l z3_6
  have z5_7 := kC hb3 z3_l z3_7
  have z5_8 := kC hb3 z3_l z3_8
  have z5_9 := kC hb3 z3_l z3_9
  have z5_10 := kC hb3 z3_l z3_10
  have z5_11 := kC hb3 z3_l z3_11
  have z5_l := Nat.lt_of_lt_of_le z3_l hb3.size
  have z5_f := fun o => kF hb3 z3_l (z3_f o)
  clear z3_0 z3_1 z3_2 z3_3 z3_4 z3_5 z3_6 z3_7 z3_8 z3_9 z3_10 z3_11 z3_l z3_f
  have d6_0 := kC hb3 d4_l d4_0
  have d6_1 := kC hb3 d4_l d4_1
  have d6_2 := kC hb3 d4_l d4_2
  have d6_l := Nat.lt_of_lt_of_le d4_l hb3.size
  clear d4_0 d4_1 d4_2 d4_l
  have HZ3 : Hid (w2.heap.size ≤ w3.heap.size) := Lib.hid hb3.size
  have HB3 : Hid (Below w.heap.size w w3) := Lib.hid (HB2.out.trans (hb3.mono HB2.out.size))
  have HSF3 := Lib.hid (HSF2.out.keep hb3)
  clear hfH hH hb3
  go_wp2_with fail
  refine bodyPost_ret (v := .tuple #[.agg #[.int .i64 0, .int .i64 0, .int .i64 0, .int .i64 0, .int .i64 0, .int .i64 0, .int .i64 0, .int .i64 0, .int .i64 0, .string ⟨#[]⟩, .slice none 0 0, .slice none 0 0], .bool false]) (by simp [results, Try.results18, go_sem, z5_0, z5_1, z5_2, z5_3, z5_4, z5_5, z5_6, z5_7, z5_8, z5_9, z5_10, z5_11, z5_f]) rfl ?_
  exact RdR.no HNO.out ((b12 HB3.out))
theorem readScreen_n3 (l : List UInt8) (w : World) (hl : l.length ≤ 65536) (a t hh : ByteArray) (rows : List ByteArray) (ho : rdAll l = some (a :: t :: hh :: rows)) (h27 : a.data.toList.length = 27) (hv2 : rdAll hh.data.toList = none) : Calls Try.prog 18 #[.string (strOf l)] w (RdR l w) := by
  obtain ⟨hlf, hln, hsz⟩ := rdAll_canon ho
  have hln' : rows.length ≤ 57 := by simp only [List.length_cons] at hln; omega
  have ha2 : a.size ≤ 20000 := hsz a (by simp)
  have hh2 : hh.size ≤ 20000 := hsz hh (by simp)
  have HRS : Hid (∀ r ∈ rows, r.size ≤ 20000) := Lib.hid (fun r hr => hsz r (by simp [hr]))
  clear hlf hsz hln
  have HSN : Hid (∀ W, Calls Try.prog 44 #[.string a, .int .i64 9] W (NumsR (someN a.data.toList 9) W)) := Lib.hid (fun W => by
    have h := someNumbers_c a.data.toList 9 W (by have : a.data.toList.length = a.size := rfl; omega) (by omega)
    rw [strOf_data] at h
    exact h)
  have HRF : Hid (∀ W, Calls Try.prog 43 #[.string hh] W (ReadR (rdAll hh.data.toList) W)) := Lib.hid (fun W => by
    have h := readFields_c hh.data.toList W (by have : hh.data.toList.length = hh.size := rfl; omega)
    rw [strOf_data] at h
    exact h)
  have HO := Lib.hid ho
  clear ho
  have HV : Hid (someN a.data.toList 9 = some (rnF 9 a.data.toList)) := Lib.hid (by rw [someN, if_pos (by omega)])
  have HNO := Lib.hid (NoScr.hist HO.out hv2)
  have HV2 := Lib.hid hv2
  clear hv2 h27
  go_enter Try.func18, Try.ntmps18
  go_wp2_with fail
  refine (readFields_c l _ hl).mono ?_
  rw [HO.out]
  rintro e w1 ⟨aF, cF, F, rfl, hfF, hF, hb1⟩
  have z1_0 : w1.cell? ⟨w.heap.size, 0, none⟩ = some (.int .i64 0) := kC hb1 (by simp) (by simp [go_sem])
  have z1_1 : w1.cell? ⟨w.heap.size, 1, none⟩ = some (.int .i64 0) := kC hb1 (by simp) (by simp [go_sem])
  have z1_2 : w1.cell? ⟨w.heap.size, 2, none⟩ = some (.int .i64 0) := kC hb1 (by simp) (by simp [go_sem])
  have z1_3 : w1.cell? ⟨w.heap.size, 3, none⟩ = some (.int .i64 0) := kC hb1 (by simp) (by simp [go_sem])
  have z1_4 : w1.cell? ⟨w.heap.size, 4, none⟩ = some (.int .i64 0) := kC hb1 (by simp) (by simp [go_sem])
  have z1_5 : w1.cell? ⟨w.heap.size, 5, none⟩ = some (.int .i64 0) := kC hb1 (by simp) (by simp [go_sem])
  have z1_6 : w1.cell? ⟨w.heap.size, 6, none⟩ = some (.int .i64 0) := kC hb1 (by simp) (by simp [go_sem])
  have z1_7 : w1.cell? ⟨w.heap.size, 7, none⟩ = some (.int .i64 0) := kC hb1 (by simp) (by simp [go_sem])
  have z1_8 : w1.cell? ⟨w.heap.size, 8, none⟩ = some (.int .i64 0) := kC hb1 (by simp) (by simp [go_sem])
  have z1_9 : w1.cell? ⟨w.heap.size, 9, none⟩ = some (.string ⟨#[]⟩) := kC hb1 (by simp) (by simp [go_sem])
  have z1_10 : w1.cell? ⟨w.heap.size, 10, none⟩ = some (.slice none 0 0) := kC hb1 (by simp) (by simp [go_sem])
  have z1_11 : w1.cell? ⟨w.heap.size, 11, none⟩ = some (.slice none 0 0) := kC hb1 (by simp) (by simp [go_sem])
  have z1_l : w.heap.size < w1.heap.size := (by have := hb1.size; simp at this; omega)
  have z1_f : ∀ o, w1.frozen? ⟨w.heap.size, o, none⟩ = false := fun o => (hb1.frozen (p := ⟨w.heap.size, o, none⟩) (by show w.heap.size < _; simp)).trans (by simp [go_sem])
  have hz1L : w.heap.size < w1.heap.size := by have := hb1.size; simp at this; omega
  have HB1 : Hid (Below w.heap.size w w1) := Lib.hid (((Below.refl _ _).alloc (Nat.le_refl _) _).trans (hb1.mono (by simp)))
  have hF' := hF _ rfl
  have hSF : Sl strE 1 w1 aF F := hfF.sl (fun _ => rfl)
  rw [hF'] at hSF
  have hnF : F.length = rows.length + 3 := by rw [hF']; rfl
  have hcF' : F.length ≤ cF := hcapF hfF
  clear hfF hF hF'
  generalize F.length = nF at *
  subst hnF
  obtain ⟨bF, oF, rfl, hbF, hcF⟩ := hSF.at (i := 0) (by simp)
  have HSF := Lib.hid hSF
  have hge3 : ¬ ((rows.length : Int) + 3 < 3) := by omega
  have d2_0 : w1.cell? ⟨bF, oF, none⟩ = some (.string a) := (by have := hcF 0 (by simp) 0 (by omega); simpa [strE] using this)
  have d2_1 : w1.cell? ⟨bF, oF + 1, none⟩ = some (.string t) := (by have := hcF 1 (by simp) 0 (by omega); simpa [strE] using this)
  have d2_2 : w1.cell? ⟨bF, oF + 2, none⟩ = some (.string hh) := (by have := hcF 2 (by simp) 0 (by omega); simpa [strE] using this)
  have d2_l : bF < w1.heap.size := hbF
  clear hcF hSF hbF hb1
  go_wp2_with fail
  refine (HSN.out _).mono ?_
  rw [HV.out]
  rintro e w2 ⟨aN, cN, N, rfl, hfN, hN, hb2⟩
  have z3_0 := kC hb2 z1_l z1_0
  have z3_1 := kC hb2 z1_l z1_1
  have z3_2 := kC hb2 z1_l z1_2
  have z3_3 := kC hb2 z1_l z1_3
  have z3_4 := kC hb2 z1_l z1_4
  have z3_5 := kC hb2 z1_l z1_5
  have z3_6 := kC hb2 z1_l z1_6
  have z3_7 := kC hb2 z1_l z1_7
  have z3_8 := kC hb2 z1_l z1_8
  have z3_9 := kC hb2 z1_l z1_9
  have z3_10 := kC hb2 z1_l z1_10
  have z3_11 := kC hb2 z1_l z1_11
  have z3_l := Nat.lt_of_lt_of_le z1_l hb2.size
  have z3_f := fun o => kF hb2 z1_l (z1_f o)
  clear z1_0 z1_1 z1_2 z1_3 z1_4 z1_5 z1_6 z1_7 z1_8 z1_9 z1_10 z1_11 z1_l z1_f
  have d4_0 := kC hb2 d2_l d2_0
  have d4_1 := kC hb2 d2_l d2_1
  have d4_2 := kC hb2 d2_l d2_2
  have d4_l := Nat.lt_of_lt_of_le d2_l hb2.size
  clear d2_0 d2_1 d2_2 d2_l
  have HZ2 : Hid (w.heap.size < w1.heap.size ∧ w1.heap.size ≤ w2.heap.size) := Lib.hid ⟨by have := hz1L; omega, hb2.size⟩
  have HB2 : Hid (Below w.heap.size w w2) := Lib.hid (HB1.out.trans (hb2.mono HB1.out.size))
  have HSF2 := Lib.hid (HSF.out.keep hb2)
  clear hfN hN hb2
  go_wp2_with fail
  refine (HRF.out _).mono ?_
  rw [HV2.out]
  rintro e w3 ⟨aH, cH, hs, rfl, hfH, hH, hb3⟩
  have z5_0 := kC hb3 z3_l z3_0
  have z5_1 := kC hb3 z3_l z3_1
  have z5_2 := kC hb3 z3_l z3_2
  have z5_3 := kC hb3 z3_l z3_3
  have z5_4 := kC hb3 z3_l z3_4
  have z5_5 := kC hb3 z3_l z3_5
  have z5_6 := kC hb3 z3_l z3_6
  have z5_7 := kC hb3 z3_l z3_7
  have z5_8 := kC hb3 z3_l z3_8
  have z5_9 := kC hb3 z3_l z3_9
  have z5_10 := kC hb3 z3_l z3_10
  have z5_11 := kC hb3 z3_l z3_11
  have z5_l := Nat.lt_of_lt_of_le z3_l hb3.size
  have z5_f := fun o => kF hb3 z3_l (z3_f o)
  clear z3_0 z3_1 z3_2 z3_3 z3_4 z3_5 z3_6 z3_7 z3_8 z3_9 z3_10 z3_11 z3_l z3_f
  have d6_0 := kC hb3 d4_l d4_0
  have d6_1 := kC hb3 d4_l d4_1
  have d6_2 := kC hb3 d4_l d4_2
  have d6_l := Nat.lt_of_lt_of_le d4_l hb3.size
  clear d4_0 d4_1 d4_2 d4_l
  have HZ3 : Hid (w2.heap.size ≤ w3.heap.size) := Lib.hid hb3.size
  have HB3 : Hid (Below w.heap.size w w3) := Lib.hid (HB2.out.trans (hb3.mono HB2.out.size))
  have HSF3 := Lib.hid (HSF2.out.keep hb3)
  clear hfH hH hb3
  go_wp2_with fail
  refine bodyPost_ret (v := .tuple #[.agg #[.int .i64 0, .int .i64 0, .int .i64 0, .int .i64 0, .int .i64 0, .int .i64 0, .int .i64 0, .int .i64 0, .int .i64 0, .string ⟨#[]⟩, .slice none 0 0, .slice none 0 0], .bool false]) (by simp [results, Try.results18, go_sem, z5_0, z5_1, z5_2, z5_3, z5_4, z5_5, z5_6, z5_7, z5_8, z5_9, z5_10, z5_11, z5_f]) rfl ?_
  exact RdR.no HNO.out ((b12 HB3.out))
end
section
open Go.RowKit
theorem Upd.cellB {g lo hi : Nat} {S : Nat → Prop} {w w' : World} (h : Upd g lo hi S w w') {b o : Nat} (hne : b ≠ g) (hb : b < w.heap.size) (hS : ¬ S b) : w'.cell? ⟨b, o, none⟩ = w.cell? ⟨b, o, none⟩ := World.cell?_of_block (w := w) (h.block b hb hne hS)
theorem strOf_inj {a b : List UInt8} (h : strOf a = strOf b) : a = b := by
  have := congrArg (fun s : ByteArray => s.data.toList) h
  simpa [strOf] using this
theorem str_toL {a b : ByteArray} (h : a.toList = b.toList) : a = b := ByteArray.ext (Array.toList_inj.1 (by simpa [ByteArray.toList_eq] using h))
theorem bne_str {a b : ByteArray} (h : ¬ a = b) : (a.toList != b.toList) = true := bne_iff_ne.2 (fun e => h (str_toL e))
theorem beq_str {a b : ByteArray} (h : ¬ a = b) : (a.toList == b.toList) = false := beq_eq_false_iff_ne.2 (fun e => h (str_toL e))
theorem FreshIn.hiB {α : Type} {enc : α → List Value} {sz : Nat} {e : TypeId} {lo hi n c : Nat} {ad : Option Addr} {xs : List α} {w : World} (h : FreshIn enc e sz lo hi (.slice ad n c) xs w) : ∀ k ∈ blkOf ad, k < hi := fun k hk =>
  h.2 k ((blkOf_own' (n := n) (c := c)).1 hk)
structure CellsAt (B : Nat) (x : World) (cs : List Cl) (ac : Option Addr) (cc : Nat) (w : World) : Prop where
  upd : Upd B 10 11 (fun _ => False) x w
  c10 : w.cell? ⟨B, 10, none⟩ = some (.slice ac cs.length cc)
  row : FreshIn celE 60 2 x.heap.size w.heap.size (.slice ac cs.length cc) cs w
section
variable {B : Nat} {x w w' : World} {cs us : List Cl} {ac a' : Option Addr} {cc c' : Nat}
theorem CellsAt.below (h : CellsAt B x cs ac cc w) (hB : B < x.heap.size) (hb : Below w.heap.size w w') : CellsAt B x cs ac cc w' :=
  ⟨h.upd.below hb (Nat.lt_of_lt_of_le hB h.upd.size), (hb.cell (p := ⟨B, 10, none⟩) (Nat.lt_of_lt_of_le hB h.upd.size)).trans h.c10, (h.row.below hb).mono (Nat.le_refl _) hb.size⟩
theorem CellsAt.push (h : CellsAt B x cs ac cc w) (hB : B < x.heap.size) (hf : FreshIn celE 60 2 x.heap.size w'.heap.size (.slice a' us.length c') us w') (hc : Ch (· ∈ blkOf ac) w w') :
    CellsAt B x us a' c' (w'.setCell ⟨B, 10, none⟩ (.slice a' us.length c')) := by
  have hBw := Nat.lt_of_lt_of_le hB h.upd.size
  have hn : B ∉ blkOf ac := fun hb => by have := (FreshIn.blks h.row B hb).1; omega
  have hn' : ∀ k ∈ blkOf a', ¬ k = B := fun k hk e => by have := (FreshIn.blks hf k hk).1; omega
  refine ⟨(h.upd.transN (Upd.ofCh (lo := 10) (hi := 11) hc hBw hn (fun i hi => .inl hi)) (fun i hi => .inr (FreshIn.blks h.row i hi).1)).setCell 10 (Nat.le_refl _) (by omega) _, ?_, ?_⟩
  · exact World.cell?_setCell_same _ _ _ ((hc.cell (p := ⟨B, 10, none⟩) hBw hn).trans h.c10)
  · exact hf.ch (Ch.set1' w' B 10 _) hn'
end
theorem drop_div4 (r : List UInt8) (h : 4 ≤ r.length) : (r.drop 4).length / 4 = r.length / 4 - 1 := by rw [List.length_drop]; omega
theorem chunkC_four (r : List UInt8) (h : 4 ≤ r.length) : chunkC (r.length / 4) r = ((bn (r.take 3) : Int), ((r.getD 3 0).toNat : Int)) :: chunkC ((r.drop 4).length / 4) (r.drop 4) := by
  rw [drop_div4 r h]
  obtain ⟨m, hm⟩ : ∃ m, r.length / 4 = m + 1 := ⟨r.length / 4 - 1, by omega⟩
  rw [hm]
  rfl
theorem readScreen_y (l : List UInt8) (w : World) (hl : l.length ≤ 65536) (a t hh : ByteArray) (rows hs0 : List ByteArray) (ho : rdAll l = some (a :: t :: hh :: rows)) (h27 : a.data.toList.length = 27) (hv2 : rdAll hh.data.toList = some hs0) : Calls Try.prog 18 #[.string (strOf l)] w (RdR l w) := by
  obtain ⟨iC, hC, hC0, hC1, hC2⟩ := info_parts Try.infoCell
  obtain ⟨hlf, hln, hsz⟩ := rdAll_canon ho
  have hln' : rows.length ≤ 57 := by simp only [List.length_cons] at hln; omega
  have ha2 : a.size ≤ 20000 := hsz a (by simp)
  have hh2 : hh.size ≤ 20000 := hsz hh (by simp)
  have HRS : Hid (∀ r ∈ rows, r.size ≤ 20000) := Lib.hid (fun r hr => hsz r (by simp [hr]))
  clear hlf hsz hln
  have HSN : Hid (∀ W, Calls Try.prog 44 #[.string a, .int .i64 9] W (NumsR (someN a.data.toList 9) W)) := Lib.hid (fun W => by
    have h := someNumbers_c a.data.toList 9 W (by have : a.data.toList.length = a.size := rfl; omega) (by omega)
    rw [strOf_data] at h
    exact h)
  have HRF : Hid (∀ W, Calls Try.prog 43 #[.string hh] W (ReadR (rdAll hh.data.toList) W)) := Lib.hid (fun W => by
    have h := readFields_c hh.data.toList W (by have : hh.data.toList.length = hh.size := rfl; omega)
    rw [strOf_data] at h
    exact h)
  have HO := Lib.hid ho
  clear ho
  have HV : Hid (someN a.data.toList 9 = some (rnF 9 a.data.toList)) := Lib.hid (by rw [someN, if_pos (by omega)])
  have HV2 := Lib.hid hv2
  have HNI : Hid (∀ cs, ¬ ScrIs l (rdS a t cs hs0) → cs = impCs rows → NoScr l) := Lib.hid (fun cs h e => NoScr.imp HO.out hv2 (by rw [← e]; exact h))
  clear hv2 h27
  go_enter Try.func18, Try.ntmps18
  go_wp2_with fail
  refine (readFields_c l _ hl).mono ?_
  rw [HO.out]
  rintro e w1 ⟨aF, cF, F, rfl, hfF, hF, hb1⟩
  have z1_0 : w1.cell? ⟨w.heap.size, 0, none⟩ = some (.int .i64 0) := kC hb1 (by simp) (by simp [go_sem])
  have z1_1 : w1.cell? ⟨w.heap.size, 1, none⟩ = some (.int .i64 0) := kC hb1 (by simp) (by simp [go_sem])
  have z1_2 : w1.cell? ⟨w.heap.size, 2, none⟩ = some (.int .i64 0) := kC hb1 (by simp) (by simp [go_sem])
  have z1_3 : w1.cell? ⟨w.heap.size, 3, none⟩ = some (.int .i64 0) := kC hb1 (by simp) (by simp [go_sem])
  have z1_4 : w1.cell? ⟨w.heap.size, 4, none⟩ = some (.int .i64 0) := kC hb1 (by simp) (by simp [go_sem])
  have z1_5 : w1.cell? ⟨w.heap.size, 5, none⟩ = some (.int .i64 0) := kC hb1 (by simp) (by simp [go_sem])
  have z1_6 : w1.cell? ⟨w.heap.size, 6, none⟩ = some (.int .i64 0) := kC hb1 (by simp) (by simp [go_sem])
  have z1_7 : w1.cell? ⟨w.heap.size, 7, none⟩ = some (.int .i64 0) := kC hb1 (by simp) (by simp [go_sem])
  have z1_8 : w1.cell? ⟨w.heap.size, 8, none⟩ = some (.int .i64 0) := kC hb1 (by simp) (by simp [go_sem])
  have z1_9 : w1.cell? ⟨w.heap.size, 9, none⟩ = some (.string ⟨#[]⟩) := kC hb1 (by simp) (by simp [go_sem])
  have z1_10 : w1.cell? ⟨w.heap.size, 10, none⟩ = some (.slice none 0 0) := kC hb1 (by simp) (by simp [go_sem])
  have z1_11 : w1.cell? ⟨w.heap.size, 11, none⟩ = some (.slice none 0 0) := kC hb1 (by simp) (by simp [go_sem])
  have z1_l : w.heap.size < w1.heap.size := (by have := hb1.size; simp at this; omega)
  have z1_f : ∀ o, w1.frozen? ⟨w.heap.size, o, none⟩ = false := fun o => (hb1.frozen (p := ⟨w.heap.size, o, none⟩) (by show w.heap.size < _; simp)).trans (by simp [go_sem])
  have hz1L : w.heap.size < w1.heap.size := by have := hb1.size; simp at this; omega
  have HB1 : Hid (Below w.heap.size w w1) := Lib.hid (((Below.refl _ _).alloc (Nat.le_refl _) _).trans (hb1.mono (by simp)))
  have hF' := hF _ rfl
  have hSF : Sl strE 1 w1 aF F := hfF.sl (fun _ => rfl)
  rw [hF'] at hSF
  have hnF : F.length = rows.length + 3 := by rw [hF']; rfl
  have hcF' : F.length ≤ cF := hcapF hfF
  clear hfF hF hF'
  generalize F.length = nF at *
  subst hnF
  obtain ⟨bF, oF, rfl, hbF, hcF⟩ := hSF.at (i := 0) (by simp)
  have HSF := Lib.hid hSF
  have hge3 : ¬ ((rows.length : Int) + 3 < 3) := by omega
  have d2_0 : w1.cell? ⟨bF, oF, none⟩ = some (.string a) := (by have := hcF 0 (by simp) 0 (by omega); simpa [strE] using this)
  have d2_1 : w1.cell? ⟨bF, oF + 1, none⟩ = some (.string t) := (by have := hcF 1 (by simp) 0 (by omega); simpa [strE] using this)
  have d2_2 : w1.cell? ⟨bF, oF + 2, none⟩ = some (.string hh) := (by have := hcF 2 (by simp) 0 (by omega); simpa [strE] using this)
  have d2_l : bF < w1.heap.size := hbF
  clear hcF hSF hbF hb1
  go_wp2_with fail
  refine (HSN.out _).mono ?_
  rw [HV.out]
  rintro e w2 ⟨aN, cN, N, rfl, hfN, hN, hb2⟩
  have z3_0 := kC hb2 z1_l z1_0
  have z3_1 := kC hb2 z1_l z1_1
  have z3_2 := kC hb2 z1_l z1_2
  have z3_3 := kC hb2 z1_l z1_3
  have z3_4 := kC hb2 z1_l z1_4
  have z3_5 := kC hb2 z1_l z1_5
  have z3_6 := kC hb2 z1_l z1_6
  have z3_7 := kC hb2 z1_l z1_7
  have z3_8 := kC hb2 z1_l z1_8
  have z3_9 := kC hb2 z1_l z1_9
  have z3_10 := kC hb2 z1_l z1_10
  have z3_11 := kC hb2 z1_l z1_11
  have z3_l := Nat.lt_of_lt_of_le z1_l hb2.size
  have z3_f := fun o => kF hb2 z1_l (z1_f o)
  clear z1_0 z1_1 z1_2 z1_3 z1_4 z1_5 z1_6 z1_7 z1_8 z1_9 z1_10 z1_11 z1_l z1_f
  have d4_0 := kC hb2 d2_l d2_0
  have d4_1 := kC hb2 d2_l d2_1
  have d4_2 := kC hb2 d2_l d2_2
  have d4_l := Nat.lt_of_lt_of_le d2_l hb2.size
  clear d2_0 d2_1 d2_2 d2_l
  have HZ2 : Hid (w.heap.size < w1.heap.size ∧ w1.heap.size ≤ w2.heap.size) := Lib.hid ⟨by have := hz1L; omega, hb2.size⟩
  have HB2 : Hid (Below w.heap.size w w2) := Lib.hid (HB1.out.trans (hb2.mono HB1.out.size))
  have HSF2 := Lib.hid (HSF.out.keep hb2)
  have HSN2 : Hid (Sl intE 1 w2 aN (rnF 9 a.data.toList)) := Lib.hid (by rw [← hN _ rfl]; exact hfN.sl (fun _ => rfl))
  have hnN : N.length = 9 := by rw [hN _ rfl, rnF_length]
  generalize N.length = nN at *
  subst hnN
  clear hfN hN hb2
  go_wp2_with fail
  refine (HRF.out _).mono ?_
  rw [HV2.out]
  rintro e w3 ⟨aH, cH, hs, rfl, hfH, hH, hb3⟩
  have z5_0 := kC hb3 z3_l z3_0
  have z5_1 := kC hb3 z3_l z3_1
  have z5_2 := kC hb3 z3_l z3_2
  have z5_3 := kC hb3 z3_l z3_3
  have z5_4 := kC hb3 z3_l z3_4
  have z5_5 := kC hb3 z3_l z3_5
  have z5_6 := kC hb3 z3_l z3_6
  have z5_7 := kC hb3 z3_l z3_7
  have z5_8 := kC hb3 z3_l z3_8
  have z5_9 := kC hb3 z3_l z3_9
  have z5_10 := kC hb3 z3_l z3_10
  have z5_11 := kC hb3 z3_l z3_11
  have z5_l := Nat.lt_of_lt_of_le z3_l hb3.size
  have z5_f := fun o => kF hb3 z3_l (z3_f o)
  clear z3_0 z3_1 z3_2 z3_3 z3_4 z3_5 z3_6 z3_7 z3_8 z3_9 z3_10 z3_11 z3_l z3_f
  have d6_0 := kC hb3 d4_l d4_0
  have d6_1 := kC hb3 d4_l d4_1
  have d6_2 := kC hb3 d4_l d4_2
  have d6_l := Nat.lt_of_lt_of_le d4_l hb3.size
  clear d4_0 d4_1 d4_2 d4_l
  have HZ3 : Hid (w2.heap.size ≤ w3.heap.size) := Lib.hid hb3.size
  have HB3 : Hid (Below w.heap.size w w3) := Lib.hid (HB2.out.trans (hb3.mono HB2.out.size))
  have HSF3 := Lib.hid (HSF2.out.keep hb3)
  have HSN3 := Lib.hid (HSN2.out.keep hb3)
  have hh0 := hH _ rfl
  subst hh0
  obtain ⟨hn6, hn6'⟩ : hs.length ≤ 60 ∧ True := ⟨(rdAll_canon HV2.out).2.1, trivial⟩
  have HWH : Hid (FreshIn strE 9 1 w2.heap.size w3.heap.size (.slice aH hs.length cH) hs w3) := Lib.hid hfH.here
  obtain ⟨bN, oN, rfl, hbN, hcN⟩ := HSN3.out.at (i := 0) (by rw [rnF_length]; omega)
  obtain ⟨n0, hn0⟩ : ∃ x, nAt a.data.toList 0 = x := ⟨_, rfl⟩
  obtain ⟨n1, hn1⟩ : ∃ x, nAt a.data.toList 1 = x := ⟨_, rfl⟩
  obtain ⟨n2, hn2⟩ : ∃ x, nAt a.data.toList 2 = x := ⟨_, rfl⟩
  obtain ⟨n3, hn3⟩ : ∃ x, nAt a.data.toList 3 = x := ⟨_, rfl⟩
  obtain ⟨n4, hn4⟩ : ∃ x, nAt a.data.toList 4 = x := ⟨_, rfl⟩
  obtain ⟨n5, hn5⟩ : ∃ x, nAt a.data.toList 5 = x := ⟨_, rfl⟩
  obtain ⟨n6, hn6⟩ : ∃ x, nAt a.data.toList 6 = x := ⟨_, rfl⟩
  obtain ⟨n7, hn7⟩ : ∃ x, nAt a.data.toList 7 = x := ⟨_, rfl⟩
  obtain ⟨n8, hn8⟩ : ∃ x, nAt a.data.toList 8 = x := ⟨_, rfl⟩
  have HRD : Hid (∀ cs, rdS a t cs hs = ⟨n0, n1, n2, n3, n4, n5, n6, n7, n8, t, cs, hs⟩) := Lib.hid (fun cs => by rw [rdS, hn0, hn1, hn2, hn3, hn4, hn5, hn6, hn7, hn8])
  have HNN : Hid (rnF 9 a.data.toList = [n0, n1, n2, n3, n4, n5, n6, n7, n8]) := Lib.hid (by rw [rnF_nine, hn0, hn1, hn2, hn3, hn4, hn5, hn6, hn7, hn8])
  rw [HNN.out] at hcN
  clear hn6' hn0 hn1 hn2 hn3 hn4 hn5 hn6 hn7 hn8
  have n7_0 : w3.cell? ⟨bN, oN, none⟩ = some (.int .i64 n0) := (by have := hcN 0 (by simp) 0 (by omega); simpa [intE] using this)
  have n7_1 : w3.cell? ⟨bN, oN + 1, none⟩ = some (.int .i64 n1) := (by have := hcN 1 (by simp) 0 (by omega); simpa [intE] using this)
  have n7_2 : w3.cell? ⟨bN, oN + 2, none⟩ = some (.int .i64 n2) := (by have := hcN 2 (by simp) 0 (by omega); simpa [intE] using this)
  have n7_3 : w3.cell? ⟨bN, oN + 3, none⟩ = some (.int .i64 n3) := (by have := hcN 3 (by simp) 0 (by omega); simpa [intE] using this)
  have n7_4 : w3.cell? ⟨bN, oN + 4, none⟩ = some (.int .i64 n4) := (by have := hcN 4 (by simp) 0 (by omega); simpa [intE] using this)
  have n7_5 : w3.cell? ⟨bN, oN + 5, none⟩ = some (.int .i64 n5) := (by have := hcN 5 (by simp) 0 (by omega); simpa [intE] using this)
  have n7_6 : w3.cell? ⟨bN, oN + 6, none⟩ = some (.int .i64 n6) := (by have := hcN 6 (by simp) 0 (by omega); simpa [intE] using this)
  have n7_7 : w3.cell? ⟨bN, oN + 7, none⟩ = some (.int .i64 n7) := (by have := hcN 7 (by simp) 0 (by omega); simpa [intE] using this)
  have n7_8 : w3.cell? ⟨bN, oN + 8, none⟩ = some (.int .i64 n8) := (by have := hcN 8 (by simp) 0 (by omega); simpa [intE] using this)
  have n7_l : bN < w3.heap.size := hbN
  clear hcN hbN hfH hH hb3
  go_upto_region 8 with fail
  have HSB : Hid (∀ x, Below w3.heap.size w3 x → x.cell? ⟨bN, oN, none⟩ = some (.int .i64 n0) ∧ x.cell? ⟨bN, oN + 1, none⟩ = some (.int .i64 n1) ∧ x.cell? ⟨bN, oN + 2, none⟩ = some (.int .i64 n2) ∧ x.cell? ⟨bN, oN + 3, none⟩ = some (.int .i64 n3) ∧ x.cell? ⟨bN, oN + 4, none⟩ = some (.int .i64 n4) ∧ x.cell? ⟨bN, oN + 5, none⟩ = some (.int .i64 n5) ∧ x.cell? ⟨bN, oN + 6, none⟩ = some (.int .i64 n6) ∧ x.cell? ⟨bN, oN + 7, none⟩ = some (.int .i64 n7) ∧ x.cell? ⟨bN, oN + 8, none⟩ = some (.int .i64 n8) ∧ x.cell? ⟨bF, oF + 1, none⟩ = some (.string t)) := Lib.hid (fun x h => ⟨(h.cell (p := ⟨bN, oN, none⟩) n7_l).trans n7_0, (h.cell (p := ⟨bN, oN + 1, none⟩) n7_l).trans n7_1, (h.cell (p := ⟨bN, oN + 2, none⟩) n7_l).trans n7_2, (h.cell (p := ⟨bN, oN + 3, none⟩) n7_l).trans n7_3, (h.cell (p := ⟨bN, oN + 4, none⟩) n7_l).trans n7_4, (h.cell (p := ⟨bN, oN + 5, none⟩) n7_l).trans n7_5, (h.cell (p := ⟨bN, oN + 6, none⟩) n7_l).trans n7_6, (h.cell (p := ⟨bN, oN + 7, none⟩) n7_l).trans n7_7, (h.cell (p := ⟨bN, oN + 8, none⟩) n7_l).trans n7_8, (h.cell (p := ⟨bF, oF + 1, none⟩) d6_l).trans d6_1⟩)
  have hS0 := HSB.out w3 (Below.refl _ _)
  have hi1 : (1 : Int) < (rows.length : Int) + 3 := by omega
  refine wp_region_G (fun w' => w'.cell? ⟨bN, oN, none⟩ = some (.int .i64 n0) ∧ w'.cell? ⟨bN, oN + 1, none⟩ = some (.int .i64 n1) ∧ w'.cell? ⟨bN, oN + 2, none⟩ = some (.int .i64 n2) ∧ w'.cell? ⟨bN, oN + 3, none⟩ = some (.int .i64 n3) ∧ w'.cell? ⟨bN, oN + 4, none⟩ = some (.int .i64 n4) ∧ w'.cell? ⟨bN, oN + 5, none⟩ = some (.int .i64 n5) ∧ w'.cell? ⟨bN, oN + 6, none⟩ = some (.int .i64 n6) ∧ w'.cell? ⟨bN, oN + 7, none⟩ = some (.int .i64 n7) ∧ w'.cell? ⟨bN, oN + 8, none⟩ = some (.int .i64 n8) ∧ w'.cell? ⟨bF, oF + 1, none⟩ = some (.string t)) (fun i => i == 33) (by kernel_rfl) hS0 ?_
  refine tW ?_ 0 rfl ?_ ?_; rotate_left
  · intro w' hSw; go_simp; try rfl
  try simp only [Act.put,j1,j2,j3,j4,j5,j6]
  refine tW ?_ 1 rfl ?_ ?_; rotate_left
  · intro w' hSw; go_simp; try rfl
  try simp only [Act.put,j1,j2,j3,j4,j5,j6]
  refine tL ?_ 2 rfl hS0 ?_ ?_; rotate_left
  · intro w' hSw; obtain ⟨s0, s1, s2, s3, s4, s5, s6, s7, s8, s9⟩ := hSw; go_simp; try rfl
  try simp only [Act.put,j1,j2,j3,j4,j5,j6]
  refine tW ?_ 3 rfl ?_ ?_; rotate_left
  · intro w' hSw; go_simp; try rfl
  try simp only [Act.put,j1,j2,j3,j4,j5,j6]
  refine tW ?_ 4 rfl ?_ ?_; rotate_left
  · intro w' hSw; go_simp; try rfl
  try simp only [Act.put,j1,j2,j3,j4,j5,j6]
  refine tL ?_ 5 rfl hS0 ?_ ?_; rotate_left
  · intro w' hSw; obtain ⟨s0, s1, s2, s3, s4, s5, s6, s7, s8, s9⟩ := hSw; go_simp; try rfl
  try simp only [Act.put,j1,j2,j3,j4,j5,j6]
  refine tW ?_ 6 rfl ?_ ?_; rotate_left
  · intro w' hSw; go_simp; try rfl
  try simp only [Act.put,j1,j2,j3,j4,j5,j6]
  refine tW ?_ 7 rfl ?_ ?_; rotate_left
  · intro w' hSw; go_simp; try rfl
  try simp only [Act.put,j1,j2,j3,j4,j5,j6]
  refine tL ?_ 8 rfl hS0 ?_ ?_; rotate_left
  · intro w' hSw; obtain ⟨s0, s1, s2, s3, s4, s5, s6, s7, s8, s9⟩ := hSw; go_simp; try rfl
  try simp only [Act.put,j1,j2,j3,j4,j5,j6]
  refine tW ?_ 9 rfl ?_ ?_; rotate_left
  · intro w' hSw; go_simp; try rfl
  try simp only [Act.put,j1,j2,j3,j4,j5,j6]
  refine tW ?_ 10 rfl ?_ ?_; rotate_left
  · intro w' hSw; go_simp; try rfl
  try simp only [Act.put,j1,j2,j3,j4,j5,j6]
  refine tL ?_ 11 rfl hS0 ?_ ?_; rotate_left
  · intro w' hSw; obtain ⟨s0, s1, s2, s3, s4, s5, s6, s7, s8, s9⟩ := hSw; go_simp; try rfl
  try simp only [Act.put,j1,j2,j3,j4,j5,j6]
  refine tW ?_ 12 rfl ?_ ?_; rotate_left
  · intro w' hSw; go_simp; try rfl
  try simp only [Act.put,j1,j2,j3,j4,j5,j6]
  refine tW ?_ 13 rfl ?_ ?_; rotate_left
  · intro w' hSw; go_simp; try rfl
  try simp only [Act.put,j1,j2,j3,j4,j5,j6]
  refine tL ?_ 14 rfl hS0 ?_ ?_; rotate_left
  · intro w' hSw; obtain ⟨s0, s1, s2, s3, s4, s5, s6, s7, s8, s9⟩ := hSw; go_simp; try rfl
  try simp only [Act.put,j1,j2,j3,j4,j5,j6]
  refine tW ?_ 15 rfl ?_ ?_; rotate_left
  · intro w' hSw; go_simp; try rfl
  try simp only [Act.put,j1,j2,j3,j4,j5,j6]
  refine tW ?_ 16 rfl ?_ ?_; rotate_left
  · intro w' hSw; go_simp; try rfl
  try simp only [Act.put,j1,j2,j3,j4,j5,j6]
  refine tL ?_ 17 rfl hS0 ?_ ?_; rotate_left
  · intro w' hSw; obtain ⟨s0, s1, s2, s3, s4, s5, s6, s7, s8, s9⟩ := hSw; go_simp; try rfl
  try simp only [Act.put,j1,j2,j3,j4,j5,j6]
  refine tW ?_ 18 rfl ?_ ?_; rotate_left
  · intro w' hSw; go_simp; try rfl
  try simp only [Act.put,j1,j2,j3,j4,j5,j6]
  refine tW ?_ 19 rfl ?_ ?_; rotate_left
  · intro w' hSw; go_simp; try rfl
  try simp only [Act.put,j1,j2,j3,j4,j5,j6]
  refine tL ?_ 20 rfl hS0 ?_ ?_; rotate_left
  · intro w' hSw; obtain ⟨s0, s1, s2, s3, s4, s5, s6, s7, s8, s9⟩ := hSw; go_simp; try rfl
  try simp only [Act.put,j1,j2,j3,j4,j5,j6]
  refine tW ?_ 21 rfl ?_ ?_; rotate_left
  · intro w' hSw; go_simp; try rfl
  try simp only [Act.put,j1,j2,j3,j4,j5,j6]
  refine tW ?_ 22 rfl ?_ ?_; rotate_left
  · intro w' hSw; go_simp; try rfl
  try simp only [Act.put,j1,j2,j3,j4,j5,j6]
  refine tL ?_ 23 rfl hS0 ?_ ?_; rotate_left
  · intro w' hSw; obtain ⟨s0, s1, s2, s3, s4, s5, s6, s7, s8, s9⟩ := hSw; go_simp; try rfl
  try simp only [Act.put,j1,j2,j3,j4,j5,j6]
  refine tW ?_ 24 rfl ?_ ?_; rotate_left
  · intro w' hSw; go_simp; try rfl
  try simp only [Act.put,j1,j2,j3,j4,j5,j6]
  refine tW ?_ 25 rfl ?_ ?_; rotate_left
  · intro w' hSw; go_simp; try rfl
  try simp only [Act.put,j1,j2,j3,j4,j5,j6]
  refine tL ?_ 26 rfl hS0 ?_ ?_; rotate_left
  · intro w' hSw; obtain ⟨s0, s1, s2, s3, s4, s5, s6, s7, s8, s9⟩ := hSw; go_simp; try rfl
  try simp only [Act.put,j1,j2,j3,j4,j5,j6]
  refine tW ?_ 27 rfl ?_ ?_; rotate_left
  · intro w' hSw; go_simp; try rfl
  try simp only [Act.put,j1,j2,j3,j4,j5,j6]
  refine tW ?_ 28 rfl ?_ ?_; rotate_left
  · intro w' hSw; go_simp; try rfl
  try simp only [Act.put,j1,j2,j3,j4,j5,j6]
  refine tL ?_ 29 rfl hS0 ?_ ?_; rotate_left
  · intro w' hSw; obtain ⟨s0, s1, s2, s3, s4, s5, s6, s7, s8, s9⟩ := hSw; go_simp; try rfl
  try simp only [Act.put,j1,j2,j3,j4,j5,j6]
  refine tW ?_ 30 rfl ?_ ?_; rotate_left
  · intro w' hSw; go_simp; try rfl
  try simp only [Act.put,j1,j2,j3,j4,j5,j6]
  refine tW ?_ 31 rfl ?_ ?_; rotate_left
  · intro w' hSw; go_simp; try rfl
  try simp only [Act.put,j1,j2,j3,j4,j5,j6]
  refine wpAnyG_one (i := 32) (by kernel_rfl) rfl hS0 (fun K' hK => ?_)
  simp only [j1,j2,j3]
  go_simp
  refine hK.out _ _ (Or.inr (HSB.out _ (((Below.refl _ _).drew).alloc (by simp) _))) ?_
  clear hK K'
  try simp only [Act.put,j1,j2,j3,j4,j5,j6]
  refine wpAnyG_one (i := 33) (by kernel_rfl) rfl ((HSB.out _ (((Below.refl _ _).drew).alloc (by simp) _))) (fun K' hK => ?_)
  simp only [j1,j2,j3]
  go_simp
  refine hK.out _ _ (Or.inl rfl) ?_
  clear hK K'
  try simp only [Act.put,j1,j2,j3,j4,j5,j6]
  refine wpAnyG_done (by kernel_rfl) ?_ _
  have HLD := Lib.hid d6_l
  obtain ⟨x5, hx5⟩ : ∃ x, (w3.alloc (.cells #[.int .i64 n0, .int .i64 n1, .int .i64 n2, .int .i64 n3, .int .i64 n4, .int .i64 n5, .int .i64 n6, .int .i64 n7, .int .i64 n8, .string t, .slice none 0 0, .slice aH hs.length cH] 26)).drew = x := ⟨_, rfl⟩
  obtain ⟨B, hB⟩ : ∃ B, w3.heap.size = B := ⟨_, rfl⟩
  have hb5 : Below w3.heap.size w3 x5 := by rw [← hx5]; exact ((Below.refl _ _).alloc (Nat.le_refl _) _).drew
  have HX5 : Hid (x5.heap.size = B + 1) := Lib.hid (by rw [← hx5, ← hB]; simp)
  rw [hx5]
  have z8_0 := kC hb5 z5_l z5_0
  have z8_1 := kC hb5 z5_l z5_1
  have z8_2 := kC hb5 z5_l z5_2
  have z8_3 := kC hb5 z5_l z5_3
  have z8_4 := kC hb5 z5_l z5_4
  have z8_5 := kC hb5 z5_l z5_5
  have z8_6 := kC hb5 z5_l z5_6
  have z8_7 := kC hb5 z5_l z5_7
  have z8_8 := kC hb5 z5_l z5_8
  have z8_9 := kC hb5 z5_l z5_9
  have z8_10 := kC hb5 z5_l z5_10
  have z8_11 := kC hb5 z5_l z5_11
  have z8_l := Nat.lt_of_lt_of_le z5_l hb5.size
  have z8_f := fun o => kF hb5 z5_l (z5_f o)
  clear z5_0 z5_1 z5_2 z5_3 z5_4 z5_5 z5_6 z5_7 z5_8 z5_9 z5_10 z5_11 z5_l z5_f
  have d9_0 := kC hb5 d6_l d6_0
  have d9_1 := kC hb5 d6_l d6_1
  have d9_2 := kC hb5 d6_l d6_2
  have d9_l := Nat.lt_of_lt_of_le d6_l hb5.size
  clear d6_0 d6_1 d6_2 d6_l
  have n10_0 := kC hb5 n7_l n7_0
  have n10_1 := kC hb5 n7_l n7_1
  have n10_2 := kC hb5 n7_l n7_2
  have n10_3 := kC hb5 n7_l n7_3
  have n10_4 := kC hb5 n7_l n7_4
  have n10_5 := kC hb5 n7_l n7_5
  have n10_6 := kC hb5 n7_l n7_6
  have n10_7 := kC hb5 n7_l n7_7
  have n10_8 := kC hb5 n7_l n7_8
  have n10_l := Nat.lt_of_lt_of_le n7_l hb5.size
  clear n7_0 n7_1 n7_2 n7_3 n7_4 n7_5 n7_6 n7_7 n7_8 n7_l
  have s11_0 : x5.cell? ⟨B, 0, none⟩ = some (.int .i64 n0) := (by rw [← hx5, ← hB]; simp [go_sem])
  have s11_1 : x5.cell? ⟨B, 1, none⟩ = some (.int .i64 n1) := (by rw [← hx5, ← hB]; simp [go_sem])
  have s11_2 : x5.cell? ⟨B, 2, none⟩ = some (.int .i64 n2) := (by rw [← hx5, ← hB]; simp [go_sem])
  have s11_3 : x5.cell? ⟨B, 3, none⟩ = some (.int .i64 n3) := (by rw [← hx5, ← hB]; simp [go_sem])
  have s11_4 : x5.cell? ⟨B, 4, none⟩ = some (.int .i64 n4) := (by rw [← hx5, ← hB]; simp [go_sem])
  have s11_5 : x5.cell? ⟨B, 5, none⟩ = some (.int .i64 n5) := (by rw [← hx5, ← hB]; simp [go_sem])
  have s11_6 : x5.cell? ⟨B, 6, none⟩ = some (.int .i64 n6) := (by rw [← hx5, ← hB]; simp [go_sem])
  have s11_7 : x5.cell? ⟨B, 7, none⟩ = some (.int .i64 n7) := (by rw [← hx5, ← hB]; simp [go_sem])
  have s11_8 : x5.cell? ⟨B, 8, none⟩ = some (.int .i64 n8) := (by rw [← hx5, ← hB]; simp [go_sem])
  have s11_9 : x5.cell? ⟨B, 9, none⟩ = some (.string t) := (by rw [← hx5, ← hB]; simp [go_sem])
  have s11_10 : x5.cell? ⟨B, 10, none⟩ = some (.slice none 0 0) := (by rw [← hx5, ← hB]; simp [go_sem])
  have s11_11 : x5.cell? ⟨B, 11, none⟩ = some (.slice aH hs.length cH) := (by rw [← hx5, ← hB]; simp [go_sem])
  have s11_l : B < x5.heap.size := (by rw [← hx5, ← hB]; simp)
  have s11_f : ∀ o, x5.frozen? ⟨B, o, none⟩ = false := fun o => (by rw [← hx5, ← hB]; simp [go_sem])
  have HFB : Hid (bF ≠ B) := Lib.hid (by have := HLD.out; rw [← hB]; omega)
  have HB5 : Hid (Below w.heap.size w x5) := Lib.hid (HB3.out.trans (hb5.mono HB3.out.size))
  have HSF5 := Lib.hid (HSF3.out.keep hb5)
  have HWH5 : Hid (FreshIn strE 9 1 w2.heap.size B (.slice aH hs.length cH) hs x5) := Lib.hid (by rw [← hB]; exact HWH.out.below hb5)
  have HC5 : Hid (CellsAt B x5 [] none 0 x5) := Lib.hid ⟨Upd.refl, s11_10, FreshIn.nil _ _ _ _ _ _⟩
  have HWB : Hid (w.heap.size < B ∧ w.heap.size < w2.heap.size) := Lib.hid (by rw [← hB]; have h1 := HZ2.out; have h2 := HZ3.out; exact ⟨by omega, by omega⟩)
  rw [hB]
  clear hS0 hb5 hx5 hB
  go_upto_region 9 with fail
  go_cut [79, 80, 81] (fun s1 s2 s3 wx => ∃ o3 c3, s1 = .slice (some ⟨bF, o3, none⟩) rows.length c3 ∧ s2 = .int .i64 (rows.length : Int) ∧ s3 = .int .i64 0 ∧ Hid (0 < rows.length → o3 = oF + 3) ∧ x5 = wx)
  case first =>
    by_cases hc3 : cF = 3
    · have hl0 : rows.length ≤ 0 := by omega
      go_wp2_with fail
      go_meet
      obtain hl0' : rows.length = 0 := by omega
      exact ⟨oF, 0, by rw [hl0'], by rw [hl0']; rfl, rfl, Lib.hid (fun h => absurd h (by omega)), rfl⟩
    · go_wp2_with fail
      go_meet
      exact ⟨oF + 3, _, rfl, rfl, rfl, Lib.hid (fun _ => rfl), rfl⟩
  case rest =>
    obtain ⟨o3, c3, rfl, rfl, rfl, HO3, hwc⟩ := hcut
    subst hwc
    have HSX : Hid (∀ wr cs ac cc, CellsAt B x5 cs ac cc wr → (∀ o, wr.frozen? ⟨B, o, none⟩ = false) ∧ B < wr.heap.size ∧ ∀ k (hk : k < rows.length), wr.cell? ⟨bF, o3 + k, none⟩ = some (.string rows[k])) := Lib.hid (fun wr cs ac cc h => ⟨fun o => (h.upd.fz o).trans (s11_f o), Nat.lt_of_lt_of_le s11_l h.upd.size, fun k hk => by
      have hne : bF ≠ B := HFB.out
      rw [h.upd.cellB hne d9_l (fun h => h), HO3.out (by omega)]
      obtain ⟨b', o', he, _, hc⟩ := HSF5.out.at (i := k + 3) (by simp; omega)
      cases he
      have := hc (k + 3) (by simp; omega) 0 (by omega)
      simpa [strE, Nat.add_assoc, Nat.add_comm 3] using this⟩)
    go_wp2_with fail
    go_loopw [81] (fun i wr => ∃ (k : Nat) (cs : List Cl) (ac : Option Addr) (cc : Nat), k ≤ rows.length ∧ i = .int .i64 k ∧ Hid (cs = impCs (rows.take k) ∧ CellsAt B x5 cs ac cc wr)) (fun i _ => rows.length - (intOf i).toNat)
    case atStart => exact ⟨0, [], none, 0, Nat.zero_le _, rfl, Lib.hid ⟨rfl, HC5.out⟩⟩
    case round =>
      obtain ⟨k, cs, ac, cc, hk, rfl, HQ⟩ := hrel
      by_cases hlt : k < rows.length
      · have hlt' : (k : Int) < (rows.length : Int) := by omega
        have q_r := (HSX.out wr cs ac cc HQ.out.2).2.2 k hlt
        have HRZ := Lib.hid (HRS.out rows[k] (List.getElem_mem _))
        have HSN' : Hid (impCs (rows.take (k + 1)) = impCs (rows.take k) ++ impR rows[k]) := Lib.hid (impCs_snoc rows k hlt)
        have HTL : Hid ((impCs (rows.take (k + 1))).length ≤ 300000) := Lib.hid (by
          have h1 := impCs_le (rows.take (k + 1)) (fun r hr => HRS.out r (List.mem_of_mem_take hr))
          rw [List.length_take] at h1
          omega)
        obtain ⟨rk, hrk⟩ : ∃ r, rows[k].data.toList = r := ⟨_, rfl⟩
        have hrs : rows[k] = strOf rk := by rw [← hrk]; exact (strOf_data _).symm
        obtain ⟨T, hT⟩ : ∃ T, impCs (rows.take (k + 1)) = T := ⟨_, rfl⟩
        have HT0 : Hid (cs ++ chunkC (rk.length / 4) rk = T) := Lib.hid (by rw [HQ.out.1, ← hT, HSN'.out, impR, ← hrk]; rfl)
        have hrl : rk.length ≤ 20000 := by rw [← hrk]; exact HRZ.out
        rw [hT] at HTL
        rw [hrs] at q_r
        have HT := Lib.hid hT
        clear hrs hT hrk HRZ HSN'
        go_wp2_with fail
        go_loopw [11] (fun sv wr => ∃ (r : List UInt8) (cs : List Cl) (ac : Option Addr) (cc : Nat), sv = .string (strOf r) ∧ r.length ≤ 20000 ∧ Hid (cs ++ chunkC (r.length / 4) r = T ∧ CellsAt B x5 cs ac cc wr)) (fun sv _ => lenOf sv)
        case atStart => exact ⟨rk, cs, ac, cc, rfl, hrl, Lib.hid ⟨HT0.out, HQ.out.2⟩⟩
        case round =>
          obtain ⟨r, cs, ac, cc, rfl, hr2, HP⟩ := hrel
          obtain ⟨b_f, b_l, _⟩ := HSX.out wr cs ac cc HP.out.2
          have b_10 := HP.out.2.c10
          have HCA := Lib.hid HP.out.2
          have hcl : cs.length ≤ 300000 := by
            have h1 := HTL.out
            rw [← HP.out.1, List.length_append] at h1
            omega
          by_cases h4 : 4 ≤ r.length
          · have HC4 := Lib.hid (chunkC_four r h4)
            have hg3 : r.getD 3 0 = r[3] := getD_at (by omega)
            obtain ⟨u, hu⟩ : ∃ u : UInt8, r.getD 3 0 = u := ⟨_, rfl⟩
            have hu8 := u.toNat_lt
            have h4s : 4 ≤ (strOf r).size := h4
            have h3s : 3 < (strOf r).size := by omega
            have hw64 : IntKind.i64.wrap (u.toNat : Int) = (u.toNat : Int) := IntWalk.i64_in _ ⟨by omega, by omega⟩
            have h3le : (3 : Int) ≤ ((strOf r).size : Int) := by omega
            have h3i : (3 : Int) < ((strOf r).size : Int) := by omega
            have hidx : (((strOf r)[3]'h3s).toNat : Int) = (u.toNat : Int) := by rw [← hu, hg3]; rfl
            have hx3 : ((strOf r).extract 0 3).size ≤ 5 := by rw [extract_takeN, strOf_size]; simp; omega
            have HXD : Hid ((strOf r).extract 4 (strOf r).size = strOf (r.drop 4)) := Lib.hid (extract_drop r 4)
            have hb3 := bn3 r
            have HBN : Hid (∀ W, Calls Try.prog 45 #[.string ((strOf r).extract 0 3)] W fun e w' => e = .returned (.int .i64 (bn (r.take 3))) ∧ W = w') := Lib.hid (fun W => by
              have h := bigNumber_c ((strOf r).extract 0 3) W hx3
              rw [extract_takeN, strOf_toList] at h
              rw [extract_takeN]
              exact h)
            rw [hu] at HC4
            obtain ⟨N3, hN3⟩ : ∃ N, bn (r.take 3) = N := ⟨_, rfl⟩
            rw [hN3] at HC4 HBN hb3
            clear hg3 hu hx3 hN3
            go_upto_region 14 with fail
            refine wp_region_G (fun w' => w'.cell? ⟨B, 10, none⟩ = some (.slice ac cs.length cc)) (fun i => i == 12) (by kernel_rfl) b_10 ?_
            refine tW ?_ 0 rfl ?_ ?_; rotate_left
            · intro w' hSw; go_simp; try rfl
            try simp only [Act.put,j1,j2,j3,j4,j5,j6]
            refine tL ?_ 1 rfl b_10 ?_ ?_; rotate_left
            · intro w' hSw; go_simp; try rfl
            try simp only [Act.put,j1,j2,j3,j4,j5,j6]
            refine tW ?_ 2 rfl ?_ ?_; rotate_left
            · intro w' hSw; go_simp; try rfl
            try simp only [Act.put,j1,j2,j3,j4,j5,j6]
            refine tW ?_ 3 rfl ?_ ?_; rotate_left
            · intro w' hSw; go_simp; try rfl
            try simp only [Act.put,j1,j2,j3,j4,j5,j6]
            refine tW ?_ 5 rfl ?_ ?_; rotate_left
            · intro w' hSw; go_simp; try rfl
            try simp only [Act.put,j1,j2,j3,j4,j5,j6]
            refine tW ?_ 6 rfl ?_ ?_; rotate_left
            · intro w' hSw; go_simp; try rfl
            try simp only [Act.put,j1,j2,j3,j4,j5,j6]
            refine tW ?_ 7 rfl ?_ ?_; rotate_left
            · intro w' hSw; go_simp; try rfl
            try simp only [Act.put,j1,j2,j3,j4,j5,j6]
            refine wpAnyG_one (i := 4) (by kernel_rfl) rfl b_10 (fun K' hK => ?_)
            simp only [j1,j2,j3]
            go_simp
            go_at_call 45
            refine (HBN.out _).mono ?_
            rintro e x1 ⟨rfl, hx1⟩
            have HA1 : Hid (CellsAt B x5 cs ac cc x1) := Lib.hid (by rw [← hx1]; exact HCA.out.below s11_l ((Below.refl _ _).drew))
            clear hx1
            refine hK.out _ _ (Or.inr HA1.out.c10) ?_
            clear hK K'
            try simp only [Act.put,j1,j2,j3,j4,j5,j6]
            refine tW ?_ 8 rfl ?_ ?_; rotate_left
            · intro w' hSw; go_simp; try rfl
            try simp only [Act.put,j1,j2,j3,j4,j5,j6]
            refine wpAnyG_one (i := 9) (by kernel_rfl) rfl HA1.out.c10 (fun K' hK => ?_)
            simp only [j1,j2,j3]
            go_simp
            obtain ⟨x2, hx2⟩ : ∃ x, x1.alloc (.cells #[.int .i64 (N3 : Int), .int .i64 (u.toNat : Int)] 60) = x := ⟨_, rfl⟩
            have hb2 : Below x1.heap.size x1 x2 := by rw [← hx2]; exact (Below.refl _ _).alloc (Nat.le_refl _) _
            have HA2 : Hid (CellsAt B x5 cs ac cc x2) := Lib.hid (HA1.out.below s11_l hb2)
            have HU2 : Hid (Sl celE 2 x2 (some ⟨x1.heap.size, 0, none⟩) [((N3 : Int), (u.toNat : Int))]) := Lib.hid (by rw [← hx2]; exact boxL' (enc := celE) (w := x1) (fun _ => rfl) [((N3 : Int), (u.toNat : Int))] _ _ (by simp [celE]) _ rfl)
            rw [hx2]
            clear hx2 hb2
            refine hK.out _ _ (Or.inr HA2.out.c10) ?_
            clear hK K'
            try simp only [Act.put,j1,j2,j3,j4,j5,j6]
            refine wpAnyG_one (i := 10) (by kernel_rfl) rfl HA2.out.c10 (fun K' hK => ?_)
            simp only [j1,j2,j3]
            rw [if_pos (by rfl)]
            refine step_append_ch (.tmp 91) (.tmp 99) 23 23 x5.heap.size 60 iC (.agg #[.int .i64 0, .int .i64 0]) 2 16 Try.underlying23 hC hC0 hC1 hC2 rfl (by decide) ac cs.length cc cs HA2.out.row (.slice (some ⟨x1.heap.size, 0, none⟩) 1 1) [((N3 : Int), (u.toNat : Int))] (Src.ofSl (enc := celE) Try.underlying23 (fun _ => rfl) celOne HU2.out _) (by simp; omega) (by have := HA2.out.upd.size; omega) ?_ ?_ ?_ ?_
            · rfl
            · rfl
            · rfl
            intro a3 c3' x3 us hus hf hch hk3
            have HUS := hus
            have HA3 : Hid (CellsAt B x5 us a3 c3' (x3.setCell ⟨B, 10, none⟩ (.slice a3 us.length c3'))) := Lib.hid (HA2.out.push s11_l hf hch)
            have x_10 : x3.cell? ⟨B, 10, none⟩ = some (.slice ac cs.length cc) := (hch.cell (p := ⟨B, 10, none⟩) (Nat.lt_of_lt_of_le s11_l HA2.out.upd.size) (fun hb => by have h1 : x5.heap.size ≤ B := (FreshIn.blks HA2.out.row B hb).1; have := s11_l; omega)).trans HA2.out.c10
            have x_f : x3.frozen? ⟨B, 10, none⟩ = false := by
              have e := HA3.out.upd.fz 10
              rw [World.frozen?_setCell] at e
              rw [e]
              exact s11_f 10
            clear hus hf hch hk3
            refine hK.out _ _ (Or.inr x_10) ?_
            clear hK K'
            try simp only [Act.put,j1,j2,j3,j4,j5,j6]
            refine tW ?_ 11 rfl ?_ ?_; rotate_left
            · intro w' hSw; go_simp; try rfl
            try simp only [Act.put,j1,j2,j3,j4,j5,j6]
            refine wpAnyG_one (i := 12) (by kernel_rfl) rfl x_10 (fun K' hK => ?_)
            simp only [j1,j2,j3]
            go_simp
            refine hK.out _ _ (Or.inl rfl) ?_
            clear hK K'
            try simp only [Act.put,j1,j2,j3,j4,j5,j6]
            refine wpAnyG_done (by kernel_rfl) ?_ _
            go_wp2_with fail
            go_roundw
            case rel => exact ⟨r.drop 4, us, a3, c3', by rw [HXD.out], by rw [List.length_drop]; omega, Lib.hid ⟨by rw [HUS.out, List.append_assoc, ← HP.out.1, HC4.out]; rfl, HA3.out⟩⟩
            case measure => simp [lenOf, strOf_size]; omega
          · have HE : Hid (cs = T) := Lib.hid (by
              have h1 := HP.out.1
              rw [show r.length / 4 = 0 by omega] at h1
              simpa [chunkC] using h1)
            have h4s : (strOf r).size < 4 := by rw [strOf_size]; omega
            go_wp2_with fail
            go_roundw
            case rel => exact ⟨k + 1, cs, ac, cc, by omega, by go_num, Lib.hid ⟨by rw [HE.out, HT.out], HCA.out⟩⟩
            case measure => simp [intOf]; omega
      · obtain rfl : k = rows.length := by omega
        have HCS : Hid (cs = impCs rows) := Lib.hid (by rw [HQ.out.1, List.take_length])
        have HA := Lib.hid HQ.out.2
        have hcl : cs.length ≤ 300000 := by
          rw [HCS.out]
          have := impCs_le rows HRS.out
          omega
        have HUP := Lib.hid HA.out.upd
        have s12_0 : wr.cell? ⟨B, 0, none⟩ = some (.int .i64 n0) := (HUP.out.cell 0 (by omega)).trans s11_0
        have s12_1 : wr.cell? ⟨B, 1, none⟩ = some (.int .i64 n1) := (HUP.out.cell 1 (by omega)).trans s11_1
        have s12_2 : wr.cell? ⟨B, 2, none⟩ = some (.int .i64 n2) := (HUP.out.cell 2 (by omega)).trans s11_2
        have s12_3 : wr.cell? ⟨B, 3, none⟩ = some (.int .i64 n3) := (HUP.out.cell 3 (by omega)).trans s11_3
        have s12_4 : wr.cell? ⟨B, 4, none⟩ = some (.int .i64 n4) := (HUP.out.cell 4 (by omega)).trans s11_4
        have s12_5 : wr.cell? ⟨B, 5, none⟩ = some (.int .i64 n5) := (HUP.out.cell 5 (by omega)).trans s11_5
        have s12_6 : wr.cell? ⟨B, 6, none⟩ = some (.int .i64 n6) := (HUP.out.cell 6 (by omega)).trans s11_6
        have s12_7 : wr.cell? ⟨B, 7, none⟩ = some (.int .i64 n7) := (HUP.out.cell 7 (by omega)).trans s11_7
        have s12_8 : wr.cell? ⟨B, 8, none⟩ = some (.int .i64 n8) := (HUP.out.cell 8 (by omega)).trans s11_8
        have s12_9 : wr.cell? ⟨B, 9, none⟩ = some (.string t) := (HUP.out.cell 9 (by omega)).trans s11_9
        have s12_10 : wr.cell? ⟨B, 11, none⟩ = some (.slice aH hs.length cH) := (HUP.out.cell 11 (by omega)).trans s11_11
        have s12_l := Nat.lt_of_lt_of_le s11_l HUP.out.size
        have s12_f : ∀ o, wr.frozen? ⟨B, o, none⟩ = false := fun o => (HUP.out.fz o).trans (s11_f o)
        clear s11_0 s11_1 s11_2 s11_3 s11_4 s11_5 s11_6 s11_7 s11_8 s11_9 s11_10 s11_11 s11_f s11_l
        have HZB : Hid (w.heap.size ≠ B) := Lib.hid (by have := HWB.out.1; omega)
        clear d9_0 d9_1 d9_2 d9_l
        clear n10_0 n10_1 n10_2 n10_3 n10_4 n10_5 n10_6 n10_7 n10_8 n10_l
        have z13_0 : wr.cell? ⟨w.heap.size, 0, none⟩ = some (.int .i64 0) := (HUP.out.cellB (HZB.out) z8_l (fun h => h)).trans z8_0
        have z13_1 : wr.cell? ⟨w.heap.size, 1, none⟩ = some (.int .i64 0) := (HUP.out.cellB (HZB.out) z8_l (fun h => h)).trans z8_1
        have z13_2 : wr.cell? ⟨w.heap.size, 2, none⟩ = some (.int .i64 0) := (HUP.out.cellB (HZB.out) z8_l (fun h => h)).trans z8_2
        have z13_3 : wr.cell? ⟨w.heap.size, 3, none⟩ = some (.int .i64 0) := (HUP.out.cellB (HZB.out) z8_l (fun h => h)).trans z8_3
        have z13_4 : wr.cell? ⟨w.heap.size, 4, none⟩ = some (.int .i64 0) := (HUP.out.cellB (HZB.out) z8_l (fun h => h)).trans z8_4
        have z13_5 : wr.cell? ⟨w.heap.size, 5, none⟩ = some (.int .i64 0) := (HUP.out.cellB (HZB.out) z8_l (fun h => h)).trans z8_5
        have z13_6 : wr.cell? ⟨w.heap.size, 6, none⟩ = some (.int .i64 0) := (HUP.out.cellB (HZB.out) z8_l (fun h => h)).trans z8_6
        have z13_7 : wr.cell? ⟨w.heap.size, 7, none⟩ = some (.int .i64 0) := (HUP.out.cellB (HZB.out) z8_l (fun h => h)).trans z8_7
        have z13_8 : wr.cell? ⟨w.heap.size, 8, none⟩ = some (.int .i64 0) := (HUP.out.cellB (HZB.out) z8_l (fun h => h)).trans z8_8
        have z13_9 : wr.cell? ⟨w.heap.size, 9, none⟩ = some (.string ⟨#[]⟩) := (HUP.out.cellB (HZB.out) z8_l (fun h => h)).trans z8_9
        have z13_10 : wr.cell? ⟨w.heap.size, 10, none⟩ = some (.slice none 0 0) := (HUP.out.cellB (HZB.out) z8_l (fun h => h)).trans z8_10
        have z13_11 : wr.cell? ⟨w.heap.size, 11, none⟩ = some (.slice none 0 0) := (HUP.out.cellB (HZB.out) z8_l (fun h => h)).trans z8_11
        have z13_l := Nat.lt_of_lt_of_le z8_l HUP.out.size
        have z13_f : ∀ o, wr.frozen? ⟨w.heap.size, o, none⟩ = false := fun o => (World.frozen?_of_block (w := x5) (HUP.out.block w.heap.size z8_l HZB.out (fun h => h))).trans (z8_f o)
        clear z8_0 z8_1 z8_2 z8_3 z8_4 z8_5 z8_6 z8_7 z8_8 z8_9 z8_10 z8_11 z8_l z8_f
        have b_10 := HA.out.c10
        have HB6 : Hid (Below w.heap.size w wr) := Lib.hid (HB5.out.trans (HUP.out.toBelow HB5.out.size (by have := HWB.out.1; omega) (fun _ h => h.elim)))
        have HSL : Hid (Sl celE 2 wr ac cs) := Lib.hid (HA.out.row.sl (fun _ => rfl))
        have HMI : Hid (Mid B (B + 1) x5 wr) := Lib.hid (HUP.out.toMid (Nat.le_refl _) (by omega) (fun _ h => h.elim))
        have HWI : Hid (FreshIn strE 9 1 w2.heap.size B (.slice aH hs.length cH) hs wr) := Lib.hid (HWH5.out.mid HMI.out (.inl (Nat.le_refl _)))
        have HSH : Hid (Sl strE 1 wr aH hs) := Lib.hid (HWI.out.sl (fun _ => rfl))
        have ht2 : t.size ≤ 20000 := (rdAll_canon HO.out).2.2 t (by simp)
        have HIS : Hid (∀ W, Below wr.heap.size wr W → Calls Try.prog 13 #[.agg #[.int .i64 n0, .int .i64 n1, .int .i64 n2, .int .i64 n3, .int .i64 n4, .int .i64 n5, .int .i64 n6, .int .i64 n7, .int .i64 n8, .string t, .slice ac cs.length cc, .slice aH hs.length cH]] W fun e w' => e = .returned (.bool (scrB ⟨n0, n1, n2, n3, n4, n5, n6, n7, n8, t, cs, hs⟩)) ∧ Below W.heap.size W w') := Lib.hid (fun W hW => isScreen_c ⟨n0, n1, n2, n3, n4, n5, n6, n7, n8, t, cs, hs⟩ ac cc aH cH W (HSL.out.keep hW) (HSH.out.keep hW) (by show cs.length ≤ _; omega) (by show hs.length ≤ _; omega) (by show t.size ≤ _; omega))
        cases hB : scrB ⟨n0, n1, n2, n3, n4, n5, n6, n7, n8, t, cs, hs⟩
        · have HNO := Lib.hid (HNI.out cs (fun h => by rw [HRD.out] at h; have := h.1; rw [hB] at this; cases this) HCS.out)
          rw [hB] at HIS
          clear hB
          go_wp2_with fail
          refine (HIS.out _ (Below.refl _ _)).mono ?_
          rintro e w6 ⟨rfl, hb6⟩
          have z14_0 := kC hb6 z13_l z13_0
          have z14_1 := kC hb6 z13_l z13_1
          have z14_2 := kC hb6 z13_l z13_2
          have z14_3 := kC hb6 z13_l z13_3
          have z14_4 := kC hb6 z13_l z13_4
          have z14_5 := kC hb6 z13_l z13_5
          have z14_6 := kC hb6 z13_l z13_6
          have z14_7 := kC hb6 z13_l z13_7
          have z14_8 := kC hb6 z13_l z13_8
          have z14_9 := kC hb6 z13_l z13_9
          have z14_10 := kC hb6 z13_l z13_10
          have z14_11 := kC hb6 z13_l z13_11
          have z14_l := Nat.lt_of_lt_of_le z13_l hb6.size
          have z14_f := fun o => kF hb6 z13_l (z13_f o)
          clear z13_0 z13_1 z13_2 z13_3 z13_4 z13_5 z13_6 z13_7 z13_8 z13_9 z13_10 z13_11 z13_l z13_f
          have s15_0 := kC hb6 s12_l s12_0
          have s15_1 := kC hb6 s12_l s12_1
          have s15_2 := kC hb6 s12_l s12_2
          have s15_3 := kC hb6 s12_l s12_3
          have s15_4 := kC hb6 s12_l s12_4
          have s15_5 := kC hb6 s12_l s12_5
          have s15_6 := kC hb6 s12_l s12_6
          have s15_7 := kC hb6 s12_l s12_7
          have s15_8 := kC hb6 s12_l s12_8
          have s15_9 := kC hb6 s12_l s12_9
          have s15_10 := kC hb6 s12_l s12_10
          have s15_l := Nat.lt_of_lt_of_le s12_l hb6.size
          have s15_f := fun o => kF hb6 s12_l (s12_f o)
          clear s12_0 s12_1 s12_2 s12_3 s12_4 s12_5 s12_6 s12_7 s12_8 s12_9 s12_10 s12_l s12_f
          have HB7 : Hid (Below w.heap.size w w6) := Lib.hid (HB6.out.trans (hb6.mono HB6.out.size))
          clear hb6 b_10
          go_wp2_with fail
          refine bodyPost_ret (v := .tuple #[.agg #[.int .i64 0, .int .i64 0, .int .i64 0, .int .i64 0, .int .i64 0, .int .i64 0, .int .i64 0, .int .i64 0, .int .i64 0, .string ⟨#[]⟩, .slice none 0 0, .slice none 0 0], .bool false]) (by simp [results, Try.results18, go_sem, z14_0, z14_1, z14_2, z14_3, z14_4, z14_5, z14_6, z14_7, z14_8, z14_9, z14_10, z14_11, z14_f]) rfl ?_
          exact RdR.no HNO.out ((b12 HB7.out))
        · have hu := ScrI.n_i hB
          have HOK := Lib.hid (ScrI.ok hB)
          have e0 : ((n0.toNat : Nat) : Int) = n0 := congrArg ScrI.w hu
          have e1 : ((n1.toNat : Nat) : Int) = n1 := congrArg ScrI.h hu
          have e2 : ((n2.toNat : Nat) : Int) = n2 := congrArg ScrI.x hu
          have e3 : ((n3.toNat : Nat) : Int) = n3 := congrArg ScrI.y hu
          have e4 : ((n4.toNat : Nat) : Int) = n4 := congrArg ScrI.look hu
          have e5 : ((n5.toNat : Nat) : Int) = n5 := congrArg ScrI.top hu
          have e6 : ((n6.toNat : Nat) : Int) = n6 := congrArg ScrI.bot hu
          have e7 : ((n7.toNat : Nat) : Int) = n7 := congrArg ScrI.sx hu
          have e8 : ((n8.toNat : Nat) : Int) = n8 := congrArg ScrI.sy hu
          have HVA : Hid (∀ c, scrV (ScrI.n ⟨n0, n1, n2, n3, n4, n5, n6, n7, n8, t, cs, hs⟩) ac c aH cH = .agg #[.int .i64 n0, .int .i64 n1, .int .i64 n2, .int .i64 n3, .int .i64 n4, .int .i64 n5, .int .i64 n6, .int .i64 n7, .int .i64 n8, .string t, .slice ac cs.length c, .slice aH hs.length cH]) := Lib.hid (fun c => by unfold scrV; simp only [ScrI.n, e0, e1, e2, e3, e4, e5, e6, e7, e8])
          have hccap : cs.length ≤ cc := hcapF HA.out.row.1
          have HEU := Lib.hid hu
          obtain ⟨Y, hY⟩ : ∃ Y, strOf (scrText ⟨n0, n1, n2, n3, n4, n5, n6, n7, n8, t, cs, hs⟩) = Y := ⟨_, rfl⟩
          have HTX : Hid (∀ W, Below wr.heap.size wr W → Calls Try.prog 14 #[.agg #[.int .i64 n0, .int .i64 n1, .int .i64 n2, .int .i64 n3, .int .i64 n4, .int .i64 n5, .int .i64 n6, .int .i64 n7, .int .i64 n8, .string t, .slice ac cs.length cc, .slice aH hs.length cH]] W fun e w' => e = .returned (.string Y) ∧ Below W.heap.size W w') := Lib.hid (fun W hW => by
            have h := screenText_c (ScrI.n ⟨n0, n1, n2, n3, n4, n5, n6, n7, n8, t, cs, hs⟩) HOK.out ac cc aH cH W (HSL.out.keep hW) (HSH.out.keep hW) hccap
            rw [hu, hY] at h
            rw [← HVA.out cc]
            exact h)
          rw [hB] at HIS
          have HBT := Lib.hid hB
          clear hB hu e0 e1 e2 e3 e4 e5 e6 e7 e8
          go_wp2_with fail
          refine (HIS.out _ (Below.refl _ _)).mono ?_
          rintro e w6 ⟨rfl, hb6⟩
          have t14_0 : wr.cell? ⟨B, 10, none⟩ = some (.slice ac cs.length cc) := b_10
          have t14_l : B < wr.heap.size := s12_l
          have z15_0 := kC hb6 z13_l z13_0
          have z15_1 := kC hb6 z13_l z13_1
          have z15_2 := kC hb6 z13_l z13_2
          have z15_3 := kC hb6 z13_l z13_3
          have z15_4 := kC hb6 z13_l z13_4
          have z15_5 := kC hb6 z13_l z13_5
          have z15_6 := kC hb6 z13_l z13_6
          have z15_7 := kC hb6 z13_l z13_7
          have z15_8 := kC hb6 z13_l z13_8
          have z15_9 := kC hb6 z13_l z13_9
          have z15_10 := kC hb6 z13_l z13_10
          have z15_11 := kC hb6 z13_l z13_11
          have z15_l := Nat.lt_of_lt_of_le z13_l hb6.size
          have z15_f := fun o => kF hb6 z13_l (z13_f o)
          clear z13_0 z13_1 z13_2 z13_3 z13_4 z13_5 z13_6 z13_7 z13_8 z13_9 z13_10 z13_11 z13_l z13_f
          have s16_0 := kC hb6 s12_l s12_0
          have s16_1 := kC hb6 s12_l s12_1
          have s16_2 := kC hb6 s12_l s12_2
          have s16_3 := kC hb6 s12_l s12_3
          have s16_4 := kC hb6 s12_l s12_4
          have s16_5 := kC hb6 s12_l s12_5
          have s16_6 := kC hb6 s12_l s12_6
          have s16_7 := kC hb6 s12_l s12_7
          have s16_8 := kC hb6 s12_l s12_8
          have s16_9 := kC hb6 s12_l s12_9
          have s16_10 := kC hb6 s12_l s12_10
          have s16_l := Nat.lt_of_lt_of_le s12_l hb6.size
          have s16_f := fun o => kF hb6 s12_l (s12_f o)
          clear s12_0 s12_1 s12_2 s12_3 s12_4 s12_5 s12_6 s12_7 s12_8 s12_9 s12_10 s12_l s12_f
          have t17_0 := kC hb6 t14_l t14_0
          have t17_l := Nat.lt_of_lt_of_le t14_l hb6.size
          clear t14_0 t14_l
          have HB6' := Lib.hid hb6
          clear hb6 b_10
          go_wp2_with fail
          refine (HTX.out _ HB6'.out).mono ?_
          rintro e w7 ⟨rfl, hb7⟩
          have z18_0 := kC hb7 z15_l z15_0
          have z18_1 := kC hb7 z15_l z15_1
          have z18_2 := kC hb7 z15_l z15_2
          have z18_3 := kC hb7 z15_l z15_3
          have z18_4 := kC hb7 z15_l z15_4
          have z18_5 := kC hb7 z15_l z15_5
          have z18_6 := kC hb7 z15_l z15_6
          have z18_7 := kC hb7 z15_l z15_7
          have z18_8 := kC hb7 z15_l z15_8
          have z18_9 := kC hb7 z15_l z15_9
          have z18_10 := kC hb7 z15_l z15_10
          have z18_11 := kC hb7 z15_l z15_11
          have z18_l := Nat.lt_of_lt_of_le z15_l hb7.size
          have z18_f := fun o => kF hb7 z15_l (z15_f o)
          clear z15_0 z15_1 z15_2 z15_3 z15_4 z15_5 z15_6 z15_7 z15_8 z15_9 z15_10 z15_11 z15_l z15_f
          have s19_0 := kC hb7 s16_l s16_0
          have s19_1 := kC hb7 s16_l s16_1
          have s19_2 := kC hb7 s16_l s16_2
          have s19_3 := kC hb7 s16_l s16_3
          have s19_4 := kC hb7 s16_l s16_4
          have s19_5 := kC hb7 s16_l s16_5
          have s19_6 := kC hb7 s16_l s16_6
          have s19_7 := kC hb7 s16_l s16_7
          have s19_8 := kC hb7 s16_l s16_8
          have s19_9 := kC hb7 s16_l s16_9
          have s19_10 := kC hb7 s16_l s16_10
          have s19_l := Nat.lt_of_lt_of_le s16_l hb7.size
          have s19_f := fun o => kF hb7 s16_l (s16_f o)
          clear s16_0 s16_1 s16_2 s16_3 s16_4 s16_5 s16_6 s16_7 s16_8 s16_9 s16_10 s16_l s16_f
          have t20_0 := kC hb7 t17_l t17_0
          have t20_l := Nat.lt_of_lt_of_le t17_l hb7.size
          clear t17_0 t17_l
          have HB7' : Hid (Below wr.heap.size wr w7) := Lib.hid (HB6'.out.trans (hb7.mono HB6'.out.size))
          have HB7 : Hid (Below w.heap.size w w7) := Lib.hid (HB6.out.trans (HB7'.out.mono HB6.out.size))
          clear hb7
          by_cases hT : Y = strOf l
          rotate_left
          · have HNO := Lib.hid (HNI.out cs (fun h => by rw [HRD.out] at h; exact hT (by rw [← hY, h.2])) HCS.out)
            have hne := bne_str hT
            have hne2 := beq_str hT
            clear hT hY
            go_wp2_with fail
            refine bodyPost_ret (v := .tuple #[.agg #[.int .i64 0, .int .i64 0, .int .i64 0, .int .i64 0, .int .i64 0, .int .i64 0, .int .i64 0, .int .i64 0, .int .i64 0, .string ⟨#[]⟩, .slice none 0 0, .slice none 0 0], .bool false]) (by simp [results, Try.results18, go_sem, z18_0, z18_1, z18_2, z18_3, z18_4, z18_5, z18_6, z18_7, z18_8, z18_9, z18_10, z18_11, z18_f]) rfl ?_
            exact RdR.no HNO.out ((b12 HB7.out))
          · have hTT : scrText ⟨n0, n1, n2, n3, n4, n5, n6, n7, n8, t, cs, hs⟩ = l := strOf_inj (hY.trans hT)
            have HTT := Lib.hid hTT
            clear hTT hY
            subst hT
            have hne : ((strOf l).toList != (strOf l).toList) = false := by simp
            have hne2 : ((strOf l).toList == (strOf l).toList) = true := by simp
            go_wp2_with fail
            refine bodyPost_ret (v := .tuple #[.agg #[.int .i64 n0, .int .i64 n1, .int .i64 n2, .int .i64 n3, .int .i64 n4, .int .i64 n5, .int .i64 n6, .int .i64 n7, .int .i64 n8, .string t, .slice ac cs.length cc, .slice aH hs.length cH], .bool true]) (by simp [results, Try.results18, go_sem, z18_0, z18_1, z18_2, z18_3, z18_4, z18_5, z18_6, z18_7, z18_8, z18_9, z18_10, z18_11, z18_f, s19_0, s19_1, s19_2, s19_3, s19_4, s19_5, s19_6, s19_7, s19_8, s19_9, s19_10, s19_f, t20_0]) rfl ?_
            refine .inr ⟨(ScrI.n ⟨n0, n1, n2, n3, n4, n5, n6, n7, n8, t, cs, hs⟩), ac, cc, aH, cH, HOK.out, ⟨by rw [HEU.out]; exact HBT.out, by rw [HEU.out]; exact HTT.out⟩, by rw [HVA.out], ⟨?_, ?_, ?_⟩, ?_⟩
            rotate_left 3
            · exact (b12 HB7.out)
            · refine (HA.out.row.ch (((((((((((((Ch.of_below (M := fun k => k = w.heap.size) HB7'.out).setB 0 _).setB 1 _).setB 2 _).setB 3 _).setB 4 _).setB 5 _).setB 6 _).setB 7 _).setB 8 _).setB 9 _).setB 10 _).setB 11 _) (fun k hk e => ?_)).mono ?_ (Nat.le_refl _)
              · have h1 := (FreshIn.blks HA.out.row k hk).1
                have h2 := HX5.out
                have h3 := HWB.out.1
                omega
              · exact HB5.out.size
            · refine Win.low (Win.ch (FreshIn.win HWI.out) (((((((((((((Ch.of_below (M := fun k => k = w.heap.size) HB7'.out).setB 0 _).setB 1 _).setB 2 _).setB 3 _).setB 4 _).setB 5 _).setB 6 _).setB 7 _).setB 8 _).setB 9 _).setB 10 _).setB 11 _) (fun k hk e => ?_)) (by have := HWB.out.2; omega)
              have h1 := (FreshIn.blks HWI.out k hk).1
              have h2 := HWB.out.2
              omega
            · intro k hk hk2
              have h1 := (FreshIn.blks HA.out.row k hk2).1
              have h2 := (FreshIn.hiB HWI.out k hk)
              have h3 := HX5.out
              omega
end
section
open Go.RowKit
structure CellsG (B lo : Nat) (x : World) (cs : List Cl) (ac : Option Addr) (cc : Nat) (w : World) : Prop where
  upd : Upd B 10 11 (fun k => lo ≤ k) x w
  c10 : w.cell? ⟨B, 10, none⟩ = some (.slice ac cs.length cc)
  row : FreshIn celE 60 2 lo w.heap.size (.slice ac cs.length cc) cs w
  nb : B ∉ blkOf ac
section
variable {B lo : Nat} {x w w' : World} {cs us : List Cl} {ac a' : Option Addr} {cc c' : Nat}
theorem CellsG.below (h : CellsG B lo x cs ac cc w) (hB : B < x.heap.size) (hb : Below w.heap.size w w') : CellsG B lo x cs ac cc w' :=
  ⟨h.upd.below hb (Nat.lt_of_lt_of_le hB h.upd.size), (hb.cell (p := ⟨B, 10, none⟩) (Nat.lt_of_lt_of_le hB h.upd.size)).trans h.c10, (h.row.below hb).mono (Nat.le_refl _) hb.size, h.nb⟩
theorem CellsG.push (h : CellsG B lo x cs ac cc w) (hB : B < x.heap.size) (hf : FreshIn celE 60 2 lo w'.heap.size (.slice a' us.length c') us w') (hc : Ch (· ∈ blkOf ac) w w') (hk : ∀ k ∈ blkOf a', k ∈ blkOf ac ∨ k = w.heap.size) :
    CellsG B lo x us a' c' (w'.setCell ⟨B, 10, none⟩ (.slice a' us.length c')) := by
  have hBw := Nat.lt_of_lt_of_le hB h.upd.size
  have hn' : ∀ k ∈ blkOf a', ¬ k = B := fun k hk' e => by
    rcases hk k hk' with h1 | h1
    · exact h.nb (e ▸ h1)
    · omega
  refine ⟨(h.upd.transN (Upd.ofCh (lo := 10) (hi := 11) hc hBw h.nb (fun i hi => .inl hi)) (fun i hi => .inl (FreshIn.blks h.row i hi).1)).setCell 10 (Nat.le_refl _) (by omega) _, ?_, ?_, fun h1 => hn' B h1 rfl⟩
  · exact World.cell?_setCell_same _ _ _ ((hc.cell (p := ⟨B, 10, none⟩) hBw h.nb).trans h.c10)
  · exact hf.ch (Ch.set1' w' B 10 _) hn'
end
structure BoxI (B : Nat) (s : ScrI) (ac : Option Addr) (cc : Nat) (ah : Option Addr) (dh : Nat) (w : World) : Prop where
  c0 : w.cell? ⟨B, 0, none⟩ = some (.int .i64 s.w)
  c1 : w.cell? ⟨B, 1, none⟩ = some (.int .i64 s.h)
  c2 : w.cell? ⟨B, 2, none⟩ = some (.int .i64 s.x)
  c3 : w.cell? ⟨B, 3, none⟩ = some (.int .i64 s.y)
  c4 : w.cell? ⟨B, 4, none⟩ = some (.int .i64 s.look)
  c5 : w.cell? ⟨B, 5, none⟩ = some (.int .i64 s.top)
  c6 : w.cell? ⟨B, 6, none⟩ = some (.int .i64 s.bot)
  c7 : w.cell? ⟨B, 7, none⟩ = some (.int .i64 s.sx)
  c8 : w.cell? ⟨B, 8, none⟩ = some (.int .i64 s.sy)
  c9 : w.cell? ⟨B, 9, none⟩ = some (.string s.title)
  c10 : w.cell? ⟨B, 10, none⟩ = some (.slice ac s.cells.length cc)
  c11 : w.cell? ⟨B, 11, none⟩ = some (.slice ah s.hist.length dh)
  fz : ∀ o, w.frozen? ⟨B, o, none⟩ = false
  lt : B < w.heap.size
theorem fresh0 (w : World) (lo : Nat) (h : lo ≤ w.heap.size) : FreshIn celE 60 2 lo (w.heap.size + 1) (.slice (some ⟨w.heap.size, 0, none⟩) 0 0) [] (w.alloc (.cells #[] 60)) := by
  have := (Fresh.of_own (enc := celE) (xs := []) (World.ownsRow_made (base := lo) (e := 60) (size := 2) w #[] 0 h (by decide) rfl) rfl rfl).here
  simpa using this
theorem chunkC_get : ∀ (n : Nat) (l : List UInt8) (x : Nat), x < n → (chunkC n l)[x]? = some ((bn ((l.drop (4 * x)).take 3) : Int), ((l.getD (4 * x + 3) 0).toNat : Int))
  | n + 1, l, 0, _ => by simp [chunkC]
  | n + 1, l, x + 1, h => by
    have ih := chunkC_get n (l.drop 4) x (by omega)
    rw [chunkC, List.getElem?_cons_succ, ih, List.drop_drop, show 4 + 4 * x = 4 * (x + 1) by omega]
    congr 4
    simp only [List.getD_eq_getElem?_getD, List.getElem?_drop]
    rw [show 4 + (4 * x + 3) = 4 * (x + 1) + 3 by omega]
theorem chunkC_take (n : Nat) (l : List UInt8) (x : Nat) (h : x < n) : (chunkC n l).take (x + 1) = (chunkC n l).take x ++ [((bn ((l.drop (4 * x)).take 3) : Int), ((l.getD (4 * x + 3) 0).toNat : Int))] := by
  have h1 := chunkC_get n l x h
  have hl : x < (chunkC n l).length := by rw [chunkC_length]; exact h
  rw [List.take_succ_eq_append_getElem hl]
  rw [List.getElem?_eq_getElem hl] at h1
  injection h1 with h1
  rw [h1]
theorem l04Read_n1 (l : List UInt8) (w : World) (hl : l.length ≤ 65536) (hn : ∀ F, rdAll l = some F → F.length < 3) : Calls Try.prog 19 #[.string (strOf l)] w (RdR l w) := by
  cases ho : rdAll l with
  | none =>
    have HNO := Lib.hid (NoScr.none ho)
    have HO := Lib.hid ho
    clear ho hn
    go_enter Try.func19, Try.ntmps19
    go_wp2_with fail
    refine (l02Read_c l _ (by omega)).mono ?_
    rw [HO.out]
    rintro e w1 ⟨aF, cF, F, rfl, hfF, hF, hb1⟩
    have z1_0 : w1.cell? ⟨w.heap.size, 0, none⟩ = some (.int .i64 0) := kC hb1 (by simp) (by simp [go_sem])
    have z1_1 : w1.cell? ⟨w.heap.size, 1, none⟩ = some (.int .i64 0) := kC hb1 (by simp) (by simp [go_sem])
    have z1_2 : w1.cell? ⟨w.heap.size, 2, none⟩ = some (.int .i64 0) := kC hb1 (by simp) (by simp [go_sem])
    have z1_3 : w1.cell? ⟨w.heap.size, 3, none⟩ = some (.int .i64 0) := kC hb1 (by simp) (by simp [go_sem])
    have z1_4 : w1.cell? ⟨w.heap.size, 4, none⟩ = some (.int .i64 0) := kC hb1 (by simp) (by simp [go_sem])
    have z1_5 : w1.cell? ⟨w.heap.size, 5, none⟩ = some (.int .i64 0) := kC hb1 (by simp) (by simp [go_sem])
    have z1_6 : w1.cell? ⟨w.heap.size, 6, none⟩ = some (.int .i64 0) := kC hb1 (by simp) (by simp [go_sem])
    have z1_7 : w1.cell? ⟨w.heap.size, 7, none⟩ = some (.int .i64 0) := kC hb1 (by simp) (by simp [go_sem])
    have z1_8 : w1.cell? ⟨w.heap.size, 8, none⟩ = some (.int .i64 0) := kC hb1 (by simp) (by simp [go_sem])
    have z1_9 : w1.cell? ⟨w.heap.size, 9, none⟩ = some (.string ⟨#[]⟩) := kC hb1 (by simp) (by simp [go_sem])
    have z1_10 : w1.cell? ⟨w.heap.size, 10, none⟩ = some (.slice none 0 0) := kC hb1 (by simp) (by simp [go_sem])
    have z1_11 : w1.cell? ⟨w.heap.size, 11, none⟩ = some (.slice none 0 0) := kC hb1 (by simp) (by simp [go_sem])
    have z1_l : w.heap.size < w1.heap.size := (by have := hb1.size; simp at this; omega)
    have z1_f : ∀ o, w1.frozen? ⟨w.heap.size, o, none⟩ = false := fun o => (hb1.frozen (p := ⟨w.heap.size, o, none⟩) (by show w.heap.size < _; simp)).trans (by simp [go_sem])
    have hz1L : w.heap.size < w1.heap.size := by have := hb1.size; simp at this; omega
    have HB1 : Hid (Below w.heap.size w w1) := Lib.hid (((Below.refl _ _).alloc (Nat.le_refl _) _).trans (hb1.mono (by simp)))
    clear hfF hF hb1
    go_wp2_with fail
    refine bodyPost_ret (v := .tuple #[.agg #[.int .i64 0, .int .i64 0, .int .i64 0, .int .i64 0, .int .i64 0, .int .i64 0, .int .i64 0, .int .i64 0, .int .i64 0, .string ⟨#[]⟩, .slice none 0 0, .slice none 0 0], .bool false]) (by simp [results, Try.results19, go_sem, z1_0, z1_1, z1_2, z1_3, z1_4, z1_5, z1_6, z1_7, z1_8, z1_9, z1_10, z1_11, z1_f]) rfl ?_
    exact RdR.no HNO.out ((b12 HB1.out))
  | some F0 =>
    have h3 := hn F0 ho
    have HNO := Lib.hid (NoScr.short ho h3)
    have HO := Lib.hid ho
    have H3 := Lib.hid h3
    clear ho h3 hn
    go_enter Try.func19, Try.ntmps19
    go_wp2_with fail
    refine (l02Read_c l _ (by omega)).mono ?_
    rw [HO.out]
    rintro e w1 ⟨aF, cF, F, rfl, hfF, hF, hb1⟩
    have z1_0 : w1.cell? ⟨w.heap.size, 0, none⟩ = some (.int .i64 0) := kC hb1 (by simp) (by simp [go_sem])
    have z1_1 : w1.cell? ⟨w.heap.size, 1, none⟩ = some (.int .i64 0) := kC hb1 (by simp) (by simp [go_sem])
    have z1_2 : w1.cell? ⟨w.heap.size, 2, none⟩ = some (.int .i64 0) := kC hb1 (by simp) (by simp [go_sem])
    have z1_3 : w1.cell? ⟨w.heap.size, 3, none⟩ = some (.int .i64 0) := kC hb1 (by simp) (by simp [go_sem])
    have z1_4 : w1.cell? ⟨w.heap.size, 4, none⟩ = some (.int .i64 0) := kC hb1 (by simp) (by simp [go_sem])
    have z1_5 : w1.cell? ⟨w.heap.size, 5, none⟩ = some (.int .i64 0) := kC hb1 (by simp) (by simp [go_sem])
    have z1_6 : w1.cell? ⟨w.heap.size, 6, none⟩ = some (.int .i64 0) := kC hb1 (by simp) (by simp [go_sem])
    have z1_7 : w1.cell? ⟨w.heap.size, 7, none⟩ = some (.int .i64 0) := kC hb1 (by simp) (by simp [go_sem])
    have z1_8 : w1.cell? ⟨w.heap.size, 8, none⟩ = some (.int .i64 0) := kC hb1 (by simp) (by simp [go_sem])
    have z1_9 : w1.cell? ⟨w.heap.size, 9, none⟩ = some (.string ⟨#[]⟩) := kC hb1 (by simp) (by simp [go_sem])
    have z1_10 : w1.cell? ⟨w.heap.size, 10, none⟩ = some (.slice none 0 0) := kC hb1 (by simp) (by simp [go_sem])
    have z1_11 : w1.cell? ⟨w.heap.size, 11, none⟩ = some (.slice none 0 0) := kC hb1 (by simp) (by simp [go_sem])
    have z1_l : w.heap.size < w1.heap.size := (by have := hb1.size; simp at this; omega)
    have z1_f : ∀ o, w1.frozen? ⟨w.heap.size, o, none⟩ = false := fun o => (hb1.frozen (p := ⟨w.heap.size, o, none⟩) (by show w.heap.size < _; simp)).trans (by simp [go_sem])
    have hz1L : w.heap.size < w1.heap.size := by have := hb1.size; simp at this; omega
    have HB1 : Hid (Below w.heap.size w w1) := Lib.hid (((Below.refl _ _).alloc (Nat.le_refl _) _).trans (hb1.mono (by simp)))
    have h3 : (F.length : Int) < 3 := by
      rw [hF F0 rfl]
      have := H3.out
      omega
    clear hfF hF hb1
    go_wp2_with fail
    refine bodyPost_ret (v := .tuple #[.agg #[.int .i64 0, .int .i64 0, .int .i64 0, .int .i64 0, .int .i64 0, .int .i64 0, .int .i64 0, .int .i64 0, .int .i64 0, .string ⟨#[]⟩, .slice none 0 0, .slice none 0 0], .bool false]) (by simp [results, Try.results19, go_sem, z1_0, z1_1, z1_2, z1_3, z1_4, z1_5, z1_6, z1_7, z1_8, z1_9, z1_10, z1_11, z1_f]) rfl ?_
    exact RdR.no HNO.out ((b12 HB1.out))
theorem l04Read_y (l : List UInt8) (w : World) (hl : l.length ≤ 65536) (a t hh : ByteArray) (rows : List ByteArray) (ho : rdAll l = some (a :: t :: hh :: rows)) : Calls Try.prog 19 #[.string (strOf l)] w (RdR l w) := by
  obtain ⟨iC, hC, hC0, hC1, hC2⟩ := info_parts Try.infoCell
  obtain ⟨hlf, hln, hsz⟩ := rdAll_canon ho
  have hln' : rows.length ≤ 57 := by simp only [List.length_cons] at hln; omega
  have ha2 : a.size ≤ 20000 := hsz a (by simp)
  have hh2 : hh.size ≤ 20000 := hsz hh (by simp)
  have HRS : Hid (∀ r ∈ rows, r.size ≤ 20000) := Lib.hid (fun r hr => hsz r (by simp [hr]))
  clear hlf hsz hln
  have HSN : Hid (∀ W, Calls Try.prog 47 #[.string a] W (NumsR (allN a.data.toList) W)) := Lib.hid (fun W => by
    have h := l02ReadNumbers_c a.data.toList W (by have : a.data.toList.length = a.size := rfl; omega)
    rw [strOf_data] at h
    exact h)
  have HRF : Hid (∀ W, Calls Try.prog 46 #[.string hh] W (ReadS (rdAll hh.data.toList) W)) := Lib.hid (fun W => by
    have h := l02Read_c hh.data.toList W (by have : hh.data.toList.length = hh.size := rfl; omega)
    rw [strOf_data] at h
    exact h)
  have HO := Lib.hid ho
  clear ho
  obtain ⟨o1, hv⟩ : ∃ o, allN a.data.toList = o := ⟨_, rfl⟩
  obtain ⟨o2, hv2⟩ : ∃ o, rdAll hh.data.toList = o := ⟨_, rfl⟩
  obtain ⟨q1, hq1⟩ : ∃ b, o1.isSome = b := ⟨_, rfl⟩
  obtain ⟨q2, hq2⟩ : ∃ b, o2.isSome = b := ⟨_, rfl⟩
  have HV := Lib.hid hv
  have HV2 := Lib.hid hv2
  have HQ1 := Lib.hid hq1
  have HQ2 := Lib.hid hq2
  clear hv hv2 hq1 hq2
  go_enter Try.func19, Try.ntmps19
  go_wp2_with fail
  refine (l02Read_c l _ (by omega)).mono ?_
  rw [HO.out]
  rintro e w1 ⟨aF, cF, F, rfl, hfF, hF, hb1⟩
  have z1_0 : w1.cell? ⟨w.heap.size, 0, none⟩ = some (.int .i64 0) := kC hb1 (by simp) (by simp [go_sem])
  have z1_1 : w1.cell? ⟨w.heap.size, 1, none⟩ = some (.int .i64 0) := kC hb1 (by simp) (by simp [go_sem])
  have z1_2 : w1.cell? ⟨w.heap.size, 2, none⟩ = some (.int .i64 0) := kC hb1 (by simp) (by simp [go_sem])
  have z1_3 : w1.cell? ⟨w.heap.size, 3, none⟩ = some (.int .i64 0) := kC hb1 (by simp) (by simp [go_sem])
  have z1_4 : w1.cell? ⟨w.heap.size, 4, none⟩ = some (.int .i64 0) := kC hb1 (by simp) (by simp [go_sem])
  have z1_5 : w1.cell? ⟨w.heap.size, 5, none⟩ = some (.int .i64 0) := kC hb1 (by simp) (by simp [go_sem])
  have z1_6 : w1.cell? ⟨w.heap.size, 6, none⟩ = some (.int .i64 0) := kC hb1 (by simp) (by simp [go_sem])
  have z1_7 : w1.cell? ⟨w.heap.size, 7, none⟩ = some (.int .i64 0) := kC hb1 (by simp) (by simp [go_sem])
  have z1_8 : w1.cell? ⟨w.heap.size, 8, none⟩ = some (.int .i64 0) := kC hb1 (by simp) (by simp [go_sem])
  have z1_9 : w1.cell? ⟨w.heap.size, 9, none⟩ = some (.string ⟨#[]⟩) := kC hb1 (by simp) (by simp [go_sem])
  have z1_10 : w1.cell? ⟨w.heap.size, 10, none⟩ = some (.slice none 0 0) := kC hb1 (by simp) (by simp [go_sem])
  have z1_11 : w1.cell? ⟨w.heap.size, 11, none⟩ = some (.slice none 0 0) := kC hb1 (by simp) (by simp [go_sem])
  have z1_l : w.heap.size < w1.heap.size := (by have := hb1.size; simp at this; omega)
  have z1_f : ∀ o, w1.frozen? ⟨w.heap.size, o, none⟩ = false := fun o => (hb1.frozen (p := ⟨w.heap.size, o, none⟩) (by show w.heap.size < _; simp)).trans (by simp [go_sem])
  have hz1L : w.heap.size < w1.heap.size := by have := hb1.size; simp at this; omega
  have HB1 : Hid (Below w.heap.size w w1) := Lib.hid (((Below.refl _ _).alloc (Nat.le_refl _) _).trans (hb1.mono (by simp)))
  have hF' := hF _ rfl
  have hSF : Sl strE 1 w1 aF F := hfF.sl (fun _ => rfl)
  rw [hF'] at hSF
  have hnF : F.length = rows.length + 3 := by rw [hF']; rfl
  have hcF' : F.length ≤ cF := hcapF hfF
  clear hfF hF hF'
  generalize F.length = nF at *
  subst hnF
  obtain ⟨bF, oF, rfl, hbF, hcF⟩ := hSF.at (i := 0) (by simp)
  have HSF := Lib.hid hSF
  have hge3 : ¬ ((rows.length : Int) + 3 < 3) := by omega
  have d2_0 : w1.cell? ⟨bF, oF, none⟩ = some (.string a) := (by have := hcF 0 (by simp) 0 (by omega); simpa [strE] using this)
  have d2_1 : w1.cell? ⟨bF, oF + 1, none⟩ = some (.string t) := (by have := hcF 1 (by simp) 0 (by omega); simpa [strE] using this)
  have d2_2 : w1.cell? ⟨bF, oF + 2, none⟩ = some (.string hh) := (by have := hcF 2 (by simp) 0 (by omega); simpa [strE] using this)
  have d2_l : bF < w1.heap.size := hbF
  clear hcF hSF hbF hb1
  go_wp2_with fail
  refine (HSN.out _).mono ?_
  rw [HV.out]
  rintro e w2 ⟨aN, cN, N, he2, hfN, hN, hb2⟩
  rw [HQ1.out] at he2
  subst he2
  have z3_0 := kC hb2 z1_l z1_0
  have z3_1 := kC hb2 z1_l z1_1
  have z3_2 := kC hb2 z1_l z1_2
  have z3_3 := kC hb2 z1_l z1_3
  have z3_4 := kC hb2 z1_l z1_4
  have z3_5 := kC hb2 z1_l z1_5
  have z3_6 := kC hb2 z1_l z1_6
  have z3_7 := kC hb2 z1_l z1_7
  have z3_8 := kC hb2 z1_l z1_8
  have z3_9 := kC hb2 z1_l z1_9
  have z3_10 := kC hb2 z1_l z1_10
  have z3_11 := kC hb2 z1_l z1_11
  have z3_l := Nat.lt_of_lt_of_le z1_l hb2.size
  have z3_f := fun o => kF hb2 z1_l (z1_f o)
  clear z1_0 z1_1 z1_2 z1_3 z1_4 z1_5 z1_6 z1_7 z1_8 z1_9 z1_10 z1_11 z1_l z1_f
  have d4_0 := kC hb2 d2_l d2_0
  have d4_1 := kC hb2 d2_l d2_1
  have d4_2 := kC hb2 d2_l d2_2
  have d4_l := Nat.lt_of_lt_of_le d2_l hb2.size
  clear d2_0 d2_1 d2_2 d2_l
  have HZ2 : Hid (w.heap.size < w1.heap.size ∧ w1.heap.size ≤ w2.heap.size) := Lib.hid ⟨by have := hz1L; omega, hb2.size⟩
  have HB2 : Hid (Below w.heap.size w w2) := Lib.hid (HB1.out.trans (hb2.mono HB1.out.size))
  have HSF2 := Lib.hid (HSF.out.keep hb2)
  have HFN := Lib.hid hfN
  have HNN := Lib.hid hN
  clear hfN hN hb2
  go_wp2_with fail
  refine (HRF.out _).mono ?_
  rw [HV2.out]
  rintro e w3 ⟨aH, cH, hs, he3, hfH, hH, hb3⟩
  rw [HQ2.out] at he3
  subst he3
  have z5_0 := kC hb3 z3_l z3_0
  have z5_1 := kC hb3 z3_l z3_1
  have z5_2 := kC hb3 z3_l z3_2
  have z5_3 := kC hb3 z3_l z3_3
  have z5_4 := kC hb3 z3_l z3_4
  have z5_5 := kC hb3 z3_l z3_5
  have z5_6 := kC hb3 z3_l z3_6
  have z5_7 := kC hb3 z3_l z3_7
  have z5_8 := kC hb3 z3_l z3_8
  have z5_9 := kC hb3 z3_l z3_9
  have z5_10 := kC hb3 z3_l z3_10
  have z5_11 := kC hb3 z3_l z3_11
  have z5_l := Nat.lt_of_lt_of_le z3_l hb3.size
  have z5_f := fun o => kF hb3 z3_l (z3_f o)
  clear z3_0 z3_1 z3_2 z3_3 z3_4 z3_5 z3_6 z3_7 z3_8 z3_9 z3_10 z3_11 z3_l z3_f
  have d6_0 := kC hb3 d4_l d4_0
  have d6_1 := kC hb3 d4_l d4_1
  have d6_2 := kC hb3 d4_l d4_2
  have d6_l := Nat.lt_of_lt_of_le d4_l hb3.size
  clear d4_0 d4_1 d4_2 d4_l
  have HZ3 : Hid (w2.heap.size ≤ w3.heap.size) := Lib.hid hb3.size
  have HB3 : Hid (Below w.heap.size w w3) := Lib.hid (HB2.out.trans (hb3.mono HB2.out.size))
  have HSF3 := Lib.hid (HSF2.out.keep hb3)
  have HSN3 : Hid (Sl intE 1 w3 aN N) := Lib.hid ((show Sl intE 1 w2 aN N from HFN.out.sl (fun _ => rfl)).keep hb3)
  have HFH := Lib.hid hfH
  have HHH := Lib.hid hH
  clear hfH hH hb3
  go_upto_region 6 with fail
  cases q1
  · have HNO : Hid (NoScr l) := Lib.hid (NoScr.nums HO.out (fun e => by have h1 := HV.out; have h2 := HQ1.out; rw [allN, if_pos (by omega)] at h1; rw [← h1] at h2; cases h2))
    refine wp_region_quietx (w3) rfl (by kernel_rfl) (by kernel_rfl) ?_
    repeat (go_big_quiet_step (fail))
    refine wpQuiet_nil ?_
    intro _ hw'
    obtain ⟨xq, hw''⟩ := hw'
    subst hw''
    have hbq := extW_below (w3) xq
    generalize extW (w3) xq = wq at hbq ⊢
    have z7_0 := kC hbq z5_l z5_0
    have z7_1 := kC hbq z5_l z5_1
    have z7_2 := kC hbq z5_l z5_2
    have z7_3 := kC hbq z5_l z5_3
    have z7_4 := kC hbq z5_l z5_4
    have z7_5 := kC hbq z5_l z5_5
    have z7_6 := kC hbq z5_l z5_6
    have z7_7 := kC hbq z5_l z5_7
    have z7_8 := kC hbq z5_l z5_8
    have z7_9 := kC hbq z5_l z5_9
    have z7_10 := kC hbq z5_l z5_10
    have z7_11 := kC hbq z5_l z5_11
    have z7_l := Nat.lt_of_lt_of_le z5_l hbq.size
    have z7_f := fun o => kF hbq z5_l (z5_f o)
    clear z5_0 z5_1 z5_2 z5_3 z5_4 z5_5 z5_6 z5_7 z5_8 z5_9 z5_10 z5_11 z5_l z5_f
    have d8_0 := kC hbq d6_l d6_0
    have d8_1 := kC hbq d6_l d6_1
    have d8_2 := kC hbq d6_l d6_2
    have d8_l := Nat.lt_of_lt_of_le d6_l hbq.size
    clear d6_0 d6_1 d6_2 d6_l
    have HB4 : Hid (Below w.heap.size w wq) := Lib.hid (HB3.out.trans (hbq.mono HB3.out.size))
    go_wp2_with fail
    refine bodyPost_ret (v := .tuple #[.agg #[.int .i64 0, .int .i64 0, .int .i64 0, .int .i64 0, .int .i64 0, .int .i64 0, .int .i64 0, .int .i64 0, .int .i64 0, .string ⟨#[]⟩, .slice none 0 0, .slice none 0 0], .bool false]) (by simp [results, Try.results19, go_sem, z7_0, z7_1, z7_2, z7_3, z7_4, z7_5, z7_6, z7_7, z7_8, z7_9, z7_10, z7_11, z7_f]) rfl ?_
    exact RdR.no HNO.out ((b12 HB4.out))
  cases q2
  · have HNO : Hid (NoScr l) := Lib.hid (NoScr.hist HO.out (by rw [HV2.out]; exact Option.isSome_eq_false_iff.1 HQ2.out |> Option.isNone_iff_eq_none.1))
    refine wp_region_quietx (w3) rfl (by kernel_rfl) (by kernel_rfl) ?_
    repeat (go_big_quiet_step (fail))
    refine wpQuiet_nil ?_
    intro _ hw'
    obtain ⟨xq, hw''⟩ := hw'
    subst hw''
    have hbq := extW_below (w3) xq
    generalize extW (w3) xq = wq at hbq ⊢
    have z7_0 := kC hbq z5_l z5_0
    have z7_1 := kC hbq z5_l z5_1
    have z7_2 := kC hbq z5_l z5_2
    have z7_3 := kC hbq z5_l z5_3
    have z7_4 := kC hbq z5_l z5_4
    have z7_5 := kC hbq z5_l z5_5
    have z7_6 := kC hbq z5_l z5_6
    have z7_7 := kC hbq z5_l z5_7
    have z7_8 := kC hbq z5_l z5_8
    have z7_9 := kC hbq z5_l z5_9
    have z7_10 := kC hbq z5_l z5_10
    have z7_11 := kC hbq z5_l z5_11
    have z7_l := Nat.lt_of_lt_of_le z5_l hbq.size
    have z7_f := fun o => kF hbq z5_l (z5_f o)
    clear z5_0 z5_1 z5_2 z5_3 z5_4 z5_5 z5_6 z5_7 z5_8 z5_9 z5_10 z5_11 z5_l z5_f
    have d8_0 := kC hbq d6_l d6_0
    have d8_1 := kC hbq d6_l d6_1
    have d8_2 := kC hbq d6_l d6_2
    have d8_l := Nat.lt_of_lt_of_le d6_l hbq.size
    clear d6_0 d6_1 d6_2 d6_l
    have HB4 : Hid (Below w.heap.size w wq) := Lib.hid (HB3.out.trans (hbq.mono HB3.out.size))
    go_wp2_with fail
    refine bodyPost_ret (v := .tuple #[.agg #[.int .i64 0, .int .i64 0, .int .i64 0, .int .i64 0, .int .i64 0, .int .i64 0, .int .i64 0, .int .i64 0, .int .i64 0, .string ⟨#[]⟩, .slice none 0 0, .slice none 0 0], .bool false]) (by simp [results, Try.results19, go_sem, z7_0, z7_1, z7_2, z7_3, z7_4, z7_5, z7_6, z7_7, z7_8, z7_9, z7_10, z7_11, z7_f]) rfl ?_
    exact RdR.no HNO.out ((b12 HB4.out))
  obtain ⟨N0, rfl⟩ := Option.isSome_iff_exists.1 HQ1.out
  obtain ⟨hs0, rfl⟩ := Option.isSome_iff_exists.1 HQ2.out
  have hN0 := HNN.out _ rfl
  have hh0 := HHH.out _ rfl
  subst hN0
  subst hh0
  have hNl : N.length = a.data.toList.length / 3 ∧ (a.data.toList.length % 3 = 0) := by
    have h1 := HV.out
    unfold allN at h1
    by_cases h : a.data.toList.length % 3 = 0
    · rw [if_pos h] at h1
      injection h1 with h1
      exact ⟨by rw [← h1, rnF_length], h⟩
    · rw [if_neg h] at h1
      cases h1
  by_cases h9 : N.length = 9
  rotate_left
  · have HNO : Hid (NoScr l) := Lib.hid (NoScr.nums HO.out (fun e => h9 (by omega)))
    have h9' : ((N.length : Int) != 9) = true := bne_iff_ne.2 (by omega)
    clear hNl h9
    refine wp_region_quietx (w3) rfl (by kernel_rfl) (by kernel_rfl) ?_
    repeat (go_big_quiet_step (fail))
    refine wpQuiet_nil ?_
    intro _ hw'
    obtain ⟨xq, hw''⟩ := hw'
    subst hw''
    have hbq := extW_below (w3) xq
    generalize extW (w3) xq = wq at hbq ⊢
    have z7_0 := kC hbq z5_l z5_0
    have z7_1 := kC hbq z5_l z5_1
    have z7_2 := kC hbq z5_l z5_2
    have z7_3 := kC hbq z5_l z5_3
    have z7_4 := kC hbq z5_l z5_4
    have z7_5 := kC hbq z5_l z5_5
    have z7_6 := kC hbq z5_l z5_6
    have z7_7 := kC hbq z5_l z5_7
    have z7_8 := kC hbq z5_l z5_8
    have z7_9 := kC hbq z5_l z5_9
    have z7_10 := kC hbq z5_l z5_10
    have z7_11 := kC hbq z5_l z5_11
    have z7_l := Nat.lt_of_lt_of_le z5_l hbq.size
    have z7_f := fun o => kF hbq z5_l (z5_f o)
    clear z5_0 z5_1 z5_2 z5_3 z5_4 z5_5 z5_6 z5_7 z5_8 z5_9 z5_10 z5_11 z5_l z5_f
    have d8_0 := kC hbq d6_l d6_0
    have d8_1 := kC hbq d6_l d6_1
    have d8_2 := kC hbq d6_l d6_2
    have d8_l := Nat.lt_of_lt_of_le d6_l hbq.size
    clear d6_0 d6_1 d6_2 d6_l
    have HB4 : Hid (Below w.heap.size w wq) := Lib.hid (HB3.out.trans (hbq.mono HB3.out.size))
    go_wp2_with fail
    refine bodyPost_ret (v := .tuple #[.agg #[.int .i64 0, .int .i64 0, .int .i64 0, .int .i64 0, .int .i64 0, .int .i64 0, .int .i64 0, .int .i64 0, .int .i64 0, .string ⟨#[]⟩, .slice none 0 0, .slice none 0 0], .bool false]) (by simp [results, Try.results19, go_sem, z7_0, z7_1, z7_2, z7_3, z7_4, z7_5, z7_6, z7_7, z7_8, z7_9, z7_10, z7_11, z7_f]) rfl ?_
    exact RdR.no HNO.out ((b12 HB4.out))
  have h27 : a.data.toList.length = 27 := by omega
  have hNN : N = rnF 9 a.data.toList := by
    have h1 := HV.out
    rw [allN, if_pos hNl.2, h27] at h1
    injection h1 with h1
    exact h1.symm
  have H27 := Lib.hid h27
  clear hNl h27
  generalize hnl : N.length = nN at *
  subst h9
  have h9' : ((((9 : Nat) : Int)) != 9) = false := by decide
  have h9'' : (((9 : Int)) != 9) = false := by decide
  clear hnl
  subst hNN
  have hn6 : hs.length ≤ 60 := (rdAll_canon HV2.out).2.1
  obtain ⟨bN, oN, rfl, hbN, hcN⟩ := HSN3.out.at (i := 0) (by rw [rnF_length]; omega)
  obtain ⟨n0, hn0⟩ : ∃ x, nAt a.data.toList 0 = x := ⟨_, rfl⟩
  obtain ⟨n1, hn1⟩ : ∃ x, nAt a.data.toList 1 = x := ⟨_, rfl⟩
  obtain ⟨n2, hn2⟩ : ∃ x, nAt a.data.toList 2 = x := ⟨_, rfl⟩
  obtain ⟨n3, hn3⟩ : ∃ x, nAt a.data.toList 3 = x := ⟨_, rfl⟩
  obtain ⟨n4, hn4⟩ : ∃ x, nAt a.data.toList 4 = x := ⟨_, rfl⟩
  obtain ⟨n5, hn5⟩ : ∃ x, nAt a.data.toList 5 = x := ⟨_, rfl⟩
  obtain ⟨n6, hn6⟩ : ∃ x, nAt a.data.toList 6 = x := ⟨_, rfl⟩
  obtain ⟨n7, hn7⟩ : ∃ x, nAt a.data.toList 7 = x := ⟨_, rfl⟩
  obtain ⟨n8, hn8⟩ : ∃ x, nAt a.data.toList 8 = x := ⟨_, rfl⟩
  have HRD : Hid (∀ cs, rdS a t cs hs = ⟨n0, n1, n2, n3, n4, n5, n6, n7, n8, t, cs, hs⟩) := Lib.hid (fun cs => by rw [rdS, hn0, hn1, hn2, hn3, hn4, hn5, hn6, hn7, hn8])
  have HNN2 : Hid (rnF 9 a.data.toList = [n0, n1, n2, n3, n4, n5, n6, n7, n8]) := Lib.hid (by rw [rnF_nine, hn0, hn1, hn2, hn3, hn4, hn5, hn6, hn7, hn8])
  have HE0 := Lib.hid hn0
  have HE1 := Lib.hid hn1
  rw [HNN2.out] at hcN
  clear hn0 hn1 hn2 hn3 hn4 hn5 hn6 hn7 hn8
  have n7_0 : w3.cell? ⟨bN, oN, none⟩ = some (.int .i64 n0) := (by have := hcN 0 (by simp) 0 (by omega); simpa [intE] using this)
  have n7_1 : w3.cell? ⟨bN, oN + 1, none⟩ = some (.int .i64 n1) := (by have := hcN 1 (by simp) 0 (by omega); simpa [intE] using this)
  have n7_2 : w3.cell? ⟨bN, oN + 2, none⟩ = some (.int .i64 n2) := (by have := hcN 2 (by simp) 0 (by omega); simpa [intE] using this)
  have n7_3 : w3.cell? ⟨bN, oN + 3, none⟩ = some (.int .i64 n3) := (by have := hcN 3 (by simp) 0 (by omega); simpa [intE] using this)
  have n7_4 : w3.cell? ⟨bN, oN + 4, none⟩ = some (.int .i64 n4) := (by have := hcN 4 (by simp) 0 (by omega); simpa [intE] using this)
  have n7_5 : w3.cell? ⟨bN, oN + 5, none⟩ = some (.int .i64 n5) := (by have := hcN 5 (by simp) 0 (by omega); simpa [intE] using this)
  have n7_6 : w3.cell? ⟨bN, oN + 6, none⟩ = some (.int .i64 n6) := (by have := hcN 6 (by simp) 0 (by omega); simpa [intE] using this)
  have n7_7 : w3.cell? ⟨bN, oN + 7, none⟩ = some (.int .i64 n7) := (by have := hcN 7 (by simp) 0 (by omega); simpa [intE] using this)
  have n7_8 : w3.cell? ⟨bN, oN + 8, none⟩ = some (.int .i64 n8) := (by have := hcN 8 (by simp) 0 (by omega); simpa [intE] using this)
  have n7_l : bN < w3.heap.size := hbN
  clear hcN hbN
  cases h6 : (inB n0 2 24 && inB n1 2 10)
  · have HNO : Hid (NoScr l) := Lib.hid (NoScr.size HO.out (by rw [HE0.out, HE1.out]; exact h6))
    have HSZ : Hid (∀ W, Calls Try.prog 35 #[.int .i64 n0, .int .i64 n1] W fun e w' => e = .returned (.bool false) ∧ W = w') := Lib.hid (fun W => by rw [← h6]; exact l04Size_c n0 n1 W)
    clear h6
    have xq0 := extW_cell (w := w3) (b := bN) (by (try simp) <;> (try omega))
    refine wp_region_quietx (w3) rfl (by kernel_rfl) (by kernel_rfl) ?_
    repeat (go_big_quiet_step ((go_at_call 35; exact Calls.quietx_same (HSZ.out _))))
    refine wpQuiet_nil ?_
    intro _ hw'
    obtain ⟨xq, hw''⟩ := hw'
    subst hw''
    have hbq := extW_below (w3) xq
    generalize extW (w3) xq = wq at hbq ⊢
    clear xq0
    have z8_0 := kC hbq z5_l z5_0
    have z8_1 := kC hbq z5_l z5_1
    have z8_2 := kC hbq z5_l z5_2
    have z8_3 := kC hbq z5_l z5_3
    have z8_4 := kC hbq z5_l z5_4
    have z8_5 := kC hbq z5_l z5_5
    have z8_6 := kC hbq z5_l z5_6
    have z8_7 := kC hbq z5_l z5_7
    have z8_8 := kC hbq z5_l z5_8
    have z8_9 := kC hbq z5_l z5_9
    have z8_10 := kC hbq z5_l z5_10
    have z8_11 := kC hbq z5_l z5_11
    have z8_l := Nat.lt_of_lt_of_le z5_l hbq.size
    have z8_f := fun o => kF hbq z5_l (z5_f o)
    clear z5_0 z5_1 z5_2 z5_3 z5_4 z5_5 z5_6 z5_7 z5_8 z5_9 z5_10 z5_11 z5_l z5_f
    have d9_0 := kC hbq d6_l d6_0
    have d9_1 := kC hbq d6_l d6_1
    have d9_2 := kC hbq d6_l d6_2
    have d9_l := Nat.lt_of_lt_of_le d6_l hbq.size
    clear d6_0 d6_1 d6_2 d6_l
    have n10_0 := kC hbq n7_l n7_0
    have n10_1 := kC hbq n7_l n7_1
    have n10_2 := kC hbq n7_l n7_2
    have n10_3 := kC hbq n7_l n7_3
    have n10_4 := kC hbq n7_l n7_4
    have n10_5 := kC hbq n7_l n7_5
    have n10_6 := kC hbq n7_l n7_6
    have n10_7 := kC hbq n7_l n7_7
    have n10_8 := kC hbq n7_l n7_8
    have n10_l := Nat.lt_of_lt_of_le n7_l hbq.size
    clear n7_0 n7_1 n7_2 n7_3 n7_4 n7_5 n7_6 n7_7 n7_8 n7_l
    have HB4 : Hid (Below w.heap.size w wq) := Lib.hid (HB3.out.trans (hbq.mono HB3.out.size))
    go_wp2_with fail
    refine bodyPost_ret (v := .tuple #[.agg #[.int .i64 0, .int .i64 0, .int .i64 0, .int .i64 0, .int .i64 0, .int .i64 0, .int .i64 0, .int .i64 0, .int .i64 0, .string ⟨#[]⟩, .slice none 0 0, .slice none 0 0], .bool false]) (by simp [results, Try.results19, go_sem, z8_0, z8_1, z8_2, z8_3, z8_4, z8_5, z8_6, z8_7, z8_8, z8_9, z8_10, z8_11, z8_f]) rfl ?_
    exact RdR.no HNO.out ((b12 HB4.out))
  have HSZ : Hid (∀ W, Calls Try.prog 35 #[.int .i64 n0, .int .i64 n1] W fun e w' => e = .returned (.bool true) ∧ W = w') := Lib.hid (fun W => by rw [← h6]; exact l04Size_c n0 n1 W)
  obtain ⟨⟨u1, u2⟩, u3, u4⟩ : (2 ≤ n0 ∧ n0 ≤ 24) ∧ 2 ≤ n1 ∧ n1 ≤ 10 := by
    rw [Bool.and_eq_true, inB_iff, inB_iff] at h6
    exact h6
  have hw3 : IntKind.i64.wrap (3 + n1) = 3 + n1 := IntWalk.i64_in _ ⟨by omega, by omega⟩
  by_cases hct : (rows.length : Int) = n1
  rotate_left
  · have HNO : Hid (NoScr l) := Lib.hid (NoScr.count HO.out (.inl (by rw [HE1.out]; exact hct)))
    have hct' : ((rows.length : Int) + 3 != 3 + n1) = true := bne_iff_ne.2 (by omega)
    clear h6 hct
    have xq0 := extW_cell (w := w3) (b := bN) (by (try simp) <;> (try omega))
    refine wp_region_quietx (w3) rfl (by kernel_rfl) (by kernel_rfl) ?_
    repeat (go_big_quiet_step ((go_at_call 35; exact Calls.quietx_same (HSZ.out _))))
    refine wpQuiet_nil ?_
    intro _ hw'
    obtain ⟨xq, hw''⟩ := hw'
    subst hw''
    have hbq := extW_below (w3) xq
    generalize extW (w3) xq = wq at hbq ⊢
    clear xq0
    have z8_0 := kC hbq z5_l z5_0
    have z8_1 := kC hbq z5_l z5_1
    have z8_2 := kC hbq z5_l z5_2
    have z8_3 := kC hbq z5_l z5_3
    have z8_4 := kC hbq z5_l z5_4
    have z8_5 := kC hbq z5_l z5_5
    have z8_6 := kC hbq z5_l z5_6
    have z8_7 := kC hbq z5_l z5_7
    have z8_8 := kC hbq z5_l z5_8
    have z8_9 := kC hbq z5_l z5_9
    have z8_10 := kC hbq z5_l z5_10
    have z8_11 := kC hbq z5_l z5_11
    have z8_l := Nat.lt_of_lt_of_le z5_l hbq.size
    have z8_f := fun o => kF hbq z5_l (z5_f o)
    clear z5_0 z5_1 z5_2 z5_3 z5_4 z5_5 z5_6 z5_7 z5_8 z5_9 z5_10 z5_11 z5_l z5_f
    have d9_0 := kC hbq d6_l d6_0
    have d9_1 := kC hbq d6_l d6_1
    have d9_2 := kC hbq d6_l d6_2
    have d9_l := Nat.lt_of_lt_of_le d6_l hbq.size
    clear d6_0 d6_1 d6_2 d6_l
    have n10_0 := kC hbq n7_l n7_0
    have n10_1 := kC hbq n7_l n7_1
    have n10_2 := kC hbq n7_l n7_2
    have n10_3 := kC hbq n7_l n7_3
    have n10_4 := kC hbq n7_l n7_4
    have n10_5 := kC hbq n7_l n7_5
    have n10_6 := kC hbq n7_l n7_6
    have n10_7 := kC hbq n7_l n7_7
    have n10_8 := kC hbq n7_l n7_8
    have n10_l := Nat.lt_of_lt_of_le n7_l hbq.size
    clear n7_0 n7_1 n7_2 n7_3 n7_4 n7_5 n7_6 n7_7 n7_8 n7_l
    have HB4 : Hid (Below w.heap.size w wq) := Lib.hid (HB3.out.trans (hbq.mono HB3.out.size))
    go_wp2_with fail
    refine bodyPost_ret (v := .tuple #[.agg #[.int .i64 0, .int .i64 0, .int .i64 0, .int .i64 0, .int .i64 0, .int .i64 0, .int .i64 0, .int .i64 0, .int .i64 0, .string ⟨#[]⟩, .slice none 0 0, .slice none 0 0], .bool false]) (by simp [results, Try.results19, go_sem, z8_0, z8_1, z8_2, z8_3, z8_4, z8_5, z8_6, z8_7, z8_8, z8_9, z8_10, z8_11, z8_f]) rfl ?_
    exact RdR.no HNO.out ((b12 HB4.out))
  have hct' : ((rows.length : Int) + 3 != 3 + n1) = false := by rw [bne_eq_false_iff_eq]; omega
  have HCT := Lib.hid hct
  clear h6 hct
  have xq0 := extW_cell (w := w3) (b := bN) (by (try simp) <;> (try omega))
  refine wp_region_quietx (w3) rfl (by kernel_rfl) (by kernel_rfl) ?_
  repeat (go_big_quiet_step ((go_at_call 35; exact Calls.quietx_same (HSZ.out _))))
  refine wpQuiet_nil ?_
  intro _ hw'
  obtain ⟨xq, hw''⟩ := hw'
  subst hw''
  have hbq := extW_below (w3) xq
  generalize extW (w3) xq = wq at hbq ⊢
  clear xq0
  have z8_0 := kC hbq z5_l z5_0
  have z8_1 := kC hbq z5_l z5_1
  have z8_2 := kC hbq z5_l z5_2
  have z8_3 := kC hbq z5_l z5_3
  have z8_4 := kC hbq z5_l z5_4
  have z8_5 := kC hbq z5_l z5_5
  have z8_6 := kC hbq z5_l z5_6
  have z8_7 := kC hbq z5_l z5_7
  have z8_8 := kC hbq z5_l z5_8
  have z8_9 := kC hbq z5_l z5_9
  have z8_10 := kC hbq z5_l z5_10
  have z8_11 := kC hbq z5_l z5_11
  have z8_l := Nat.lt_of_lt_of_le z5_l hbq.size
  have z8_f := fun o => kF hbq z5_l (z5_f o)
  clear z5_0 z5_1 z5_2 z5_3 z5_4 z5_5 z5_6 z5_7 z5_8 z5_9 z5_10 z5_11 z5_l z5_f
  have d9_0 := kC hbq d6_l d6_0
  have d9_1 := kC hbq d6_l d6_1
  have d9_2 := kC hbq d6_l d6_2
  have d9_l := Nat.lt_of_lt_of_le d6_l hbq.size
  clear d6_0 d6_1 d6_2 d6_l
  have n10_0 := kC hbq n7_l n7_0
  have n10_1 := kC hbq n7_l n7_1
  have n10_2 := kC hbq n7_l n7_2
  have n10_3 := kC hbq n7_l n7_3
  have n10_4 := kC hbq n7_l n7_4
  have n10_5 := kC hbq n7_l n7_5
  have n10_6 := kC hbq n7_l n7_6
  have n10_7 := kC hbq n7_l n7_7
  have n10_8 := kC hbq n7_l n7_8
  have n10_l := Nat.lt_of_lt_of_le n7_l hbq.size
  clear n7_0 n7_1 n7_2 n7_3 n7_4 n7_5 n7_6 n7_7 n7_8 n7_l
  have HB4 : Hid (Below w.heap.size w wq) := Lib.hid (HB3.out.trans (hbq.mono HB3.out.size))
  go_upto_region 8 with fail
  have HSB : Hid (∀ x, Below wq.heap.size wq x → x.cell? ⟨bN, oN, none⟩ = some (.int .i64 n0) ∧ x.cell? ⟨bN, oN + 1, none⟩ = some (.int .i64 n1) ∧ x.cell? ⟨bN, oN + 2, none⟩ = some (.int .i64 n2) ∧ x.cell? ⟨bN, oN + 3, none⟩ = some (.int .i64 n3) ∧ x.cell? ⟨bN, oN + 4, none⟩ = some (.int .i64 n4) ∧ x.cell? ⟨bN, oN + 5, none⟩ = some (.int .i64 n5) ∧ x.cell? ⟨bN, oN + 6, none⟩ = some (.int .i64 n6) ∧ x.cell? ⟨bN, oN + 7, none⟩ = some (.int .i64 n7) ∧ x.cell? ⟨bN, oN + 8, none⟩ = some (.int .i64 n8) ∧ x.cell? ⟨bF, oF + 1, none⟩ = some (.string t)) := Lib.hid (fun x h => ⟨(h.cell (p := ⟨bN, oN, none⟩) n10_l).trans n10_0, (h.cell (p := ⟨bN, oN + 1, none⟩) n10_l).trans n10_1, (h.cell (p := ⟨bN, oN + 2, none⟩) n10_l).trans n10_2, (h.cell (p := ⟨bN, oN + 3, none⟩) n10_l).trans n10_3, (h.cell (p := ⟨bN, oN + 4, none⟩) n10_l).trans n10_4, (h.cell (p := ⟨bN, oN + 5, none⟩) n10_l).trans n10_5, (h.cell (p := ⟨bN, oN + 6, none⟩) n10_l).trans n10_6, (h.cell (p := ⟨bN, oN + 7, none⟩) n10_l).trans n10_7, (h.cell (p := ⟨bN, oN + 8, none⟩) n10_l).trans n10_8, (h.cell (p := ⟨bF, oF + 1, none⟩) d9_l).trans d9_1⟩)
  have hS0 := HSB.out wq (Below.refl _ _)
  have hi1 : (1 : Int) < (rows.length : Int) + 3 := by omega
  go_cut [10] (fun v wx => ∃ B g, v = .pointer (some ⟨B, 0, none⟩) ∧ Hid (BoxI B ⟨n0, n1, n2, n3, n4, n5, n6, n7, n8, t, [], hs⟩ (some ⟨g, 0, none⟩) 0 aH cH wx ∧ CellsG B wq.heap.size wx [] (some ⟨g, 0, none⟩) 0 wx ∧ wq.heap.size ≤ B ∧ Below wq.heap.size wq wx))
  case first =>
    refine wp_region_G (fun w' => w'.cell? ⟨bN, oN, none⟩ = some (.int .i64 n0) ∧ w'.cell? ⟨bN, oN + 1, none⟩ = some (.int .i64 n1) ∧ w'.cell? ⟨bN, oN + 2, none⟩ = some (.int .i64 n2) ∧ w'.cell? ⟨bN, oN + 3, none⟩ = some (.int .i64 n3) ∧ w'.cell? ⟨bN, oN + 4, none⟩ = some (.int .i64 n4) ∧ w'.cell? ⟨bN, oN + 5, none⟩ = some (.int .i64 n5) ∧ w'.cell? ⟨bN, oN + 6, none⟩ = some (.int .i64 n6) ∧ w'.cell? ⟨bN, oN + 7, none⟩ = some (.int .i64 n7) ∧ w'.cell? ⟨bN, oN + 8, none⟩ = some (.int .i64 n8) ∧ w'.cell? ⟨bF, oF + 1, none⟩ = some (.string t)) (fun i => i == 34) (by kernel_rfl) hS0 ?_
    refine tW ?_ 0 rfl ?_ ?_; rotate_left
    · intro w' hSw; go_simp; try rfl
    try simp only [Act.put,j1,j2,j3,j4,j5,j6]
    refine tW ?_ 1 rfl ?_ ?_; rotate_left
    · intro w' hSw; go_simp; try rfl
    try simp only [Act.put,j1,j2,j3,j4,j5,j6]
    refine tL ?_ 2 rfl hS0 ?_ ?_; rotate_left
    · intro w' hSw; obtain ⟨s0, s1, s2, s3, s4, s5, s6, s7, s8, s9⟩ := hSw; go_simp; try rfl
    try simp only [Act.put,j1,j2,j3,j4,j5,j6]
    refine tW ?_ 3 rfl ?_ ?_; rotate_left
    · intro w' hSw; go_simp; try rfl
    try simp only [Act.put,j1,j2,j3,j4,j5,j6]
    refine tW ?_ 4 rfl ?_ ?_; rotate_left
    · intro w' hSw; go_simp; try rfl
    try simp only [Act.put,j1,j2,j3,j4,j5,j6]
    refine tL ?_ 5 rfl hS0 ?_ ?_; rotate_left
    · intro w' hSw; obtain ⟨s0, s1, s2, s3, s4, s5, s6, s7, s8, s9⟩ := hSw; go_simp; try rfl
    try simp only [Act.put,j1,j2,j3,j4,j5,j6]
    refine tW ?_ 6 rfl ?_ ?_; rotate_left
    · intro w' hSw; go_simp; try rfl
    try simp only [Act.put,j1,j2,j3,j4,j5,j6]
    refine tW ?_ 7 rfl ?_ ?_; rotate_left
    · intro w' hSw; go_simp; try rfl
    try simp only [Act.put,j1,j2,j3,j4,j5,j6]
    refine tL ?_ 8 rfl hS0 ?_ ?_; rotate_left
    · intro w' hSw; obtain ⟨s0, s1, s2, s3, s4, s5, s6, s7, s8, s9⟩ := hSw; go_simp; try rfl
    try simp only [Act.put,j1,j2,j3,j4,j5,j6]
    refine tW ?_ 9 rfl ?_ ?_; rotate_left
    · intro w' hSw; go_simp; try rfl
    try simp only [Act.put,j1,j2,j3,j4,j5,j6]
    refine tW ?_ 10 rfl ?_ ?_; rotate_left
    · intro w' hSw; go_simp; try rfl
    try simp only [Act.put,j1,j2,j3,j4,j5,j6]
    refine tL ?_ 11 rfl hS0 ?_ ?_; rotate_left
    · intro w' hSw; obtain ⟨s0, s1, s2, s3, s4, s5, s6, s7, s8, s9⟩ := hSw; go_simp; try rfl
    try simp only [Act.put,j1,j2,j3,j4,j5,j6]
    refine tW ?_ 12 rfl ?_ ?_; rotate_left
    · intro w' hSw; go_simp; try rfl
    try simp only [Act.put,j1,j2,j3,j4,j5,j6]
    refine tW ?_ 13 rfl ?_ ?_; rotate_left
    · intro w' hSw; go_simp; try rfl
    try simp only [Act.put,j1,j2,j3,j4,j5,j6]
    refine tL ?_ 14 rfl hS0 ?_ ?_; rotate_left
    · intro w' hSw; obtain ⟨s0, s1, s2, s3, s4, s5, s6, s7, s8, s9⟩ := hSw; go_simp; try rfl
    try simp only [Act.put,j1,j2,j3,j4,j5,j6]
    refine tW ?_ 15 rfl ?_ ?_; rotate_left
    · intro w' hSw; go_simp; try rfl
    try simp only [Act.put,j1,j2,j3,j4,j5,j6]
    refine tW ?_ 16 rfl ?_ ?_; rotate_left
    · intro w' hSw; go_simp; try rfl
    try simp only [Act.put,j1,j2,j3,j4,j5,j6]
    refine tL ?_ 17 rfl hS0 ?_ ?_; rotate_left
    · intro w' hSw; obtain ⟨s0, s1, s2, s3, s4, s5, s6, s7, s8, s9⟩ := hSw; go_simp; try rfl
    try simp only [Act.put,j1,j2,j3,j4,j5,j6]
    refine tW ?_ 18 rfl ?_ ?_; rotate_left
    · intro w' hSw; go_simp; try rfl
    try simp only [Act.put,j1,j2,j3,j4,j5,j6]
    refine tW ?_ 19 rfl ?_ ?_; rotate_left
    · intro w' hSw; go_simp; try rfl
    try simp only [Act.put,j1,j2,j3,j4,j5,j6]
    refine tL ?_ 20 rfl hS0 ?_ ?_; rotate_left
    · intro w' hSw; obtain ⟨s0, s1, s2, s3, s4, s5, s6, s7, s8, s9⟩ := hSw; go_simp; try rfl
    try simp only [Act.put,j1,j2,j3,j4,j5,j6]
    refine tW ?_ 21 rfl ?_ ?_; rotate_left
    · intro w' hSw; go_simp; try rfl
    try simp only [Act.put,j1,j2,j3,j4,j5,j6]
    refine tW ?_ 22 rfl ?_ ?_; rotate_left
    · intro w' hSw; go_simp; try rfl
    try simp only [Act.put,j1,j2,j3,j4,j5,j6]
    refine tL ?_ 23 rfl hS0 ?_ ?_; rotate_left
    · intro w' hSw; obtain ⟨s0, s1, s2, s3, s4, s5, s6, s7, s8, s9⟩ := hSw; go_simp; try rfl
    try simp only [Act.put,j1,j2,j3,j4,j5,j6]
    refine tW ?_ 24 rfl ?_ ?_; rotate_left
    · intro w' hSw; go_simp; try rfl
    try simp only [Act.put,j1,j2,j3,j4,j5,j6]
    refine tW ?_ 25 rfl ?_ ?_; rotate_left
    · intro w' hSw; go_simp; try rfl
    try simp only [Act.put,j1,j2,j3,j4,j5,j6]
    refine tL ?_ 26 rfl hS0 ?_ ?_; rotate_left
    · intro w' hSw; obtain ⟨s0, s1, s2, s3, s4, s5, s6, s7, s8, s9⟩ := hSw; go_simp; try rfl
    try simp only [Act.put,j1,j2,j3,j4,j5,j6]
    refine tW ?_ 27 rfl ?_ ?_; rotate_left
    · intro w' hSw; go_simp; try rfl
    try simp only [Act.put,j1,j2,j3,j4,j5,j6]
    refine tW ?_ 28 rfl ?_ ?_; rotate_left
    · intro w' hSw; go_simp; try rfl
    try simp only [Act.put,j1,j2,j3,j4,j5,j6]
    refine tL ?_ 29 rfl hS0 ?_ ?_; rotate_left
    · intro w' hSw; obtain ⟨s0, s1, s2, s3, s4, s5, s6, s7, s8, s9⟩ := hSw; go_simp; try rfl
    try simp only [Act.put,j1,j2,j3,j4,j5,j6]
    refine tW ?_ 31 rfl ?_ ?_; rotate_left
    · intro w' hSw; go_simp; try rfl
    try simp only [Act.put,j1,j2,j3,j4,j5,j6]
    refine wpAnyG_br (rs := [30, 33]) (by kernel_rfl) (by simp) ?_
    intro j hj
    simp only [List.mem_cons, List.not_mem_nil, or_false] at hj
    rcases hj with rfl | rfl
    · skip
      refine ⟨_, rfl, fun K' hK => ?_⟩
      simp only [j1,j2,j3]
      go_simp
      refine hK.out _ _ (Or.inr (HSB.out _ (by repeat (first | exact Below.refl _ _ | refine Below.drew ?_ | refine Below.alloc ?_ (by simp) _)))) ?_
      clear hK K'
      try simp only [Act.put,j1,j2,j3,j4,j5,j6]
      refine tW ?_ 32 rfl ?_ ?_; rotate_left
      · intro w' hSw; go_simp; try rfl
      try simp only [Act.put,j1,j2,j3,j4,j5,j6]
      refine wpAnyG_one (i := 33) (by kernel_rfl) rfl ((HSB.out _ (by repeat (first | exact Below.refl _ _ | refine Below.drew ?_ | refine Below.alloc ?_ (by simp) _)))) (fun K' hK => ?_)
      simp only [j1,j2,j3]
      go_simp
      refine hK.out _ _ (Or.inr (HSB.out _ (by repeat (first | exact Below.refl _ _ | refine Below.drew ?_ | refine Below.alloc ?_ (by simp) _)))) ?_
      clear hK K'
      try simp only [Act.put,j1,j2,j3,j4,j5,j6]
      refine wpAnyG_one (i := 34) (by kernel_rfl) rfl ((HSB.out _ (by repeat (first | exact Below.refl _ _ | refine Below.drew ?_ | refine Below.alloc ?_ (by simp) _)))) (fun K' hK => ?_)
      simp only [j1,j2,j3]
      go_simp
      refine hK.out _ _ (Or.inl rfl) ?_
      clear hK K'
      try simp only [Act.put,j1,j2,j3,j4,j5,j6]
      refine wpAnyG_done (by kernel_rfl) ?_ _
      go_wp2_with fail
      go_meet
      refine ⟨wq.heap.size + 1, wq.heap.size, rfl, Lib.hid ⟨⟨by simp [go_sem], by simp [go_sem], by simp [go_sem], by simp [go_sem], by simp [go_sem], by simp [go_sem], by simp [go_sem], by simp [go_sem], by simp [go_sem], by simp [go_sem], by simp [go_sem], by simp [go_sem], fun o => by simp [go_sem], by simp⟩, ⟨Upd.refl, by simp [go_sem], ?_, by simp [blkOf]⟩, by omega, ?_⟩⟩
      · exact (((fresh0 wq _ (Nat.le_refl _)).alloc _).drew).mono (Nat.le_refl _) (by simp)
      · exact (((Below.refl _ _).alloc (Nat.le_refl _) _).alloc (by simp) _).drew
    · skip
      refine ⟨_, rfl, fun K' hK => ?_⟩
      simp only [j1,j2,j3]
      go_simp
      refine hK.out _ _ (Or.inr (HSB.out _ (by repeat (first | exact Below.refl _ _ | refine Below.drew ?_ | refine Below.alloc ?_ (by simp) _)))) ?_
      clear hK K'
      try simp only [Act.put,j1,j2,j3,j4,j5,j6]
      refine wpAnyG_one (i := 30) (by kernel_rfl) rfl ((HSB.out _ (by repeat (first | exact Below.refl _ _ | refine Below.drew ?_ | refine Below.alloc ?_ (by simp) _)))) (fun K' hK => ?_)
      simp only [j1,j2,j3]
      go_simp
      refine hK.out _ _ (Or.inr (HSB.out _ (by repeat (first | exact Below.refl _ _ | refine Below.drew ?_ | refine Below.alloc ?_ (by simp) _)))) ?_
      clear hK K'
      try simp only [Act.put,j1,j2,j3,j4,j5,j6]
      refine tW ?_ 32 rfl ?_ ?_; rotate_left
      · intro w' hSw; go_simp; try rfl
      try simp only [Act.put,j1,j2,j3,j4,j5,j6]
      refine wpAnyG_one (i := 34) (by kernel_rfl) rfl ((HSB.out _ (by repeat (first | exact Below.refl _ _ | refine Below.drew ?_ | refine Below.alloc ?_ (by simp) _)))) (fun K' hK => ?_)
      simp only [j1,j2,j3]
      go_simp
      refine hK.out _ _ (Or.inl rfl) ?_
      clear hK K'
      try simp only [Act.put,j1,j2,j3,j4,j5,j6]
      refine wpAnyG_done (by kernel_rfl) ?_ _
      go_wp2_with fail
      go_meet
      refine ⟨wq.heap.size, wq.heap.size + 1, rfl, Lib.hid ⟨⟨by simp [go_sem], by simp [go_sem], by simp [go_sem], by simp [go_sem], by simp [go_sem], by simp [go_sem], by simp [go_sem], by simp [go_sem], by simp [go_sem], by simp [go_sem], by simp [go_sem], by simp [go_sem], fun o => by simp [go_sem], by simp; omega⟩, ⟨Upd.refl, by simp [go_sem], ?_, by simp [blkOf]⟩, by omega, ?_⟩⟩
      · have := ((fresh0 (wq.alloc (.cells #[.int .i64 n0, .int .i64 n1, .int .i64 n2, .int .i64 n3, .int .i64 n4, .int .i64 n5, .int .i64 n6, .int .i64 n7, .int .i64 n8, .string t, .slice (some ⟨wq.heap.size + 1, 0, none⟩) 0 0, .slice aH hs.length cH] 26)) wq.heap.size (by simp)).drew)
        simpa using this
      · exact (((Below.refl _ _).alloc (Nat.le_refl _) _).alloc (by simp) _).drew
  case rest =>
    obtain ⟨B, g, rfl, HC⟩ := hcut
    have HBX := Lib.hid HC.out.1
    have hbc : Below wq.heap.size wq wc := HC.out.2.2.2
    have HBW := Lib.hid HC.out.2.2.1
    have HZQ := Lib.hid z8_l
    have HDQ := Lib.hid d9_l
    have HSFq : Hid (Sl strE 1 wq (some ⟨bF, oF, none⟩) (a :: t :: hh :: rows)) := Lib.hid (HSF3.out.keep hbq)
    clear n10_0 n10_1 n10_2 n10_3 n10_4 n10_5 n10_6 n10_7 n10_8 n10_l
    have z11_0 := kC hbc z8_l z8_0
    have z11_1 := kC hbc z8_l z8_1
    have z11_2 := kC hbc z8_l z8_2
    have z11_3 := kC hbc z8_l z8_3
    have z11_4 := kC hbc z8_l z8_4
    have z11_5 := kC hbc z8_l z8_5
    have z11_6 := kC hbc z8_l z8_6
    have z11_7 := kC hbc z8_l z8_7
    have z11_8 := kC hbc z8_l z8_8
    have z11_9 := kC hbc z8_l z8_9
    have z11_10 := kC hbc z8_l z8_10
    have z11_11 := kC hbc z8_l z8_11
    have z11_l := Nat.lt_of_lt_of_le z8_l hbc.size
    have z11_f := fun o => kF hbc z8_l (z8_f o)
    clear z8_0 z8_1 z8_2 z8_3 z8_4 z8_5 z8_6 z8_7 z8_8 z8_9 z8_10 z8_11 z8_l z8_f
    have d12_0 := kC hbc d9_l d9_0
    have d12_1 := kC hbc d9_l d9_1
    have d12_2 := kC hbc d9_l d9_2
    have d12_l := Nat.lt_of_lt_of_le d9_l hbc.size
    clear d9_0 d9_1 d9_2 d9_l
    have HB5 : Hid (Below w.heap.size w wc) := Lib.hid (HB4.out.trans (hbc.mono HB4.out.size))
    have HSF5 := Lib.hid (HSFq.out.keep hbc)
    have HWH5 : Hid (FreshIn strE 9 1 (w.heap.size + 1) wq.heap.size (.slice aH hs.length cH) hs wc) := Lib.hid (((HFH.out.here.mono (by have h1 := HZ2.out; omega) hbq.size).below hbq).below hbc)
    clear hbq hbc hS0
    obtain ⟨wd, rfl⟩ : ∃ m : Nat, n0 = (m : Int) := ⟨n0.toNat, by omega⟩
    obtain ⟨ht, hht⟩ : ∃ m : Nat, rows.length = m := ⟨_, rfl⟩
    have hn1 : n1 = (ht : Int) := by rw [← HCT.out, hht]
    subst hn1
    have HHT := Lib.hid hht
    clear hht
    have hwd24 : wd ≤ 24 := by omega
    have hht10 : ht ≤ 10 := by omega
    have HHS : Hid (∀ r ∈ rows, r.size ≤ 20000) := HRS
    have HOLD : Hid (∀ wr cs ac cc, CellsG B wq.heap.size wc cs ac cc wr → ∀ b, b < wq.heap.size → (∀ o, wr.cell? ⟨b, o, none⟩ = wc.cell? ⟨b, o, none⟩) ∧ ∀ o, wr.frozen? ⟨b, o, none⟩ = wc.frozen? ⟨b, o, none⟩) := Lib.hid (fun wr cs ac cc h b hb => by
      have h1 := HBW.out
      have h2 : b < wc.heap.size := by have := HBX.out.lt; omega
      exact ⟨fun o => h.upd.cellB (by omega) h2 (by omega), fun o => World.frozen?_of_block (w := wc) (h.upd.block b h2 (by omega) (by omega))⟩)
    have HBOX : Hid (∀ wr cs ac cc, CellsG B wq.heap.size wc cs ac cc wr → wr.cell? ⟨B, 0, none⟩ = some (.int .i64 (wd : Int)) ∧ wr.cell? ⟨B, 1, none⟩ = some (.int .i64 (ht : Int)) ∧ (∀ o, wr.frozen? ⟨B, o, none⟩ = false) ∧ B < wr.heap.size) := Lib.hid (fun wr cs ac cc h => ⟨(h.upd.cell 0 (by omega)).trans HBX.out.c0, (h.upd.cell 1 (by omega)).trans HBX.out.c1, fun o => (h.upd.fz o).trans (HBX.out.fz o), Nat.lt_of_lt_of_le HBX.out.lt h.upd.size⟩)
    have HROW : Hid (∀ wr cs ac cc, CellsG B wq.heap.size wc cs ac cc wr → ∀ k (hk : k < rows.length), wr.cell? ⟨bF, oF + (3 + k), none⟩ = some (.string rows[k])) := Lib.hid (fun wr cs ac cc h k hk => by
      rw [((HOLD.out wr cs ac cc h bF HDQ.out).1 _)]
      obtain ⟨b', o', he, _, hc⟩ := HSF5.out.at (i := k + 3) (by simp; omega)
      cases he
      have := hc (k + 3) (by simp; omega) 0 (by omega)
      simpa [strE, Nat.add_assoc, Nat.add_comm 3] using this)
    go_wp2_with fail
    go_loopw [11] (fun i wr => ∃ (k : Nat) (cs : List Cl) (ac : Option Addr) (cc : Nat), k ≤ ht ∧ i = .int .i64 k ∧ cs.length ≤ 24 * k ∧ Hid (cs = rowsC wd (rows.take k) ∧ CellsG B wq.heap.size wc cs ac cc wr ∧ ∀ r ∈ rows.take k, r.size = 4 * wd)) (fun i _ => ht - (intOf i).toNat)
    case atStart => exact ⟨0, [], _, 0, Nat.zero_le _, rfl, by simp, Lib.hid ⟨by simp [rowsC], HC.out.2.1, by simp⟩⟩
    case round =>
      obtain ⟨k, cs, ac, cc, hk, rfl, hcl, HQ⟩ := hrel
      obtain ⟨b_0, b_1, b_f, b_l⟩ := HBOX.out wr cs ac cc HQ.out.2.1
      by_cases hlt : k < ht
      · have hlt' : (k : Int) < (ht : Int) := by omega
        have hkr : k < rows.length := by rw [HHT.out]; exact hlt
        have q_r := HROW.out wr cs ac cc HQ.out.2.1 k hkr
        obtain ⟨rk, hrk⟩ : ∃ r, rows[k].data.toList = r := ⟨_, rfl⟩
        have hrs : rows[k] = strOf rk := by rw [← hrk]; exact (strOf_data _).symm
        have HSNC := Lib.hid (rowsC_snoc wd rows k hkr)
        have HTK := Lib.hid (List.take_succ_eq_append_getElem hkr)
        have hrz := HHS.out rows[k] (List.getElem_mem _)
        have HME := Lib.hid (List.getElem_mem hkr)
        rw [hrs] at q_r hrz HME
        rw [hrk] at HSNC
        rw [hrs] at HTK
        clear hrs hrk
        have hsz : (strOf rk).size = rk.length := rfl
        by_cases hrow : rk.length = 4 * wd
        rotate_left
        · have HNO : Hid (NoScr l) := Lib.hid (NoScr.row HO.out HME.out (by rw [HE0.out, hsz]; omega))
          have hne : (((strOf rk).size : Int) != 4 * (wd : Int)) = true := bne_iff_ne.2 (by omega)
          clear hrow hsz
          have zz13_h := HOLD.out wr cs ac cc HQ.out.2.1 w.heap.size HZQ.out
          have zz13_0 : wr.cell? ⟨w.heap.size, 0, none⟩ = some (.int .i64 0) := (zz13_h.1 0).trans z11_0
          have zz13_1 : wr.cell? ⟨w.heap.size, 1, none⟩ = some (.int .i64 0) := (zz13_h.1 1).trans z11_1
          have zz13_2 : wr.cell? ⟨w.heap.size, 2, none⟩ = some (.int .i64 0) := (zz13_h.1 2).trans z11_2
          have zz13_3 : wr.cell? ⟨w.heap.size, 3, none⟩ = some (.int .i64 0) := (zz13_h.1 3).trans z11_3
          have zz13_4 : wr.cell? ⟨w.heap.size, 4, none⟩ = some (.int .i64 0) := (zz13_h.1 4).trans z11_4
          have zz13_5 : wr.cell? ⟨w.heap.size, 5, none⟩ = some (.int .i64 0) := (zz13_h.1 5).trans z11_5
          have zz13_6 : wr.cell? ⟨w.heap.size, 6, none⟩ = some (.int .i64 0) := (zz13_h.1 6).trans z11_6
          have zz13_7 : wr.cell? ⟨w.heap.size, 7, none⟩ = some (.int .i64 0) := (zz13_h.1 7).trans z11_7
          have zz13_8 : wr.cell? ⟨w.heap.size, 8, none⟩ = some (.int .i64 0) := (zz13_h.1 8).trans z11_8
          have zz13_9 : wr.cell? ⟨w.heap.size, 9, none⟩ = some (.string ⟨#[]⟩) := (zz13_h.1 9).trans z11_9
          have zz13_10 : wr.cell? ⟨w.heap.size, 10, none⟩ = some (.slice none 0 0) := (zz13_h.1 10).trans z11_10
          have zz13_11 : wr.cell? ⟨w.heap.size, 11, none⟩ = some (.slice none 0 0) := (zz13_h.1 11).trans z11_11
          have zz13_f : ∀ o, wr.frozen? ⟨w.heap.size, o, none⟩ = false := fun o => (zz13_h.2 o).trans (z11_f o)
          clear zz13_h
          have HB6 : Hid (Below w.heap.size w wr) := Lib.hid (HB5.out.trans (HQ.out.2.1.upd.toBelow HB5.out.size (by have := HBW.out; have := HZQ.out; omega) (fun k h => by have := HZQ.out; omega)))
          go_wp2_with fail
          refine bodyPost_ret (v := .tuple #[.agg #[.int .i64 0, .int .i64 0, .int .i64 0, .int .i64 0, .int .i64 0, .int .i64 0, .int .i64 0, .int .i64 0, .int .i64 0, .string ⟨#[]⟩, .slice none 0 0, .slice none 0 0], .bool false]) (by simp [results, Try.results19, go_sem, zz13_0, zz13_1, zz13_2, zz13_3, zz13_4, zz13_5, zz13_6, zz13_7, zz13_8, zz13_9, zz13_10, zz13_11, zz13_f]) rfl ?_
          exact RdR.no HNO.out ((b12 HB6.out))
        have hne : (((strOf rk).size : Int) != 4 * (wd : Int)) = false := by rw [bne_eq_false_iff_eq]; omega
        have HRW := Lib.hid hrow
        have hs1 : (strOf rk).size ≤ 4 * wd := by omega
        have hs2 : 4 * wd ≤ (strOf rk).size := by omega
        clear hrow hsz
        go_wp2_with fail
        go_loopw [13] (fun i wr => ∃ (x : Nat) (cs' : List Cl) (ac : Option Addr) (cc : Nat), x ≤ wd ∧ i = .int .i64 x ∧ cs'.length ≤ 24 * k + x ∧ Hid (cs' = cs ++ (chunkC wd rk).take x ∧ CellsG B wq.heap.size wc cs' ac cc wr)) (fun i _ => wd - (intOf i).toNat)
        case atStart => exact ⟨0, cs, ac, cc, Nat.zero_le _, rfl, by omega, Lib.hid ⟨by simp, HQ.out.2.1⟩⟩
        case round =>
          obtain ⟨x, cs', ac, cc, hx, rfl, hcl', HP⟩ := hrel
          obtain ⟨b_0, b_1, b_f, b_l⟩ := HBOX.out wr cs' ac cc HP.out.2
          have b_10 := HP.out.2.c10
          have HCA := Lib.hid HP.out.2
          by_cases hxl : x < wd
          · have hxl' : (x : Int) < (wd : Int) := by omega
            have HTC := Lib.hid (chunkC_take wd rk x hxl)
            obtain ⟨p, hp⟩ : ∃ p, 4 * x = p := ⟨_, rfl⟩
            obtain ⟨q, hq⟩ : ∃ q, p + 3 = q := ⟨_, rfl⟩
            have HEX : Hid ((strOf rk).extract p q = strOf ((rk.drop p).take 3)) := Lib.hid (by rw [← hq]; exact extract_mid rk p 3)
            have hqs : q < (strOf rk).size := by omega
            have hqr : q < rk.length := hqs
            have hg : rk.getD q 0 = rk[q] := getD_at hqr
            obtain ⟨u, hu⟩ : ∃ u : UInt8, rk.getD q 0 = u := ⟨_, rfl⟩
            have hu8 := u.toNat_lt
            have hb3 := bn3 (rk.drop p)
            have HBN : Hid (∀ W, Calls Try.prog 48 #[.string ((strOf rk).extract p q)] W fun e w' => e = .returned (.int .i64 (bn ((rk.drop p).take 3))) ∧ W = w') := Lib.hid (fun W => by
              rw [HEX.out]
              have h := l02Of_c (strOf ((rk.drop p).take 3)) W (by rw [strOf_size, List.length_take]; omega)
              rw [strOf_data'] at h
              exact h)
            rw [hp, hq, hu] at HTC
            obtain ⟨N3, hN3⟩ : ∃ N, bn ((rk.drop p).take 3) = N := ⟨_, rfl⟩
            rw [hN3] at HTC HBN hb3
            have hidx : (((strOf rk)[q]'hqs).toNat : Int) = (u.toNat : Int) := by rw [← hu, hg]; rfl
            have hw64 : IntKind.i64.wrap (u.toNat : Int) = (u.toNat : Int) := IntWalk.i64_in _ ⟨by omega, by omega⟩
            have hwp : IntKind.i64.wrap (4 * (x : Int)) = (p : Int) := by rw [IntWalk.i64_in _ ⟨by omega, by omega⟩]; omega
            have hwq : IntKind.i64.wrap ((p : Int) + 3) = (q : Int) := by rw [IntWalk.i64_in _ ⟨by omega, by omega⟩]; omega
            have hi1 : (p : Int) ≤ (q : Int) := by omega
            have hi2 : (q : Int) ≤ ((strOf rk).size : Int) := by omega
            have hi3 : (q : Int) < ((strOf rk).size : Int) := by omega
            have hi4 : p ≤ q := by omega
            have hi5 : q ≤ (strOf rk).size := by omega
            clear hg hu hN3 hp hq
            go_upto_region 18 with fail
            refine wp_region_G (fun w' => w'.cell? ⟨B, 10, none⟩ = some (.slice ac cs'.length cc)) (fun i => i == 20) (by kernel_rfl) b_10 ?_
            refine tW ?_ 0 rfl ?_ ?_; rotate_left
            · intro w' hSw; go_simp; try rfl
            try simp only [Act.put,j1,j2,j3,j4,j5,j6]
            refine tL ?_ 1 rfl b_10 ?_ ?_; rotate_left
            · intro w' hSw; go_simp; try rfl
            try simp only [Act.put,j1,j2,j3,j4,j5,j6]
            refine tW ?_ 2 rfl ?_ ?_; rotate_left
            · intro w' hSw; go_simp; try rfl
            try simp only [Act.put,j1,j2,j3,j4,j5,j6]
            refine tW ?_ 3 rfl ?_ ?_; rotate_left
            · intro w' hSw; go_simp; try rfl
            try simp only [Act.put,j1,j2,j3,j4,j5,j6]
            refine tW ?_ 4 rfl ?_ ?_; rotate_left
            · intro w' hSw; go_simp; try rfl
            try simp only [Act.put,j1,j2,j3,j4,j5,j6]
            refine tW ?_ 5 rfl ?_ ?_; rotate_left
            · intro w' hSw; go_simp; try rfl
            try simp only [Act.put,j1,j2,j3,j4,j5,j6]
            refine tW ?_ 6 rfl ?_ ?_; rotate_left
            · intro w' hSw; go_simp; try rfl
            try simp only [Act.put,j1,j2,j3,j4,j5,j6]
            refine tW ?_ 7 rfl ?_ ?_; rotate_left
            · intro w' hSw; go_simp; try rfl
            try simp only [Act.put,j1,j2,j3,j4,j5,j6]
            refine tW ?_ 8 rfl ?_ ?_; rotate_left
            · intro w' hSw; go_simp; try rfl
            try simp only [Act.put,j1,j2,j3,j4,j5,j6]
            refine tW ?_ 10 rfl ?_ ?_; rotate_left
            · intro w' hSw; go_simp; try rfl
            try simp only [Act.put,j1,j2,j3,j4,j5,j6]
            refine tW ?_ 11 rfl ?_ ?_; rotate_left
            · intro w' hSw; go_simp; try rfl
            try simp only [Act.put,j1,j2,j3,j4,j5,j6]
            refine tW ?_ 12 rfl ?_ ?_; rotate_left
            · intro w' hSw; go_simp; try rfl
            try simp only [Act.put,j1,j2,j3,j4,j5,j6]
            refine tW ?_ 13 rfl ?_ ?_; rotate_left
            · intro w' hSw; go_simp; try rfl
            try simp only [Act.put,j1,j2,j3,j4,j5,j6]
            refine tW ?_ 14 rfl ?_ ?_; rotate_left
            · intro w' hSw; go_simp; try rfl
            try simp only [Act.put,j1,j2,j3,j4,j5,j6]
            refine tW ?_ 15 rfl ?_ ?_; rotate_left
            · intro w' hSw; go_simp; try rfl
            try simp only [Act.put,j1,j2,j3,j4,j5,j6]
            refine wpAnyG_one (i := 9) (by kernel_rfl) rfl b_10 (fun K' hK => ?_)
            simp only [j1,j2,j3]
            go_simp
            go_at_call 48
            refine (HBN.out _).mono ?_
            rintro e x1 ⟨rfl, hx1⟩
            have HA1 : Hid (CellsG B wq.heap.size wc cs' ac cc x1) := Lib.hid (by rw [← hx1]; exact HCA.out.below HBX.out.lt ((Below.refl _ _).drew))
            clear hx1
            refine hK.out _ _ (Or.inr HA1.out.c10) ?_
            clear hK K'
            try simp only [Act.put,j1,j2,j3,j4,j5,j6]
            refine tW ?_ 16 rfl ?_ ?_; rotate_left
            · intro w' hSw; go_simp; try rfl
            try simp only [Act.put,j1,j2,j3,j4,j5,j6]
            refine wpAnyG_one (i := 17) (by kernel_rfl) rfl HA1.out.c10 (fun K' hK => ?_)
            simp only [j1,j2,j3]
            go_simp
            obtain ⟨x2, hx2⟩ : ∃ x, x1.alloc (.cells #[.int .i64 (N3 : Int), .int .i64 (u.toNat : Int)] 60) = x := ⟨_, rfl⟩
            have hb2 : Below x1.heap.size x1 x2 := by rw [← hx2]; exact (Below.refl _ _).alloc (Nat.le_refl _) _
            have HA2 : Hid (CellsG B wq.heap.size wc cs' ac cc x2) := Lib.hid (HA1.out.below HBX.out.lt hb2)
            have HU2 : Hid (Sl celE 2 x2 (some ⟨x1.heap.size, 0, none⟩) [((N3 : Int), (u.toNat : Int))]) := Lib.hid (by rw [← hx2]; exact boxL' (enc := celE) (w := x1) (fun _ => rfl) [((N3 : Int), (u.toNat : Int))] _ _ (by simp [celE]) _ rfl)
            rw [hx2]
            clear hx2 hb2
            refine hK.out _ _ (Or.inr HA2.out.c10) ?_
            clear hK K'
            try simp only [Act.put,j1,j2,j3,j4,j5,j6]
            refine wpAnyG_one (i := 18) (by kernel_rfl) rfl HA2.out.c10 (fun K' hK => ?_)
            simp only [j1,j2,j3]
            rw [if_pos (by rfl)]
            refine step_append_ch (.tmp 130) (.tmp 146) 23 23 wq.heap.size 60 iC (.agg #[.int .i64 0, .int .i64 0]) 2 16 Try.underlying23 hC hC0 hC1 hC2 rfl (by decide) ac cs'.length cc cs' HA2.out.row (.slice (some ⟨x1.heap.size, 0, none⟩) 1 1) [((N3 : Int), (u.toNat : Int))] (Src.ofSl (enc := celE) Try.underlying23 (fun _ => rfl) celOne HU2.out _) (by simp; omega) (by have := HA2.out.upd.size; have := HBX.out.lt; have := HBW.out; omega) ?_ ?_ ?_ ?_
            · rfl
            · rfl
            · rfl
            intro a3 c3' x3 us hus hf hch hk3
            have HUS := hus
            have hul : us.length ≤ 24 * k + (x + 1) := by rw [hus.out, List.length_append]; simp; omega
            have HA3 : Hid (CellsG B wq.heap.size wc us a3 c3' (x3.setCell ⟨B, 10, none⟩ (.slice a3 us.length c3'))) := Lib.hid (HA2.out.push HBX.out.lt hf hch hk3)
            have x_10 : x3.cell? ⟨B, 10, none⟩ = some (.slice ac cs'.length cc) := (hch.cell (p := ⟨B, 10, none⟩) (Nat.lt_of_lt_of_le HBX.out.lt HA2.out.upd.size) HA2.out.nb).trans HA2.out.c10
            have x_f : x3.frozen? ⟨B, 10, none⟩ = false := by
              have e := HA3.out.upd.fz 10
              rw [World.frozen?_setCell] at e
              rw [e]
              exact HBX.out.fz 10
            clear hus hf hch hk3
            refine hK.out _ _ (Or.inr x_10) ?_
            clear hK K'
            try simp only [Act.put,j1,j2,j3,j4,j5,j6]
            refine tW ?_ 19 rfl ?_ ?_; rotate_left
            · intro w' hSw; go_simp; try rfl
            try simp only [Act.put,j1,j2,j3,j4,j5,j6]
            refine wpAnyG_one (i := 20) (by kernel_rfl) rfl x_10 (fun K' hK => ?_)
            simp only [j1,j2,j3]
            go_simp
            refine hK.out _ _ (Or.inl rfl) ?_
            clear hK K'
            try simp only [Act.put,j1,j2,j3,j4,j5,j6]
            refine wpAnyG_done (by kernel_rfl) ?_ _
            go_wp2_with fail
            go_roundw
            case rel => exact ⟨x + 1, us, a3, c3', by omega, by go_num, hul, Lib.hid ⟨by rw [HUS.out, HP.out.1, HTC.out, List.append_assoc], HA3.out⟩⟩
            case measure => simp [intOf]; omega
          · obtain rfl : x = wd := by omega
            have HCE : Hid (cs' = rowsC x (rows.take (k + 1))) := Lib.hid (by rw [HP.out.1, HSNC.out, HQ.out.1, List.take_of_length_le (l := chunkC x rk) (by rw [chunkC_length]; exact Nat.le_refl _)])
            have HRE : Hid (∀ r ∈ rows.take (k + 1), r.size = 4 * x) := Lib.hid (fun r hr => by
              rw [HTK.out, List.mem_append] at hr
              rcases hr with hr | hr
              · exact HQ.out.2.2 r hr
              · rw [List.mem_singleton.1 hr]
                exact HRW.out)
            go_wp2_with fail
            go_roundw
            case rel => exact ⟨k + 1, cs', ac, cc, by omega, by go_num, by omega, Lib.hid ⟨HCE.out, HCA.out, HRE.out⟩⟩
            case measure => simp [intOf]; omega
      · obtain rfl : k = ht := by omega
        have HCS : Hid (cs = rowsC wd rows) := Lib.hid (by rw [HQ.out.1, List.take_of_length_le (by rw [HHT.out]; exact Nat.le_refl _)])
        have HA := Lib.hid HQ.out.2.1
        have b_10 := HA.out.c10
        have HSL : Hid (Sl celE 2 wr ac cs) := Lib.hid (HA.out.row.sl (fun _ => rfl))
        have HCH : Hid (Ch (fun k => k = B ∨ wq.heap.size ≤ k) wc wr) := Lib.hid HA.out.upd.ch
        have HWI : Hid (Win strE 9 1 (w.heap.size + 1) wr aH cH hs) := Lib.hid ((FreshIn.win HWH5.out).ch HCH.out (fun k hk e => by
          have h1 := (FreshIn.blks HWH5.out k hk).2
          have h2 := HBW.out
          rcases e with e | e <;> omega))
        have HSH : Hid (Sl strE 1 wr aH hs) := Lib.hid (HWI.out.sl (fun _ => rfl))
        have HRA : Hid (∀ r ∈ rows, r.size = 4 * wd) := Lib.hid (fun r hr => HQ.out.2.2 r (by rw [List.take_of_length_le (by rw [HHT.out]; exact Nat.le_refl _)]; exact hr))
        have zz13_h := HOLD.out wr cs ac cc HQ.out.2.1 w.heap.size HZQ.out
        have zz13_0 : wr.cell? ⟨w.heap.size, 0, none⟩ = some (.int .i64 0) := (zz13_h.1 0).trans z11_0
        have zz13_1 : wr.cell? ⟨w.heap.size, 1, none⟩ = some (.int .i64 0) := (zz13_h.1 1).trans z11_1
        have zz13_2 : wr.cell? ⟨w.heap.size, 2, none⟩ = some (.int .i64 0) := (zz13_h.1 2).trans z11_2
        have zz13_3 : wr.cell? ⟨w.heap.size, 3, none⟩ = some (.int .i64 0) := (zz13_h.1 3).trans z11_3
        have zz13_4 : wr.cell? ⟨w.heap.size, 4, none⟩ = some (.int .i64 0) := (zz13_h.1 4).trans z11_4
        have zz13_5 : wr.cell? ⟨w.heap.size, 5, none⟩ = some (.int .i64 0) := (zz13_h.1 5).trans z11_5
        have zz13_6 : wr.cell? ⟨w.heap.size, 6, none⟩ = some (.int .i64 0) := (zz13_h.1 6).trans z11_6
        have zz13_7 : wr.cell? ⟨w.heap.size, 7, none⟩ = some (.int .i64 0) := (zz13_h.1 7).trans z11_7
        have zz13_8 : wr.cell? ⟨w.heap.size, 8, none⟩ = some (.int .i64 0) := (zz13_h.1 8).trans z11_8
        have zz13_9 : wr.cell? ⟨w.heap.size, 9, none⟩ = some (.string ⟨#[]⟩) := (zz13_h.1 9).trans z11_9
        have zz13_10 : wr.cell? ⟨w.heap.size, 10, none⟩ = some (.slice none 0 0) := (zz13_h.1 10).trans z11_10
        have zz13_11 : wr.cell? ⟨w.heap.size, 11, none⟩ = some (.slice none 0 0) := (zz13_h.1 11).trans z11_11
        have zz13_f : ∀ o, wr.frozen? ⟨w.heap.size, o, none⟩ = false := fun o => (zz13_h.2 o).trans (z11_f o)
        clear zz13_h
        have zz13_l : w.heap.size < wr.heap.size := (by have h1 := HZQ.out; have h2 := HBX.out.lt; have h3 := HA.out.upd.size; have h4 := HBW.out; omega)
        have b_2 : wr.cell? ⟨B, 2, none⟩ = some (.int .i64 n2) := (HA.out.upd.cell 2 (by omega)).trans HBX.out.c2
        have b_3 : wr.cell? ⟨B, 3, none⟩ = some (.int .i64 n3) := (HA.out.upd.cell 3 (by omega)).trans HBX.out.c3
        have b_4 : wr.cell? ⟨B, 4, none⟩ = some (.int .i64 n4) := (HA.out.upd.cell 4 (by omega)).trans HBX.out.c4
        have b_5 : wr.cell? ⟨B, 5, none⟩ = some (.int .i64 n5) := (HA.out.upd.cell 5 (by omega)).trans HBX.out.c5
        have b_6 : wr.cell? ⟨B, 6, none⟩ = some (.int .i64 n6) := (HA.out.upd.cell 6 (by omega)).trans HBX.out.c6
        have b_7 : wr.cell? ⟨B, 7, none⟩ = some (.int .i64 n7) := (HA.out.upd.cell 7 (by omega)).trans HBX.out.c7
        have b_8 : wr.cell? ⟨B, 8, none⟩ = some (.int .i64 n8) := (HA.out.upd.cell 8 (by omega)).trans HBX.out.c8
        have b_9 : wr.cell? ⟨B, 9, none⟩ = some (.string t) := (HA.out.upd.cell 9 (by omega)).trans HBX.out.c9
        have b_11 : wr.cell? ⟨B, 11, none⟩ = some (.slice aH hs.length cH) := (HA.out.upd.cell 11 (by omega)).trans HBX.out.c11
        have HB6 : Hid (Below w.heap.size w wr) := Lib.hid (HB5.out.trans (HA.out.upd.toBelow HB5.out.size (by have := HBW.out; have := HZQ.out; omega) (fun k h => by have := HZQ.out; omega)))
        have HSB2 : Hid (∀ x, Below wr.heap.size wr x → x.cell? ⟨B, 0, none⟩ = some (.int .i64 (wd : Int)) ∧ x.cell? ⟨B, 1, none⟩ = some (.int .i64 (k : Int)) ∧ x.cell? ⟨B, 2, none⟩ = some (.int .i64 n2) ∧ x.cell? ⟨B, 3, none⟩ = some (.int .i64 n3) ∧ x.cell? ⟨B, 4, none⟩ = some (.int .i64 n4) ∧ x.cell? ⟨B, 5, none⟩ = some (.int .i64 n5) ∧ x.cell? ⟨B, 6, none⟩ = some (.int .i64 n6) ∧ x.cell? ⟨B, 7, none⟩ = some (.int .i64 n7) ∧ x.cell? ⟨B, 8, none⟩ = some (.int .i64 n8) ∧ x.cell? ⟨B, 9, none⟩ = some (.string t) ∧ x.cell? ⟨B, 10, none⟩ = some (.slice ac cs.length cc) ∧ x.cell? ⟨B, 11, none⟩ = some (.slice aH hs.length cH)) := Lib.hid (fun x h => ⟨(h.cell (p := ⟨B, 0, none⟩) b_l).trans b_0, (h.cell (p := ⟨B, 1, none⟩) b_l).trans b_1, (h.cell (p := ⟨B, 2, none⟩) b_l).trans b_2, (h.cell (p := ⟨B, 3, none⟩) b_l).trans b_3, (h.cell (p := ⟨B, 4, none⟩) b_l).trans b_4, (h.cell (p := ⟨B, 5, none⟩) b_l).trans b_5, (h.cell (p := ⟨B, 6, none⟩) b_l).trans b_6, (h.cell (p := ⟨B, 7, none⟩) b_l).trans b_7, (h.cell (p := ⟨B, 8, none⟩) b_l).trans b_8, (h.cell (p := ⟨B, 9, none⟩) b_l).trans b_9, (h.cell (p := ⟨B, 10, none⟩) b_l).trans b_10, (h.cell (p := ⟨B, 11, none⟩) b_l).trans b_11⟩)
        have HSB3 : Hid (∀ x, Ch (fun k => k = w.heap.size) wr x → x.cell? ⟨B, 0, none⟩ = some (.int .i64 (wd : Int)) ∧ x.cell? ⟨B, 1, none⟩ = some (.int .i64 (k : Int)) ∧ x.cell? ⟨B, 2, none⟩ = some (.int .i64 n2) ∧ x.cell? ⟨B, 3, none⟩ = some (.int .i64 n3) ∧ x.cell? ⟨B, 4, none⟩ = some (.int .i64 n4) ∧ x.cell? ⟨B, 5, none⟩ = some (.int .i64 n5) ∧ x.cell? ⟨B, 6, none⟩ = some (.int .i64 n6) ∧ x.cell? ⟨B, 7, none⟩ = some (.int .i64 n7) ∧ x.cell? ⟨B, 8, none⟩ = some (.int .i64 n8) ∧ x.cell? ⟨B, 9, none⟩ = some (.string t) ∧ x.cell? ⟨B, 10, none⟩ = some (.slice ac cs.length cc) ∧ x.cell? ⟨B, 11, none⟩ = some (.slice aH hs.length cH)) := Lib.hid (fun x h => ⟨(h.cell (p := ⟨B, 0, none⟩) b_l (show ¬ B = w.heap.size from by have h1 := HZQ.out; have h2 := HBW.out; omega)).trans b_0, (h.cell (p := ⟨B, 1, none⟩) b_l (show ¬ B = w.heap.size from by have h1 := HZQ.out; have h2 := HBW.out; omega)).trans b_1, (h.cell (p := ⟨B, 2, none⟩) b_l (show ¬ B = w.heap.size from by have h1 := HZQ.out; have h2 := HBW.out; omega)).trans b_2, (h.cell (p := ⟨B, 3, none⟩) b_l (show ¬ B = w.heap.size from by have h1 := HZQ.out; have h2 := HBW.out; omega)).trans b_3, (h.cell (p := ⟨B, 4, none⟩) b_l (show ¬ B = w.heap.size from by have h1 := HZQ.out; have h2 := HBW.out; omega)).trans b_4, (h.cell (p := ⟨B, 5, none⟩) b_l (show ¬ B = w.heap.size from by have h1 := HZQ.out; have h2 := HBW.out; omega)).trans b_5, (h.cell (p := ⟨B, 6, none⟩) b_l (show ¬ B = w.heap.size from by have h1 := HZQ.out; have h2 := HBW.out; omega)).trans b_6, (h.cell (p := ⟨B, 7, none⟩) b_l (show ¬ B = w.heap.size from by have h1 := HZQ.out; have h2 := HBW.out; omega)).trans b_7, (h.cell (p := ⟨B, 8, none⟩) b_l (show ¬ B = w.heap.size from by have h1 := HZQ.out; have h2 := HBW.out; omega)).trans b_8, (h.cell (p := ⟨B, 9, none⟩) b_l (show ¬ B = w.heap.size from by have h1 := HZQ.out; have h2 := HBW.out; omega)).trans b_9, (h.cell (p := ⟨B, 10, none⟩) b_l (show ¬ B = w.heap.size from by have h1 := HZQ.out; have h2 := HBW.out; omega)).trans b_10, (h.cell (p := ⟨B, 11, none⟩) b_l (show ¬ B = w.heap.size from by have h1 := HZQ.out; have h2 := HBW.out; omega)).trans b_11⟩)
        have hS0 := HSB2.out wr (Below.refl _ _)
        clear b_0 b_1 b_2 b_3 b_4 b_5 b_6 b_7 b_8 b_9 b_10 b_11
        have HSO : Hid (∀ W, Below wr.heap.size wr W → Calls Try.prog 15 #[.agg #[.int .i64 (wd : Int), .int .i64 (k : Int), .int .i64 n2, .int .i64 n3, .int .i64 n4, .int .i64 n5, .int .i64 n6, .int .i64 n7, .int .i64 n8, .string t, .slice ac cs.length cc, .slice aH hs.length cH]] W fun e w' => e = .returned (.bool (scrB ⟨(wd : Int), (k : Int), n2, n3, n4, n5, n6, n7, n8, t, cs, hs⟩)) ∧ Below W.heap.size W w') := Lib.hid (fun W hW => specScreenOK_c ⟨(wd : Int), (k : Int), n2, n3, n4, n5, n6, n7, n8, t, cs, hs⟩ ac cc aH cH W (HSL.out.keep hW) (HSH.out.keep hW) (by show cs.length ≤ _; omega) (by show hs.length ≤ _; omega))
        obtain ⟨bo, hbo⟩ : ∃ b, scrB ⟨(wd : Int), (k : Int), n2, n3, n4, n5, n6, n7, n8, t, cs, hs⟩ = b := ⟨_, rfl⟩
        rw [hbo] at HSO
        have HBO := Lib.hid hbo
        clear hbo
        go_upto_region 19 with fail
        refine wp_region_G (fun w' => w'.cell? ⟨B, 0, none⟩ = some (.int .i64 (wd : Int)) ∧ w'.cell? ⟨B, 1, none⟩ = some (.int .i64 (k : Int)) ∧ w'.cell? ⟨B, 2, none⟩ = some (.int .i64 n2) ∧ w'.cell? ⟨B, 3, none⟩ = some (.int .i64 n3) ∧ w'.cell? ⟨B, 4, none⟩ = some (.int .i64 n4) ∧ w'.cell? ⟨B, 5, none⟩ = some (.int .i64 n5) ∧ w'.cell? ⟨B, 6, none⟩ = some (.int .i64 n6) ∧ w'.cell? ⟨B, 7, none⟩ = some (.int .i64 n7) ∧ w'.cell? ⟨B, 8, none⟩ = some (.int .i64 n8) ∧ w'.cell? ⟨B, 9, none⟩ = some (.string t) ∧ w'.cell? ⟨B, 10, none⟩ = some (.slice ac cs.length cc) ∧ w'.cell? ⟨B, 11, none⟩ = some (.slice aH hs.length cH)) (fun i => false) (by kernel_rfl) hS0 ?_
        refine tL ?_ 0 rfl hS0 ?_ ?_; rotate_left
        · intro w' hSw; obtain ⟨s0, s1, s2, s3, s4, s5, s6, s7, s8, s9, s10, s11⟩ := hSw; go_simp; try rfl
        try simp only [Act.put,j1,j2,j3,j4,j5,j6]
        refine tL ?_ 1 rfl hS0 ?_ ?_; rotate_left
        · intro w' hSw; obtain ⟨s0, s1, s2, s3, s4, s5, s6, s7, s8, s9, s10, s11⟩ := hSw; go_simp; try rfl
        try simp only [Act.put,j1,j2,j3,j4,j5,j6]
        refine wpAnyG_one (i := 2) (by kernel_rfl) rfl hS0 (fun K' hK => ?_)
        simp only [j1,j2,j3]
        go_simp
        go_at_call 15
        refine (HSO.out _ ((Below.refl _ _).drew)).mono ?_
        rintro e x2 ⟨rfl, hbc⟩
        have hbd : Below wr.heap.size wr x2 := ((Below.refl _ _).drew).trans (by simpa using hbc)
        have HBD := Lib.hid hbd
        have z14_0 := kC hbd zz13_l zz13_0
        have z14_1 := kC hbd zz13_l zz13_1
        have z14_2 := kC hbd zz13_l zz13_2
        have z14_3 := kC hbd zz13_l zz13_3
        have z14_4 := kC hbd zz13_l zz13_4
        have z14_5 := kC hbd zz13_l zz13_5
        have z14_6 := kC hbd zz13_l zz13_6
        have z14_7 := kC hbd zz13_l zz13_7
        have z14_8 := kC hbd zz13_l zz13_8
        have z14_9 := kC hbd zz13_l zz13_9
        have z14_10 := kC hbd zz13_l zz13_10
        have z14_11 := kC hbd zz13_l zz13_11
        have z14_l := Nat.lt_of_lt_of_le zz13_l hbd.size
        have z14_f := fun o => kF hbd zz13_l (zz13_f o)
        clear zz13_0 zz13_1 zz13_2 zz13_3 zz13_4 zz13_5 zz13_6 zz13_7 zz13_8 zz13_9 zz13_10 zz13_11 zz13_l zz13_f
        have HB7 : Hid (Below w.heap.size w x2) := Lib.hid (HB6.out.trans (hbd.mono HB6.out.size))
        clear hbc hbd
        refine hK.out _ _ (Or.inr (HSB2.out x2 HBD.out)) ?_
        clear hK K'
        try simp only [Act.put,j1,j2,j3,j4,j5,j6]
        refine wpAnyG_one (i := 3) (by kernel_rfl) rfl ((HSB2.out x2 HBD.out)) (fun K' hK => ?_)
        simp only [j1,j2,j3]
        go_simp
        refine hK.out _ _ (Or.inr (HSB3.out _ ((((((((((((((Ch.of_below (M := fun k => k = w.heap.size) HBD.out)).setB 0 _).setB 1 _).setB 2 _).setB 3 _).setB 4 _).setB 5 _).setB 6 _).setB 7 _).setB 8 _).setB 9 _).setB 10 _).setB 11 _))) ?_
        clear hK K'
        try simp only [Act.put,j1,j2,j3,j4,j5,j6]
        refine tW ?_ 4 rfl ?_ ?_; rotate_left
        · intro w' hSw; go_simp; try rfl
        try simp only [Act.put,j1,j2,j3,j4,j5,j6]
        refine wpAnyG_done (by kernel_rfl) ?_ _
        go_wp2_with fail
        refine bodyPost_ret (v := .tuple #[.agg #[.int .i64 (wd : Int), .int .i64 (k : Int), .int .i64 n2, .int .i64 n3, .int .i64 n4, .int .i64 n5, .int .i64 n6, .int .i64 n7, .int .i64 n8, .string t, .slice ac cs.length cc, .slice aH hs.length cH], .bool bo]) (by simp [results, Try.results19, go_sem, z14_0, z14_1, z14_2, z14_3, z14_4, z14_5, z14_6, z14_7, z14_8, z14_9, z14_10, z14_11, z14_f]) rfl ?_
        cases bo
        · refine .inl ⟨NoScr.spec HO.out HV2.out HE0.out (by rw [HRD.out, ← HCS.out]; exact HBO.out), ⟨⟨(wd : Int), (k : Int), n2, n3, n4, n5, n6, n7, n8, t, cs, hs⟩, ac, cc, aH, cH, rfl⟩, ?_⟩
          exact (b12 HB7.out)
        have hu := ScrI.n_i HBO.out
        have hok := ScrI.ok HBO.out
        have his : ScrIs l ⟨(wd : Int), (k : Int), n2, n3, n4, n5, n6, n7, n8, t, cs, hs⟩ := by
          have := ScrIs.spec HO.out H27.out HV2.out HE0.out (by rw [HE1.out, HHT.out]) HRA.out (by rw [HRD.out, ← HCS.out]; exact HBO.out)
          rw [HRD.out, ← HCS.out] at this
          exact this
        have e0 : ((((wd : Int) : Int).toNat : Nat) : Int) = (wd : Int) := congrArg ScrI.w hu
        have e1 : ((((k : Int) : Int).toNat : Nat) : Int) = (k : Int) := congrArg ScrI.h hu
        have e2 : (((n2 : Int).toNat : Nat) : Int) = n2 := congrArg ScrI.x hu
        have e3 : (((n3 : Int).toNat : Nat) : Int) = n3 := congrArg ScrI.y hu
        have e4 : (((n4 : Int).toNat : Nat) : Int) = n4 := congrArg ScrI.look hu
        have e5 : (((n5 : Int).toNat : Nat) : Int) = n5 := congrArg ScrI.top hu
        have e6 : (((n6 : Int).toNat : Nat) : Int) = n6 := congrArg ScrI.bot hu
        have e7 : (((n7 : Int).toNat : Nat) : Int) = n7 := congrArg ScrI.sx hu
        have e8 : (((n8 : Int).toNat : Nat) : Int) = n8 := congrArg ScrI.sy hu
        refine .inr ⟨(ScrI.n ⟨(wd : Int), (k : Int), n2, n3, n4, n5, n6, n7, n8, t, cs, hs⟩), ac, cc, aH, cH, hok, by rw [hu]; exact his, by unfold scrV; simp only [ScrI.n, e0, e1, e2, e3, e4, e5, e6, e7, e8], ⟨?_, ?_, ?_⟩, ?_⟩
        rotate_left 3
        · exact (b12 HB7.out)
        · refine (HA.out.row.ch ((((((((((((((Ch.of_below (M := fun k => k = w.heap.size) HBD.out)).setB 0 _).setB 1 _).setB 2 _).setB 3 _).setB 4 _).setB 5 _).setB 6 _).setB 7 _).setB 8 _).setB 9 _).setB 10 _).setB 11 _) (fun k hk e => ?_)).mono (by have := HZQ.out; omega) (Nat.le_refl _)
          have h1 := (FreshIn.blks HA.out.row k hk).1
          have h2 := HZQ.out
          omega
        · refine (Win.ch HWI.out ((((((((((((((Ch.of_below (M := fun k => k = w.heap.size) HBD.out)).setB 0 _).setB 1 _).setB 2 _).setB 3 _).setB 4 _).setB 5 _).setB 6 _).setB 7 _).setB 8 _).setB 9 _).setB 10 _).setB 11 _) (fun k hk e => ?_)).low (by omega)
          have h1 := (FreshIn.blks HWH5.out k hk).1
          omega
        · intro k hk hk2
          have h1 := (FreshIn.blks HA.out.row k hk2).1
          have h2 := (FreshIn.blks HWH5.out k hk).2
          omega
end
section
open Go.RowKit
theorem readScreen_c (l : List UInt8) (w : World) (hl : l.length ≤ 65536) : Calls Try.prog 18 #[.string (strOf l)] w (RdR l w) := by
  cases ho : rdAll l with
  | none => exact readScreen_n1 l w hl (fun F h => by rw [ho] at h; cases h)
  | some F0 =>
    by_cases h3 : F0.length < 3
    · exact readScreen_n1 l w hl (fun F h => by rw [ho] at h; injection h with h; rw [← h]; exact h3)
    obtain ⟨a, t, hh, rows, rfl⟩ : ∃ a t hh rows, F0 = a :: t :: hh :: rows := by
      match F0, h3 with
      | a :: t :: hh :: rows, _ => exact ⟨a, t, hh, rows, rfl⟩
      | [], h => exact absurd (by decide) h
      | [a], h => exact absurd (by show 1 < 3; decide) h
      | [a, b], h => exact absurd (by show 2 < 3; decide) h
    by_cases h27 : a.data.toList.length = 27
    · cases hv : rdAll hh.data.toList with
      | none => exact readScreen_n3 l w hl a t hh rows ho h27 hv
      | some hs => exact readScreen_y l w hl a t hh rows hs ho h27 hv
    · exact readScreen_n2 l w hl a t hh rows ho h27
theorem l04Read_c (l : List UInt8) (w : World) (hl : l.length ≤ 65536) : Calls Try.prog 19 #[.string (strOf l)] w (RdR l w) := by
  cases ho : rdAll l with
  | none => exact l04Read_n1 l w hl (fun F h => by rw [ho] at h; cases h)
  | some F0 =>
    by_cases h3 : F0.length < 3
    · exact l04Read_n1 l w hl (fun F h => by rw [ho] at h; injection h with h; rw [← h]; exact h3)
    obtain ⟨a, t, hh, rows, rfl⟩ : ∃ a t hh rows, F0 = a :: t :: hh :: rows := by
      match F0, h3 with
      | a :: t :: hh :: rows, _ => exact ⟨a, t, hh, rows, rfl⟩
      | [], h => exact absurd (by decide) h
      | [a], h => exact absurd (by show 1 < 3; decide) h
      | [a, b], h => exact absurd (by show 2 < 3; decide) h
    exact l04Read_y l w hl a t hh rows ho
open Classical in
noncomputable def rsCode (l : List UInt8) : Int := if 65536 < l.length then 2 else if NoScr l then 3 else 0
theorem rsCode_long {l : List UInt8} (h : 65536 < l.length) : rsCode l = 2 := by unfold rsCode; rw [if_pos h]
theorem rsCode_no {l : List UInt8} (h : l.length ≤ 65536) (hn : NoScr l) : rsCode l = 3 := by unfold rsCode; rw [if_neg (by omega), if_pos hn]
theorem rsCode_yes {l : List UInt8} {s : ScrI} (hn : ScrIs l s) : rsCode l = 0 := by
  have := hn.len
  unfold rsCode
  rw [if_neg (by omega), if_neg (fun h => h s hn)]
def RsC (l : List UInt8) (w : World) (e : Ending) (w' : World) : Prop :=
  (rsCode l ≠ 0 ∧ (∃ s ac cc ah dh, e = .returned (.tuple #[scrVI s ac cc ah dh, .int .i64 (rsCode l)])) ∧ Below w.heap.size w w') ∨
  (rsCode l = 0 ∧ ∃ u ac cc ah dh, ScrOK u ∧ ScrIs l u.i ∧ e = .returned (.tuple #[scrV u ac cc ah dh, .int .i64 0]) ∧ ScrF w.heap.size u ac cc ah dh w' ∧ Below w.heap.size w w')
theorem implReadScr_c (a : Option Addr) (ca : Nat) (l : List UInt8) (w : World) (ha : Sl byteE 1 w a l) (hl : l.length ≤ 1048576) :
    Calls Try.prog 7 #[.slice a l.length ca] w (RsC l w) := by
  by_cases h1 : 65536 < l.length
  · have h1' : (65536 : Int) < (l.length : Int) := by omega
    have HR := Lib.hid (rsCode_long h1)
    have HL : Hid (longP (l.length : Int) = true) := Lib.hid (by simp [longP]; omega)
    clear h1
    go_enter Try.func7, Try.ntmps7
    go_wp2_with fail
    refine Calls.mono (isLong1_c _ (l.length) _ _ ?_ ?_) ?_
    · simp
    · simp [go_sem]
    rw [HL.out]
    rintro e w1 ⟨rfl, rfl⟩
    go_wp2_with fail
    refine bodyPost_ret (v := .tuple #[.agg #[.int .i64 0, .int .i64 0, .int .i64 0, .int .i64 0, .int .i64 0, .int .i64 0, .int .i64 0, .int .i64 0, .int .i64 0, .string ⟨#[]⟩, .slice none 0 0, .slice none 0 0], .int .i64 2]) (by simp [results, Try.results7, go_sem]) rfl ?_
    exact .inl ⟨by rw [HR.out]; decide, ⟨⟨0, 0, 0, 0, 0, 0, 0, 0, 0, ⟨#[]⟩, [], []⟩, none, 0, none, 0, by rw [HR.out]; rfl⟩, (by repeat (first | (with_reducible exact Below.refl _ _) | (with_reducible refine Below.setCell ?_ ?_ _; rotate_left; ((try simp) <;> (try omega))) | (with_reducible refine Below.alloc ?_ ?_ _; rotate_left; ((try simp) <;> (try omega)))))⟩
  have h1' : (l.length : Int) ≤ 65536 := by omega
  have hl65 : l.length ≤ 65536 := by omega
  have HL : Hid (longP (l.length : Int) = false) := Lib.hid (by simp [longP]; omega)
  clear h1
  have HSL : Hid (Sl byteE 1 ((w.alloc (.cells #[.int .i64 0, .int .i64 0, .int .i64 0, .int .i64 0, .int .i64 0, .int .i64 0, .int .i64 0, .int .i64 0, .int .i64 0, .string ⟨#[]⟩, .slice none 0 0, .slice none 0 0] 26)).alloc (.cells #[.int .i64 (l.length : Int)] 3)) a l) := Lib.hid (ha.keep (by repeat (first | (with_reducible exact Below.refl _ _) | (with_reducible refine Below.setCell ?_ ?_ _; rotate_left; ((try simp) <;> (try omega))) | (with_reducible refine Below.alloc ?_ ?_ _; rotate_left; ((try simp) <;> (try omega))))))
  have hcv := convT (ca := ca) HSL.out
  clear ha
  go_enter Try.func7, Try.ntmps7
  go_wp2_with fail
  refine Calls.mono (isLong1_c _ (l.length) _ _ ?_ ?_) ?_
  · simp
  · simp [go_sem]
  rw [HL.out]
  rintro e w1 ⟨rfl, rfl⟩
  go_wp2_with fail
  clear hcv
  refine (readScreen_c l _ hl65).mono ?_
  rintro e w1 hr
  rcases hr with ⟨hno, ⟨s, ac, cc, ah, dh, rfl⟩, hb1⟩ | ⟨u, ac, cc, ah, dh, hok, his, rfl, hF, hb1⟩
  · unfold scrVI
    have HC := Lib.hid (rsCode_no hl65 hno)
    clear hno
    have hz1 := hb1.size
    simp only [World.size_alloc] at hz1
    have hH1 : w.heap.size < w1.heap.size := by omega
    have z1_0 : w1.cell? ⟨w.heap.size, 0, none⟩ = some (.int .i64 0) := kC hb1 (by simp only [World.size_alloc]; omega) (by simp [go_sem])
    have z1_1 : w1.cell? ⟨w.heap.size, 1, none⟩ = some (.int .i64 0) := kC hb1 (by simp only [World.size_alloc]; omega) (by simp [go_sem])
    have z1_2 : w1.cell? ⟨w.heap.size, 2, none⟩ = some (.int .i64 0) := kC hb1 (by simp only [World.size_alloc]; omega) (by simp [go_sem])
    have z1_3 : w1.cell? ⟨w.heap.size, 3, none⟩ = some (.int .i64 0) := kC hb1 (by simp only [World.size_alloc]; omega) (by simp [go_sem])
    have z1_4 : w1.cell? ⟨w.heap.size, 4, none⟩ = some (.int .i64 0) := kC hb1 (by simp only [World.size_alloc]; omega) (by simp [go_sem])
    have z1_5 : w1.cell? ⟨w.heap.size, 5, none⟩ = some (.int .i64 0) := kC hb1 (by simp only [World.size_alloc]; omega) (by simp [go_sem])
    have z1_6 : w1.cell? ⟨w.heap.size, 6, none⟩ = some (.int .i64 0) := kC hb1 (by simp only [World.size_alloc]; omega) (by simp [go_sem])
    have z1_7 : w1.cell? ⟨w.heap.size, 7, none⟩ = some (.int .i64 0) := kC hb1 (by simp only [World.size_alloc]; omega) (by simp [go_sem])
    have z1_8 : w1.cell? ⟨w.heap.size, 8, none⟩ = some (.int .i64 0) := kC hb1 (by simp only [World.size_alloc]; omega) (by simp [go_sem])
    have z1_9 : w1.cell? ⟨w.heap.size, 9, none⟩ = some (.string ⟨#[]⟩) := kC hb1 (by simp only [World.size_alloc]; omega) (by simp [go_sem])
    have z1_10 : w1.cell? ⟨w.heap.size, 10, none⟩ = some (.slice none 0 0) := kC hb1 (by simp only [World.size_alloc]; omega) (by simp [go_sem])
    have z1_11 : w1.cell? ⟨w.heap.size, 11, none⟩ = some (.slice none 0 0) := kC hb1 (by simp only [World.size_alloc]; omega) (by simp [go_sem])
    have z1_l : w.heap.size < w1.heap.size := hH1
    have z1_f : ∀ o, w1.frozen? ⟨w.heap.size, o, none⟩ = false := fun o => (hb1.frozen (p := ⟨w.heap.size, o, none⟩) (by show w.heap.size < _; simp only [World.size_alloc]; omega)).trans (by simp [go_sem])
    have HB1 : Hid (Below w.heap.size w w1) := Lib.hid ((((Below.refl _ _).alloc (Nat.le_refl _) _).alloc (by simp) _).trans (hb1.mono (by simp only [World.size_alloc]; omega)))
    go_upto_region 4 with fail
    obtain ⟨x1, hx1⟩ : ∃ x, w1.alloc (.cells #[.int .i64 s.w, .int .i64 s.h, .int .i64 s.x, .int .i64 s.y, .int .i64 s.look, .int .i64 s.top, .int .i64 s.bot, .int .i64 s.sx, .int .i64 s.sy, .string s.title, .slice ac s.cells.length cc, .slice ah s.hist.length dh] 26) = x := ⟨_, rfl⟩
    have hb2 : Below w1.heap.size w1 x1 := by rw [← hx1]; exact (Below.refl _ _).alloc (Nat.le_refl _) _
    have y2_0 : x1.cell? ⟨w1.heap.size, 0, none⟩ = some (.int .i64 s.w) := (by rw [← hx1]; simp [go_sem])
    have y2_1 : x1.cell? ⟨w1.heap.size, 1, none⟩ = some (.int .i64 s.h) := (by rw [← hx1]; simp [go_sem])
    have y2_2 : x1.cell? ⟨w1.heap.size, 2, none⟩ = some (.int .i64 s.x) := (by rw [← hx1]; simp [go_sem])
    have y2_3 : x1.cell? ⟨w1.heap.size, 3, none⟩ = some (.int .i64 s.y) := (by rw [← hx1]; simp [go_sem])
    have y2_4 : x1.cell? ⟨w1.heap.size, 4, none⟩ = some (.int .i64 s.look) := (by rw [← hx1]; simp [go_sem])
    have y2_5 : x1.cell? ⟨w1.heap.size, 5, none⟩ = some (.int .i64 s.top) := (by rw [← hx1]; simp [go_sem])
    have y2_6 : x1.cell? ⟨w1.heap.size, 6, none⟩ = some (.int .i64 s.bot) := (by rw [← hx1]; simp [go_sem])
    have y2_7 : x1.cell? ⟨w1.heap.size, 7, none⟩ = some (.int .i64 s.sx) := (by rw [← hx1]; simp [go_sem])
    have y2_8 : x1.cell? ⟨w1.heap.size, 8, none⟩ = some (.int .i64 s.sy) := (by rw [← hx1]; simp [go_sem])
    have y2_9 : x1.cell? ⟨w1.heap.size, 9, none⟩ = some (.string s.title) := (by rw [← hx1]; simp [go_sem])
    have y2_10 : x1.cell? ⟨w1.heap.size, 10, none⟩ = some (.slice ac s.cells.length cc) := (by rw [← hx1]; simp [go_sem])
    have y2_11 : x1.cell? ⟨w1.heap.size, 11, none⟩ = some (.slice ah s.hist.length dh) := (by rw [← hx1]; simp [go_sem])
    have y2_l : w1.heap.size < x1.heap.size := (by rw [← hx1]; simp)
    have z3_0 := kC hb2 z1_l z1_0
    have z3_1 := kC hb2 z1_l z1_1
    have z3_2 := kC hb2 z1_l z1_2
    have z3_3 := kC hb2 z1_l z1_3
    have z3_4 := kC hb2 z1_l z1_4
    have z3_5 := kC hb2 z1_l z1_5
    have z3_6 := kC hb2 z1_l z1_6
    have z3_7 := kC hb2 z1_l z1_7
    have z3_8 := kC hb2 z1_l z1_8
    have z3_9 := kC hb2 z1_l z1_9
    have z3_10 := kC hb2 z1_l z1_10
    have z3_11 := kC hb2 z1_l z1_11
    have z3_l := Nat.lt_of_lt_of_le z1_l hb2.size
    have z3_f := fun o => kF hb2 z1_l (z1_f o)
    clear z1_0 z1_1 z1_2 z1_3 z1_4 z1_5 z1_6 z1_7 z1_8 z1_9 z1_10 z1_11 z1_l z1_f
    have HB2 : Hid (Below w1.heap.size w1 x1) := Lib.hid hb2
    have HBX : Hid (Below w.heap.size w x1) := Lib.hid (HB1.out.trans (hb2.mono HB1.out.size))
    rw [hx1]
    clear hx1 hb1 hb2
    have hHn : ¬ w.heap.size = w1.heap.size := by omega
    have hHm : ¬ w1.heap.size = w.heap.size := by omega
    go_wp2_with fail
    refine bodyPost_ret (v := .tuple #[.agg #[.int .i64 0, .int .i64 0, .int .i64 0, .int .i64 0, .int .i64 0, .int .i64 0, .int .i64 0, .int .i64 0, .int .i64 0, .string ⟨#[]⟩, .slice none 0 0, .slice none 0 0], .int .i64 3]) (by simp [results, Try.results7, go_sem, z3_0, z3_1, z3_2, z3_3, z3_4, z3_5, z3_6, z3_7, z3_8, z3_9, z3_10, z3_11, z3_f]) rfl ?_
    exact .inl ⟨by rw [HC.out]; decide, ⟨⟨0, 0, 0, 0, 0, 0, 0, 0, 0, ⟨#[]⟩, [], []⟩, none, 0, none, 0, by rw [HC.out]; rfl⟩, (b12 HBX.out)⟩
  · unfold scrV
    have HOK := Lib.hid hok
    have HIS := Lib.hid his
    have HF := Lib.hid hF
    clear hok his hF
    have hz1 := hb1.size
    simp only [World.size_alloc] at hz1
    have hH1 : w.heap.size < w1.heap.size := by omega
    have z4_0 : w1.cell? ⟨w.heap.size, 0, none⟩ = some (.int .i64 0) := kC hb1 (by simp only [World.size_alloc]; omega) (by simp [go_sem])
    have z4_1 : w1.cell? ⟨w.heap.size, 1, none⟩ = some (.int .i64 0) := kC hb1 (by simp only [World.size_alloc]; omega) (by simp [go_sem])
    have z4_2 : w1.cell? ⟨w.heap.size, 2, none⟩ = some (.int .i64 0) := kC hb1 (by simp only [World.size_alloc]; omega) (by simp [go_sem])
    have z4_3 : w1.cell? ⟨w.heap.size, 3, none⟩ = some (.int .i64 0) := kC hb1 (by simp only [World.size_alloc]; omega) (by simp [go_sem])
    have z4_4 : w1.cell? ⟨w.heap.size, 4, none⟩ = some (.int .i64 0) := kC hb1 (by simp only [World.size_alloc]; omega) (by simp [go_sem])
    have z4_5 : w1.cell? ⟨w.heap.size, 5, none⟩ = some (.int .i64 0) := kC hb1 (by simp only [World.size_alloc]; omega) (by simp [go_sem])
    have z4_6 : w1.cell? ⟨w.heap.size, 6, none⟩ = some (.int .i64 0) := kC hb1 (by simp only [World.size_alloc]; omega) (by simp [go_sem])
    have z4_7 : w1.cell? ⟨w.heap.size, 7, none⟩ = some (.int .i64 0) := kC hb1 (by simp only [World.size_alloc]; omega) (by simp [go_sem])
    have z4_8 : w1.cell? ⟨w.heap.size, 8, none⟩ = some (.int .i64 0) := kC hb1 (by simp only [World.size_alloc]; omega) (by simp [go_sem])
    have z4_9 : w1.cell? ⟨w.heap.size, 9, none⟩ = some (.string ⟨#[]⟩) := kC hb1 (by simp only [World.size_alloc]; omega) (by simp [go_sem])
    have z4_10 : w1.cell? ⟨w.heap.size, 10, none⟩ = some (.slice none 0 0) := kC hb1 (by simp only [World.size_alloc]; omega) (by simp [go_sem])
    have z4_11 : w1.cell? ⟨w.heap.size, 11, none⟩ = some (.slice none 0 0) := kC hb1 (by simp only [World.size_alloc]; omega) (by simp [go_sem])
    have z4_l : w.heap.size < w1.heap.size := hH1
    have z4_f : ∀ o, w1.frozen? ⟨w.heap.size, o, none⟩ = false := fun o => (hb1.frozen (p := ⟨w.heap.size, o, none⟩) (by show w.heap.size < _; simp only [World.size_alloc]; omega)).trans (by simp [go_sem])
    have HB1 : Hid (Below w.heap.size w w1) := Lib.hid ((((Below.refl _ _).alloc (Nat.le_refl _) _).alloc (by simp) _).trans (hb1.mono (by simp only [World.size_alloc]; omega)))
    go_upto_region 4 with fail
    obtain ⟨x1, hx1⟩ : ∃ x, w1.alloc (.cells #[.int .i64 (u.w : Int), .int .i64 (u.h : Int), .int .i64 (u.x : Int), .int .i64 (u.y : Int), .int .i64 (u.look : Int), .int .i64 (u.top : Int), .int .i64 (u.bot : Int), .int .i64 (u.sx : Int), .int .i64 (u.sy : Int), .string u.title, .slice ac u.cells.length cc, .slice ah u.hist.length dh] 26) = x := ⟨_, rfl⟩
    have hb2 : Below w1.heap.size w1 x1 := by rw [← hx1]; exact (Below.refl _ _).alloc (Nat.le_refl _) _
    have y5_0 : x1.cell? ⟨w1.heap.size, 0, none⟩ = some (.int .i64 (u.w : Int)) := (by rw [← hx1]; simp [go_sem])
    have y5_1 : x1.cell? ⟨w1.heap.size, 1, none⟩ = some (.int .i64 (u.h : Int)) := (by rw [← hx1]; simp [go_sem])
    have y5_2 : x1.cell? ⟨w1.heap.size, 2, none⟩ = some (.int .i64 (u.x : Int)) := (by rw [← hx1]; simp [go_sem])
    have y5_3 : x1.cell? ⟨w1.heap.size, 3, none⟩ = some (.int .i64 (u.y : Int)) := (by rw [← hx1]; simp [go_sem])
    have y5_4 : x1.cell? ⟨w1.heap.size, 4, none⟩ = some (.int .i64 (u.look : Int)) := (by rw [← hx1]; simp [go_sem])
    have y5_5 : x1.cell? ⟨w1.heap.size, 5, none⟩ = some (.int .i64 (u.top : Int)) := (by rw [← hx1]; simp [go_sem])
    have y5_6 : x1.cell? ⟨w1.heap.size, 6, none⟩ = some (.int .i64 (u.bot : Int)) := (by rw [← hx1]; simp [go_sem])
    have y5_7 : x1.cell? ⟨w1.heap.size, 7, none⟩ = some (.int .i64 (u.sx : Int)) := (by rw [← hx1]; simp [go_sem])
    have y5_8 : x1.cell? ⟨w1.heap.size, 8, none⟩ = some (.int .i64 (u.sy : Int)) := (by rw [← hx1]; simp [go_sem])
    have y5_9 : x1.cell? ⟨w1.heap.size, 9, none⟩ = some (.string u.title) := (by rw [← hx1]; simp [go_sem])
    have y5_10 : x1.cell? ⟨w1.heap.size, 10, none⟩ = some (.slice ac u.cells.length cc) := (by rw [← hx1]; simp [go_sem])
    have y5_11 : x1.cell? ⟨w1.heap.size, 11, none⟩ = some (.slice ah u.hist.length dh) := (by rw [← hx1]; simp [go_sem])
    have y5_l : w1.heap.size < x1.heap.size := (by rw [← hx1]; simp)
    have z6_0 := kC hb2 z4_l z4_0
    have z6_1 := kC hb2 z4_l z4_1
    have z6_2 := kC hb2 z4_l z4_2
    have z6_3 := kC hb2 z4_l z4_3
    have z6_4 := kC hb2 z4_l z4_4
    have z6_5 := kC hb2 z4_l z4_5
    have z6_6 := kC hb2 z4_l z4_6
    have z6_7 := kC hb2 z4_l z4_7
    have z6_8 := kC hb2 z4_l z4_8
    have z6_9 := kC hb2 z4_l z4_9
    have z6_10 := kC hb2 z4_l z4_10
    have z6_11 := kC hb2 z4_l z4_11
    have z6_l := Nat.lt_of_lt_of_le z4_l hb2.size
    have z6_f := fun o => kF hb2 z4_l (z4_f o)
    clear z4_0 z4_1 z4_2 z4_3 z4_4 z4_5 z4_6 z4_7 z4_8 z4_9 z4_10 z4_11 z4_l z4_f
    have HB2 : Hid (Below w1.heap.size w1 x1) := Lib.hid hb2
    have HBX : Hid (Below w.heap.size w x1) := Lib.hid (HB1.out.trans (hb2.mono HB1.out.size))
    rw [hx1]
    clear hx1 hb1 hb2
    have hHn : ¬ w.heap.size = w1.heap.size := by omega
    have hHm : ¬ w1.heap.size = w.heap.size := by omega
    go_wp2_with fail
    refine bodyPost_ret (v := .tuple #[.agg #[.int .i64 (u.w : Int), .int .i64 (u.h : Int), .int .i64 (u.x : Int), .int .i64 (u.y : Int), .int .i64 (u.look : Int), .int .i64 (u.top : Int), .int .i64 (u.bot : Int), .int .i64 (u.sx : Int), .int .i64 (u.sy : Int), .string u.title, .slice ac u.cells.length cc, .slice ah u.hist.length dh], .int .i64 0]) (by simp [results, Try.results7, go_sem, z6_0, z6_1, z6_2, z6_3, z6_4, z6_5, z6_6, z6_7, z6_8, z6_9, z6_10, z6_11, z6_f]) rfl ?_
    refine .inr ⟨rsCode_yes HIS.out, u, ac, cc, ah, dh, HOK.out, HIS.out, rfl, ?_, (b12 HBX.out)⟩
    refine (HF.out.ch ((((((((((((((Ch.of_below (M := fun k => k = w.heap.size) HB2.out)).setB 0 _).setB 1 _).setB 2 _).setB 3 _).setB 4 _).setB 5 _).setB 6 _).setB 7 _).setB 8 _).setB 9 _).setB 10 _).setB 11 _) (fun k hk e => ?_) (fun k hk e => ?_)).low (by simp only [World.size_alloc]; omega)
    · have h1 := (FreshIn.blks HF.out.row k hk).1
      simp only [World.size_alloc] at h1
      omega
    · have h1 := (HF.out.win.blk k hk).1
      simp only [World.size_alloc] at h1
      omega
theorem specReadScr_c (a : Option Addr) (ca : Nat) (l : List UInt8) (w : World) (ha : Sl byteE 1 w a l) (hl : l.length ≤ 1048576) :
    Calls Try.prog 10 #[.slice a l.length ca] w (RsC l w) := by
  by_cases h1 : 65536 < l.length
  · have h1' : (65536 : Int) < (l.length : Int) := by omega
    have HR := Lib.hid (rsCode_long h1)
    clear h1
    go_enter Try.func10, Try.ntmps10
    
    go_wp2_with fail
    refine bodyPost_ret (v := .tuple #[.agg #[.int .i64 0, .int .i64 0, .int .i64 0, .int .i64 0, .int .i64 0, .int .i64 0, .int .i64 0, .int .i64 0, .int .i64 0, .string ⟨#[]⟩, .slice none 0 0, .slice none 0 0], .int .i64 2]) (by simp [results, Try.results10, go_sem]) rfl ?_
    exact .inl ⟨by rw [HR.out]; decide, ⟨⟨0, 0, 0, 0, 0, 0, 0, 0, 0, ⟨#[]⟩, [], []⟩, none, 0, none, 0, by rw [HR.out]; rfl⟩, (by repeat (first | (with_reducible exact Below.refl _ _) | (with_reducible refine Below.setCell ?_ ?_ _; rotate_left; ((try simp) <;> (try omega))) | (with_reducible refine Below.alloc ?_ ?_ _; rotate_left; ((try simp) <;> (try omega)))))⟩
  have h1' : (l.length : Int) ≤ 65536 := by omega
  have hl65 : l.length ≤ 65536 := by omega
  clear h1
  have HSL : Hid (Sl byteE 1 (w.alloc (.cells #[.int .i64 0, .int .i64 0, .int .i64 0, .int .i64 0, .int .i64 0, .int .i64 0, .int .i64 0, .int .i64 0, .int .i64 0, .string ⟨#[]⟩, .slice none 0 0, .slice none 0 0] 26)) a l) := Lib.hid (ha.keep (by repeat (first | (with_reducible exact Below.refl _ _) | (with_reducible refine Below.setCell ?_ ?_ _; rotate_left; ((try simp) <;> (try omega))) | (with_reducible refine Below.alloc ?_ ?_ _; rotate_left; ((try simp) <;> (try omega))))))
  have hcv := convT (ca := ca) HSL.out
  clear ha
  go_enter Try.func10, Try.ntmps10
  
  go_wp2_with fail
  clear hcv
  refine (l04Read_c l _ hl65).mono ?_
  rintro e w1 hr
  rcases hr with ⟨hno, ⟨s, ac, cc, ah, dh, rfl⟩, hb1⟩ | ⟨u, ac, cc, ah, dh, hok, his, rfl, hF, hb1⟩
  · unfold scrVI
    have HC := Lib.hid (rsCode_no hl65 hno)
    clear hno
    have hz1 := hb1.size
    simp only [World.size_alloc] at hz1
    have hH1 : w.heap.size < w1.heap.size := by omega
    have z1_0 : w1.cell? ⟨w.heap.size, 0, none⟩ = some (.int .i64 0) := kC hb1 (by simp only [World.size_alloc]; omega) (by simp [go_sem])
    have z1_1 : w1.cell? ⟨w.heap.size, 1, none⟩ = some (.int .i64 0) := kC hb1 (by simp only [World.size_alloc]; omega) (by simp [go_sem])
    have z1_2 : w1.cell? ⟨w.heap.size, 2, none⟩ = some (.int .i64 0) := kC hb1 (by simp only [World.size_alloc]; omega) (by simp [go_sem])
    have z1_3 : w1.cell? ⟨w.heap.size, 3, none⟩ = some (.int .i64 0) := kC hb1 (by simp only [World.size_alloc]; omega) (by simp [go_sem])
    have z1_4 : w1.cell? ⟨w.heap.size, 4, none⟩ = some (.int .i64 0) := kC hb1 (by simp only [World.size_alloc]; omega) (by simp [go_sem])
    have z1_5 : w1.cell? ⟨w.heap.size, 5, none⟩ = some (.int .i64 0) := kC hb1 (by simp only [World.size_alloc]; omega) (by simp [go_sem])
    have z1_6 : w1.cell? ⟨w.heap.size, 6, none⟩ = some (.int .i64 0) := kC hb1 (by simp only [World.size_alloc]; omega) (by simp [go_sem])
    have z1_7 : w1.cell? ⟨w.heap.size, 7, none⟩ = some (.int .i64 0) := kC hb1 (by simp only [World.size_alloc]; omega) (by simp [go_sem])
    have z1_8 : w1.cell? ⟨w.heap.size, 8, none⟩ = some (.int .i64 0) := kC hb1 (by simp only [World.size_alloc]; omega) (by simp [go_sem])
    have z1_9 : w1.cell? ⟨w.heap.size, 9, none⟩ = some (.string ⟨#[]⟩) := kC hb1 (by simp only [World.size_alloc]; omega) (by simp [go_sem])
    have z1_10 : w1.cell? ⟨w.heap.size, 10, none⟩ = some (.slice none 0 0) := kC hb1 (by simp only [World.size_alloc]; omega) (by simp [go_sem])
    have z1_11 : w1.cell? ⟨w.heap.size, 11, none⟩ = some (.slice none 0 0) := kC hb1 (by simp only [World.size_alloc]; omega) (by simp [go_sem])
    have z1_l : w.heap.size < w1.heap.size := hH1
    have z1_f : ∀ o, w1.frozen? ⟨w.heap.size, o, none⟩ = false := fun o => (hb1.frozen (p := ⟨w.heap.size, o, none⟩) (by show w.heap.size < _; simp only [World.size_alloc]; omega)).trans (by simp [go_sem])
    have HB1 : Hid (Below w.heap.size w w1) := Lib.hid (((Below.refl _ _).alloc (Nat.le_refl _) _).trans (hb1.mono (by simp only [World.size_alloc]; omega)))
    go_upto_region 4 with fail
    obtain ⟨x1, hx1⟩ : ∃ x, w1.alloc (.cells #[.int .i64 s.w, .int .i64 s.h, .int .i64 s.x, .int .i64 s.y, .int .i64 s.look, .int .i64 s.top, .int .i64 s.bot, .int .i64 s.sx, .int .i64 s.sy, .string s.title, .slice ac s.cells.length cc, .slice ah s.hist.length dh] 26) = x := ⟨_, rfl⟩
    have hb2 : Below w1.heap.size w1 x1 := by rw [← hx1]; exact (Below.refl _ _).alloc (Nat.le_refl _) _
    have y2_0 : x1.cell? ⟨w1.heap.size, 0, none⟩ = some (.int .i64 s.w) := (by rw [← hx1]; simp [go_sem])
    have y2_1 : x1.cell? ⟨w1.heap.size, 1, none⟩ = some (.int .i64 s.h) := (by rw [← hx1]; simp [go_sem])
    have y2_2 : x1.cell? ⟨w1.heap.size, 2, none⟩ = some (.int .i64 s.x) := (by rw [← hx1]; simp [go_sem])
    have y2_3 : x1.cell? ⟨w1.heap.size, 3, none⟩ = some (.int .i64 s.y) := (by rw [← hx1]; simp [go_sem])
    have y2_4 : x1.cell? ⟨w1.heap.size, 4, none⟩ = some (.int .i64 s.look) := (by rw [← hx1]; simp [go_sem])
    have y2_5 : x1.cell? ⟨w1.heap.size, 5, none⟩ = some (.int .i64 s.top) := (by rw [← hx1]; simp [go_sem])
    have y2_6 : x1.cell? ⟨w1.heap.size, 6, none⟩ = some (.int .i64 s.bot) := (by rw [← hx1]; simp [go_sem])
    have y2_7 : x1.cell? ⟨w1.heap.size, 7, none⟩ = some (.int .i64 s.sx) := (by rw [← hx1]; simp [go_sem])
    have y2_8 : x1.cell? ⟨w1.heap.size, 8, none⟩ = some (.int .i64 s.sy) := (by rw [← hx1]; simp [go_sem])
    have y2_9 : x1.cell? ⟨w1.heap.size, 9, none⟩ = some (.string s.title) := (by rw [← hx1]; simp [go_sem])
    have y2_10 : x1.cell? ⟨w1.heap.size, 10, none⟩ = some (.slice ac s.cells.length cc) := (by rw [← hx1]; simp [go_sem])
    have y2_11 : x1.cell? ⟨w1.heap.size, 11, none⟩ = some (.slice ah s.hist.length dh) := (by rw [← hx1]; simp [go_sem])
    have y2_l : w1.heap.size < x1.heap.size := (by rw [← hx1]; simp)
    have z3_0 := kC hb2 z1_l z1_0
    have z3_1 := kC hb2 z1_l z1_1
    have z3_2 := kC hb2 z1_l z1_2
    have z3_3 := kC hb2 z1_l z1_3
    have z3_4 := kC hb2 z1_l z1_4
    have z3_5 := kC hb2 z1_l z1_5
    have z3_6 := kC hb2 z1_l z1_6
    have z3_7 := kC hb2 z1_l z1_7
    have z3_8 := kC hb2 z1_l z1_8
    have z3_9 := kC hb2 z1_l z1_9
    have z3_10 := kC hb2 z1_l z1_10
    have z3_11 := kC hb2 z1_l z1_11
    have z3_l := Nat.lt_of_lt_of_le z1_l hb2.size
    have z3_f := fun o => kF hb2 z1_l (z1_f o)
    clear z1_0 z1_1 z1_2 z1_3 z1_4 z1_5 z1_6 z1_7 z1_8 z1_9 z1_10 z1_11 z1_l z1_f
    have HB2 : Hid (Below w1.heap.size w1 x1) := Lib.hid hb2
    have HBX : Hid (Below w.heap.size w x1) := Lib.hid (HB1.out.trans (hb2.mono HB1.out.size))
    rw [hx1]
    clear hx1 hb1 hb2
    have hHn : ¬ w.heap.size = w1.heap.size := by omega
    have hHm : ¬ w1.heap.size = w.heap.size := by omega
    go_wp2_with fail
    refine bodyPost_ret (v := .tuple #[.agg #[.int .i64 0, .int .i64 0, .int .i64 0, .int .i64 0, .int .i64 0, .int .i64 0, .int .i64 0, .int .i64 0, .int .i64 0, .string ⟨#[]⟩, .slice none 0 0, .slice none 0 0], .int .i64 3]) (by simp [results, Try.results10, go_sem, z3_0, z3_1, z3_2, z3_3, z3_4, z3_5, z3_6, z3_7, z3_8, z3_9, z3_10, z3_11, z3_f]) rfl ?_
    exact .inl ⟨by rw [HC.out]; decide, ⟨⟨0, 0, 0, 0, 0, 0, 0, 0, 0, ⟨#[]⟩, [], []⟩, none, 0, none, 0, by rw [HC.out]; rfl⟩, (b12 HBX.out)⟩
  · unfold scrV
    have HOK := Lib.hid hok
    have HIS := Lib.hid his
    have HF := Lib.hid hF
    clear hok his hF
    have hz1 := hb1.size
    simp only [World.size_alloc] at hz1
    have hH1 : w.heap.size < w1.heap.size := by omega
    have z4_0 : w1.cell? ⟨w.heap.size, 0, none⟩ = some (.int .i64 0) := kC hb1 (by simp only [World.size_alloc]; omega) (by simp [go_sem])
    have z4_1 : w1.cell? ⟨w.heap.size, 1, none⟩ = some (.int .i64 0) := kC hb1 (by simp only [World.size_alloc]; omega) (by simp [go_sem])
    have z4_2 : w1.cell? ⟨w.heap.size, 2, none⟩ = some (.int .i64 0) := kC hb1 (by simp only [World.size_alloc]; omega) (by simp [go_sem])
    have z4_3 : w1.cell? ⟨w.heap.size, 3, none⟩ = some (.int .i64 0) := kC hb1 (by simp only [World.size_alloc]; omega) (by simp [go_sem])
    have z4_4 : w1.cell? ⟨w.heap.size, 4, none⟩ = some (.int .i64 0) := kC hb1 (by simp only [World.size_alloc]; omega) (by simp [go_sem])
    have z4_5 : w1.cell? ⟨w.heap.size, 5, none⟩ = some (.int .i64 0) := kC hb1 (by simp only [World.size_alloc]; omega) (by simp [go_sem])
    have z4_6 : w1.cell? ⟨w.heap.size, 6, none⟩ = some (.int .i64 0) := kC hb1 (by simp only [World.size_alloc]; omega) (by simp [go_sem])
    have z4_7 : w1.cell? ⟨w.heap.size, 7, none⟩ = some (.int .i64 0) := kC hb1 (by simp only [World.size_alloc]; omega) (by simp [go_sem])
    have z4_8 : w1.cell? ⟨w.heap.size, 8, none⟩ = some (.int .i64 0) := kC hb1 (by simp only [World.size_alloc]; omega) (by simp [go_sem])
    have z4_9 : w1.cell? ⟨w.heap.size, 9, none⟩ = some (.string ⟨#[]⟩) := kC hb1 (by simp only [World.size_alloc]; omega) (by simp [go_sem])
    have z4_10 : w1.cell? ⟨w.heap.size, 10, none⟩ = some (.slice none 0 0) := kC hb1 (by simp only [World.size_alloc]; omega) (by simp [go_sem])
    have z4_11 : w1.cell? ⟨w.heap.size, 11, none⟩ = some (.slice none 0 0) := kC hb1 (by simp only [World.size_alloc]; omega) (by simp [go_sem])
    have z4_l : w.heap.size < w1.heap.size := hH1
    have z4_f : ∀ o, w1.frozen? ⟨w.heap.size, o, none⟩ = false := fun o => (hb1.frozen (p := ⟨w.heap.size, o, none⟩) (by show w.heap.size < _; simp only [World.size_alloc]; omega)).trans (by simp [go_sem])
    have HB1 : Hid (Below w.heap.size w w1) := Lib.hid (((Below.refl _ _).alloc (Nat.le_refl _) _).trans (hb1.mono (by simp only [World.size_alloc]; omega)))
    go_upto_region 4 with fail
    obtain ⟨x1, hx1⟩ : ∃ x, w1.alloc (.cells #[.int .i64 (u.w : Int), .int .i64 (u.h : Int), .int .i64 (u.x : Int), .int .i64 (u.y : Int), .int .i64 (u.look : Int), .int .i64 (u.top : Int), .int .i64 (u.bot : Int), .int .i64 (u.sx : Int), .int .i64 (u.sy : Int), .string u.title, .slice ac u.cells.length cc, .slice ah u.hist.length dh] 26) = x := ⟨_, rfl⟩
    have hb2 : Below w1.heap.size w1 x1 := by rw [← hx1]; exact (Below.refl _ _).alloc (Nat.le_refl _) _
    have y5_0 : x1.cell? ⟨w1.heap.size, 0, none⟩ = some (.int .i64 (u.w : Int)) := (by rw [← hx1]; simp [go_sem])
    have y5_1 : x1.cell? ⟨w1.heap.size, 1, none⟩ = some (.int .i64 (u.h : Int)) := (by rw [← hx1]; simp [go_sem])
    have y5_2 : x1.cell? ⟨w1.heap.size, 2, none⟩ = some (.int .i64 (u.x : Int)) := (by rw [← hx1]; simp [go_sem])
    have y5_3 : x1.cell? ⟨w1.heap.size, 3, none⟩ = some (.int .i64 (u.y : Int)) := (by rw [← hx1]; simp [go_sem])
    have y5_4 : x1.cell? ⟨w1.heap.size, 4, none⟩ = some (.int .i64 (u.look : Int)) := (by rw [← hx1]; simp [go_sem])
    have y5_5 : x1.cell? ⟨w1.heap.size, 5, none⟩ = some (.int .i64 (u.top : Int)) := (by rw [← hx1]; simp [go_sem])
    have y5_6 : x1.cell? ⟨w1.heap.size, 6, none⟩ = some (.int .i64 (u.bot : Int)) := (by rw [← hx1]; simp [go_sem])
    have y5_7 : x1.cell? ⟨w1.heap.size, 7, none⟩ = some (.int .i64 (u.sx : Int)) := (by rw [← hx1]; simp [go_sem])
    have y5_8 : x1.cell? ⟨w1.heap.size, 8, none⟩ = some (.int .i64 (u.sy : Int)) := (by rw [← hx1]; simp [go_sem])
    have y5_9 : x1.cell? ⟨w1.heap.size, 9, none⟩ = some (.string u.title) := (by rw [← hx1]; simp [go_sem])
    have y5_10 : x1.cell? ⟨w1.heap.size, 10, none⟩ = some (.slice ac u.cells.length cc) := (by rw [← hx1]; simp [go_sem])
    have y5_11 : x1.cell? ⟨w1.heap.size, 11, none⟩ = some (.slice ah u.hist.length dh) := (by rw [← hx1]; simp [go_sem])
    have y5_l : w1.heap.size < x1.heap.size := (by rw [← hx1]; simp)
    have z6_0 := kC hb2 z4_l z4_0
    have z6_1 := kC hb2 z4_l z4_1
    have z6_2 := kC hb2 z4_l z4_2
    have z6_3 := kC hb2 z4_l z4_3
    have z6_4 := kC hb2 z4_l z4_4
    have z6_5 := kC hb2 z4_l z4_5
    have z6_6 := kC hb2 z4_l z4_6
    have z6_7 := kC hb2 z4_l z4_7
    have z6_8 := kC hb2 z4_l z4_8
    have z6_9 := kC hb2 z4_l z4_9
    have z6_10 := kC hb2 z4_l z4_10
    have z6_11 := kC hb2 z4_l z4_11
    have z6_l := Nat.lt_of_lt_of_le z4_l hb2.size
    have z6_f := fun o => kF hb2 z4_l (z4_f o)
    clear z4_0 z4_1 z4_2 z4_3 z4_4 z4_5 z4_6 z4_7 z4_8 z4_9 z4_10 z4_11 z4_l z4_f
    have HB2 : Hid (Below w1.heap.size w1 x1) := Lib.hid hb2
    have HBX : Hid (Below w.heap.size w x1) := Lib.hid (HB1.out.trans (hb2.mono HB1.out.size))
    rw [hx1]
    clear hx1 hb1 hb2
    have hHn : ¬ w.heap.size = w1.heap.size := by omega
    have hHm : ¬ w1.heap.size = w.heap.size := by omega
    go_wp2_with fail
    refine bodyPost_ret (v := .tuple #[.agg #[.int .i64 (u.w : Int), .int .i64 (u.h : Int), .int .i64 (u.x : Int), .int .i64 (u.y : Int), .int .i64 (u.look : Int), .int .i64 (u.top : Int), .int .i64 (u.bot : Int), .int .i64 (u.sx : Int), .int .i64 (u.sy : Int), .string u.title, .slice ac u.cells.length cc, .slice ah u.hist.length dh], .int .i64 0]) (by simp [results, Try.results10, go_sem, z6_0, z6_1, z6_2, z6_3, z6_4, z6_5, z6_6, z6_7, z6_8, z6_9, z6_10, z6_11, z6_f]) rfl ?_
    refine .inr ⟨rsCode_yes HIS.out, u, ac, cc, ah, dh, HOK.out, HIS.out, rfl, ?_, (b12 HBX.out)⟩
    refine (HF.out.ch ((((((((((((((Ch.of_below (M := fun k => k = w.heap.size) HB2.out)).setB 0 _).setB 1 _).setB 2 _).setB 3 _).setB 4 _).setB 5 _).setB 6 _).setB 7 _).setB 8 _).setB 9 _).setB 10 _).setB 11 _) (fun k hk e => ?_) (fun k hk e => ?_)).low (by simp only [World.size_alloc]; omega)
    · have h1 := (FreshIn.blks HF.out.row k hk).1
      simp only [World.size_alloc] at h1
      omega
    · have h1 := (HF.out.win.blk k hk).1
      simp only [World.size_alloc] at h1
      omega
end
section
open Go.RowKit
theorem ScrF.cap {lo : Nat} {s : Scr} {ac : Option Addr} {cc : Nat} {ah : Option Addr} {dh : Nat} {w : World} (h : ScrF lo s ac cc ah dh w) : s.cells.length ≤ cc := hcapF h.row.1
theorem lawScrB_c (a b : Option Addr) (ca cb : Nat) (xs ys : List UInt8) (w : World) (ha : Sl byteE 1 w a xs) (hb : Sl byteE 1 w b ys) (la : xs.length ≤ 9223372036854775807) (lb : ys.length ≤ 9223372036854775807) :
    Calls Try.prog 3 #[.slice a xs.length ca, .slice b ys.length cb] w fun e w' => e = .returned (.bool true) ∧ Below w.heap.size w w' := by
  by_cases hx : 1048576 < xs.length
  · have hx' : (1048576 : Int) < (xs.length : Int) := by omega
    go_enter Try.func3, Try.ntmps3
    go_wp2_with fail
    go_ret
    exact ⟨rfl, Below.refl _ _⟩
  have hx' : (xs.length : Int) ≤ 1048576 := by omega
  by_cases hy : 1048576 < ys.length
  · have hy' : (1048576 : Int) < (ys.length : Int) := by omega
    go_enter Try.func3, Try.ntmps3
    go_wp2_with fail
    go_ret
    exact ⟨rfl, Below.refl _ _⟩
  have hy' : (ys.length : Int) ≤ 1048576 := by omega
  have lx : xs.length ≤ 1048576 := by omega
  have ly : ys.length ≤ 1048576 := by omega
  clear hx hy
  have HB := Lib.hid hb
  have HSO := Lib.hid (screenOf_c a ca xs w ha lx)
  obtain ⟨cd, hcd⟩ : ∃ c, rsCode ys = c := ⟨_, rfl⟩
  have HCD := Lib.hid hcd
  clear ha hb hcd
  go_enter Try.func3, Try.ntmps3
  go_wp2_with fail
  refine HSO.out.mono ?_
  rintro e w1 ⟨s, hok, hb1, ac, cc, ah, dh, rfl, hF⟩
  have HOK := Lib.hid hok
  have HF := Lib.hid hF
  have hcc := hF.cap
  unfold scrV
  go_upto_region 4 with fail
  obtain ⟨x1, hx1⟩ : ∃ x, w1.alloc (.cells #[.int .i64 (s.w : Int), .int .i64 (s.h : Int), .int .i64 (s.x : Int), .int .i64 (s.y : Int), .int .i64 (s.look : Int), .int .i64 (s.top : Int), .int .i64 (s.bot : Int), .int .i64 (s.sx : Int), .int .i64 (s.sy : Int), .string s.title, .slice ac s.cells.length cc, .slice ah s.hist.length dh] 26) = x := ⟨_, rfl⟩
  have hbx : Below w1.heap.size w1 x1 := by rw [← hx1]; exact (Below.refl _ _).alloc (Nat.le_refl _) _
  have k1_0 : x1.cell? ⟨w1.heap.size, 0, none⟩ = some (.int .i64 (s.w : Int)) := (by rw [← hx1]; simp [go_sem])
  have k1_1 : x1.cell? ⟨w1.heap.size, 1, none⟩ = some (.int .i64 (s.h : Int)) := (by rw [← hx1]; simp [go_sem])
  have k1_2 : x1.cell? ⟨w1.heap.size, 2, none⟩ = some (.int .i64 (s.x : Int)) := (by rw [← hx1]; simp [go_sem])
  have k1_3 : x1.cell? ⟨w1.heap.size, 3, none⟩ = some (.int .i64 (s.y : Int)) := (by rw [← hx1]; simp [go_sem])
  have k1_4 : x1.cell? ⟨w1.heap.size, 4, none⟩ = some (.int .i64 (s.look : Int)) := (by rw [← hx1]; simp [go_sem])
  have k1_5 : x1.cell? ⟨w1.heap.size, 5, none⟩ = some (.int .i64 (s.top : Int)) := (by rw [← hx1]; simp [go_sem])
  have k1_6 : x1.cell? ⟨w1.heap.size, 6, none⟩ = some (.int .i64 (s.bot : Int)) := (by rw [← hx1]; simp [go_sem])
  have k1_7 : x1.cell? ⟨w1.heap.size, 7, none⟩ = some (.int .i64 (s.sx : Int)) := (by rw [← hx1]; simp [go_sem])
  have k1_8 : x1.cell? ⟨w1.heap.size, 8, none⟩ = some (.int .i64 (s.sy : Int)) := (by rw [← hx1]; simp [go_sem])
  have k1_9 : x1.cell? ⟨w1.heap.size, 9, none⟩ = some (.string s.title) := (by rw [← hx1]; simp [go_sem])
  have k1_10 : x1.cell? ⟨w1.heap.size, 10, none⟩ = some (.slice ac s.cells.length cc) := (by rw [← hx1]; simp [go_sem])
  have k1_11 : x1.cell? ⟨w1.heap.size, 11, none⟩ = some (.slice ah s.hist.length dh) := (by rw [← hx1]; simp [go_sem])
  have k1_l : w1.heap.size < x1.heap.size := (by rw [← hx1]; simp)
  have HB1 : Hid (Below w.heap.size w x1) := Lib.hid (hb1.trans (hbx.mono hb1.size))
  have HS1 : Hid (∀ W, Below x1.heap.size x1 W → ScrS s ac ah W) := Lib.hid (fun W h => (hF.rd.below hbx).below h)
  have HYS : Hid (∀ W, Below x1.heap.size x1 W → Sl byteE 1 W b ys) := Lib.hid (fun W h => HB.out.keep (HB1.out.trans (h.mono HB1.out.size)))
  rw [hx1]
  clear hx1 hbx hb1 hok hF
  obtain ⟨l, hl⟩ : ∃ l, scrText s.i = l := ⟨_, rfl⟩
  have HIS : Hid (ScrIs l s.i) := Lib.hid ⟨HOK.out.b, hl⟩
  have HIB : Hid (∀ W, Below x1.heap.size x1 W → Calls Try.prog 5 #[.agg #[.int .i64 (s.w : Int), .int .i64 (s.h : Int), .int .i64 (s.x : Int), .int .i64 (s.y : Int), .int .i64 (s.look : Int), .int .i64 (s.top : Int), .int .i64 (s.bot : Int), .int .i64 (s.sx : Int), .int .i64 (s.sy : Int), .string s.title, .slice ac s.cells.length cc, .slice ah s.hist.length dh]] W (BytesR l W)) := Lib.hid (fun W h => by rw [← hl]; exact implScreenBytes_c s HOK.out ac cc ah dh W (HS1.out W h) hcc)
  have HSB : Hid (∀ W, Below x1.heap.size x1 W → Calls Try.prog 6 #[.agg #[.int .i64 (s.w : Int), .int .i64 (s.h : Int), .int .i64 (s.x : Int), .int .i64 (s.y : Int), .int .i64 (s.look : Int), .int .i64 (s.top : Int), .int .i64 (s.bot : Int), .int .i64 (s.sx : Int), .int .i64 (s.sy : Int), .string s.title, .slice ac s.cells.length cc, .slice ah s.hist.length dh]] W (BytesR l W)) := Lib.hid (fun W h => by rw [← hl]; exact specScreenBytes_c s HOK.out ac cc ah dh W (HS1.out W h))
  have HLL := Lib.hid hl
  clear hl
  have hll : l.length ≤ 8000 := HIS.out.len
  obtain ⟨S, hS⟩ : ∃ S, strOf l = S := ⟨_, rfl⟩
  have HSS := Lib.hid hS
  clear hS
  go_wp2_with fail
  refine (HIB.out _ (Below.refl _ _)).mono ?_
  rintro e w2 ⟨a2, c2, rfl, hs2, hb2⟩
  have k2_0 := kC hb2 k1_l k1_0
  have k2_1 := kC hb2 k1_l k1_1
  have k2_2 := kC hb2 k1_l k1_2
  have k2_3 := kC hb2 k1_l k1_3
  have k2_4 := kC hb2 k1_l k1_4
  have k2_5 := kC hb2 k1_l k1_5
  have k2_6 := kC hb2 k1_l k1_6
  have k2_7 := kC hb2 k1_l k1_7
  have k2_8 := kC hb2 k1_l k1_8
  have k2_9 := kC hb2 k1_l k1_9
  have k2_10 := kC hb2 k1_l k1_10
  have k2_11 := kC hb2 k1_l k1_11
  have k2_l := Nat.lt_of_lt_of_le k1_l hb2.size
  clear k1_0 k1_1 k1_2 k1_3 k1_4 k1_5 k1_6 k1_7 k1_8 k1_9 k1_10 k1_11 k1_l
  have HS2 := Lib.hid hs2
  have HB2 := Lib.hid hb2
  clear hs2 hb2
  go_wp2_with fail
  refine (HSB.out _ HB2.out).mono ?_
  rintro e w3 ⟨a3, c3, rfl, hs3, hb3⟩
  have k3_0 := kC hb3 k2_l k2_0
  have k3_1 := kC hb3 k2_l k2_1
  have k3_2 := kC hb3 k2_l k2_2
  have k3_3 := kC hb3 k2_l k2_3
  have k3_4 := kC hb3 k2_l k2_4
  have k3_5 := kC hb3 k2_l k2_5
  have k3_6 := kC hb3 k2_l k2_6
  have k3_7 := kC hb3 k2_l k2_7
  have k3_8 := kC hb3 k2_l k2_8
  have k3_9 := kC hb3 k2_l k2_9
  have k3_10 := kC hb3 k2_l k2_10
  have k3_11 := kC hb3 k2_l k2_11
  have k3_l := Nat.lt_of_lt_of_le k2_l hb3.size
  clear k2_0 k2_1 k2_2 k2_3 k2_4 k2_5 k2_6 k2_7 k2_8 k2_9 k2_10 k2_11 k2_l
  have HS3 := Lib.hid hs3
  have HS23 := Lib.hid (HS2.out.keep hb3)
  have HB3 : Hid (Below x1.heap.size x1 w3) := Lib.hid (HB2.out.trans (hb3.mono HB2.out.size))
  clear hs3 hb3
  go_wp2_with fail
  refine (implReadScr_c a2 c2 l w3 HS23.out (by omega)).mono ?_
  rintro e w4 (⟨hne, _⟩ | ⟨_, u, bc, ec, bh, fh, huo, hui, rfl, hG, hb4⟩)
  · exact absurd (rsCode_yes HIS.out) hne
  have k4_0 := kC hb4 k3_l k3_0
  have k4_1 := kC hb4 k3_l k3_1
  have k4_2 := kC hb4 k3_l k3_2
  have k4_3 := kC hb4 k3_l k3_3
  have k4_4 := kC hb4 k3_l k3_4
  have k4_5 := kC hb4 k3_l k3_5
  have k4_6 := kC hb4 k3_l k3_6
  have k4_7 := kC hb4 k3_l k3_7
  have k4_8 := kC hb4 k3_l k3_8
  have k4_9 := kC hb4 k3_l k3_9
  have k4_10 := kC hb4 k3_l k3_10
  have k4_11 := kC hb4 k3_l k3_11
  have k4_l := Nat.lt_of_lt_of_le k3_l hb4.size
  clear k3_0 k3_1 k3_2 k3_3 k3_4 k3_5 k3_6 k3_7 k3_8 k3_9 k3_10 k3_11 k3_l
  unfold scrV
  go_upto_region 7 with fail
  obtain ⟨x4, hx4⟩ : ∃ x, w4.alloc (.cells #[.int .i64 (u.w : Int), .int .i64 (u.h : Int), .int .i64 (u.x : Int), .int .i64 (u.y : Int), .int .i64 (u.look : Int), .int .i64 (u.top : Int), .int .i64 (u.bot : Int), .int .i64 (u.sx : Int), .int .i64 (u.sy : Int), .string u.title, .slice bc u.cells.length ec, .slice bh u.hist.length fh] 26) = x := ⟨_, rfl⟩
  have hbx : Below w4.heap.size w4 x4 := by rw [← hx4]; exact (Below.refl _ _).alloc (Nat.le_refl _) _
  have q5_0 : x4.cell? ⟨w4.heap.size, 0, none⟩ = some (.int .i64 (u.w : Int)) := (by rw [← hx4]; simp [go_sem])
  have q5_1 : x4.cell? ⟨w4.heap.size, 1, none⟩ = some (.int .i64 (u.h : Int)) := (by rw [← hx4]; simp [go_sem])
  have q5_2 : x4.cell? ⟨w4.heap.size, 2, none⟩ = some (.int .i64 (u.x : Int)) := (by rw [← hx4]; simp [go_sem])
  have q5_3 : x4.cell? ⟨w4.heap.size, 3, none⟩ = some (.int .i64 (u.y : Int)) := (by rw [← hx4]; simp [go_sem])
  have q5_4 : x4.cell? ⟨w4.heap.size, 4, none⟩ = some (.int .i64 (u.look : Int)) := (by rw [← hx4]; simp [go_sem])
  have q5_5 : x4.cell? ⟨w4.heap.size, 5, none⟩ = some (.int .i64 (u.top : Int)) := (by rw [← hx4]; simp [go_sem])
  have q5_6 : x4.cell? ⟨w4.heap.size, 6, none⟩ = some (.int .i64 (u.bot : Int)) := (by rw [← hx4]; simp [go_sem])
  have q5_7 : x4.cell? ⟨w4.heap.size, 7, none⟩ = some (.int .i64 (u.sx : Int)) := (by rw [← hx4]; simp [go_sem])
  have q5_8 : x4.cell? ⟨w4.heap.size, 8, none⟩ = some (.int .i64 (u.sy : Int)) := (by rw [← hx4]; simp [go_sem])
  have q5_9 : x4.cell? ⟨w4.heap.size, 9, none⟩ = some (.string u.title) := (by rw [← hx4]; simp [go_sem])
  have q5_10 : x4.cell? ⟨w4.heap.size, 10, none⟩ = some (.slice bc u.cells.length ec) := (by rw [← hx4]; simp [go_sem])
  have q5_11 : x4.cell? ⟨w4.heap.size, 11, none⟩ = some (.slice bh u.hist.length fh) := (by rw [← hx4]; simp [go_sem])
  have q5_l : w4.heap.size < x4.heap.size := (by rw [← hx4]; simp)
  have k6_0 := kC hbx k4_l k4_0
  have k6_1 := kC hbx k4_l k4_1
  have k6_2 := kC hbx k4_l k4_2
  have k6_3 := kC hbx k4_l k4_3
  have k6_4 := kC hbx k4_l k4_4
  have k6_5 := kC hbx k4_l k4_5
  have k6_6 := kC hbx k4_l k4_6
  have k6_7 := kC hbx k4_l k4_7
  have k6_8 := kC hbx k4_l k4_8
  have k6_9 := kC hbx k4_l k4_9
  have k6_10 := kC hbx k4_l k4_10
  have k6_11 := kC hbx k4_l k4_11
  have k6_l := Nat.lt_of_lt_of_le k4_l hbx.size
  clear k4_0 k4_1 k4_2 k4_3 k4_4 k4_5 k4_6 k4_7 k4_8 k4_9 k4_10 k4_11 k4_l
  have HUO := Lib.hid huo
  have hec := hG.cap
  have HB4 : Hid (Below x1.heap.size x1 x4) := Lib.hid ((HB3.out.trans (hb4.mono HB3.out.size)).trans (hbx.mono (Nat.le_trans HB3.out.size hb4.size)))
  have HQS : Hid (∀ W, Below x4.heap.size x4 W → ScrS u bc bh W) := Lib.hid (fun W h => (hG.rd.below hbx).below h)
  have HXT : Hid (scrText u.i = scrText s.i) := Lib.hid (by rw [hui.2, HLL.out])
  have hs2 := (HS23.out.keep hb4).keep hbx
  have hs3 := (HS3.out.keep hb4).keep hbx
  have hcv2 : (convert 22 9 (.slice a2 l.length c2)).run Try.prog x4 = .ok (.string S) x4 := by rw [← HSS.out]; exact convT hs2
  have hcv3 : (convert 22 9 (.slice a3 l.length c3)).run Try.prog x4 = .ok (.string S) x4 := by rw [← HSS.out]; exact convT hs3
  have hse : (S.toList != S.toList) = false := by simp
  rw [hx4]
  clear hx4 hbx hb4 huo hui hG hs2 hs3
  have HSA : Hid (∀ W, Below x4.heap.size x4 W → Calls Try.prog 8 #[.agg #[.int .i64 (u.w : Int), .int .i64 (u.h : Int), .int .i64 (u.x : Int), .int .i64 (u.y : Int), .int .i64 (u.look : Int), .int .i64 (u.top : Int), .int .i64 (u.bot : Int), .int .i64 (u.sx : Int), .int .i64 (u.sy : Int), .string u.title, .slice bc u.cells.length ec, .slice bh u.hist.length fh], .agg #[.int .i64 (s.w : Int), .int .i64 (s.h : Int), .int .i64 (s.x : Int), .int .i64 (s.y : Int), .int .i64 (s.look : Int), .int .i64 (s.top : Int), .int .i64 (s.bot : Int), .int .i64 (s.sx : Int), .int .i64 (s.sy : Int), .string s.title, .slice ac s.cells.length cc, .slice ah s.hist.length dh]] W fun e w' => e = .returned (.bool true) ∧ Below W.heap.size W w') := Lib.hid (fun W h => sameScreens_c u s HUO.out HOK.out bc ec bh fh ac cc ah dh W (HQS.out W h) (HS1.out W (HB4.out.trans (h.mono HB4.out.size))) HXT.out)
  have HSI : Hid (∀ W, Below x4.heap.size x4 W → Calls Try.prog 9 #[.agg #[.int .i64 (u.w : Int), .int .i64 (u.h : Int), .int .i64 (u.x : Int), .int .i64 (u.y : Int), .int .i64 (u.look : Int), .int .i64 (u.top : Int), .int .i64 (u.bot : Int), .int .i64 (u.sx : Int), .int .i64 (u.sy : Int), .string u.title, .slice bc u.cells.length ec, .slice bh u.hist.length fh], .agg #[.int .i64 (s.w : Int), .int .i64 (s.h : Int), .int .i64 (s.x : Int), .int .i64 (s.y : Int), .int .i64 (s.look : Int), .int .i64 (s.top : Int), .int .i64 (s.bot : Int), .int .i64 (s.sx : Int), .int .i64 (s.sy : Int), .string s.title, .slice ac s.cells.length cc, .slice ah s.hist.length dh]] W fun e w' => e = .returned (.tuple #[.bool true, .int .i64 0]) ∧ Below W.heap.size W w') := Lib.hid (fun W h => implSameScreen_c u s HUO.out HOK.out bc ec bh fh ac cc ah dh W (HQS.out W h) (HS1.out W (HB4.out.trans (h.mono HB4.out.size))) HXT.out hec hcc)
  go_wp2_with fail
  refine (HSA.out _ (Below.refl _ _)).mono ?_
  rintro e w5 ⟨rfl, hb5⟩
  have k7_0 := kC hb5 k6_l k6_0
  have k7_1 := kC hb5 k6_l k6_1
  have k7_2 := kC hb5 k6_l k6_2
  have k7_3 := kC hb5 k6_l k6_3
  have k7_4 := kC hb5 k6_l k6_4
  have k7_5 := kC hb5 k6_l k6_5
  have k7_6 := kC hb5 k6_l k6_6
  have k7_7 := kC hb5 k6_l k6_7
  have k7_8 := kC hb5 k6_l k6_8
  have k7_9 := kC hb5 k6_l k6_9
  have k7_10 := kC hb5 k6_l k6_10
  have k7_11 := kC hb5 k6_l k6_11
  have k7_l := Nat.lt_of_lt_of_le k6_l hb5.size
  clear k6_0 k6_1 k6_2 k6_3 k6_4 k6_5 k6_6 k6_7 k6_8 k6_9 k6_10 k6_11 k6_l
  have q8_0 := kC hb5 q5_l q5_0
  have q8_1 := kC hb5 q5_l q5_1
  have q8_2 := kC hb5 q5_l q5_2
  have q8_3 := kC hb5 q5_l q5_3
  have q8_4 := kC hb5 q5_l q5_4
  have q8_5 := kC hb5 q5_l q5_5
  have q8_6 := kC hb5 q5_l q5_6
  have q8_7 := kC hb5 q5_l q5_7
  have q8_8 := kC hb5 q5_l q5_8
  have q8_9 := kC hb5 q5_l q5_9
  have q8_10 := kC hb5 q5_l q5_10
  have q8_11 := kC hb5 q5_l q5_11
  have q8_l := Nat.lt_of_lt_of_le q5_l hb5.size
  clear q5_0 q5_1 q5_2 q5_3 q5_4 q5_5 q5_6 q5_7 q5_8 q5_9 q5_10 q5_11 q5_l
  have HB5 := Lib.hid hb5
  clear hb5 hcv2 hcv3 hse
  go_wp2_with fail
  refine (HSI.out _ HB5.out).mono ?_
  rintro e w6 ⟨rfl, hb6⟩
  have HB6 : Hid (Below x1.heap.size x1 w6) := Lib.hid (HB4.out.trans ((HB5.out.trans (hb6.mono HB5.out.size)).mono HB4.out.size))
  clear hb6
  clear k7_0 k7_1 k7_2 k7_3 k7_4 k7_5 k7_6 k7_7 k7_8 k7_9 k7_10 k7_11 k7_l
  clear q8_0 q8_1 q8_2 q8_3 q8_4 q8_5 q8_6 q8_7 q8_8 q8_9 q8_10 q8_11 q8_l
  go_wp2_with fail
  refine (implReadScr_c b cb ys w6 (HYS.out _ HB6.out) (by omega)).mono ?_
  rintro e w7 (⟨hne, ⟨t, b7, c7, d7, e7, he⟩, hb7⟩ | ⟨h0, u2, b7, c7, d7, e7, huo, hui, rfl, hG, hb7⟩)
  · have hc0 : ¬ cd = 0 := by rw [← HCD.out]; exact hne
    have hc1 : (cd != 0) = true := bne_iff_ne.2 hc0
    have hc2 : (cd != cd) = false := by simp
    rw [HCD.out] at he
    subst he
    unfold scrVI
    clear hne
    go_upto_region 11 with fail
    obtain ⟨x7, hx7⟩ : ∃ x, w7.alloc (.cells #[.int .i64 t.w, .int .i64 t.h, .int .i64 t.x, .int .i64 t.y, .int .i64 t.look, .int .i64 t.top, .int .i64 t.bot, .int .i64 t.sx, .int .i64 t.sy, .string t.title, .slice b7 t.cells.length c7, .slice d7 t.hist.length e7] 26) = x := ⟨_, rfl⟩
    have HB7 : Hid (Below x1.heap.size x1 x7) := Lib.hid (by rw [← hx7]; exact (HB6.out.trans (hb7.mono HB6.out.size)).alloc (Nat.le_trans HB6.out.size hb7.size) _)
    rw [hx7]
    clear hx7 hb7
    go_wp2_with fail
    refine (specReadScr_c b cb ys x7 (HYS.out _ HB7.out) (by omega)).mono ?_
    rintro e w8 (⟨_, ⟨t2, b8, c8, d8, e8, he⟩, hb8⟩ | ⟨h0, _⟩)
    rotate_left
    · exact absurd (by rw [← HCD.out]; exact h0) hc0
    rw [HCD.out] at he
    subst he
    unfold scrVI
    have HB8 : Hid (Below w.heap.size w w8) := Lib.hid (HB1.out.trans ((HB7.out.trans (hb8.mono HB7.out.size)).mono HB1.out.size))
    clear hb8
    go_wp2_with fail
    go_ret
    exact ⟨rfl, HB8.out.alloc HB8.out.size _⟩
  · have hd0 : cd = 0 := by rw [← HCD.out]; exact h0
    subst hd0
    have HUI := Lib.hid hui
    have HU2 := Lib.hid huo
    have hec2 := hG.cap
    unfold scrV
    clear h0 hui huo
    go_upto_region 11 with fail
    obtain ⟨x7, hx7⟩ : ∃ x, w7.alloc (.cells #[.int .i64 (u2.w : Int), .int .i64 (u2.h : Int), .int .i64 (u2.x : Int), .int .i64 (u2.y : Int), .int .i64 (u2.look : Int), .int .i64 (u2.top : Int), .int .i64 (u2.bot : Int), .int .i64 (u2.sx : Int), .int .i64 (u2.sy : Int), .string u2.title, .slice b7 u2.cells.length c7, .slice d7 u2.hist.length e7] 26) = x := ⟨_, rfl⟩
    have HB7 : Hid (Below x1.heap.size x1 x7) := Lib.hid (by rw [← hx7]; exact (HB6.out.trans (hb7.mono HB6.out.size)).alloc (Nat.le_trans HB6.out.size hb7.size) _)
    have HGS : Hid (∀ W, Below x7.heap.size x7 W → ScrS u2 b7 d7 W) := Lib.hid (fun W h => by rw [← hx7] at h; exact (hG.rd.alloc _).below h)
    have k9_0 : x7.cell? ⟨w7.heap.size, 0, none⟩ = some (.int .i64 (u2.w : Int)) := (by rw [← hx7]; simp [go_sem])
    have k9_1 : x7.cell? ⟨w7.heap.size, 1, none⟩ = some (.int .i64 (u2.h : Int)) := (by rw [← hx7]; simp [go_sem])
    have k9_2 : x7.cell? ⟨w7.heap.size, 2, none⟩ = some (.int .i64 (u2.x : Int)) := (by rw [← hx7]; simp [go_sem])
    have k9_3 : x7.cell? ⟨w7.heap.size, 3, none⟩ = some (.int .i64 (u2.y : Int)) := (by rw [← hx7]; simp [go_sem])
    have k9_4 : x7.cell? ⟨w7.heap.size, 4, none⟩ = some (.int .i64 (u2.look : Int)) := (by rw [← hx7]; simp [go_sem])
    have k9_5 : x7.cell? ⟨w7.heap.size, 5, none⟩ = some (.int .i64 (u2.top : Int)) := (by rw [← hx7]; simp [go_sem])
    have k9_6 : x7.cell? ⟨w7.heap.size, 6, none⟩ = some (.int .i64 (u2.bot : Int)) := (by rw [← hx7]; simp [go_sem])
    have k9_7 : x7.cell? ⟨w7.heap.size, 7, none⟩ = some (.int .i64 (u2.sx : Int)) := (by rw [← hx7]; simp [go_sem])
    have k9_8 : x7.cell? ⟨w7.heap.size, 8, none⟩ = some (.int .i64 (u2.sy : Int)) := (by rw [← hx7]; simp [go_sem])
    have k9_9 : x7.cell? ⟨w7.heap.size, 9, none⟩ = some (.string u2.title) := (by rw [← hx7]; simp [go_sem])
    have k9_10 : x7.cell? ⟨w7.heap.size, 10, none⟩ = some (.slice b7 u2.cells.length c7) := (by rw [← hx7]; simp [go_sem])
    have k9_11 : x7.cell? ⟨w7.heap.size, 11, none⟩ = some (.slice d7 u2.hist.length e7) := (by rw [← hx7]; simp [go_sem])
    have k9_l : w7.heap.size < x7.heap.size := (by rw [← hx7]; simp)
    rw [hx7]
    clear hx7 hb7 hG
    go_wp2_with fail
    refine (specReadScr_c b cb ys x7 (HYS.out _ HB7.out) (by omega)).mono ?_
    rintro e w8 (⟨hne, _⟩ | ⟨_, u3, b8, c8, d8, e8, _, _, rfl, _, hb8⟩)
    · exact absurd HCD.out hne
    have k10_0 := kC hb8 k9_l k9_0
    have k10_1 := kC hb8 k9_l k9_1
    have k10_2 := kC hb8 k9_l k9_2
    have k10_3 := kC hb8 k9_l k9_3
    have k10_4 := kC hb8 k9_l k9_4
    have k10_5 := kC hb8 k9_l k9_5
    have k10_6 := kC hb8 k9_l k9_6
    have k10_7 := kC hb8 k9_l k9_7
    have k10_8 := kC hb8 k9_l k9_8
    have k10_9 := kC hb8 k9_l k9_9
    have k10_10 := kC hb8 k9_l k9_10
    have k10_11 := kC hb8 k9_l k9_11
    have k10_l := Nat.lt_of_lt_of_le k9_l hb8.size
    clear k9_0 k9_1 k9_2 k9_3 k9_4 k9_5 k9_6 k9_7 k9_8 k9_9 k9_10 k9_11 k9_l
    unfold scrV
    go_upto_region 12 with fail
    obtain ⟨x8, hx8⟩ : ∃ x, w8.alloc (.cells #[.int .i64 (u3.w : Int), .int .i64 (u3.h : Int), .int .i64 (u3.x : Int), .int .i64 (u3.y : Int), .int .i64 (u3.look : Int), .int .i64 (u3.top : Int), .int .i64 (u3.bot : Int), .int .i64 (u3.sx : Int), .int .i64 (u3.sy : Int), .string u3.title, .slice b8 u3.cells.length c8, .slice d8 u3.hist.length e8] 26) = x := ⟨_, rfl⟩
    have hbx : Below w8.heap.size w8 x8 := by rw [← hx8]; exact (Below.refl _ _).alloc (Nat.le_refl _) _
    have k11_0 := kC hbx k10_l k10_0
    have k11_1 := kC hbx k10_l k10_1
    have k11_2 := kC hbx k10_l k10_2
    have k11_3 := kC hbx k10_l k10_3
    have k11_4 := kC hbx k10_l k10_4
    have k11_5 := kC hbx k10_l k10_5
    have k11_6 := kC hbx k10_l k10_6
    have k11_7 := kC hbx k10_l k10_7
    have k11_8 := kC hbx k10_l k10_8
    have k11_9 := kC hbx k10_l k10_9
    have k11_10 := kC hbx k10_l k10_10
    have k11_11 := kC hbx k10_l k10_11
    have k11_l := Nat.lt_of_lt_of_le k10_l hbx.size
    clear k10_0 k10_1 k10_2 k10_3 k10_4 k10_5 k10_6 k10_7 k10_8 k10_9 k10_10 k10_11 k10_l
    have HB78 : Hid (Below x7.heap.size x7 x8) := Lib.hid (hb8.trans (hbx.mono hb8.size))
    have HB8 : Hid (Below x1.heap.size x1 x8) := Lib.hid (HB7.out.trans (HB78.out.mono HB7.out.size))
    rw [hx8]
    clear hx8 hbx hb8
    obtain ⟨l2, hl2⟩ : ∃ l, scrText u2.i = l := ⟨_, rfl⟩
    have HL2 : Hid (l2 = ys) := Lib.hid (by rw [← hl2]; exact HUI.out.2)
    have HIC : Hid (∀ W, Below x7.heap.size x7 W → Calls Try.prog 5 #[.agg #[.int .i64 (u2.w : Int), .int .i64 (u2.h : Int), .int .i64 (u2.x : Int), .int .i64 (u2.y : Int), .int .i64 (u2.look : Int), .int .i64 (u2.top : Int), .int .i64 (u2.bot : Int), .int .i64 (u2.sx : Int), .int .i64 (u2.sy : Int), .string u2.title, .slice b7 u2.cells.length c7, .slice d7 u2.hist.length e7]] W (BytesR l2 W)) := Lib.hid (fun W h => by rw [← hl2]; exact implScreenBytes_c u2 HU2.out b7 c7 d7 e7 W (HGS.out W h) hec2)
    clear hl2
    go_wp2_with fail
    refine (HIC.out _ HB78.out).mono ?_
    rintro e w9 ⟨a9, c9, rfl, hs9, hb9⟩
    have HB9 : Hid (Below x1.heap.size x1 w9) := Lib.hid (HB8.out.trans (hb9.mono HB8.out.size))
    obtain ⟨S2, hS2⟩ : ∃ S, strOf ys = S := ⟨_, rfl⟩
    have hcv1 : (convert 22 9 (.slice a9 l2.length c9)).run Try.prog w9 = .ok (.string S2) w9 := by rw [← hS2, ← HL2.out]; exact convT hs9
    have hcv2 : (convert 22 9 (.slice b ys.length cb)).run Try.prog w9 = .ok (.string S2) w9 := by rw [← hS2]; exact convT (HYS.out _ HB9.out)
    have hse : (S2.toList == S2.toList) = true := by simp
    clear hs9 hb9 hS2
    go_wp2_with fail
    go_ret
    exact ⟨rfl, HB1.out.trans (HB9.out.mono HB1.out.size)⟩
end
end Go.Proofs.Ytjmpgeffkdjpdaa
