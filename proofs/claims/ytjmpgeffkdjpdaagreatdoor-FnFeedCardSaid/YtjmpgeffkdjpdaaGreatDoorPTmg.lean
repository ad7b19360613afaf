/- Contracts of the functions that the claim reaches. No conditions but sizes. -/
import Derived.Test.YtjmpgeffkdjpdaaGreatDoorPTmf
import Derived.Lib.Hide
import Derived.BigQuiet
import Derived.Deep.DeepCutAuto
namespace Go.Proofs.YtjmpgeffkdjpdaaGreatDoor
set_option linter.unusedVariables false
set_option linter.unusedSimpArgs false
set_option maxRecDepth 100000
set_option maxHeartbeats 16000000
open Go.RowKit
section
theorem SA.F {lo b o : Nat} {s : Scr} {g cc : Nat} {ah : Option Addr} {dh : Nat} {w : World} (h : SA lo b o s g cc ah dh w) : sF lo s (some ⟨g, 0, none⟩) cc ah dh w :=
 ⟨h.row, h.win, fun k hk e => by simp only [bO, List.mem_singleton] at e; exact (h.hb k hk).2 e⟩
theorem Zh3 (s : Scr) (ac : Option Addr) (cc : Nat) (ah : Option Addr) (dh : Nat) (w : World) (h : sS s ac ah w) (hc : s.cells.length ≤ 240) (hh : s.hist.length ≤ 6) :
 Calls Tryz.prog 36 #[scrV s ac cc ah dh] w (ScrN s w) := by
 have HR := zz h
 unfold scrV
 clear h
 go_enter Tryz.func36, Tryz.ntmps36
 go_upto_region 1 with fail
 obtain ⟨x0, hx0⟩ : ∃ x, (w.alloc (.cells #[.int .i64 s.w, .int .i64 s.h, .int .i64 s.x, .int .i64 s.y, .int .i64 s.look, .int .i64 s.top, .int .i64 s.bot, .int .i64 s.sx, .int .i64 s.sy, .string s.title, .slice ac s.cells.length cc, .slice ah s.hist.length dh] 26)).alloc (.cells #[.int .i64 0, .int .i64 0, .int .i64 0, .int .i64 0, .int .i64 0, .int .i64 0, .int .i64 0, .int .i64 0, .int .i64 0, .string ⟨#[]⟩, .slice none 0 0, .slice none 0 0] 26) = x := ⟨_, rfl⟩
 have HBX : Hid (Bx x0 w.heap.size [.int .i64 s.w, .int .i64 s.h, .int .i64 s.x, .int .i64 s.y, .int .i64 s.look, .int .i64 s.top, .int .i64 s.bot, .int .i64 s.sx, .int .i64 s.sy, .string s.title, .slice ac s.cells.length cc, .slice ah s.hist.length dh]) := zz (by rw [← hx0]; exact (Bx.new _ _ _).alloc1 _)
 have HBZ : Hid (Bx x0 (w.heap.size + 1) [.int .i64 0, .int .i64 0, .int .i64 0, .int .i64 0, .int .i64 0, .int .i64 0, .int .i64 0, .int .i64 0, .int .i64 0, .string ⟨#[]⟩, .slice none 0 0, .slice none 0 0]) := zz (by
  rw [← hx0]
  have := Bx.new (w.alloc (.cells #[.int .i64 s.w, .int .i64 s.h, .int .i64 s.x, .int .i64 s.y, .int .i64 s.look, .int .i64 s.top, .int .i64 s.bot, .int .i64 s.sx, .int .i64 s.sy, .string s.title, .slice ac s.cells.length cc, .slice ah s.hist.length dh] 26)) [.int .i64 0, .int .i64 0, .int .i64 0, .int .i64 0, .int .i64 0, .int .i64 0, .int .i64 0, .int .i64 0, .int .i64 0, .string ⟨#[]⟩, .slice none 0 0, .slice none 0 0] 26
  simp only [World.size_alloc] at this
  exact this)
 have HB0 : Hid (Below w.heap.size w x0) := zz (by rw [← hx0]; exact (bA).alloc (by simp) _)
 have hz0 : w.heap.size + 1 < x0.heap.size := by rw [← hx0]; simp
 have HZ0 : Hid (x0.heap.size = w.heap.size + 2) := zz (by rw [← hx0]; simp)
 have p_10 := HBX.out.c 10
 have p_11 := HBX.out.c 11
 have p_l := HBX.out.lt
 rw [hx0]
 clear hx0
 refine rB [7,9] [0,1,3,4,2,6,5,7,8,9] ?_
 repeat (first | refine oW (h := ?_) | refine oL (h := ?_))
 refine oO (h := ?_)
 intro K' hK
 go_simp
 refine (Zt2 ac cc s.cells _ ((HR.out.below HB0.out).drew.cs) (by omega)).mono ?_
 rintro e x1 ⟨v1, rfl, hf1, hb⟩
 obtain ⟨a1, c1, rfl, hc1, _⟩ := id hf1
 have hb1 : Below x0.heap.size x0 x1 := ((Below.refl _ _).drew).trans hb
 have HF1 := zz hf1
 have HB1 := zz hb1
 clear hf1 hc1 hb
 refine oN hK (h := ?_)
 clear hK K'
 repeat (first | refine oW (h := ?_) | refine oL (h := ?_))
 refine oO (h := ?_)
 intro K' hK
 go_simp
 refine (Zw0 ah dh s.hist _ (((HR.out.below HB0.out).below HB1.out).hs) (by omega)).mono ?_
 rintro e x2 ⟨v2, rfl, hf2, hb2⟩
 obtain ⟨a2, d2, rfl, hc2, _⟩ := id hf2
 have hb12 : Below x0.heap.size x0 x2 := hb1.trans (hb2.mono hb1.size)
 have HF2 := zz hf2
 have HB2 := zz hb2
 have HB12 := zz hb12
 have HX2 := zz (HBX.out.below hb12)
 have e_10 := HX2.out.c 10
 have e_11 := HX2.out.c 11
 have e_f := HX2.out.fz
 have e_l := HX2.out.lt
 clear hf2 hc2 hb2
 refine oN hK (h := ?_)
 clear hK K'
 refine oO (h := ?_)
 intro K' hK
 go_simp
 refine oN hK (h := ?_)
 clear hK K'
 repeat (first | refine oW (h := ?_) | refine oL (h := ?_))
 refine oO (h := ?_)
 intro K' hK
 go_simp
 refine oN hK (h := ?_)
 clear hK K'
 refine oD ?_
 obtain ⟨x3, hx3⟩ : ∃ x, (x2.setCell ⟨w.heap.size, 10, none⟩ (.slice a1 s.cells.length c1)).setCell ⟨w.heap.size, 11, none⟩ (.slice a2 s.hist.length d2) = x := ⟨_, rfl⟩
 have HX3 : Hid (Bx x3 w.heap.size [.int .i64 s.w, .int .i64 s.h, .int .i64 s.x, .int .i64 s.y, .int .i64 s.look, .int .i64 s.top, .int .i64 s.bot, .int .i64 s.sx, .int .i64 s.sy, .string s.title, .slice a1 s.cells.length c1, .slice a2 s.hist.length d2]) := zz (by rw [← hx3]; exact ((HX2.out.set 10 _).set 11 _).eqv rfl)
 have HZ3 : Hid (Bx x3 (w.heap.size + 1) [.int .i64 0, .int .i64 0, .int .i64 0, .int .i64 0, .int .i64 0, .int .i64 0, .int .i64 0, .int .i64 0, .int .i64 0, .string ⟨#[]⟩, .slice none 0 0, .slice none 0 0]) := zz (by rw [← hx3]; exact (((HBZ.out.below hb12)).other _ _ _ (by omega)).other _ _ _ (by omega))
 have HC3 : Hid (Ch (· = w.heap.size) x2 x3) := zz (by rw [← hx3]; exact (Ch.set1' _ _ 10 _).trans (Ch.set1' _ _ 11 _) (fun _ h => .inl h))
 rw [hx3]
 clear hx3 e_10 e_11 e_f e_l p_10 p_11 p_l hb1 hb12
 have k_0 := HX3.out.c 0
 have k_1 := HX3.out.c 1
 have k_2 := HX3.out.c 2
 have k_3 := HX3.out.c 3
 have k_4 := HX3.out.c 4
 have k_5 := HX3.out.c 5
 have k_6 := HX3.out.c 6
 have k_7 := HX3.out.c 7
 have k_8 := HX3.out.c 8
 have k_9 := HX3.out.c 9
 have k_10 := HX3.out.c 10
 have k_11 := HX3.out.c 11
 have k_l := HX3.out.lt
 have z_0 := HZ3.out.c 0
 have z_1 := HZ3.out.c 1
 have z_2 := HZ3.out.c 2
 have z_3 := HZ3.out.c 3
 have z_4 := HZ3.out.c 4
 have z_5 := HZ3.out.c 5
 have z_6 := HZ3.out.c 6
 have z_7 := HZ3.out.c 7
 have z_8 := HZ3.out.c 8
 have z_9 := HZ3.out.c 9
 have z_10 := HZ3.out.c 10
 have z_11 := HZ3.out.c 11
 have z_f := HZ3.out.fz
 have z_l := HZ3.out.lt
 go_wp2_with fail
 refine bodyPost_ret (v := scrV s a1 c1 a2 d2) (by simp [results, Tryz.results36, go_sem, scrV, z_0, z_1, z_2, z_3, z_4, z_5, z_6, z_7, z_8, z_9, z_10, z_11]) rfl ?_
 have hz := HZ0.out
 have hz1 := HB1.out.size
 have hz2 := HB2.out.size
 have hz3 := HC3.out.size
 have hfin : ∀ wz, Ch (· = w.heap.size + 1) x3 wz → sF w.heap.size s a1 c1 a2 d2 wz ∧ Below w.heap.size w wz := fun wz hcz => by
  have h1 : ∀ k ∈ bO a1, x0.heap.size ≤ k ∧ k < x1.heap.size := fun k hk => Fr.blks HF1.out.here k hk
  have h2 : ∀ k ∈ bO a2, x1.heap.size ≤ k ∧ k < x2.heap.size := fun k hk => Fr.blks HF2.out.here k hk
  have hc23 : Ch (fun k => k = w.heap.size ∨ k = w.heap.size + 1) x2 wz := (HC3.out.mono (fun _ h => .inl (.inl h))).trans hcz (fun _ h => .inl (.inr h))
  refine ⟨⟨((HF1.out.here.below HB2.out).mono (lo' := w.heap.size) (show w.heap.size ≤ x0.heap.size by omega) HB2.out.size).ch hc23 (fun k hk e => ?_), (Fr.win (HF2.out.here.mono (lo' := w.heap.size) (show w.heap.size ≤ x1.heap.size by omega) (Nat.le_refl _))).ch hc23 (fun k hk e => ?_), fun k hk hk2 => ?_⟩, (HB0.out.trans (HB12.out.mono HB0.out.size)).trans (hc23.below (by omega) (fun k h => by omega))⟩
  ·have := h1 k hk; omega
  ·have := h2 k hk; omega
  ·have := h1 k hk2; have := h2 k hk; omega
 refine ⟨a1, c1, a2, d2, rfl, (hfin _ ?_).1, (hfin _ ?_).2⟩
 all_goals repeat (first | (with_reducible exact Ch.refl) | (with_reducible refine Ch.setB ?_ _ _))
theorem Zi3 (s : Scr) (HO : sK s) (ac : Option Addr) (cc : Nat) (ah : Option Addr) (dh : Nat) (a : AV) (aa : Option Addr) (ca : Nat) (w : World) (h : sS s ac ah w) (hac : AcOK a) (ha : Sl iE 1 w aa a.args) (hab : ∀ k ∈ bO aa, k < w.heap.size) :
 Calls Tryz.prog 15 #[scrV s ac cc ah dh, .agg #[.int .i64 a.kind, .int .i64 a.n, .bool a.priv, .slice aa a.args.length ca, .string a.text]] w (ScrM (actI s a) w) := by
 have HR := zz h
 have HA := zz ha
 have HAB := zz hab
 have HI : Hid (∀ W, Below w.heap.size w W → Calls Tryz.prog 24 #[.agg #[.int .i64 s.w, .int .i64 s.h, .int .i64 s.x, .int .i64 s.y, .int .i64 s.look, .int .i64 s.top, .int .i64 s.bot, .int .i64 s.sx, .int .i64 s.sy, .string s.title, .slice ac s.cells.length cc, .slice ah s.hist.length dh]] W fun e w' => e = .returned (.bool true) ∧ Below W.heap.size W w') := zz (fun W hW => Yc4 s HO ac cc ah dh W (HR.out.below hW))
 have HIA : Hid (∀ W, Below w.heap.size w W → Calls Tryz.prog 35 #[.agg #[.int .i64 a.kind, .int .i64 a.n, .bool a.priv, .slice aa a.args.length ca, .string a.text]] W fun e w' => e = .returned (.bool true) ∧ Below W.heap.size W w') := zz (fun W hW => Yc0 a aa ca W hac (HA.out.keep hW))
 have HCL : Hid (∀ W, Below w.heap.size w W → Calls Tryz.prog 36 #[.agg #[.int .i64 s.w, .int .i64 s.h, .int .i64 s.x, .int .i64 s.y, .int .i64 s.look, .int .i64 s.top, .int .i64 s.bot, .int .i64 s.sx, .int .i64 s.sy, .string s.title, .slice ac s.cells.length cc, .slice ah s.hist.length dh]] W (ScrN s W)) := zz (fun W hW => Zh3 s ac cc ah dh W (HR.out.below hW) (by rw [HO.cn]; exact Nat.mul_le_mul HO.w2 HO.h2) HO.hn)
 have HAC := zz hac
 have HOK := zz HO
 obtain ⟨ln, hln⟩ := eX (a.args.length)
 have HLN := zz hln
 rw [hln] at HIA ⊢
 have h0 : 0 < s.cells.length := by rw [HO.cn]; exact Nat.mul_pos (by have := HO.w1; omega) (by have := HO.h1; omega)
 unfold scrV
 clear h ha HO hac hln hab
 go_enter Tryz.func15, Tryz.ntmps15
 go_upto_region 1 with fail
 obtain ⟨x0, hx0⟩ : ∃ x, ((w.alloc (.cells #[.int .i64 s.w, .int .i64 s.h, .int .i64 s.x, .int .i64 s.y, .int .i64 s.look, .int .i64 s.top, .int .i64 s.bot, .int .i64 s.sx, .int .i64 s.sy, .string s.title, .slice ac s.cells.length cc, .slice ah s.hist.length dh] 26)).alloc (.cells #[.int .i64 a.kind, .int .i64 a.n, .bool a.priv, .slice aa ln ca, .string a.text] 38)).alloc (.cells #[.int .i64 0, .int .i64 0, .int .i64 0, .int .i64 0, .int .i64 0, .int .i64 0, .int .i64 0, .int .i64 0, .int .i64 0, .string ⟨#[]⟩, .slice none 0 0, .slice none 0 0] 26) = x := ⟨_, rfl⟩
 have HB0 : Hid (Below w.heap.size w x0) := zz (by rw [← hx0]; exact ((bA).alloc (by simp) _).alloc (by simp; omega) _)
 have HX : Hid (Bx x0 w.heap.size [.int .i64 s.w, .int .i64 s.h, .int .i64 s.x, .int .i64 s.y, .int .i64 s.look, .int .i64 s.top, .int .i64 s.bot, .int .i64 s.sx, .int .i64 s.sy, .string s.title, .slice ac s.cells.length cc, .slice ah s.hist.length dh]) := zz (by rw [← hx0]; exact ((Bx.new _ _ _).alloc1 _).alloc1 _)
 have HXA : Hid (Bx x0 (w.heap.size + 1) [.int .i64 a.kind, .int .i64 a.n, .bool a.priv, .slice aa ln ca, .string a.text]) := zz (by
  rw [← hx0]
  have := (Bx.new (w.alloc (.cells #[.int .i64 s.w, .int .i64 s.h, .int .i64 s.x, .int .i64 s.y, .int .i64 s.look, .int .i64 s.top, .int .i64 s.bot, .int .i64 s.sx, .int .i64 s.sy, .string s.title, .slice ac s.cells.length cc, .slice ah s.hist.length dh] 26)) [.int .i64 a.kind, .int .i64 a.n, .bool a.priv, .slice aa ln ca, .string a.text] 38).alloc1 (.cells #[.int .i64 0, .int .i64 0, .int .i64 0, .int .i64 0, .int .i64 0, .int .i64 0, .int .i64 0, .int .i64 0, .int .i64 0, .string ⟨#[]⟩, .slice none 0 0, .slice none 0 0] 26)
  simp only [World.size_alloc] at this
  exact this)
 have HXZ : Hid (Bx x0 (w.heap.size + 2) [.int .i64 0, .int .i64 0, .int .i64 0, .int .i64 0, .int .i64 0, .int .i64 0, .int .i64 0, .int .i64 0, .int .i64 0, .string ⟨#[]⟩, .slice none 0 0, .slice none 0 0]) := zz (by
  rw [← hx0]
  have := Bx.new ((w.alloc (.cells #[.int .i64 s.w, .int .i64 s.h, .int .i64 s.x, .int .i64 s.y, .int .i64 s.look, .int .i64 s.top, .int .i64 s.bot, .int .i64 s.sx, .int .i64 s.sy, .string s.title, .slice ac s.cells.length cc, .slice ah s.hist.length dh] 26)).alloc (.cells #[.int .i64 a.kind, .int .i64 a.n, .bool a.priv, .slice aa ln ca, .string a.text] 38)) [.int .i64 0, .int .i64 0, .int .i64 0, .int .i64 0, .int .i64 0, .int .i64 0, .int .i64 0, .int .i64 0, .int .i64 0, .string ⟨#[]⟩, .slice none 0 0, .slice none 0 0] 26
  simp only [World.size_alloc] at this
  exact this)
 have HZ0 : Hid (x0.heap.size = w.heap.size + 3) := zz (by rw [← hx0]; simp)
 rw [hx0]
 clear hx0
 have k_0 := HX.out.c 0
 have k_1 := HX.out.c 1
 have k_2 := HX.out.c 2
 have k_3 := HX.out.c 3
 have k_4 := HX.out.c 4
 have k_5 := HX.out.c 5
 have k_6 := HX.out.c 6
 have k_7 := HX.out.c 7
 have k_8 := HX.out.c 8
 have k_9 := HX.out.c 9
 have k_10 := HX.out.c 10
 have k_11 := HX.out.c 11
 have k_l := HX.out.lt
 have p_0 := HXA.out.c 0
 have p_1 := HXA.out.c 1
 have p_2 := HXA.out.c 2
 have p_3 := HXA.out.c 3
 have p_4 := HXA.out.c 4
 have p_l := HXA.out.lt
 go_wp2_with fail
 refine (HI.out _ HB0.out).mono ?_
 rintro e x1 ⟨rfl, hb1⟩
 have HB01 : Hid (Below x0.heap.size x0 x1) := zz hb1
 have HB1 : Hid (Below w.heap.size w x1) := zz (HB0.out.trans (hb1.mono HB0.out.size))
 clear hb1 k_0 k_1 k_2 k_3 k_4 k_5 k_6 k_7 k_8 k_9 k_10 k_11 k_l p_0 p_1 p_2 p_3 p_4 p_l
 have HX1 := zz (HX.out.below HB01.out)
 have HXA1 := zz (HXA.out.below HB01.out)
 have p_0 := HXA1.out.c 0
 have p_1 := HXA1.out.c 1
 have p_2 := HXA1.out.c 2
 have p_3 := HXA1.out.c 3
 have p_4 := HXA1.out.c 4
 have p_l := HXA1.out.lt
 go_wp2_with fail
 refine (HIA.out _ HB1.out).mono ?_
 rintro e x2 ⟨rfl, hb2⟩
 have HB02 : Hid (Below x0.heap.size x0 x2) := zz (HB01.out.trans (hb2.mono HB01.out.size))
 have HB2 : Hid (Below w.heap.size w x2) := zz (HB0.out.trans (HB02.out.mono HB0.out.size))
 clear hb2 p_0 p_1 p_2 p_3 p_4 p_l
 have HX2 := zz (HX.out.below HB02.out)
 have k_0 := HX2.out.c 0
 have k_1 := HX2.out.c 1
 have k_2 := HX2.out.c 2
 have k_3 := HX2.out.c 3
 have k_4 := HX2.out.c 4
 have k_5 := HX2.out.c 5
 have k_6 := HX2.out.c 6
 have k_7 := HX2.out.c 7
 have k_8 := HX2.out.c 8
 have k_9 := HX2.out.c 9
 have k_10 := HX2.out.c 10
 have k_11 := HX2.out.c 11
 have k_l := HX2.out.lt
 go_wp2_with fail
 refine (HCL.out _ HB2.out).mono ?_
 rintro e x3 ⟨a3, c3, b3, d3, rfl, hf3, hb3⟩
 have HB03 : Hid (Below x0.heap.size x0 x3) := zz (HB02.out.trans (hb3.mono HB02.out.size))
 obtain ⟨g3, rfl⟩ := hf3.blk h0
 have HF3 := zz hf3
 unfold scrV
 clear k_0 k_1 k_2 k_3 k_4 k_5 k_6 k_7 k_8 k_9 k_10 k_11 k_l
 go_upto_region 4 with fail
 obtain ⟨x4, hx4⟩ := eX (x3.alloc (.cells #[.int .i64 s.w, .int .i64 s.h, .int .i64 s.x, .int .i64 s.y, .int .i64 s.look, .int .i64 s.top, .int .i64 s.bot, .int .i64 s.sx, .int .i64 s.sy, .string s.title, .slice (some ⟨g3, 0, none⟩) s.cells.length c3, .slice b3 s.hist.length d3] 26))
 obtain ⟨B, hB⟩ := eX (x3.heap.size)
 have HS4 : Hid (SA x2.heap.size B 0 s g3 c3 b3 d3 x4) := zz (by rw [← hx4, ← hB]; exact SA.box HF3.out _)
 have HB34 : Hid (Below x3.heap.size x3 x4) := zz (by rw [← hx4]; exact bA)
 have HB04 : Hid (Below x0.heap.size x0 x4) := zz (HB03.out.trans (HB34.out.mono HB03.out.size))
 have HB4 : Hid (Below w.heap.size w x4) := zz (HB0.out.trans (HB04.out.mono HB0.out.size))
 have hb4 : x4.heap.size = B + 1 := by rw [← hx4, ← hB]; simp
 have hz02 := HB02.out.size
 have hz23 : x2.heap.size ≤ B := by rw [← hB]; exact hb3.size
 rw [hx4, hB]
 clear hx4 hB hb3 hf3
 have HXA4 := zz (HXA.out.below HB04.out)
 have HA4 := zz (HA.out.keep HB4.out)
 have hz0 := HZ0.out
 have hna : ∀ k ∈ bO aa, k ≠ B ∧ k ≠ g3 ∧ k ∉ bO b3 := fun k hk => by
  have h1 : k < w.heap.size := HAB.out k hk
  refine ⟨by omega, fun e => ?_, fun e => ?_⟩
  ·have := (Fr.blks HF3.out.row g3 (by simp [bO])).1; omega
  ·have := (HF3.out.win.blk k e).1; omega
 have p_0 := HXA4.out.c 0
 have p_1 := HXA4.out.c 1
 have p_2 := HXA4.out.c 2
 have p_3 := HXA4.out.c 3
 have p_4 := HXA4.out.c 4
 have p_l := HXA4.out.lt
 have HNA := zz hna
 have hloB : x2.heap.size ≤ x4.heap.size := by omega
 have HAP : Hid (Calls Tryz.prog 37 #[.pointer (some ⟨B, 0, none⟩), .agg #[.int .i64 a.kind, .int .i64 a.n, .bool a.priv, .slice aa ln ca, .string a.text]] x4 fun e w' => e = .returned (.tuple #[]) ∧ sR x2.heap.size B 0 (actI s a) g3 b3 x4 w') := zz (by
  rw [← HLN.out]
  exact Zz8 x2.heap.size B 0 s g3 c3 b3 d3 x4 a aa ca HS4.out HOK.out hloB HAC.out HA4.out HNA.out)
 clear hna
 go_wp2_with fail
 refine HAP.out.mono ?_
 rintro e x5 ⟨rfl, hr⟩
 obtain ⟨g5, c5, a5, d5, ha5, hu5, hg5, hh5⟩ := hr
 have HA5 := zz ha5
 have HU5 := zz hu5
 have HG5 : Hid (g5 = g3 ∨ x4.heap.size ≤ g5) := zz hg5
 have HH5 := zz hh5
 have hzb : w.heap.size + 2 < x0.heap.size := by omega
 have hch : Ch (fun k => B = k ∨ k = g3 ∨ k ∈ bO b3) x4 x5 := hu5.ch.mono (fun k h => .inl (h.imp Eq.symm id))
 have hg3 : x2.heap.size ≤ g3 := (Fr.blks HF3.out.row g3 (by simp [bO])).1
 have hnb : ∀ k, k < x2.heap.size → ¬ (B = k ∨ k = g3 ∨ k ∈ bO b3) := fun k hk e => by
  rcases e with e | e | e
  ·omega
  ·omega
  ·have := (HF3.out.win.blk k e).1; omega
 have HZ5 := zz ((HXZ.out.below HB04.out).ch hch (hnb _ (by omega)))
 have HBW5 : Hid (Below w.heap.size w x5) := zz (HB4.out.trans (hch.below (by have := HB4.out.size; omega) (fun k h => by
  rcases Nat.lt_or_ge k x2.heap.size with h1 | h1
  ·exact absurd h (hnb k h1)
  ·omega)))
 clear ha5 hu5 hg5 hh5 hch hnb p_0 p_1 p_2 p_3 p_4 p_l
 obtain ⟨t, ht⟩ := eX (actI s a)
 have HT : Hid (sK t) := zz (by rw [← ht]; exact HOK.out.actI HAC.out)
 have HTE := zz ht
 rw [ht] at HA5
 clear ht
 have s_0 := HA5.out.e0
 have s_1 := HA5.out.e1
 have s_2 := HA5.out.e2
 have s_3 := HA5.out.e3
 have s_4 := HA5.out.e4
 have s_5 := HA5.out.e5
 have s_6 := HA5.out.e6
 have s_7 := HA5.out.e7
 have s_8 := HA5.out.e8
 have s_9 := HA5.out.e9
 have s_10 := HA5.out.e10
 have s_11 := HA5.out.e11
 have s_l := HA5.out.lt
 have z_0 := HZ5.out.c 0
 have z_1 := HZ5.out.c 1
 have z_2 := HZ5.out.c 2
 have z_3 := HZ5.out.c 3
 have z_4 := HZ5.out.c 4
 have z_5 := HZ5.out.c 5
 have z_6 := HZ5.out.c 6
 have z_7 := HZ5.out.c 7
 have z_8 := HZ5.out.c 8
 have z_9 := HZ5.out.c 9
 have z_10 := HZ5.out.c 10
 have z_11 := HZ5.out.c 11
 have z_f := HZ5.out.fz
 have z_l := HZ5.out.lt
 go_wp2_with fail
 refine bodyPost_ret (v := .tuple #[.agg #[.int .i64 t.w, .int .i64 t.h, .int .i64 t.x, .int .i64 t.y, .int .i64 t.look, .int .i64 t.top, .int .i64 t.bot, .int .i64 t.sx, .int .i64 t.sy, .string t.title, .slice (some ⟨g5, 0, none⟩) t.cells.length c5, .slice a5 t.hist.length d5], .int .i64 0]) (by simp [results, Tryz.results15, go_sem, z_0, z_1, z_2, z_3, z_4, z_5, z_6, z_7, z_8, z_9, z_10, z_11]) rfl ?_
 have hfin : ∀ wz, Ch (· = w.heap.size + 2) x5 wz → sF w.heap.size t (some ⟨g5, 0, none⟩) c5 a5 d5 wz ∧ Below w.heap.size w wz := fun wz hcz => by
  have h1 : sF x2.heap.size t (some ⟨g5, 0, none⟩) c5 a5 d5 x5 := HA5.out.F
  refine ⟨(h1.ch hcz (fun k hk e => ?_) (fun k hk e => ?_)).low ?_, (HBW5.out.trans (hcz.below HBW5.out.size (fun k h => by omega)))⟩
  ·have := (Fr.blks h1.row k hk).1; omega
  ·have := (h1.win.blk k hk).1; omega
  ·omega
 rw [HTE.out]
 refine ⟨some ⟨g5, 0, none⟩, c5, a5, d5, rfl, (hfin _ ?_).1, (hfin _ ?_).2⟩
 all_goals repeat (first | (with_reducible exact Ch.refl) | (with_reducible refine Ch.drew ?_) | (with_reducible refine Ch.setB ?_ _ _))
end
section
theorem Bx.all5 {w : World} {b : Nat} {v0 v1 v2 v3 v4 : Value} (h : Bx w b [v0, v1, v2, v3, v4]) : w.cell? ⟨b, 0, none⟩ = some v0 ∧ w.cell? ⟨b, 1, none⟩ = some v1 ∧ w.cell? ⟨b, 2, none⟩ = some v2 ∧ w.cell? ⟨b, 3, none⟩ = some v3 ∧ w.cell? ⟨b, 4, none⟩ = some v4 :=
 ⟨h.c 0, h.c 1, h.c 2, h.c 3, h.c 4⟩
theorem Bx.all12 {w : World} {b : Nat} {v0 v1 v2 v3 v4 v5 v6 v7 v8 v9 v10 v11 : Value} (h : Bx w b [v0, v1, v2, v3, v4, v5, v6, v7, v8, v9, v10, v11]) : w.cell? ⟨b, 0, none⟩ = some v0 ∧ w.cell? ⟨b, 1, none⟩ = some v1 ∧ w.cell? ⟨b, 2, none⟩ = some v2 ∧ w.cell? ⟨b, 3, none⟩ = some v3 ∧ w.cell? ⟨b, 4, none⟩ = some v4 ∧ w.cell? ⟨b, 5, none⟩ = some v5 ∧ w.cell? ⟨b, 6, none⟩ = some v6 ∧ w.cell? ⟨b, 7, none⟩ = some v7 ∧ w.cell? ⟨b, 8, none⟩ = some v8 ∧ w.cell? ⟨b, 9, none⟩ = some v9 ∧ w.cell? ⟨b, 10, none⟩ = some v10 ∧ w.cell? ⟨b, 11, none⟩ = some v11 :=
 ⟨h.c 0, h.c 1, h.c 2, h.c 3, h.c 4, h.c 5, h.c 6, h.c 7, h.c 8, h.c 9, h.c 10, h.c 11⟩
theorem Bx.sets5 {w : World} {b : Nat} {u0 u1 u2 u3 u4 : Value} (h : Bx w b [u0, u1, u2, u3, u4]) (v0 v1 v2 v3 v4 : Value) : Bx (((((w.setCell ⟨b, 0, none⟩ v0).setCell ⟨b, 1, none⟩ v1).setCell ⟨b, 2, none⟩ v2).setCell ⟨b, 3, none⟩ v3).setCell ⟨b, 4, none⟩ v4) b [v0, v1, v2, v3, v4] ∧ Ch (fun k => k = b) w (((((w.setCell ⟨b, 0, none⟩ v0).setCell ⟨b, 1, none⟩ v1).setCell ⟨b, 2, none⟩ v2).setCell ⟨b, 3, none⟩ v3).setCell ⟨b, 4, none⟩ v4) :=
 ⟨(((((h.set 0 _).set 1 _).set 2 _).set 3 _).set 4 _).eqv rfl, (Ch.setB (Ch.setB (Ch.setB (Ch.setB (Ch.setB Ch.refl 0 _) 1 _) 2 _) 3 _) 4 _)⟩
theorem Bx.sets12 {w : World} {b : Nat} {u0 u1 u2 u3 u4 u5 u6 u7 u8 u9 u10 u11 : Value} (h : Bx w b [u0, u1, u2, u3, u4, u5, u6, u7, u8, u9, u10, u11]) (v0 v1 v2 v3 v4 v5 v6 v7 v8 v9 v10 v11 : Value) : Bx ((((((((((((w.setCell ⟨b, 0, none⟩ v0).setCell ⟨b, 1, none⟩ v1).setCell ⟨b, 2, none⟩ v2).setCell ⟨b, 3, none⟩ v3).setCell ⟨b, 4, none⟩ v4).setCell ⟨b, 5, none⟩ v5).setCell ⟨b, 6, none⟩ v6).setCell ⟨b, 7, none⟩ v7).setCell ⟨b, 8, none⟩ v8).setCell ⟨b, 9, none⟩ v9).setCell ⟨b, 10, none⟩ v10).setCell ⟨b, 11, none⟩ v11) b [v0, v1, v2, v3, v4, v5, v6, v7, v8, v9, v10, v11] ∧ Ch (fun k => k = b) w ((((((((((((w.setCell ⟨b, 0, none⟩ v0).setCell ⟨b, 1, none⟩ v1).setCell ⟨b, 2, none⟩ v2).setCell ⟨b, 3, none⟩ v3).setCell ⟨b, 4, none⟩ v4).setCell ⟨b, 5, none⟩ v5).setCell ⟨b, 6, none⟩ v6).setCell ⟨b, 7, none⟩ v7).setCell ⟨b, 8, none⟩ v8).setCell ⟨b, 9, none⟩ v9).setCell ⟨b, 10, none⟩ v10).setCell ⟨b, 11, none⟩ v11) :=
 ⟨((((((((((((h.set 0 _).set 1 _).set 2 _).set 3 _).set 4 _).set 5 _).set 6 _).set 7 _).set 8 _).set 9 _).set 10 _).set 11 _).eqv rfl, (Ch.setB (Ch.setB (Ch.setB (Ch.setB (Ch.setB (Ch.setB (Ch.setB (Ch.setB (Ch.setB (Ch.setB (Ch.setB (Ch.setB Ch.refl 0 _) 1 _) 2 _) 3 _) 4 _) 5 _) 6 _) 7 _) 8 _) 9 _) 10 _) 11 _)⟩
theorem Bx.st5 {w : World} {b : Nat} {u0 u1 u2 u3 u4 : Value} (h : Bx w b [u0, u1, u2, u3, u4]) (v0 v1 v2 v3 v4 : Value) : ∃ x, (((((w.setCell ⟨b, 0, none⟩ v0).setCell ⟨b, 1, none⟩ v1).setCell ⟨b, 2, none⟩ v2).setCell ⟨b, 3, none⟩ v3).setCell ⟨b, 4, none⟩ v4) = x ∧ Bx x b [v0, v1, v2, v3, v4] ∧ Ch (fun k => k = b) w x :=
 ⟨_, rfl, h.sets5 v0 v1 v2 v3 v4⟩
theorem Bx.st12 {w : World} {b : Nat} {u0 u1 u2 u3 u4 u5 u6 u7 u8 u9 u10 u11 : Value} (h : Bx w b [u0, u1, u2, u3, u4, u5, u6, u7, u8, u9, u10, u11]) (v0 v1 v2 v3 v4 v5 v6 v7 v8 v9 v10 v11 : Value) : ∃ x, ((((((((((((w.setCell ⟨b, 0, none⟩ v0).setCell ⟨b, 1, none⟩ v1).setCell ⟨b, 2, none⟩ v2).setCell ⟨b, 3, none⟩ v3).setCell ⟨b, 4, none⟩ v4).setCell ⟨b, 5, none⟩ v5).setCell ⟨b, 6, none⟩ v6).setCell ⟨b, 7, none⟩ v7).setCell ⟨b, 8, none⟩ v8).setCell ⟨b, 9, none⟩ v9).setCell ⟨b, 10, none⟩ v10).setCell ⟨b, 11, none⟩ v11) = x ∧ Bx x b [v0, v1, v2, v3, v4, v5, v6, v7, v8, v9, v10, v11] ∧ Ch (fun k => k = b) w x :=
 ⟨_, rfl, h.sets12 v0 v1 v2 v3 v4 v5 v6 v7 v8 v9 v10 v11⟩
theorem sF.bd {lo : Nat} {s : Scr} {a1 : Option Addr} {c1 : Nat} {a2 : Option Addr} {d2 : Nat} {w : World} (h : sF lo s a1 c1 a2 d2 w) {k : Nat} (hk : k ∈ bO a1 ∨ k ∈ bO a2) : lo ≤ k ∧ k < w.heap.size := by
 rcases hk with hk | hk
 ·exact Fr.blks h.row k hk
 ·exact h.win.blk k hk
theorem aB (w : World) (vs : List Value) (T : TypeId) : ∃ b x, w.heap.size = b ∧ w.alloc (.cells vs.toArray T) = x ∧ Hid (Bx x b vs) ∧ Hid (w.heap.size = b ∧ x.heap.size = b + 1) ∧ Below w.heap.size w x :=
 ⟨_, _, rfl, rfl, zz (Bx.new _ _ _), zz ⟨rfl, by simp⟩, bA⟩
structure Cl5 (y : World) (s : Scr) (p : PV) (b9 b10 : Nat) (a1 : Option Addr) (c1 : Nat) (a2 : Option Addr) (d2 : Nat) (a3 : Option Addr) (c3 : Nat) (x : World) : Prop where
 x9 : Bx x b9 [.int .i64 0, .int .i64 0, .int .i64 0, .int .i64 0, .int .i64 0, .int .i64 0, .int .i64 0, .int .i64 0, .int .i64 0, .string ⟨#[]⟩, .slice none 0 0, .slice none 0 0]
 x10 : Bx x b10 [.int .i64 0, .slice none 0 0, .bool false, .string ⟨#[]⟩, .string ⟨#[]⟩]
 f1 : sF y.heap.size s a1 c1 a2 d2 x
 f3 : Fr iE 3 1 y.heap.size x.heap.size (.slice a3 p.args.length c3) p.args x
 ne : b9 ≠ b10
 d1 : ∀ k, k ∈ bO a1 ∨ k ∈ bO a2 → k ≠ b9 ∧ k ≠ b10 ∧ k ∉ bO a3
 d3 : ∀ k ∈ bO a3, k ≠ b9 ∧ k ≠ b10
 lo : y.heap.size ≤ b9 ∧ y.heap.size ≤ b10
 bw : Below y.heap.size y x
theorem SP.off {ls bs o bp lp : Nat} {s : Scr} {g cc : Nat} {ah : Option Addr} {dh : Nat} {p : PV} {ap : Option Addr} {cp : Nat} {L : List aA} {al : Option Addr} {cl : Nat} {w w' : World} {B : Nat} (h : SP ls bs o bp lp s g cc ah dh p ap cp L al cl w) (hc : Ch (fun k => k = B) w w') (hB : B < ls ∧ B < lp ∧ B ≠ bs ∧ B ≠ bp) : SP ls bs o bp lp s g cc ah dh p ap cp L al cl w' := by
 have hl := h.lts
 exact ⟨h.sc.ch hc (fun e => hB.2.2.1 e.symm) (fun e => by have := hl.2.1.1; omega) (fun k hk e => by have := (hl.2.2.1 k hk).1; omega), h.ps.ch hc (fun e => hB.2.2.2 e.symm) (fun k hk e => by have := (hl.2.2.2.2 k hk).1; omega), h.d1, h.d2⟩
def FSR (t : Scr) (q : PV) (w : World) (e : Ending) (w' : World) : Prop :=
 ∃ a1 c1 a2 d2 aq cq, e = .returned (.tuple #[scrV t a1 c1 a2 d2, .agg #[.int .i64 q.state, .slice aq q.args.length cq, .bool q.priv, .string q.text, .string q.utf], .int .i64 0]) ∧ sF w.heap.size t a1 c1 a2 d2 w' ∧ Fr iE 3 1 w.heap.size w'.heap.size (.slice aq q.args.length cq) q.args w' ∧ Below w.heap.size w w'
theorem SA.ofBx {lo b g cc : Nat} {s : Scr} {ah : Option Addr} {dh : Nat} {w : World} (h : Bx w b [.int .i64 s.w, .int .i64 s.h, .int .i64 s.x, .int .i64 s.y, .int .i64 s.look, .int .i64 s.top, .int .i64 s.bot, .int .i64 s.sx, .int .i64 s.sy, .string s.title, .slice (some ⟨g, 0, none⟩) s.cells.length cc, .slice ah s.hist.length dh]) (hf : sF lo s (some ⟨g, 0, none⟩) cc ah dh w) (hg : g ≠ b) (hb : ∀ k ∈ bO ah, k ≠ b) : SA lo b 0 s g cc ah dh w :=
 ⟨h.c 0, h.c 1, h.c 2, h.c 3, h.c 4, h.c 5, h.c 6, h.c 7, h.c 8, h.c 9, h.c 10, h.c 11, h.fz, h.lt, hf.row, hf.win, hg, fun k hk => ⟨hb k hk, fun e => hf.ap k hk (by simp [bO, e])⟩⟩
theorem Cl5.sp {y : World} {s : Scr} {p : PV} {b9 b10 : Nat} {a1 : Option Addr} {c1 : Nat} {a2 : Option Addr} {d2 : Nat} {a3 : Option Addr} {c3 : Nat} {x x' : World} (h : Cl5 y s p b9 b10 a1 c1 a2 d2 a3 c3 x) (h0 : 0 < s.cells.length) (hc : Ch (fun k => k = b9 ∨ k = b10) x x')
 (h9 : Bx x' b9 [.int .i64 s.w, .int .i64 s.h, .int .i64 s.x, .int .i64 s.y, .int .i64 s.look, .int .i64 s.top, .int .i64 s.bot, .int .i64 s.sx, .int .i64 s.sy, .string s.title, .slice a1 s.cells.length c1, .slice a2 s.hist.length d2]) (h10 : Bx x' b10 [.int .i64 p.state, .slice a3 p.args.length c3, .bool p.priv, .string p.text, .string p.utf]) : ∃ g, a1 = some ⟨g, 0, none⟩ ∧ SP y.heap.size b9 0 b10 y.heap.size s g c1 a2 d2 p a3 c3 [] none 0 x' := by
 obtain ⟨g, rfl⟩ := h.f1.blk h0
 have hn : ∀ k, k ≠ b9 ∧ k ≠ b10 → ¬ (k = b9 ∨ k = b10) := fun k hk e => by rcases e with e | e; exact hk.1 e; exact hk.2 e
 have hg := h.d1 g (.inl (by simp [bO]))
 have hf : sF y.heap.size s (some ⟨g, 0, none⟩) c1 a2 d2 x' := h.f1.ch hc (fun k hk => hn k (by have := h.d1 k (.inl hk); exact ⟨this.1, this.2.1⟩)) (fun k hk => hn k (by have := h.d1 k (.inr hk); exact ⟨this.1, this.2.1⟩))
 have hq : ∀ k, k ∈ bO a3 ++ acB none [] → k ∈ bO a3 := fun k hk => by simpa [acB, roB, bO] using hk
 refine ⟨g, rfl, ⟨SA.ofBx h9 hf hg.1 (fun k hk => (h.d1 k (.inr hk)).1), ⟨h10.c 0, h10.c 1, h10.c 2, h10.c 3, h10.c 4, h10.fz, h10.lt, h.f3.ch hc (fun k hk => hn k (h.d3 k hk)), RO.nil, fun hk => (h.d3 b10 (hq _ hk)).2 rfl, fun k hk hk2 => by simp [acB, roB, bO] at hk2⟩, ⟨fun e => h.ne e.symm, fun e => hg.2.1 e.symm, fun e => (h.d1 b10 (.inr e)).2.1 rfl⟩, fun k hk => ?_⟩⟩
 have hk' := hq k hk
 exact ⟨(h.d3 k hk').1, fun e => hg.2.2 (e ▸ hk'), fun e => (h.d1 k (.inr e)).2.2 hk'⟩
theorem Zf2 (s : Scr) (HO : sK s) (ac : Option Addr) (cc : Nat) (ah : Option Addr) (dh : Nat) (p : PV) (hp : PvOK p) (ap : Option Addr) (cp : Nat) (a : Option Addr) (ca : Nat) (l : List UInt8) (w : World) (h : sS s ac ah w) (hA : Sl iE 1 w ap p.args) (hL : Sl yE 1 w a l) (hl : l.length ≤ 65536) (hZ : PvSz p 1048576) (hUT : UT w) :
 Calls Tryz.prog 19 #[scrV s ac cc ah dh, .agg #[.int .i64 p.state, .slice ap p.args.length cp, .bool p.priv, .string p.text, .string p.utf], .slice a l.length ca] w (FSR (actsI s (prun p l).2) (prun p l).1 w) := by
 have HR := zz h
 have HA := zz hA
 have HLS := zz hL
 have HUT := zz hUT
 have HOK := zz HO
 have HPK := zz hp
 have HLL := zz hl
 have HI : Hid (∀ W, Below w.heap.size w W → Calls Tryz.prog 24 #[.agg #[.int .i64 s.w, .int .i64 s.h, .int .i64 s.x, .int .i64 s.y, .int .i64 s.look, .int .i64 s.top, .int .i64 s.bot, .int .i64 s.sx, .int .i64 s.sy, .string s.title, .slice ac s.cells.length cc, .slice ah s.hist.length dh]] W fun e w' => e = .returned (.bool true) ∧ Below W.heap.size W w') := zz (fun W hW => Yc4 s HO ac cc ah dh W (HR.out.below hW))
 have HIP : Hid (∀ W, Below w.heap.size w W → Calls Tryz.prog 44 #[.agg #[.int .i64 p.state, .slice ap p.args.length cp, .bool p.priv, .string p.text, .string p.utf]] W fun e w' => e = .returned (.bool true) ∧ Below W.heap.size W w') := zz (fun W hW => by have := Zn5 ap cp p W (HA.out.keep hW) hZ; rw [Zx3.2 hp] at this; exact this)
 have HCL : Hid (∀ W, Below w.heap.size w W → Calls Tryz.prog 36 #[.agg #[.int .i64 s.w, .int .i64 s.h, .int .i64 s.x, .int .i64 s.y, .int .i64 s.look, .int .i64 s.top, .int .i64 s.bot, .int .i64 s.sx, .int .i64 s.sy, .string s.title, .slice ac s.cells.length cc, .slice ah s.hist.length dh]] W (ScrN s W)) := zz (fun W hW => Zh3 s ac cc ah dh W (HR.out.below hW) (by rw [HO.cn]; exact Nat.mul_le_mul HO.w2 HO.h2) HO.hn)
 have HCP : Hid (∀ W, Below w.heap.size w W → Calls Tryz.prog 45 #[.agg #[.int .i64 p.state, .slice ap p.args.length cp, .bool p.priv, .string p.text, .string p.utf]] W (ParR p W)) := zz (fun W hW => Zh6 ap cp p W (HA.out.keep hW) hZ.args)
 have HL : Hid (longP (l.length : Int) = false) := zz (by simp [longP]; omega)
 have HZA := zz hZ.args
 have H0 : Hid (0 < s.cells.length) := zz (by rw [HO.cn]; exact Nat.mul_pos (by have := HO.w1; omega) (by have := HO.h1; omega))
 obtain ⟨T, hT⟩ := eX (actsI s (prun p l).2)
 obtain ⟨Q, hQ⟩ : ∃ t, (prun p l).1 = t := ⟨_, rfl⟩
 have HT := zz hT
 have HQ := zz hQ
 rw [hT, hQ]
 unfold scrV
 clear h hA hL hUT HO hp hl hT hQ hZ
 go_enter Tryz.func19, Tryz.ntmps19
 go_upto_region 1 with fail
 obtain ⟨x0, hx0⟩ : ∃ x, (((w.alloc (.cells #[.int .i64 s.w, .int .i64 s.h, .int .i64 s.x, .int .i64 s.y, .int .i64 s.look, .int .i64 s.top, .int .i64 s.bot, .int .i64 s.sx, .int .i64 s.sy, .string s.title, .slice ac s.cells.length cc, .slice ah s.hist.length dh] 26)).alloc (.cells #[.int .i64 p.state, .slice ap p.args.length cp, .bool p.priv, .string p.text, .string p.utf] 42)).alloc (.cells #[.int .i64 0, .int .i64 0, .int .i64 0, .int .i64 0, .int .i64 0, .int .i64 0, .int .i64 0, .int .i64 0, .int .i64 0, .string ⟨#[]⟩, .slice none 0 0, .slice none 0 0] 26)).alloc (.cells #[.int .i64 0, .slice none 0 0, .bool false, .string ⟨#[]⟩, .string ⟨#[]⟩] 42) = x := ⟨_, rfl⟩
 have HB0 : Hid (Below w.heap.size w x0) := zz (by rw [← hx0]; exact (((bA).alloc (by simp) _).alloc (by simp; omega) _).alloc (by simp; omega) _)
 have HX0 : Hid (Bx x0 w.heap.size [.int .i64 s.w, .int .i64 s.h, .int .i64 s.x, .int .i64 s.y, .int .i64 s.look, .int .i64 s.top, .int .i64 s.bot, .int .i64 s.sx, .int .i64 s.sy, .string s.title, .slice ac s.cells.length cc, .slice ah s.hist.length dh]) := zz (by rw [← hx0]; exact (((Bx.new _ _ _).alloc1 _).alloc1 _).alloc1 _)
 have HX1 : Hid (Bx x0 (w.heap.size + 1) [.int .i64 p.state, .slice ap p.args.length cp, .bool p.priv, .string p.text, .string p.utf]) := zz (by
  rw [← hx0]
  have := ((Bx.new (w.alloc (.cells #[.int .i64 s.w, .int .i64 s.h, .int .i64 s.x, .int .i64 s.y, .int .i64 s.look, .int .i64 s.top, .int .i64 s.bot, .int .i64 s.sx, .int .i64 s.sy, .string s.title, .slice ac s.cells.length cc, .slice ah s.hist.length dh] 26)) [.int .i64 p.state, .slice ap p.args.length cp, .bool p.priv, .string p.text, .string p.utf] 42).alloc1 (.cells #[.int .i64 0, .int .i64 0, .int .i64 0, .int .i64 0, .int .i64 0, .int .i64 0, .int .i64 0, .int .i64 0, .int .i64 0, .string ⟨#[]⟩, .slice none 0 0, .slice none 0 0] 26)).alloc1 (.cells #[.int .i64 0, .slice none 0 0, .bool false, .string ⟨#[]⟩, .string ⟨#[]⟩] 42)
  simp only [World.size_alloc] at this
  exact this)
 have HX2 : Hid (Bx x0 (w.heap.size + 2) [.int .i64 0, .int .i64 0, .int .i64 0, .int .i64 0, .int .i64 0, .int .i64 0, .int .i64 0, .int .i64 0, .int .i64 0, .string ⟨#[]⟩, .slice none 0 0, .slice none 0 0]) := zz (by
  rw [← hx0]
  have := (Bx.new ((w.alloc (.cells #[.int .i64 s.w, .int .i64 s.h, .int .i64 s.x, .int .i64 s.y, .int .i64 s.look, .int .i64 s.top, .int .i64 s.bot, .int .i64 s.sx, .int .i64 s.sy, .string s.title, .slice ac s.cells.length cc, .slice ah s.hist.length dh] 26)).alloc (.cells #[.int .i64 p.state, .slice ap p.args.length cp, .bool p.priv, .string p.text, .string p.utf] 42)) [.int .i64 0, .int .i64 0, .int .i64 0, .int .i64 0, .int .i64 0, .int .i64 0, .int .i64 0, .int .i64 0, .int .i64 0, .string ⟨#[]⟩, .slice none 0 0, .slice none 0 0] 26).alloc1 (.cells #[.int .i64 0, .slice none 0 0, .bool false, .string ⟨#[]⟩, .string ⟨#[]⟩] 42)
  simp only [World.size_alloc] at this
  exact this)
 have HX3 : Hid (Bx x0 (w.heap.size + 3) [.int .i64 0, .slice none 0 0, .bool false, .string ⟨#[]⟩, .string ⟨#[]⟩]) := zz (by
  rw [← hx0]
  have := Bx.new (((w.alloc (.cells #[.int .i64 s.w, .int .i64 s.h, .int .i64 s.x, .int .i64 s.y, .int .i64 s.look, .int .i64 s.top, .int .i64 s.bot, .int .i64 s.sx, .int .i64 s.sy, .string s.title, .slice ac s.cells.length cc, .slice ah s.hist.length dh] 26)).alloc (.cells #[.int .i64 p.state, .slice ap p.args.length cp, .bool p.priv, .string p.text, .string p.utf] 42)).alloc (.cells #[.int .i64 0, .int .i64 0, .int .i64 0, .int .i64 0, .int .i64 0, .int .i64 0, .int .i64 0, .int .i64 0, .int .i64 0, .string ⟨#[]⟩, .slice none 0 0, .slice none 0 0] 26)) [.int .i64 0, .slice none 0 0, .bool false, .string ⟨#[]⟩, .string ⟨#[]⟩] 42
  simp only [World.size_alloc] at this
  exact this)
 have HZ0 : Hid (x0.heap.size = w.heap.size + 4) := zz (by rw [← hx0]; simp)
 rw [hx0]
 clear hx0
 go_wp2_with fail
 refine Calls.mono (Zl8 _ (l.length) _ _ ?_ ?_) ?_
 ·simp
 ·simp [go_sem]
 rw [HL.out]
 rintro e w1 ⟨rfl, rfl⟩
 go_upto_region 3 with fail
 obtain ⟨y, hy⟩ := eX (x0.alloc (.cells #[.int .i64 l.length] 3))
 have hby : Below x0.heap.size x0 y := by rw [← hy]; exact bA
 rw [hy]
 clear hy
 have HBY : Hid (Below w.heap.size w y) := zz (HB0.out.trans (hby.mono HB0.out.size))
 have HX0 := zz (HX0.out.below hby)
 have HX1 := zz (HX1.out.below hby)
 have HX2 := zz (HX2.out.below hby)
 have HX3 := zz (HX3.out.below hby)
 have HNY0 : Hid (w.heap.size + 2 < y.heap.size ∧ w.heap.size + 3 < y.heap.size) := zz (by have := HZ0.out; have := hby.size; omega)
 clear hby
 obtain ⟨k_0, k_1, k_2, k_3, k_4, k_5, k_6, k_7, k_8, k_9, k_10, k_11⟩ := HX0.out.all12
 have k_l := HX0.out.lt
 go_wp2_with fail
 refine (HI.out _ HBY.out).mono ?_
 rintro e y1 ⟨rfl, hb1⟩
 have HX1 := zz (HX1.out.below hb1)
 clear k_0 k_1 k_2 k_3 k_4 k_5 k_6 k_7 k_8 k_9 k_10 k_11 k_l
 obtain ⟨p_0, p_1, p_2, p_3, p_4⟩ := HX1.out.all5
 have p_l := HX1.out.lt
 have HNYS : Hid (y.heap.size ≤ y1.heap.size) := zz hb1.size
 have HBY1 : Hid (Below w.heap.size w y1) := zz (HBY.out.trans (hb1.mono HBY.out.size))
 have HX0 := zz (HX0.out.below hb1)
 have HX2 := zz (HX2.out.below hb1)
 have HX3 := zz (HX3.out.below hb1)
 clear hb1
 go_wp2_with fail
 refine (HIP.out _ HBY1.out).mono ?_
 rintro e y2 ⟨rfl, hb1⟩
 have HBY2 : Hid (Below w.heap.size w y2) := zz (HBY1.out.trans (hb1.mono HBY1.out.size))
 have HX0 := zz (HX0.out.below hb1)
 have HX1 := zz (HX1.out.below hb1)
 have HX2 := zz (HX2.out.below hb1)
 have HX3 := zz (HX3.out.below hb1)
 have HNY : Hid (w.heap.size + 2 < y2.heap.size ∧ w.heap.size + 3 < y2.heap.size) := zz (by have := HNY0.out; have h1 := hb1.size; have h2 := HNYS.out; omega)
 clear p_0 p_1 p_2 p_3 p_4 p_l hb1
 go_upto_region 5 with fail
 go_cut [9, 10] (fun v9 v10 wx => ∃ b9 b10 g c1 a2 d2 a3 c3, v9 = .pointer (some ⟨b9, 0, none⟩) ∧ v10 = .pointer (some ⟨b10, 0, none⟩) ∧ Hid (SP y2.heap.size b9 0 b10 y2.heap.size s g c1 a2 d2 p a3 c3 [] none 0 wx ∧ Below y2.heap.size y2 wx ∧ y2.heap.size ≤ b9 ∧ y2.heap.size ≤ b10))
 case first =>
  obtain ⟨k_0, k_1, k_2, k_3, k_4, k_5, k_6, k_7, k_8, k_9, k_10, k_11⟩ := HX0.out.all12
  have k_l := HX0.out.lt
  obtain ⟨p_0, p_1, p_2, p_3, p_4⟩ := HX1.out.all5
  have p_l := HX1.out.lt
  refine (?step : (∀ (b9 b10 : Nat) (a1 : Option Addr) (c1 : Nat) (a2 : Option Addr) (d2 : Nat) (a3 : Option Addr) (c3 : Nat) (x : World), Below y2.heap.size y2 x → Cl5 y2 s p b9 b10 a1 c1 a2 d2 a3 c3 x → wpO _ _ _ (Below y2.heap.size y2) [] [6,7] ((?A : Nat → Nat → Option Addr → Nat → Option Addr → Nat → Option Addr → Nat → Act) b9 b10 a1 c1 a2 d2 a3 c3) x) → _) ?key
  case step =>
   intro key
   refine rB [] [0,2,1,3,4,5,6,7] ?_
   obtain ⟨x, hx0⟩ := eX (y2.drew)
   have hB : Below y2.heap.size y2 x := by rw [← hx0]; exact (Below.refl _ _).drew
   rw [hx0]
   clear hx0
   have hz := hB.size
   repeat (first | refine oW (h := ?_) | refine oL (h := ?_))
   all_goals first
    | refine oE [1,4,5] (aC ⟨_, rfl, fun K' hK => ?_⟩ (aC ⟨_, rfl, fun K' hK => ?_⟩ (aC ⟨_, rfl, fun K' hK => ?_⟩ aN)))
   all_goals (go_simp; first
    | (obtain ⟨b9, x, hb, hx, HN9, HZ9, hbn⟩ := aB x [.int .i64 0, .int .i64 0, .int .i64 0, .int .i64 0, .int .i64 0, .int .i64 0, .int .i64 0, .int .i64 0, .int .i64 0, .string ⟨#[]⟩, .slice none 0 0, .slice none 0 0] 26; rw [hx, hb]; clear hx hb; have hz := hbn.size; have hB : Below y2.heap.size y2 x := hB.trans (hbn.mono hB.size); (try have HF1 := zz (HF1.out.below hbn)); (try have HF3 := zz (HF3.out.below hbn)); (try have HX9 := zz (HX9.out.below hbn)); (try have HX10 := zz (HX10.out.below hbn)); have HX9 := HN9; refine oN hK (hS := .inr hB) (h := ?_); clear hK K' hbn)
    | (obtain ⟨b10, x, hb, hx, HN10, HZ10, hbn⟩ := aB x [.int .i64 0, .slice none 0 0, .bool false, .string ⟨#[]⟩, .string ⟨#[]⟩] 42; rw [hx, hb]; clear hx hb; have hz := hbn.size; have hB : Below y2.heap.size y2 x := hB.trans (hbn.mono hB.size); (try have HF1 := zz (HF1.out.below hbn)); (try have HF3 := zz (HF3.out.below hbn)); (try have HX9 := zz (HX9.out.below hbn)); (try have HX10 := zz (HX10.out.below hbn)); have HX10 := HN10; refine oN hK (hS := .inr hB) (h := ?_); clear hK K' hbn)
    | (go_at_call 36; refine (HCL.out _ (HBY2.out.trans (hB.mono HBY2.out.size))).mono ?_; rintro e x ⟨a1, c1, a2, d2, rfl, hf1, hbn⟩; have hz := hbn.size; have hB : Below y2.heap.size y2 x := hB.trans (hbn.mono hB.size); (try have HF1 := zz (HF1.out.below hbn)); (try have HF3 := zz (HF3.out.below hbn)); (try have HX9 := zz (HX9.out.below hbn)); (try have HX10 := zz (HX10.out.below hbn)); have HF1 := zz hf1; have HQ1 : Hid (∀ k, k ∈ bO a1 ∨ k ∈ bO a2 → _ ≤ k ∧ k < _) := zz (fun k hk => hf1.bd hk); unfold scrV; clear hf1; refine oN hK (hS := .inr hB) (h := ?_); clear hK K' hbn))
   all_goals first
    | refine oE [1,4] (aC ⟨_, rfl, fun K' hK => ?_⟩ (aC ⟨_, rfl, fun K' hK => ?_⟩ aN))
    | refine oE [1,5] (aC ⟨_, rfl, fun K' hK => ?_⟩ (aC ⟨_, rfl, fun K' hK => ?_⟩ aN))
    | refine oE [3,4,5] (aC ⟨_, rfl, fun K' hK => ?_⟩ (aC ⟨_, rfl, fun K' hK => ?_⟩ (aC ⟨_, rfl, fun K' hK => ?_⟩ aN)))
   all_goals (go_simp; first
    | (obtain ⟨b9, x, hb, hx, HN9, HZ9, hbn⟩ := aB x [.int .i64 0, .int .i64 0, .int .i64 0, .int .i64 0, .int .i64 0, .int .i64 0, .int .i64 0, .int .i64 0, .int .i64 0, .string ⟨#[]⟩, .slice none 0 0, .slice none 0 0] 26; rw [hx, hb]; clear hx hb; have hz := hbn.size; have hB : Below y2.heap.size y2 x := hB.trans (hbn.mono hB.size); (try have HF1 := zz (HF1.out.below hbn)); (try have HF3 := zz (HF3.out.below hbn)); (try have HX9 := zz (HX9.out.below hbn)); (try have HX10 := zz (HX10.out.below hbn)); have HX9 := HN9; refine oN hK (hS := .inr hB) (h := ?_); clear hK K' hbn)
    | (obtain ⟨b10, x, hb, hx, HN10, HZ10, hbn⟩ := aB x [.int .i64 0, .slice none 0 0, .bool false, .string ⟨#[]⟩, .string ⟨#[]⟩] 42; rw [hx, hb]; clear hx hb; have hz := hbn.size; have hB : Below y2.heap.size y2 x := hB.trans (hbn.mono hB.size); (try have HF1 := zz (HF1.out.below hbn)); (try have HF3 := zz (HF3.out.below hbn)); (try have HX9 := zz (HX9.out.below hbn)); (try have HX10 := zz (HX10.out.below hbn)); have HX10 := HN10; refine oN hK (hS := .inr hB) (h := ?_); clear hK K' hbn)
    | (go_at_call 36; refine (HCL.out _ (HBY2.out.trans (hB.mono HBY2.out.size))).mono ?_; rintro e x ⟨a1, c1, a2, d2, rfl, hf1, hbn⟩; have hz := hbn.size; have hB : Below y2.heap.size y2 x := hB.trans (hbn.mono hB.size); (try have HF1 := zz (HF1.out.below hbn)); (try have HF3 := zz (HF3.out.below hbn)); (try have HX9 := zz (HX9.out.below hbn)); (try have HX10 := zz (HX10.out.below hbn)); have HF1 := zz hf1; have HQ1 : Hid (∀ k, k ∈ bO a1 ∨ k ∈ bO a2 → _ ≤ k ∧ k < _) := zz (fun k hk => hf1.bd hk); unfold scrV; clear hf1; refine oN hK (hS := .inr hB) (h := ?_); clear hK K' hbn)
    | (go_at_call 45; refine (HCP.out _ (HBY2.out.trans (hB.mono HBY2.out.size))).mono ?_; rintro e x ⟨a3, c3, rfl, hf3, hbn⟩; have hz := hbn.size; have hB : Below y2.heap.size y2 x := hB.trans (hbn.mono hB.size); (try have HF1 := zz (HF1.out.below hbn)); (try have HF3 := zz (HF3.out.below hbn)); (try have HX9 := zz (HX9.out.below hbn)); (try have HX10 := zz (HX10.out.below hbn)); have HF3 := zz hf3; have HQ3 : Hid (∀ k ∈ bO a3, _ ≤ k ∧ k < _) := zz (fun k hk => Fr.blks hf3 k hk); clear hf3; refine oN hK (hS := .inr hB) (h := ?_); clear hK K' hbn))
   all_goals first
    | refine oE [1] (aC ⟨_, rfl, fun K' hK => ?_⟩ aN)
    | refine oE [3,4] (aC ⟨_, rfl, fun K' hK => ?_⟩ (aC ⟨_, rfl, fun K' hK => ?_⟩ aN))
    | refine oE [3,5] (aC ⟨_, rfl, fun K' hK => ?_⟩ (aC ⟨_, rfl, fun K' hK => ?_⟩ aN))
    | refine oE [4,5] (aC ⟨_, rfl, fun K' hK => ?_⟩ (aC ⟨_, rfl, fun K' hK => ?_⟩ aN))
   all_goals (go_simp; first
    | (obtain ⟨b9, x, hb, hx, HN9, HZ9, hbn⟩ := aB x [.int .i64 0, .int .i64 0, .int .i64 0, .int .i64 0, .int .i64 0, .int .i64 0, .int .i64 0, .int .i64 0, .int .i64 0, .string ⟨#[]⟩, .slice none 0 0, .slice none 0 0] 26; rw [hx, hb]; clear hx hb; have hz := hbn.size; have hB : Below y2.heap.size y2 x := hB.trans (hbn.mono hB.size); (try have HF1 := zz (HF1.out.below hbn)); (try have HF3 := zz (HF3.out.below hbn)); (try have HX9 := zz (HX9.out.below hbn)); (try have HX10 := zz (HX10.out.below hbn)); have HX9 := HN9; refine oN hK (hS := .inr hB) (h := ?_); clear hK K' hbn)
    | (obtain ⟨b10, x, hb, hx, HN10, HZ10, hbn⟩ := aB x [.int .i64 0, .slice none 0 0, .bool false, .string ⟨#[]⟩, .string ⟨#[]⟩] 42; rw [hx, hb]; clear hx hb; have hz := hbn.size; have hB : Below y2.heap.size y2 x := hB.trans (hbn.mono hB.size); (try have HF1 := zz (HF1.out.below hbn)); (try have HF3 := zz (HF3.out.below hbn)); (try have HX9 := zz (HX9.out.below hbn)); (try have HX10 := zz (HX10.out.below hbn)); have HX10 := HN10; refine oN hK (hS := .inr hB) (h := ?_); clear hK K' hbn)
    | (go_at_call 36; refine (HCL.out _ (HBY2.out.trans (hB.mono HBY2.out.size))).mono ?_; rintro e x ⟨a1, c1, a2, d2, rfl, hf1, hbn⟩; have hz := hbn.size; have hB : Below y2.heap.size y2 x := hB.trans (hbn.mono hB.size); (try have HF1 := zz (HF1.out.below hbn)); (try have HF3 := zz (HF3.out.below hbn)); (try have HX9 := zz (HX9.out.below hbn)); (try have HX10 := zz (HX10.out.below hbn)); have HF1 := zz hf1; have HQ1 : Hid (∀ k, k ∈ bO a1 ∨ k ∈ bO a2 → _ ≤ k ∧ k < _) := zz (fun k hk => hf1.bd hk); unfold scrV; clear hf1; refine oN hK (hS := .inr hB) (h := ?_); clear hK K' hbn)
    | (go_at_call 45; refine (HCP.out _ (HBY2.out.trans (hB.mono HBY2.out.size))).mono ?_; rintro e x ⟨a3, c3, rfl, hf3, hbn⟩; have hz := hbn.size; have hB : Below y2.heap.size y2 x := hB.trans (hbn.mono hB.size); (try have HF1 := zz (HF1.out.below hbn)); (try have HF3 := zz (HF3.out.below hbn)); (try have HX9 := zz (HX9.out.below hbn)); (try have HX10 := zz (HX10.out.below hbn)); have HF3 := zz hf3; have HQ3 : Hid (∀ k ∈ bO a3, _ ≤ k ∧ k < _) := zz (fun k hk => Fr.blks hf3 k hk); clear hf3; refine oN hK (hS := .inr hB) (h := ?_); clear hK K' hbn))
   all_goals first
    | refine oE [3] (aC ⟨_, rfl, fun K' hK => ?_⟩ aN)
    | refine oE [4] (aC ⟨_, rfl, fun K' hK => ?_⟩ aN)
    | refine oE [5] (aC ⟨_, rfl, fun K' hK => ?_⟩ aN)
   all_goals (go_simp; first
    | (obtain ⟨b9, x, hb, hx, HN9, HZ9, hbn⟩ := aB x [.int .i64 0, .int .i64 0, .int .i64 0, .int .i64 0, .int .i64 0, .int .i64 0, .int .i64 0, .int .i64 0, .int .i64 0, .string ⟨#[]⟩, .slice none 0 0, .slice none 0 0] 26; rw [hx, hb]; clear hx hb; have hz := hbn.size; have hB : Below y2.heap.size y2 x := hB.trans (hbn.mono hB.size); (try have HF1 := zz (HF1.out.below hbn)); (try have HF3 := zz (HF3.out.below hbn)); (try have HX9 := zz (HX9.out.below hbn)); (try have HX10 := zz (HX10.out.below hbn)); have HX9 := HN9; refine oN hK (hS := .inr hB) (h := ?_); clear hK K' hbn)
    | (obtain ⟨b10, x, hb, hx, HN10, HZ10, hbn⟩ := aB x [.int .i64 0, .slice none 0 0, .bool false, .string ⟨#[]⟩, .string ⟨#[]⟩] 42; rw [hx, hb]; clear hx hb; have hz := hbn.size; have hB : Below y2.heap.size y2 x := hB.trans (hbn.mono hB.size); (try have HF1 := zz (HF1.out.below hbn)); (try have HF3 := zz (HF3.out.below hbn)); (try have HX9 := zz (HX9.out.below hbn)); (try have HX10 := zz (HX10.out.below hbn)); have HX10 := HN10; refine oN hK (hS := .inr hB) (h := ?_); clear hK K' hbn)
    | (go_at_call 45; refine (HCP.out _ (HBY2.out.trans (hB.mono HBY2.out.size))).mono ?_; rintro e x ⟨a3, c3, rfl, hf3, hbn⟩; have hz := hbn.size; have hB : Below y2.heap.size y2 x := hB.trans (hbn.mono hB.size); (try have HF1 := zz (HF1.out.below hbn)); (try have HF3 := zz (HF3.out.below hbn)); (try have HX9 := zz (HX9.out.below hbn)); (try have HX10 := zz (HX10.out.below hbn)); have HF3 := zz hf3; have HQ3 : Hid (∀ k ∈ bO a3, _ ≤ k ∧ k < _) := zz (fun k hk => Fr.blks hf3 k hk); clear hf3; refine oN hK (hS := .inr hB) (h := ?_); clear hK K' hbn))
   all_goals exact key b9 b10 a1 c1 a2 d2 a3 c3 x hB ⟨HX9.out, HX10.out, HF1.out.low (by omega), HF3.out.mono (by omega) (by omega), by have := HZ9.out; have := HZ10.out; omega, fun k hk => by have := HQ1.out k hk; have := HZ9.out; have := HZ10.out; exact ⟨by omega, by omega, fun e => by have := HQ3.out k e; omega⟩, fun k hk => by have := HQ3.out k hk; have := HZ9.out; have := HZ10.out; omega, by have := HZ9.out; have := HZ10.out; omega, hB⟩
  case key =>
   intro b9 b10 a1 c1 a2 d2 a3 c3 x hB hc
   have HC := zz hc
   obtain ⟨e_0, e_1, e_2, e_3, e_4, e_5, e_6, e_7, e_8, e_9, e_10, e_11⟩ := hc.x9.all12
   have e_l := hc.x9.lt
   have e_f := hc.x9.fz
   obtain ⟨x6, hx6, hbs⟩ := hc.x9.st12 (.int .i64 s.w) (.int .i64 s.h) (.int .i64 s.x) (.int .i64 s.y) (.int .i64 s.look) (.int .i64 s.top) (.int .i64 s.bot) (.int .i64 s.sx) (.int .i64 s.sy) (.string s.title) (.slice a1 s.cells.length c1) (.slice a2 s.hist.length d2)
   clear hc
   refine oO (hS := .inr hB) (h := ?_)
   intro K' hK
   go_simp
   try rw [hx6]
   have hB : Below y2.heap.size y2 x6 := hB.trans (hbs.2.below HC.out.bw.size (fun k h => by have := HC.out.lo; omega))
   refine oN hK (hS := .inr hB) (h := ?_)
   clear hK K' hx6 e_0 e_1 e_2 e_3 e_4 e_5 e_6 e_7 e_8 e_9 e_10 e_11 e_l e_f
   have HS9 := zz hbs
   have hx10 := HC.out.x10.ch hbs.2 (fun e => HC.out.ne e.symm)
   obtain ⟨e_0, e_1, e_2, e_3, e_4⟩ := hx10.all5
   have e_l := hx10.lt
   have e_f := hx10.fz
   obtain ⟨x7, hx7, hbs⟩ := hx10.st5 (.int .i64 p.state) (.slice a3 p.args.length c3) (.bool p.priv) (.string p.text) (.string p.utf)
   clear hx10
   refine oO (hS := .inr hB) (h := ?_)
   intro K' hK
   go_simp
   try rw [hx7]
   have hB7 : Below y2.heap.size y2 x7 := hB.trans (hbs.2.below hB.size (fun k h => by have := HC.out.lo; omega))
   refine oN hK (hS := .inr hB7) (h := ?_)
   clear hK K' hx7 e_0 e_1 e_2 e_3 e_4 e_l e_f
   refine oD ?_
   have HS10 := zz hbs
   clear hbs hB
   go_wp2_with fail
   go_meet
   case rel =>
    obtain ⟨g, rfl, hsp⟩ := HC.out.sp H0.out ((HS9.out.2.mono (M := fun k => k = b9 ∨ k = b10) (fun k h => .inl (.inl h))).trans HS10.out.2 (fun k h => .inl (.inr h))) (HS9.out.1.ch HS10.out.2 HC.out.ne) HS10.out.1
    exact ⟨b9, b10, g, c1, a2, d2, a3, c3, rfl, rfl, zz ⟨hsp, hB7, HC.out.lo.1, HC.out.lo.2⟩⟩
 case rest =>
  obtain ⟨b9, b10, g, c1, a2, d2, a3, c3, rfl, rfl, HC⟩ := hcut
  have HBW : Hid (Below w.heap.size w wc) := zz (HBY2.out.trans (HC.out.2.1.mono HBY2.out.size))
  have HSL : Hid (Sl yE 1 wc a l) := zz (HLS.out.keep HBW.out)
  have HUY := zz (HUT.out.keep HBY2.out)
  have HFD : Hid (Calls Tryz.prog 46 #[.pointer (some ⟨b9, 0, none⟩), .pointer (some ⟨b10, 0, none⟩), .string (sO_ l)] wc fun e w' => e = .returned (.tuple #[]) ∧ ∃ L al cl, FSt y2.heap.size b9 0 b10 y2.heap.size g a2 a3 wc T Q L al cl w') := zz (by
   have h1 := HC.out.2.2
   obtain ⟨_, l1, l2⟩ := HUY.out
   have := iFeed_c y2.heap.size b9 0 b10 y2.heap.size s g c1 a2 d2 p a3 c3 (sO_ l) wc HC.out.1 HOK.out HPK.out HC.out.2.1.size HC.out.2.1.size (by rw [Zc7]; have := HLL.out; omega) (HUT.out.keep HBW.out) (fun G hG => by
    have : G < y2.heap.size := by rcases hG with rfl | rfl; exact l1; exact l2
    omega)
   rw [show (sO_ l).data.toList = l from rfl, HT.out, HQ.out] at this
   exact this)
  have hcv := convT (ca := ca) HSL.out
  go_wp2_with fail
  refine HFD.out.mono ?_
  rintro e x1 ⟨rfl, L, al, cl, hf⟩
  clear hcv
  obtain ⟨g1, e1, a1, d1, ap1, cp1, hsp, hch, -, -, -, -⟩ := hf
  have HSP := zz hsp
  have HB21 : Hid (Below y2.heap.size y2 x1) := zz (by
   have hl := HC.out.1.lts
   refine HC.out.2.1.trans (hch.below HC.out.2.1.size (fun k hk => ?_))
   have h1 := HC.out.2.2
   rcases hk with h | h | h | h | h
   ·omega
   ·have := hl.2.1.1; omega
   ·exact (hl.2.2.1 k h).1
   ·omega
   ·exact (hl.2.2.2.2 k (by simp [h])).1)
  clear hsp hch
  go_upto_region 7 with fail
  refine rO (fun W => W.cell? ⟨b9, 0, none⟩ = some (.int .i64 T.w) ∧ W.cell? ⟨b9, 1, none⟩ = some (.int .i64 T.h) ∧ W.cell? ⟨b9, 2, none⟩ = some (.int .i64 T.x) ∧ W.cell? ⟨b9, 3, none⟩ = some (.int .i64 T.y) ∧ W.cell? ⟨b9, 4, none⟩ = some (.int .i64 T.look) ∧ W.cell? ⟨b9, 5, none⟩ = some (.int .i64 T.top) ∧ W.cell? ⟨b9, 6, none⟩ = some (.int .i64 T.bot) ∧ W.cell? ⟨b9, 7, none⟩ = some (.int .i64 T.sx) ∧ W.cell? ⟨b9, 8, none⟩ = some (.int .i64 T.sy) ∧ W.cell? ⟨b9, 9, none⟩ = some (.string T.title) ∧ W.cell? ⟨b9, 10, none⟩ = some (.slice (some ⟨g1, 0, none⟩) T.cells.length e1) ∧ W.cell? ⟨b9, 11, none⟩ = some (.slice a1 T.hist.length d1) ∧ W.cell? ⟨b10, 0, none⟩ = some (.int .i64 Q.state) ∧ W.cell? ⟨b10, 1, none⟩ = some (.slice ap1 Q.args.length cp1) ∧ W.cell? ⟨b10, 2, none⟩ = some (.bool Q.priv) ∧ W.cell? ⟨b10, 3, none⟩ = some (.string Q.text) ∧ W.cell? ⟨b10, 4, none⟩ = some (.string Q.utf)) [] [0,1,2,3,4] ?_
  obtain ⟨x2, hx2⟩ := eX (x1.drew)
  have hb12 : Below x1.heap.size x1 x2 := by rw [← hx2]; exact (Below.refl _ _).drew
  rw [hx2]
  clear hx2
  have HSP := zz (HSP.out.below hb12)
  have HB22 : Hid (Below y2.heap.size y2 x2) := zz (HB21.out.trans (hb12.mono HB21.out.size))
  have HX2 := zz (HX2.out.below HB22.out)
  have HX3 := zz (HX3.out.below HB22.out)
  clear hb12
  have hS0 : (fun W : World => W.cell? ⟨b9, 0, none⟩ = some (.int .i64 T.w) ∧ W.cell? ⟨b9, 1, none⟩ = some (.int .i64 T.h) ∧ W.cell? ⟨b9, 2, none⟩ = some (.int .i64 T.x) ∧ W.cell? ⟨b9, 3, none⟩ = some (.int .i64 T.y) ∧ W.cell? ⟨b9, 4, none⟩ = some (.int .i64 T.look) ∧ W.cell? ⟨b9, 5, none⟩ = some (.int .i64 T.top) ∧ W.cell? ⟨b9, 6, none⟩ = some (.int .i64 T.bot) ∧ W.cell? ⟨b9, 7, none⟩ = some (.int .i64 T.sx) ∧ W.cell? ⟨b9, 8, none⟩ = some (.int .i64 T.sy) ∧ W.cell? ⟨b9, 9, none⟩ = some (.string T.title) ∧ W.cell? ⟨b9, 10, none⟩ = some (.slice (some ⟨g1, 0, none⟩) T.cells.length e1) ∧ W.cell? ⟨b9, 11, none⟩ = some (.slice a1 T.hist.length d1) ∧ W.cell? ⟨b10, 0, none⟩ = some (.int .i64 Q.state) ∧ W.cell? ⟨b10, 1, none⟩ = some (.slice ap1 Q.args.length cp1) ∧ W.cell? ⟨b10, 2, none⟩ = some (.bool Q.priv) ∧ W.cell? ⟨b10, 3, none⟩ = some (.string Q.text) ∧ W.cell? ⟨b10, 4, none⟩ = some (.string Q.utf)) x2 := ⟨HSP.out.sc.c0, HSP.out.sc.c1, HSP.out.sc.c2, HSP.out.sc.c3, HSP.out.sc.c4, HSP.out.sc.c5, HSP.out.sc.c6, HSP.out.sc.c7, HSP.out.sc.c8, HSP.out.sc.c9, HSP.out.sc.c10, HSP.out.sc.c11, HSP.out.ps.c0, HSP.out.ps.c1, HSP.out.ps.c2, HSP.out.ps.c3, HSP.out.ps.c4⟩
  repeat (first | refine oW (h := ?_) | refine oL (hS := hS0) (h := ?_))
  obtain ⟨e_0, e_1, e_2, e_3, e_4, e_5, e_6, e_7, e_8, e_9, e_10, e_11⟩ := HX2.out.all12
  have e_l := HX2.out.lt
  have e_f := HX2.out.fz
  obtain ⟨x3, hx3, hbs⟩ := HX2.out.st12 (.int .i64 T.w) (.int .i64 T.h) (.int .i64 T.x) (.int .i64 T.y) (.int .i64 T.look) (.int .i64 T.top) (.int .i64 T.bot) (.int .i64 T.sx) (.int .i64 T.sy) (.string T.title) (.slice (some ⟨g1, 0, none⟩) T.cells.length e1) (.slice a1 T.hist.length d1)
  have HN9 : Hid (w.heap.size + 2 < y2.heap.size ∧ w.heap.size + 3 < y2.heap.size) := zz (by have := HZ0.out; have h1 := HBY2.out.size; exact HNY.out)
  refine oO (hS := .inr hS0) (h := ?_)
  intro K' hK
  go_simp
  try rw [hx3]
  have HSP3 : Hid (SP y2.heap.size b9 0 b10 y2.heap.size T g1 e1 a1 d1 Q ap1 cp1 L al cl x3) := zz (HSP.out.off hbs.2 (by have := HN9.out; have := HC.out.2.2; omega))
  have hS1 : (fun W : World => W.cell? ⟨b9, 0, none⟩ = some (.int .i64 T.w) ∧ W.cell? ⟨b9, 1, none⟩ = some (.int .i64 T.h) ∧ W.cell? ⟨b9, 2, none⟩ = some (.int .i64 T.x) ∧ W.cell? ⟨b9, 3, none⟩ = some (.int .i64 T.y) ∧ W.cell? ⟨b9, 4, none⟩ = some (.int .i64 T.look) ∧ W.cell? ⟨b9, 5, none⟩ = some (.int .i64 T.top) ∧ W.cell? ⟨b9, 6, none⟩ = some (.int .i64 T.bot) ∧ W.cell? ⟨b9, 7, none⟩ = some (.int .i64 T.sx) ∧ W.cell? ⟨b9, 8, none⟩ = some (.int .i64 T.sy) ∧ W.cell? ⟨b9, 9, none⟩ = some (.string T.title) ∧ W.cell? ⟨b9, 10, none⟩ = some (.slice (some ⟨g1, 0, none⟩) T.cells.length e1) ∧ W.cell? ⟨b9, 11, none⟩ = some (.slice a1 T.hist.length d1) ∧ W.cell? ⟨b10, 0, none⟩ = some (.int .i64 Q.state) ∧ W.cell? ⟨b10, 1, none⟩ = some (.slice ap1 Q.args.length cp1) ∧ W.cell? ⟨b10, 2, none⟩ = some (.bool Q.priv) ∧ W.cell? ⟨b10, 3, none⟩ = some (.string Q.text) ∧ W.cell? ⟨b10, 4, none⟩ = some (.string Q.utf)) x3 := ⟨HSP3.out.sc.c0, HSP3.out.sc.c1, HSP3.out.sc.c2, HSP3.out.sc.c3, HSP3.out.sc.c4, HSP3.out.sc.c5, HSP3.out.sc.c6, HSP3.out.sc.c7, HSP3.out.sc.c8, HSP3.out.sc.c9, HSP3.out.sc.c10, HSP3.out.sc.c11, HSP3.out.ps.c0, HSP3.out.ps.c1, HSP3.out.ps.c2, HSP3.out.ps.c3, HSP3.out.ps.c4⟩
  refine oN hK (hS := .inr hS1) (h := ?_)
  clear hK K' hx3 e_0 e_1 e_2 e_3 e_4 e_5 e_6 e_7 e_8 e_9 e_10 e_11 e_l e_f hS0
  have HS9 := zz hbs
  have HX3 := zz (HX3.out.ch hbs.2 (by omega))
  obtain ⟨e_0, e_1, e_2, e_3, e_4⟩ := HX3.out.all5
  have e_l := HX3.out.lt
  have e_f := HX3.out.fz
  obtain ⟨x4, hx4, hbs⟩ := HX3.out.st5 (.int .i64 Q.state) (.slice ap1 Q.args.length cp1) (.bool Q.priv) (.string Q.text) (.string Q.utf)
  refine oO (hS := .inr hS1) (h := ?_)
  intro K' hK
  go_simp
  try rw [hx4]
  have HSP4 : Hid (SP y2.heap.size b9 0 b10 y2.heap.size T g1 e1 a1 d1 Q ap1 cp1 L al cl x4) := zz (HSP3.out.off hbs.2 (by have := HN9.out; have := HC.out.2.2; omega))
  have hS2 : (fun W : World => W.cell? ⟨b9, 0, none⟩ = some (.int .i64 T.w) ∧ W.cell? ⟨b9, 1, none⟩ = some (.int .i64 T.h) ∧ W.cell? ⟨b9, 2, none⟩ = some (.int .i64 T.x) ∧ W.cell? ⟨b9, 3, none⟩ = some (.int .i64 T.y) ∧ W.cell? ⟨b9, 4, none⟩ = some (.int .i64 T.look) ∧ W.cell? ⟨b9, 5, none⟩ = some (.int .i64 T.top) ∧ W.cell? ⟨b9, 6, none⟩ = some (.int .i64 T.bot) ∧ W.cell? ⟨b9, 7, none⟩ = some (.int .i64 T.sx) ∧ W.cell? ⟨b9, 8, none⟩ = some (.int .i64 T.sy) ∧ W.cell? ⟨b9, 9, none⟩ = some (.string T.title) ∧ W.cell? ⟨b9, 10, none⟩ = some (.slice (some ⟨g1, 0, none⟩) T.cells.length e1) ∧ W.cell? ⟨b9, 11, none⟩ = some (.slice a1 T.hist.length d1) ∧ W.cell? ⟨b10, 0, none⟩ = some (.int .i64 Q.state) ∧ W.cell? ⟨b10, 1, none⟩ = some (.slice ap1 Q.args.length cp1) ∧ W.cell? ⟨b10, 2, none⟩ = some (.bool Q.priv) ∧ W.cell? ⟨b10, 3, none⟩ = some (.string Q.text) ∧ W.cell? ⟨b10, 4, none⟩ = some (.string Q.utf)) x4 := ⟨HSP4.out.sc.c0, HSP4.out.sc.c1, HSP4.out.sc.c2, HSP4.out.sc.c3, HSP4.out.sc.c4, HSP4.out.sc.c5, HSP4.out.sc.c6, HSP4.out.sc.c7, HSP4.out.sc.c8, HSP4.out.sc.c9, HSP4.out.sc.c10, HSP4.out.sc.c11, HSP4.out.ps.c0, HSP4.out.ps.c1, HSP4.out.ps.c2, HSP4.out.ps.c3, HSP4.out.ps.c4⟩
  refine oN hK (hS := .inr hS2) (h := ?_)
  clear hK K' hx4 e_0 e_1 e_2 e_3 e_4 e_l e_f hS1
  repeat (first | refine oW (h := ?_) | refine oL (hS := hS2) (h := ?_))
  refine oD ?_
  clear hS2
  have HS10 := zz hbs
  clear hbs
  obtain ⟨r_0, r_1, r_2, r_3, r_4, r_5, r_6, r_7, r_8, r_9, r_10, r_11⟩ := (HS9.out.1.ch HS10.out.2 (by omega)).all12
  obtain ⟨t_0, t_1, t_2, t_3, t_4⟩ := HS10.out.1.all5
  have r_l := (HS9.out.1.ch HS10.out.2 (by omega)).lt
  have t_l := HS10.out.1.lt
  go_wp2_with fail
  refine bodyPost_ret (v := .tuple #[.agg #[.int .i64 T.w, .int .i64 T.h, .int .i64 T.x, .int .i64 T.y, .int .i64 T.look, .int .i64 T.top, .int .i64 T.bot, .int .i64 T.sx, .int .i64 T.sy, .string T.title, .slice (some ⟨g1, 0, none⟩) T.cells.length e1, .slice a1 T.hist.length d1], .agg #[.int .i64 Q.state, .slice ap1 Q.args.length cp1, .bool Q.priv, .string Q.text, .string Q.utf], .int .i64 0]) (by simp [results, Tryz.results19, go_sem, r_0, r_1, r_2, r_3, r_4, r_5, r_6, r_7, r_8, r_9, r_10, r_11, t_0, t_1, t_2, t_3, t_4]) rfl ?_
  have hbz : Below w.heap.size w x4 := by
   have h1 : Below w.heap.size w x2 := HBY2.out.trans (HB22.out.mono HBY2.out.size)
   exact (h1.trans (HS9.out.2.below h1.size (fun k h => by omega))).trans (HS10.out.2.below (Nat.le_trans h1.size HS9.out.2.size) (fun k h => by omega))
  exact ⟨some ⟨g1, 0, none⟩, e1, a1, d1, ap1, cp1, rfl, HSP4.out.sc.F.low HBY2.out.size, HSP4.out.ps.args.mono HBY2.out.size (Nat.le_refl _), hbz⟩
end
section
theorem SrcAt.alloc {b K c : Nat} {a : Option Addr} {xs : List UInt8} {w : World} (h : SrcAt b a c xs K w) (o : Obj) : SrcAt b a c xs K (w.alloc o) := h.below (bA)
theorem Mid.alloc {lo hi : Nat} {a w : World} (h : Mid lo hi a w) (o : Obj) : Mid lo hi a (w.alloc o) := h.trans (Mid.of_below _ _ (bA))
theorem Zg7 (a : Option Addr) (c : Nat) (xs : List UInt8) (w : World) (ha : Sl yE 1 w a xs) (hl : xs.length ≤ 2097152) :
 Calls Tryz.prog 22 #[.slice a xs.length c] w fun e w' => e = .returned (.pointer (some ⟨w.heap.size, 0, none⟩)) ∧ SrcAt w.heap.size a c xs 0 w' ∧ Below w.heap.size w w' := by
 have HA := zz ha
 clear ha
 have hm : xs.length % 1000 < 1000 := Nat.mod_lt _ (by omega)
 have HM : Hid (((xs.length : Int) % 1000) = ((xs.length % 1000 : Nat) : Int)) := zz (by omega)
 go_enter Tryz.func22, Tryz.ntmps22
 go_wp2_with fail
 go_ret
 rw [HM.out]
 generalize xs.length % 1000 = q at hm ⊢
 refine ⟨rfl, ⟨0, q, hl, Nat.le_refl _, by omega, World.cell?_alloc_new _ _ _ _, World.cell?_alloc_new _ _ _ _, World.cell?_alloc_new _ _ _ _, fun o => by simp [go_sem], HA.out.alloc _, fun b' o e => ?_, by simp⟩, bA⟩
 rcases HA.out with h | ⟨b2, o2, he, hlt, _⟩
 ·exact .inl h
 ·rw [he] at e
  cases e
  exact .inr (by omega)
def outL : List ByteArray := [⟨#[116, 101, 120, 116]⟩, ⟨#[97]⟩, ⟨#[13, 10]⟩, ⟨#[10]⟩, ⟨#[8]⟩, ⟨#[9]⟩, ⟨#[27, 91, 72]⟩, ⟨#[27, 91, 50, 74]⟩, ⟨#[27, 91, 75]⟩, ⟨#[27, 91, 49, 59, 51, 49, 109]⟩, ⟨#[27, 91, 48, 109]⟩, ⟨#[27, 91, 51, 59, 50, 72]⟩, ⟨#[27, 91, 50, 65]⟩, ⟨#[27, 91, 66]⟩, ⟨#[27, 91, 53, 67]⟩, ⟨#[27, 91, 68]⟩, ⟨#[27, 91, 50, 59, 52, 114]⟩, ⟨#[27, 91, 114]⟩, ⟨#[27, 91, 76]⟩, ⟨#[27, 91, 50, 77]⟩, ⟨#[27, 55]⟩, ⟨#[27, 56]⟩, ⟨#[27, 68]⟩, ⟨#[27, 77]⟩, ⟨#[27, 69]⟩, ⟨#[27, 99]⟩, ⟨#[27, 93, 48, 59, 116, 105, 116, 108, 101, 7]⟩, ⟨#[27, 93, 120, 27, 92]⟩, ⟨#[195, 164]⟩, ⟨#[226, 130, 172]⟩, ⟨#[240, 159, 152, 128]⟩, ⟨#[128]⟩, ⟨#[226, 40]⟩, ⟨#[27, 91, 63, 50, 53, 104]⟩, ⟨#[27, 91, 49, 59, 50, 59, 51, 59, 52, 59, 53, 59, 54, 59, 55, 59, 56, 59, 57, 109]⟩, ⟨#[27, 91, 57, 57, 57, 57, 57, 65]⟩, ⟨#[27, 91, 49, 36, 120]⟩, ⟨#[7]⟩, ⟨#[27, 91, 83]⟩, ⟨#[27, 91, 84]⟩, ⟨#[27, 91, 49, 74]⟩, ⟨#[27, 91, 49, 75]⟩, ⟨#[119, 114, 97, 112, 32, 97, 114, 111, 117, 110, 100, 32, 105, 116]⟩]
theorem Yf9 : ∀ s ∈ outL, 1 ≤ s.size ∧ s.size ≤ 20 := by
 have h : outL.all (fun s => decide (1 ≤ s.size ∧ s.size ≤ 20)) = true := by decide
 intro s hs
 simpa using (List.all_eq_true.1 h) s hs
def TextR (b : Nat) (a : Option Addr) (c : Nat) (xs : List UInt8) (K : Nat) (P : ByteArray → Prop) (w : World) (e : Ending) (w' : World) : Prop := ∃ s : ByteArray, P s ∧ e = .returned (.string s) ∧ SrcAt b a c xs K w' ∧ Mid b (b + 1) w w'
def OutC (s : ByteArray) : Prop := ∃ L : List ByteArray, (∀ t ∈ L, t ∈ outL) ∧ s.data.toList = L.flatMap (fun t => t.data.toList)
theorem OutC.nil : OutC ⟨#[]⟩ := ⟨[], by simp, by simp⟩
theorem OutC.snoc {s t : ByteArray} (h : OutC s) (ht : t ∈ outL) : OutC (s ++ t) := by
 obtain ⟨L, h1, h2⟩ := h
 refine ⟨L ++ [t], fun u hu => ?_, ?_⟩
 ·rcases List.mem_append.1 hu with hu | hu
  ·exact h1 u hu
  ·simp at hu; subst hu; exact ht
 ·rw [List.flatMap_append, ← h2]
  simp [ByteArray.data_append]
theorem Zi8 (b : Nat) (a : Option Addr) (c : Nat) (xs : List UInt8) (K : Nat) (w : World) (h : SrcAt b a c xs K w) (hK : K ≤ 1000000000) :
 Calls Tryz.prog 42 #[.pointer (some ⟨b, 0, none⟩)] w (TextR b a c xs (K + 9) (fun s => OutC s ∧ 1 ≤ s.size ∧ s.size ≤ 200) w) := by
 have HN := zz (Zf4 b a c xs K 8 w h (by omega) (by omega) (by omega))
 have hb0 : b < w.heap.size := h.lt
 clear h
 go_enter Tryz.func42, Tryz.ntmps42
 go_wp2_with fail
 refine HN.out.mono ?_
 rintro e w1 ⟨m, hm, rfl, hs1, hm1⟩
 have ew : IntKind.i64.wrap (1 + (m : Int)) = 1 + (m : Int) := iIq _
 have HS1 := zz hs1
 have HM1 := zz hm1
 clear hs1 hm1
 go_wp2_with fail
 go_loopw [3, 4] (fun ov iv wr => ∃ (s : ByteArray) (i : Nat), ov = .string s ∧ iv = .int .i64 i ∧ i ≤ 8 ∧ s.size + 20 * i ≤ 160 ∧ Hid ((i = 0 → 1 ≤ s.size) ∧ OutC s) ∧ SrcAt b a c xs (K + 9 - i) wr ∧ Mid b (b + 1) w wr) (fun _ iv _ => (intOf iv).toNat)
 case atStart => exact ⟨⟨#[]⟩, 1 + m, rfl, (by first | rfl | (simp) | (congr 1; omega)), by omega, (by show 0 + _ ≤ _; omega), zz ⟨fun h => by omega, OutC.nil⟩, HS1.out.mono (by omega), HM1.out⟩
 case round =>
  obtain ⟨s, i, rfl, rfl, hi8, hsz, hpos, hsrc, hmid⟩ := hrel
  have HP := hpos
  have HS := zz hsrc
  have HM := zz hmid
  have hz := hmid.size
  clear hpos hsrc hmid
  by_cases h0 : 0 < i
  ·have h0' : (0 : Int) < (i : Int) := by omega
   have ei : IntKind.i64.wrap ((i : Int) - 1) = (i : Int) - 1 := iIq _
   have HSa := zz (HS.out.alloc (.cells #[.string ⟨#[116, 101, 120, 116]⟩, .string ⟨#[97]⟩, .string ⟨#[13, 10]⟩, .string ⟨#[10]⟩, .string ⟨#[8]⟩, .string ⟨#[9]⟩, .string ⟨#[27, 91, 72]⟩, .string ⟨#[27, 91, 50, 74]⟩, .string ⟨#[27, 91, 75]⟩, .string ⟨#[27, 91, 49, 59, 51, 49, 109]⟩, .string ⟨#[27, 91, 48, 109]⟩, .string ⟨#[27, 91, 51, 59, 50, 72]⟩, .string ⟨#[27, 91, 50, 65]⟩, .string ⟨#[27, 91, 66]⟩, .string ⟨#[27, 91, 53, 67]⟩, .string ⟨#[27, 91, 68]⟩, .string ⟨#[27, 91, 50, 59, 52, 114]⟩, .string ⟨#[27, 91, 114]⟩, .string ⟨#[27, 91, 76]⟩, .string ⟨#[27, 91, 50, 77]⟩, .string ⟨#[27, 55]⟩, .string ⟨#[27, 56]⟩, .string ⟨#[27, 68]⟩, .string ⟨#[27, 77]⟩, .string ⟨#[27, 69]⟩, .string ⟨#[27, 99]⟩, .string ⟨#[27, 93, 48, 59, 116, 105, 116, 108, 101, 7]⟩, .string ⟨#[27, 93, 120, 27, 92]⟩, .string ⟨#[195, 164]⟩, .string ⟨#[226, 130, 172]⟩, .string ⟨#[240, 159, 152, 128]⟩, .string ⟨#[128]⟩, .string ⟨#[226, 40]⟩, .string ⟨#[27, 91, 63, 50, 53, 104]⟩, .string ⟨#[27, 91, 49, 59, 50, 59, 51, 59, 52, 59, 53, 59, 54, 59, 55, 59, 56, 59, 57, 109]⟩, .string ⟨#[27, 91, 57, 57, 57, 57, 57, 65]⟩, .string ⟨#[27, 91, 49, 36, 120]⟩, .string ⟨#[7]⟩, .string ⟨#[27, 91, 83]⟩, .string ⟨#[27, 91, 84]⟩, .string ⟨#[27, 91, 49, 74]⟩, .string ⟨#[27, 91, 49, 75]⟩, .string ⟨#[119, 114, 97, 112, 32, 97, 114, 111, 117, 110, 100, 32, 105, 116]⟩] 9))
   have HL : Hid (Sl sE 1 (wr.alloc (.cells #[.string ⟨#[116, 101, 120, 116]⟩, .string ⟨#[97]⟩, .string ⟨#[13, 10]⟩, .string ⟨#[10]⟩, .string ⟨#[8]⟩, .string ⟨#[9]⟩, .string ⟨#[27, 91, 72]⟩, .string ⟨#[27, 91, 50, 74]⟩, .string ⟨#[27, 91, 75]⟩, .string ⟨#[27, 91, 49, 59, 51, 49, 109]⟩, .string ⟨#[27, 91, 48, 109]⟩, .string ⟨#[27, 91, 51, 59, 50, 72]⟩, .string ⟨#[27, 91, 50, 65]⟩, .string ⟨#[27, 91, 66]⟩, .string ⟨#[27, 91, 53, 67]⟩, .string ⟨#[27, 91, 68]⟩, .string ⟨#[27, 91, 50, 59, 52, 114]⟩, .string ⟨#[27, 91, 114]⟩, .string ⟨#[27, 91, 76]⟩, .string ⟨#[27, 91, 50, 77]⟩, .string ⟨#[27, 55]⟩, .string ⟨#[27, 56]⟩, .string ⟨#[27, 68]⟩, .string ⟨#[27, 77]⟩, .string ⟨#[27, 69]⟩, .string ⟨#[27, 99]⟩, .string ⟨#[27, 93, 48, 59, 116, 105, 116, 108, 101, 7]⟩, .string ⟨#[27, 93, 120, 27, 92]⟩, .string ⟨#[195, 164]⟩, .string ⟨#[226, 130, 172]⟩, .string ⟨#[240, 159, 152, 128]⟩, .string ⟨#[128]⟩, .string ⟨#[226, 40]⟩, .string ⟨#[27, 91, 63, 50, 53, 104]⟩, .string ⟨#[27, 91, 49, 59, 50, 59, 51, 59, 52, 59, 53, 59, 54, 59, 55, 59, 56, 59, 57, 109]⟩, .string ⟨#[27, 91, 57, 57, 57, 57, 57, 65]⟩, .string ⟨#[27, 91, 49, 36, 120]⟩, .string ⟨#[7]⟩, .string ⟨#[27, 91, 83]⟩, .string ⟨#[27, 91, 84]⟩, .string ⟨#[27, 91, 49, 74]⟩, .string ⟨#[27, 91, 49, 75]⟩, .string ⟨#[119, 114, 97, 112, 32, 97, 114, 111, 117, 110, 100, 32, 105, 116]⟩] 9)) (some ⟨wr.heap.size, 0, none⟩) outL) := zz (Sl.boxM (enc := sE) (sz := 1) (fun _ => rfl) outL #[.string ⟨#[116, 101, 120, 116]⟩, .string ⟨#[97]⟩, .string ⟨#[13, 10]⟩, .string ⟨#[10]⟩, .string ⟨#[8]⟩, .string ⟨#[9]⟩, .string ⟨#[27, 91, 72]⟩, .string ⟨#[27, 91, 50, 74]⟩, .string ⟨#[27, 91, 75]⟩, .string ⟨#[27, 91, 49, 59, 51, 49, 109]⟩, .string ⟨#[27, 91, 48, 109]⟩, .string ⟨#[27, 91, 51, 59, 50, 72]⟩, .string ⟨#[27, 91, 50, 65]⟩, .string ⟨#[27, 91, 66]⟩, .string ⟨#[27, 91, 53, 67]⟩, .string ⟨#[27, 91, 68]⟩, .string ⟨#[27, 91, 50, 59, 52, 114]⟩, .string ⟨#[27, 91, 114]⟩, .string ⟨#[27, 91, 76]⟩, .string ⟨#[27, 91, 50, 77]⟩, .string ⟨#[27, 55]⟩, .string ⟨#[27, 56]⟩, .string ⟨#[27, 68]⟩, .string ⟨#[27, 77]⟩, .string ⟨#[27, 69]⟩, .string ⟨#[27, 99]⟩, .string ⟨#[27, 93, 48, 59, 116, 105, 116, 108, 101, 7]⟩, .string ⟨#[27, 93, 120, 27, 92]⟩, .string ⟨#[195, 164]⟩, .string ⟨#[226, 130, 172]⟩, .string ⟨#[240, 159, 152, 128]⟩, .string ⟨#[128]⟩, .string ⟨#[226, 40]⟩, .string ⟨#[27, 91, 63, 50, 53, 104]⟩, .string ⟨#[27, 91, 49, 59, 50, 59, 51, 59, 52, 59, 53, 59, 54, 59, 55, 59, 56, 59, 57, 109]⟩, .string ⟨#[27, 91, 57, 57, 57, 57, 57, 65]⟩, .string ⟨#[27, 91, 49, 36, 120]⟩, .string ⟨#[7]⟩, .string ⟨#[27, 91, 83]⟩, .string ⟨#[27, 91, 84]⟩, .string ⟨#[27, 91, 49, 74]⟩, .string ⟨#[27, 91, 49, 75]⟩, .string ⟨#[119, 114, 97, 112, 32, 97, 114, 111, 117, 110, 100, 32, 105, 116]⟩] 9 rfl wr.heap.size rfl)
   go_wp2_with fail
   refine (Zq6 b a c xs (K + 9 - i) (some ⟨wr.heap.size, 0, none⟩) 43 outL _ HSa.out (by omega) HL.out (fun b' o h => by cases h; omega) (by decide) (by decide)).mono ?_
   rintro e w2 ⟨t, ht, rfl, hs2, hm2⟩
   have hts := Yf9 t ht
   have HOC := zz (HP.out.2.snoc ht)
   have HS2 := zz hs2
   have HM2 : Hid (Mid b (b + 1) w w2) := (HM.out.alloc _).trans hm2
   have hsize : (s ++ t).size = s.size + t.size := ByteArray.size_append
   have HSZ := zz hsize
   clear hs2 hm2 ht HSa HL hsize
   go_wp2_with fail
   go_roundw
   case rel => exact ⟨s ++ t, i - 1, rfl, (by congr 1; omega), by omega, (by rw [HSZ.out]; omega), zz ⟨fun _ => by rw [HSZ.out]; omega, HOC.out⟩, HS2.out.mono (by omega), HM2.out⟩
   case measure => simp [intOf]; omega
  ·obtain rfl : i = 0 := by omega
   go_wp2_with fail
   go_ret
   exact ⟨s, ⟨HP.out.2, by first | exact HP.out.1 rfl | exact HP.out.1 trivial, by omega⟩, rfl, HS.out, HM.out⟩
theorem Zk7 (b : Nat) (a : Option Addr) (c : Nat) (xs : List UInt8) (K : Nat) (w : World) (h : SrcAt b a c xs K w) (hK : K ≤ 1000000000) :
 Calls Tryz.prog 42 #[.pointer (some ⟨b, 0, none⟩)] w (TextR b a c xs (K + 9) (fun s => 1 ≤ s.size ∧ s.size ≤ 200) w) :=
 (Zi8 b a c xs K w h hK).mono (fun e w' ⟨s, hs, h2⟩ => ⟨s, hs.2, h2⟩)
def parL : List ByteArray := [⟨#[]⟩, ⟨#[27]⟩, ⟨#[27, 91]⟩, ⟨#[27, 91, 49, 59, 50]⟩, ⟨#[27, 91, 63]⟩, ⟨#[27, 91, 36]⟩, ⟨#[27, 93, 116, 105]⟩, ⟨#[27, 93, 116, 105, 27]⟩, ⟨#[226, 130]⟩, ⟨#[240]⟩]
theorem Yc2 : ∀ s ∈ parL, s.size ≤ 5 := by
 have h : parL.all (fun s => decide (s.size ≤ 5)) = true := by decide
 intro s hs
 simpa using (List.all_eq_true.1 h) s hs
def ParD (b : Nat) (w : World) (e : Ending) (w' : World) : Prop :=
 ∃ (p : PV) (a : Option Addr) (c : Nat), PvOK p ∧ e = .returned (.agg #[.int .i64 p.state, .slice a p.args.length c, .bool p.priv, .string p.text, .string p.utf]) ∧ Fr iE 3 1 w.heap.size w'.heap.size (.slice a p.args.length c) p.args w' ∧ Mid b (b + 1) w w'
theorem Zw3 (b : Nat) (a : Option Addr) (c : Nat) (xs : List UInt8) (K : Nat) (w : World) (h : SrcAt b a c xs K w) (hK : K ≤ 1000000) :
 Calls Tryz.prog 41 #[.pointer (some ⟨b, 0, none⟩)] w (ParD b w) := by
 have hb0 : b < w.heap.size := h.lt
 have HO := zz (Zk7 b a c xs K (w.alloc (.cells #[.int .i64 0, .slice none 0 0, .bool false, .string ⟨#[]⟩, .string ⟨#[]⟩] 42)) (h.below (bA)) (by omega))
 clear h
 go_enter Tryz.func41, Tryz.ntmps41
 go_wp2_with fail
 refine HO.out.mono ?_
 clear HO
 rintro e w1 ⟨s1, ⟨_, hs1⟩, rfl, hsrc, hm⟩
 have HS := zz hsrc
 have HM := zz hm
 have hz1 := hm.size
 simp only [World.size_alloc] at hz1
 have HL : Hid (Sl sE 1 (w1.alloc (.cells #[.string ⟨#[]⟩, .string ⟨#[27]⟩, .string ⟨#[27, 91]⟩, .string ⟨#[27, 91, 49, 59, 50]⟩, .string ⟨#[27, 91, 63]⟩, .string ⟨#[27, 91, 36]⟩, .string ⟨#[27, 93, 116, 105]⟩, .string ⟨#[27, 93, 116, 105, 27]⟩, .string ⟨#[226, 130]⟩, .string ⟨#[240]⟩] 9)) (some ⟨w1.heap.size, 0, none⟩) parL) := zz (Sl.boxM (enc := sE) (sz := 1) (fun _ => rfl) parL #[.string ⟨#[]⟩, .string ⟨#[27]⟩, .string ⟨#[27, 91]⟩, .string ⟨#[27, 91, 49, 59, 50]⟩, .string ⟨#[27, 91, 63]⟩, .string ⟨#[27, 91, 36]⟩, .string ⟨#[27, 93, 116, 105]⟩, .string ⟨#[27, 93, 116, 105, 27]⟩, .string ⟨#[226, 130]⟩, .string ⟨#[240]⟩] 9 rfl w1.heap.size rfl)
 have HPK := zz (Zq6 b a c xs (K + 9) (some ⟨w1.heap.size, 0, none⟩) 10 parL (w1.alloc (.cells #[.string ⟨#[]⟩, .string ⟨#[27]⟩, .string ⟨#[27, 91]⟩, .string ⟨#[27, 91, 49, 59, 50]⟩, .string ⟨#[27, 91, 63]⟩, .string ⟨#[27, 91, 36]⟩, .string ⟨#[27, 93, 116, 105]⟩, .string ⟨#[27, 93, 116, 105, 27]⟩, .string ⟨#[226, 130]⟩, .string ⟨#[240]⟩] 9)) (hsrc.below (bA)) (by omega) HL.out (fun b' o h => by cases h; omega) (by decide) (by decide))
 have r1_0 : w1.cell? ⟨w.heap.size, 0, none⟩ = some (.int .i64 0) := (hm.cell (p := ⟨w.heap.size, 0, none⟩) (by show w.heap.size < _; simp) (.inr (by show b + 1 ≤ w.heap.size; omega))).trans (by simp [go_sem])
 have r1_1 : w1.cell? ⟨w.heap.size, 1, none⟩ = some (.slice none 0 0) := (hm.cell (p := ⟨w.heap.size, 1, none⟩) (by show w.heap.size < _; simp) (.inr (by show b + 1 ≤ w.heap.size; omega))).trans (by simp [go_sem])
 have r1_2 : w1.cell? ⟨w.heap.size, 2, none⟩ = some (.bool false) := (hm.cell (p := ⟨w.heap.size, 2, none⟩) (by show w.heap.size < _; simp) (.inr (by show b + 1 ≤ w.heap.size; omega))).trans (by simp [go_sem])
 have r1_3 : w1.cell? ⟨w.heap.size, 3, none⟩ = some (.string ⟨#[]⟩) := (hm.cell (p := ⟨w.heap.size, 3, none⟩) (by show w.heap.size < _; simp) (.inr (by show b + 1 ≤ w.heap.size; omega))).trans (by simp [go_sem])
 have r1_4 : w1.cell? ⟨w.heap.size, 4, none⟩ = some (.string ⟨#[]⟩) := (hm.cell (p := ⟨w.heap.size, 4, none⟩) (by show w.heap.size < _; simp) (.inr (by show b + 1 ≤ w.heap.size; omega))).trans (by simp [go_sem])
 have rf1 : ∀ o, w1.frozen? ⟨w.heap.size, o, none⟩ = false := fun o => (hm.frozen (p := ⟨w.heap.size, o, none⟩) (by show w.heap.size < _; simp) (.inr (by show b + 1 ≤ w.heap.size; omega))).trans (by simp [go_sem])
 clear hsrc hm
 go_wp2_with fail
 refine HPK.out.mono ?_
 clear HPK
 rintro e w2 ⟨s2, hin, rfl, _, hm2⟩
 have hs2 := Yc2 s2 hin
 have hsz : (s1 ++ s2).size = s1.size + s2.size := ByteArray.size_append
 obtain ⟨s, hs⟩ := eX (s1 ++ s2)
 have hsl : s.size ≤ 205 := by rw [← hs]; omega
 have HM2 : Hid (Mid b (b + 1) w w2) := zz ((((Mid.of_below _ _ ((Below.refl w.heap.size w).alloc (Nat.le_refl _) _)).trans HM.out).trans (Mid.of_below _ _ ((Below.refl w1.heap.size w1).alloc (Nat.le_refl _) _))).trans hm2)
 have HSE := zz hs
 have hz2 := hm2.size
 simp only [World.size_alloc] at hz2
 have q1_0 : w2.cell? ⟨w.heap.size, 0, none⟩ = some (.int .i64 0) := (hm2.cell (p := ⟨w.heap.size, 0, none⟩) (by show w.heap.size < _; simp; omega) (.inr (by show b + 1 ≤ w.heap.size; omega))).trans ((World.cell?_alloc_lt _ _ _ (by show w.heap.size < _; omega)).trans r1_0)
 have q1_1 : w2.cell? ⟨w.heap.size, 1, none⟩ = some (.slice none 0 0) := (hm2.cell (p := ⟨w.heap.size, 1, none⟩) (by show w.heap.size < _; simp; omega) (.inr (by show b + 1 ≤ w.heap.size; omega))).trans ((World.cell?_alloc_lt _ _ _ (by show w.heap.size < _; omega)).trans r1_1)
 have q1_2 : w2.cell? ⟨w.heap.size, 2, none⟩ = some (.bool false) := (hm2.cell (p := ⟨w.heap.size, 2, none⟩) (by show w.heap.size < _; simp; omega) (.inr (by show b + 1 ≤ w.heap.size; omega))).trans ((World.cell?_alloc_lt _ _ _ (by show w.heap.size < _; omega)).trans r1_2)
 have q1_3 : w2.cell? ⟨w.heap.size, 3, none⟩ = some (.string ⟨#[]⟩) := (hm2.cell (p := ⟨w.heap.size, 3, none⟩) (by show w.heap.size < _; simp; omega) (.inr (by show b + 1 ≤ w.heap.size; omega))).trans ((World.cell?_alloc_lt _ _ _ (by show w.heap.size < _; omega)).trans r1_3)
 have q1_4 : w2.cell? ⟨w.heap.size, 4, none⟩ = some (.string ⟨#[]⟩) := (hm2.cell (p := ⟨w.heap.size, 4, none⟩) (by show w.heap.size < _; simp; omega) (.inr (by show b + 1 ≤ w.heap.size; omega))).trans ((World.cell?_alloc_lt _ _ _ (by show w.heap.size < _; omega)).trans r1_4)
 have qf1 : ∀ o, w2.frozen? ⟨w.heap.size, o, none⟩ = false := fun o => (hm2.frozen (p := ⟨w.heap.size, o, none⟩) (by show w.heap.size < _; simp; omega) (.inr (by show b + 1 ≤ w.heap.size; omega))).trans (((Below.refl w1.heap.size w1).alloc (Nat.le_refl _) _).frozen (p := ⟨w.heap.size, o, none⟩) (by show w.heap.size < _; omega) |>.trans (rf1 o))
 have HRUN := zz (run_r (some ⟨w2.heap.size, 0, none⟩) 0 pz s (w2.alloc (.cells #[] 3)) (.inl rfl) (by omega) PvOK.z)
 have HPZ : Hid (PvOK (prun pz s.data.toList).1) := zz (Ze9 _ PvOK.z)
 clear hs hsz hm2 r1_0 r1_1 r1_2 r1_3 r1_4 rf1 hin
 go_wp2_with fail
 rw [HSE.out]
 refine HRUN.out.mono ?_
 clear HRUN
 rintro e w3 ⟨ap, cp, al, cl, L, rfl, hf, _, _, _, hb⟩
 obtain ⟨R, hR⟩ := eX (prun pz s.data.toList)
 rw [hR] at HPZ hf ⊢
 clear hR
 have HF := zz hf
 have HB := zz hb
 have hz3 := hb.size
 simp only [World.size_alloc] at hz3
 have ul : w.heap.size < w3.heap.size := by omega
 have u0 : w3.cell? ⟨w.heap.size, 0, none⟩ = some (.int .i64 0) := (hb.cell (p := ⟨w.heap.size, 0, none⟩) (by show w.heap.size < _; simp; omega)).trans ((World.cell?_alloc_lt _ _ _ (by show w.heap.size < _; omega)).trans q1_0)
 have u1 : w3.cell? ⟨w.heap.size, 1, none⟩ = some (.slice none 0 0) := (hb.cell (p := ⟨w.heap.size, 1, none⟩) (by show w.heap.size < _; simp; omega)).trans ((World.cell?_alloc_lt _ _ _ (by show w.heap.size < _; omega)).trans q1_1)
 have u2 : w3.cell? ⟨w.heap.size, 2, none⟩ = some (.bool false) := (hb.cell (p := ⟨w.heap.size, 2, none⟩) (by show w.heap.size < _; simp; omega)).trans ((World.cell?_alloc_lt _ _ _ (by show w.heap.size < _; omega)).trans q1_2)
 have u3 : w3.cell? ⟨w.heap.size, 3, none⟩ = some (.string ⟨#[]⟩) := (hb.cell (p := ⟨w.heap.size, 3, none⟩) (by show w.heap.size < _; simp; omega)).trans ((World.cell?_alloc_lt _ _ _ (by show w.heap.size < _; omega)).trans q1_3)
 have u4 : w3.cell? ⟨w.heap.size, 4, none⟩ = some (.string ⟨#[]⟩) := (hb.cell (p := ⟨w.heap.size, 4, none⟩) (by show w.heap.size < _; simp; omega)).trans ((World.cell?_alloc_lt _ _ _ (by show w.heap.size < _; omega)).trans q1_4)
 have uf : ∀ o, w3.frozen? ⟨w.heap.size, o, none⟩ = false := fun o => (hb.frozen (p := ⟨w.heap.size, o, none⟩) (by show w.heap.size < _; simp; omega)).trans (((Below.refl w2.heap.size w2).alloc (Nat.le_refl _) _).frozen (p := ⟨w.heap.size, o, none⟩) (by show w.heap.size < _; omega) |>.trans (qf1 o))
 clear hf hb q1_0 q1_1 q1_2 q1_3 q1_4 qf1
 go_wp2_with fail
 refine bodyPost_ret (v := .agg #[.int .i64 R.1.state, .slice ap R.1.args.length cp, .bool R.1.priv, .string R.1.text, .string R.1.utf]) (by simp [results, Tryz.results41, go_sem, u0, u1, u2, u3, u4, ul]) rfl ?_
 have hfin : ∀ wz, Ch (fun k => k = w.heap.size) w3 wz → ParD b w (.returned (.agg #[.int .i64 R.1.state, .slice ap R.1.args.length cp, .bool R.1.priv, .string R.1.text, .string R.1.utf])) wz := fun wz hc => by
  refine ⟨R.1, ap, cp, HPZ.out, rfl, ?_, ?_⟩
  ·have hfb := Fr.blks HF.out
   simp only [World.size_alloc] at hfb
   have h1 := HF.out.ch hc (fun k hk h => by have := (hfb k hk).1; omega)
   exact h1.mono (by simp only [World.size_alloc]; omega) (Nat.le_refl _)
  ·have hM := (HM2.out.trans (Mid.of_below b (b + 1) ((Below.refl w2.heap.size w2).alloc (Nat.le_refl _) _))).trans (Mid.of_below _ _ HB.out)
   exact ⟨hc.os.trans hM.os, hc.tape.trans hM.tape, hc.output.trans hM.output, Nat.le_trans hM.size hc.size, fun k hk hd => (hc.block k (by have := hM.size; omega) (by omega)).trans (hM.block k hk hd)⟩
 refine hfin _ ?_
 repeat (first | (with_reducible exact Ch.refl) | (with_reducible refine Ch.alloc ?_ _) | (with_reducible refine Ch.setB ?_ _ _))
theorem Yb5 (a : Option Addr) (c : Nat) (xs : List UInt8) (w : World) (ha : Sl yE 1 w a xs) (hl : xs.length ≤ 1048576) :
 Calls Tryz.prog 18 #[.slice a xs.length c] w fun e w' => (∃ s : ByteArray, e = .returned (.string s) ∧ 1 ≤ s.size ∧ s.size ≤ 200) ∧ Below w.heap.size w w' := by
 have HS := zz (Zg7 a c xs w ha (Nat.le_trans hl (by decide)))
 clear ha
 go_enter Tryz.func18, Tryz.ntmps18
 go_wp2_with fail
 refine HS.out.mono ?_
 rintro e w1 ⟨rfl, hs1, hb1⟩
 have HB1 := zz hb1
 have HO := zz (Zk7 w.heap.size a c xs 0 w1 hs1 (by omega))
 clear hs1 hb1
 go_wp2_with fail
 refine HO.out.mono ?_
 rintro e w2 ⟨s, ⟨hs1, hs⟩, rfl, _, hm⟩
 have HM := zz hm
 clear hm
 go_wp2_with fail
 go_ret
 exact ⟨⟨s, rfl, hs1, hs⟩, HB1.out.trans (HM.out.below (Nat.le_refl _) HB1.out.size)⟩
def ParO (w : World) (e : Ending) (w' : World) : Prop :=
 ∃ (p : PV) (a : Option Addr) (c : Nat), PvOK p ∧ e = .returned (.agg #[.int .i64 p.state, .slice a p.args.length c, .bool p.priv, .string p.text, .string p.utf]) ∧ Fr iE 3 1 w.heap.size w'.heap.size (.slice a p.args.length c) p.args w' ∧ Below w.heap.size w w'
theorem Ya7 (a : Option Addr) (c : Nat) (xs : List UInt8) (w : World) (ha : Sl yE 1 w a xs) (hl : xs.length ≤ 1048576) :
 Calls Tryz.prog 17 #[.slice a xs.length c] w (ParO w) := by
 have HS := zz (Zg7 a c xs (w.alloc (.cells #[.int .i64 0, .slice none 0 0, .bool false, .string ⟨#[]⟩, .string ⟨#[]⟩] 42)) (ha.alloc _) (Nat.le_trans hl (by decide)))
 clear ha
 go_enter Tryz.func17, Tryz.ntmps17
 go_wp2_with fail
 refine HS.out.mono ?_
 rintro e w1 ⟨rfl, hs1, hb1⟩
 have HB1 := zz hb1
 have hz1 := hb1.size
 simp only [World.size_alloc] at hz1 hs1
 have HP := zz (Zw3 (w.heap.size + 1) a c xs 0 w1 hs1 (by omega))
 have r1_0 : w1.cell? ⟨w.heap.size, 0, none⟩ = some (.int .i64 0) := kC hb1 (by simp) (by simp [go_sem])
 have r1_1 : w1.cell? ⟨w.heap.size, 1, none⟩ = some (.slice none 0 0) := kC hb1 (by simp) (by simp [go_sem])
 have r1_2 : w1.cell? ⟨w.heap.size, 2, none⟩ = some (.bool false) := kC hb1 (by simp) (by simp [go_sem])
 have r1_3 : w1.cell? ⟨w.heap.size, 3, none⟩ = some (.string ⟨#[]⟩) := kC hb1 (by simp) (by simp [go_sem])
 have r1_4 : w1.cell? ⟨w.heap.size, 4, none⟩ = some (.string ⟨#[]⟩) := kC hb1 (by simp) (by simp [go_sem])
 have rf1 : ∀ o, w1.frozen? ⟨w.heap.size, o, none⟩ = false := fun o => (hb1.frozen (p := ⟨w.heap.size, o, none⟩) (by show w.heap.size < _; simp)).trans (by simp [go_sem])
 clear hs1 hb1
 go_wp2_with fail
 refine HP.out.mono ?_
 rintro e w2 ⟨p, a2, c2, hok, rfl, hf, hm⟩
 have HOK := zz hok
 have HF := zz hf
 have HM := zz hm
 have hz2 := hm.size
 have ul : w.heap.size < w2.heap.size := by omega
 have u0 : w2.cell? ⟨w.heap.size, 0, none⟩ = some (.int .i64 0) := (hm.cell (p := ⟨w.heap.size, 0, none⟩) (by show w.heap.size < _; omega) (.inl (by show w.heap.size < _; omega))).trans r1_0
 have u1 : w2.cell? ⟨w.heap.size, 1, none⟩ = some (.slice none 0 0) := (hm.cell (p := ⟨w.heap.size, 1, none⟩) (by show w.heap.size < _; omega) (.inl (by show w.heap.size < _; omega))).trans r1_1
 have u2 : w2.cell? ⟨w.heap.size, 2, none⟩ = some (.bool false) := (hm.cell (p := ⟨w.heap.size, 2, none⟩) (by show w.heap.size < _; omega) (.inl (by show w.heap.size < _; omega))).trans r1_2
 have u3 : w2.cell? ⟨w.heap.size, 3, none⟩ = some (.string ⟨#[]⟩) := (hm.cell (p := ⟨w.heap.size, 3, none⟩) (by show w.heap.size < _; omega) (.inl (by show w.heap.size < _; omega))).trans r1_3
 have u4 : w2.cell? ⟨w.heap.size, 4, none⟩ = some (.string ⟨#[]⟩) := (hm.cell (p := ⟨w.heap.size, 4, none⟩) (by show w.heap.size < _; omega) (.inl (by show w.heap.size < _; omega))).trans r1_4
 have uf : ∀ o, w2.frozen? ⟨w.heap.size, o, none⟩ = false := fun o => (hm.frozen (p := ⟨w.heap.size, o, none⟩) (by show w.heap.size < _; omega) (.inl (by show w.heap.size < _; omega))).trans (rf1 o)
 clear hok hf hm
 go_wp2_with fail
 refine bodyPost_ret (v := .agg #[.int .i64 p.state, .slice a2 p.args.length c2, .bool p.priv, .string p.text, .string p.utf]) (by simp [results, Tryz.results17, go_sem, u0, u1, u2, u3, u4, ul]) rfl ?_
 have hfin : ∀ wz, Ch (fun k => k = w.heap.size) w2 wz → ParO w (.returned (.agg #[.int .i64 p.state, .slice a2 p.args.length c2, .bool p.priv, .string p.text, .string p.utf])) wz := fun wz hc => by
  refine ⟨p, a2, c2, HOK.out, rfl, ?_, ?_⟩
  ·have hfb := Fr.blks HF.out
   exact (HF.out.ch hc (fun k hk h => by have := (hfb k hk).1; omega)).mono (by omega) (Nat.le_refl _)
  ·exact (((Below.refl w.heap.size w).alloc (Nat.le_refl _) _).trans (HB1.out.mono (by simp)) |>.trans (HM.out.below (by omega) (by omega))).trans (hc.below (by omega) (fun k h => by omega))
 refine hfin _ ?_
 repeat (first | (with_reducible exact Ch.refl) | (with_reducible refine Ch.alloc ?_ _) | (with_reducible refine Ch.setB ?_ _ _))
end
section
def Yg4 (r : aA) : List Nat := bO r.aa
def Ye8 (B : Nat) (w : World) (r : aA) : Prop := Fr iE 3 1 B w.heap.size (.slice r.aa r.A.args.length r.ca) r.A.args w
end
section
structure OutG (lo hi : Nat) (xs : List Int) (ap : Option Addr) (cp : Nat) (al : Option Addr) (cl : Nat) (L : List aA) (w : World) : Prop where
 args : Fr iE 3 1 lo w.heap.size (.slice ap xs.length cp) xs w
 ro : ActO lo L al cl w
 nd : ∀ k ∈ bO ap, k ∉ acB al L
 up : ∀ k ∈ bO ap ++ acB al L, k < hi
 hw : hi ≤ w.heap.size
section
variable {lo hi l r cp cl : Nat} {xs : List Int} {ap al : Option Addr} {L : List aA} {w w' : World} {M : Nat → Prop}
theorem OutG.ch (h : OutG lo hi xs ap cp al cl L w) (hc : Ch M w w') (hM : ∀ k, lo ≤ k → k < hi → ¬ M k) : OutG lo hi xs ap cp al cl L w' :=
 ⟨h.args.ch hc (fun k hk => hM k (Fr.blks h.args k hk).1 (h.up k (by simp [hk]))), h.ro.ch actL hc (fun k hk => hM k (h.ro.bd actL k hk).1 (h.up k (by rw [List.mem_append]; exact .inr hk))), h.nd, h.up, Nat.le_trans h.hw hc.size⟩
theorem OutG.below (h : OutG lo hi xs ap cp al cl L w) (hb : Below w.heap.size w w') : OutG lo hi xs ap cp al cl L w' := h.ch (M := fun _ => False) (Ch.of_below hb) (fun _ _ _ h => h)
theorem OutG.alloc (h : OutG lo hi xs ap cp al cl L w) (o : Obj) : OutG lo hi xs ap cp al cl L (w.alloc o) := h.below (bA)
theorem OutG.drew (h : OutG lo hi xs ap cp al cl L w) : OutG lo hi xs ap cp al cl L w.drew := h.below ((Below.refl _ _).drew)
theorem OutG.sl (h : OutG lo hi xs ap cp al cl L w) : Sl iE 1 w ap xs := h.args.sl (fun _ => rfl)
theorem OutG.acts (h : OutG lo hi xs ap cp al cl L w) : ActS w al L := ⟨h.ro.row.sl (fun _ => rfl), fun r hr => Fr.sl (enc := iE) (fun _ => rfl) (h.ro.ow r hr)⟩
structure OutH (lo hi : Nat) (xs : List Int) (ap : Option Addr) (cp : Nat) (al : Option Addr) (L : List aA) (w : World) : Prop where
 args : Fr iE 3 1 lo w.heap.size (.slice ap xs.length cp) xs w
 rows : L = [] ∨ ∃ g, al = some ⟨g, 0, none⟩ ∧ RowsR actE 5 Ye8 Yg4 lo w g L
theorem OutH.below (h : OutH lo hi xs ap cp al L w) (hb : Below w.heap.size w w') : OutH lo hi xs ap cp al L w' :=
 ⟨h.args.ch (M := fun _ => False) (Ch.of_below hb) (fun _ _ h => h), h.rows.imp id (fun ⟨g, h1, h2⟩ => ⟨g, h1, h2.below hb (fun r hr => Fr.ch hr (M := fun _ => False) (Ch.of_below hb) (fun _ _ h => h))⟩)⟩
theorem OutH.alloc (h : OutH lo hi xs ap cp al L w) (o : Obj) : OutH lo hi xs ap cp al L (w.alloc o) := h.below (bA)
theorem OutH.drew (h : OutH lo hi xs ap cp al L w) : OutH lo hi xs ap cp al L w.drew := h.below ((Below.refl _ _).drew)
end
def SpP (b : Nat) (w : World) (xs : List Int) (ap al : Option Addr) (L : List aA) : Prop := ∃ w0 : World, w0.heap.size = b ∧ Sl iE 1 w0 ap xs ∧ ActS w0 al L ∧ Below b w0 w
section
variable {b l r : Nat} {w w' : World} {xs : List Int} {ap al : Option Addr} {L : List aA}
theorem SpP.start (h : Sl iE 1 w ap xs) (k : ActS w al L) : SpP w.heap.size w xs ap al L := ⟨w, rfl, h, k, Below.refl _ _⟩
theorem SpP.below (h : SpP b w xs ap al L) (hb : Below w.heap.size w w') : SpP b w' xs ap al L := by
 obtain ⟨w0, rfl, h1, h2, h3⟩ := h
 exact ⟨w0, rfl, h1, h2, h3.trans (hb.mono h3.size)⟩
theorem SpP.alloc (h : SpP b w xs ap al L) (o : Obj) : SpP b (w.alloc o) xs ap al L := h.below (bA)
theorem SpP.drew (h : SpP b w xs ap al L) : SpP b w.drew xs ap al L := h.below ((Below.refl _ _).drew)
theorem SpP.sl (h : SpP b w xs ap al L) : Sl iE 1 w ap xs := by
 obtain ⟨w0, rfl, h1, h2, h3⟩ := h
 exact h1.keep h3
theorem SpP.acts (h : SpP b w xs ap al L) : ActS w al L := by
 obtain ⟨w0, rfl, h1, h2, h3⟩ := h
 exact h2.keep h3
end
structure OutSz (R : (PV × List AV) × Int) : Prop where
 args : R.1.1.args.length ≤ 8
 acts : R.1.2.length ≤ 131072
 each : ∀ a ∈ R.1.2, a.args.length ≤ 8
theorem OutSz.ar {R : (PV × List AV) × Int} (h : OutSz R) {L : List aA} (hL : L.map (·.A) = R.1.2) : ∀ r ∈ L, r.A.args.length ≤ 1048576 := fun r hr => by
 have := h.each r.A (by rw [← hL]; exact List.mem_map_of_mem hr)
 omega
theorem OutSz.ln {R : (PV × List AV) × Int} (h : OutSz R) {L : List aA} (hL : L.map (·.A) = R.1.2) : L.length ≤ 1048576 := by
 have hl : L.length = R.1.2.length := by rw [← hL]; simp
 have := h.acts
 omega
end
section
theorem lawAt2_c (a : Option Addr) (ca : Nat) (xs : List UInt8) (i n : Nat) (w : World) (ha : Sl yE 1 w a xs) (la : xs.length ≤ 1048576) (hi : i ≤ 1000) (hn : n ≤ 1000000) (h2 : 2 ≤ n) :
 Calls Tryz.prog 7 #[.slice a xs.length ca, .int .i64 i, .int .i64 n] w fun e w' => (∃ m : Nat, e = .returned (.int .i64 m) ∧ m < n) ∧ Below w.heap.size w w' := by
 have HA := zz ha
 clear ha
 have h1' : (1 : Int) < (n : Int) := by omega
 have h0 : ¬ n = 0 := by omega
 by_cases hx : xs = []
 ·subst hx
  go_enter Tryz.func7, Tryz.ntmps7
  go_wp2_with fail
  go_ret
  exact ⟨⟨i * 7 % n, congrArg (fun z => Ending.returned (.int .i64 z)) (by simp), Nat.mod_lt _ (by omega)⟩, Below.refl _ _⟩
 ·have hl0 : 0 < xs.length := List.length_pos_iff.2 hx
  have g1 : decide ((xs.length : Int) = 0) = false := decide_eq_false (by omega)
  have g2 : ((xs.length : Int) == 0) = false := by simp; omega
  have g3 : ¬ xs.length = 0 := by omega
  have hp := Nat.mod_lt i hl0
  have hq := Nat.mod_lt (i + 1) hl0
  obtain ⟨b1, o1, rfl, hb1, hc⟩ := HA.out.at hl0
  have d1 := hc _ hp 0 (by omega)
  have d2 := hc _ hq 0 (by omega)
  simp only [yE, Nat.mul_one, Nat.add_zero, List.getElem?_cons_zero] at d1 d2
  have hn1 := xs[i % xs.length].toNat_lt
  have hn2 := xs[(i + 1) % xs.length].toNat_lt
  clear hc
  generalize xs[i % xs.length].toNat = n1 at *
  generalize xs[(i + 1) % xs.length].toNat = n2 at *
  have e1 : (i : Int) % (xs.length : Int) = ((i % xs.length : Nat) : Int) := by simp
  have e2 : ((i : Int) + 1) % (xs.length : Int) = (((i + 1) % xs.length : Nat) : Int) := by simp
  generalize hP : i % xs.length = p1 at *
  generalize hQ : (i + 1) % xs.length = p2 at *
  have k1 : (0 : Int) ≤ (p1 : Int) := by omega
  have k2 : (p1 : Int) < (xs.length : Int) := by omega
  have k3 : (0 : Int) ≤ (p2 : Int) := by omega
  have k4 : (p2 : Int) < (xs.length : Int) := by omega
  clear hP hQ
  go_enter Tryz.func7, Tryz.ntmps7
  go_wp2_with fail
  go_quiet (fail)
  go_wp2_with fail
  go_ret
  have hd : i / xs.length ≤ 1000 := Nat.le_trans (Nat.div_le_self _ _) hi
  have hdv : (i : Int) / (xs.length : Int) = ((i / xs.length : Nat) : Int) := by simp
  generalize i / xs.length = q at hd hdv
  refine ⟨⟨(n1 * 31 + n2 + q) % n, congrArg (fun z => Ending.returned (.int .i64 z)) ?_, Nat.mod_lt _ (by omega)⟩, Zd1 _ _ _⟩
  rw [hdv, IntWalk.wrap64_in (q : Int) ⟨by omega, by omega⟩, IntWalk.wrap64_in _ ⟨by omega, by omega⟩, Int.tmod_eq_emod_of_nonneg (by omega)]
  simp
end
section
theorem RO.pushL {R : Type} {enc : R → List Value} {T : TypeId} {sz : Nat} {own : Nat → World → R → Prop} {blk : R → List Nat} {lo : Nat} {L ys us : List R} {am am' : Option Addr} {cm cm' : Nat} {w w' : World} (hO : OwnL own blk) (h : RO enc T sz own blk lo L am cm w) (hx : ∀ x ∈ ys, own lo w x) (hn : (ys.flatMap blk).Nodup) (hd : ∀ k ∈ ys.flatMap blk, k ∉ roB blk am L)
 (hus : us = L ++ ys) (hf : Fr enc T sz lo w'.heap.size (.slice am' us.length cm') us w') (hc : Ch (· ∈ bO am) w w') (hk : ∀ k ∈ bO am', k ∈ bO am ∨ k = w.heap.size) : RO enc T sz own blk lo us am' cm' w' := by
 have hnd := h.nd
 simp only [roB, List.nodup_append] at hnd
 obtain ⟨n1, n2, n3⟩ := hnd
 have hyb : ∀ k ∈ ys.flatMap blk, k < w.heap.size := fun k hk => by
  obtain ⟨x, hx1, hx2⟩ := List.mem_flatMap.1 hk
  exact (hO.bd (hx x hx1) k hx2).2
 subst hus
 refine ⟨hf, fun r hr => ?_, ?_⟩
 ·rcases List.mem_append.1 hr with hr | hr
  ·exact hO.ch (h.ow r hr) hc (fun k hk1 hk2 => n3 k hk2 k (List.mem_flatMap.2 ⟨r, hr, hk1⟩) rfl)
  ·exact hO.ch (hx r hr) hc (fun k hk1 hk2 => hd k (List.mem_flatMap.2 ⟨r, hr, hk1⟩) (by simp [roB, hk2]))
 ·simp only [roB, List.flatMap_append, List.nodup_append]
  refine ⟨Zd3 _, ⟨n2, hn, fun k hk1 j hj e => ?_⟩, fun k hk1 j hj e => ?_⟩
  ·subst e
   exact hd k hj (by simp only [roB, List.mem_append]; exact .inr hk1)
  ·subst e
   have hlt : k < w.heap.size := by
    rcases List.mem_append.1 hj with h2 | h2
    ·obtain ⟨r, hr, hk3⟩ := List.mem_flatMap.1 h2
     exact (hO.bd (h.ow r hr) k hk3).2
    ·exact hyb k h2
   rcases hk k hk1 with h1 | h1
   ·rcases List.mem_append.1 hj with h2 | h2
    ·exact n3 k h1 k h2 rfl
    ·exact hd k h2 (by simp [roB, h1])
   ·omega
theorem pb_ok {p : PV} (h : PvOK p) (l : List UInt8) (hl : l.length ≤ 65536) : Zg3 p l = (prun p l, 0) := by
 unfold Zg3
 rw [if_neg (by omega), if_neg (by rw [Zx3.2 h]; simp)]
section
variable {X lo : Nat} {p : PV} {ap al al' : Option Addr} {cp cl cl' : Nat} {L ys us : List aA} {w w' : World}
theorem PS.put {P : PV} {a5 : Option Addr} {c5 lo' : Nat} (h : PS X lo P a5 c5 L al cl w) (p : PV) {a : Option Addr} {c : Nat} (hf : Fr iE 3 1 lo' w.heap.size (.slice a p.args.length c) p.args w) (hlo : lo ≤ lo') (hn : ∀ k ∈ bO a, k ≠ X ∧ k ∉ acB al L) :
 PS X lo p a c L al cl (((((w.setCell ⟨X, 0, none⟩ (.int .i64 p.state)).setCell ⟨X, 1, none⟩ (.slice a p.args.length c)).setCell ⟨X, 2, none⟩ (.bool p.priv)).setCell ⟨X, 3, none⟩ (.string p.text)).setCell ⟨X, 4, none⟩ (.string p.utf)) := by
 have hc : Ch (fun k => k = X) w (((((w.setCell ⟨X, 0, none⟩ (.int .i64 p.state)).setCell ⟨X, 1, none⟩ (.slice a p.args.length c)).setCell ⟨X, 2, none⟩ (.bool p.priv)).setCell ⟨X, 3, none⟩ (.string p.text)).setCell ⟨X, 4, none⟩ (.string p.utf)) := ((((Ch.set1 _ _ _ _).setB _ _).setB _ _).setB _ _).setB _ _
 have k0 := h.c0
 have k1 := h.c1
 have k2 := h.c2
 have k3 := h.c3
 have k4 := h.c4
 have kf := h.fz
 have kl := h.lt
 refine ⟨?_, ?_, ?_, ?_, ?_, fun o => by simp [go_sem, kf], Nat.lt_of_lt_of_le kl hc.size, (hf.ch hc (fun k hk e => (hn k hk).1 e)).mono hlo (Nat.le_refl _), h.ro.ch actL hc (fun k hk e => h.nB (by rw [List.mem_append]; exact .inr (e ▸ hk))), fun hb => ?_, fun k hk => (hn k hk).2⟩
 all_goals try (simp [go_sem, k0, k1, k2, k3, k4, kl]; done)
 rcases List.mem_append.1 hb with hb | hb
 ·exact (hn X hb).1 rfl
 ·exact h.nB (by rw [List.mem_append]; exact .inr hb)
theorem PS.app (h : PS X lo p ap cp L al cl w) (hx : ∀ x ∈ ys, Zf3 lo w x) (hn : (ys.flatMap Zb8).Nodup) (hd : ∀ k ∈ ys.flatMap Zb8, k ≠ X ∧ k ∉ bO ap ∧ k ∉ acB al L) (hus : us = L ++ ys) (hf : Fr actE 38 5 lo w'.heap.size (.slice al' us.length cl') us w') (hc : Ch (· ∈ bO al) w w')
 (hk : ∀ k ∈ bO al', k ∈ bO al ∨ k = w.heap.size) : PS X lo p ap cp us al' cl' w' ∧ ∀ k ∈ acB al' us, k ∈ acB al L ∨ k ∈ ys.flatMap Zb8 ∨ k = w.heap.size := by
 have hB : X ∉ bO al := fun hb => h.nB (by simp [roB, hb])
 have hA : ∀ k ∈ bO ap, k ∉ bO al := fun k hk1 hk2 => h.nd k hk1 (by simp [roB, hk2])
 have hro : ActO lo us al' cl' w' := h.ro.pushL actL hx hn (fun k hk1 => (hd k hk1).2.2) hus hf hc hk
 have hin : ∀ k ∈ acB al' us, k ∈ acB al L ∨ k ∈ ys.flatMap Zb8 ∨ k = w.heap.size := by
  intro k hk1
  simp only [roB, List.mem_append] at hk1 ⊢
  rcases hk1 with hk1 | hk1
  ·rcases hk k hk1 with h2 | h2
   ·exact .inl (.inl h2)
   ·exact .inr (.inr h2)
  ·rw [hus] at hk1
   simp only [List.flatMap_append, List.mem_append] at hk1
   rcases hk1 with hk1 | hk1
   ·exact .inl (.inr hk1)
   ·exact .inr (.inl hk1)
 refine ⟨⟨(hc.cell (p := ⟨X, 0, none⟩) h.lt hB).trans h.c0, (hc.cell (p := ⟨X, 1, none⟩) h.lt hB).trans h.c1, (hc.cell (p := ⟨X, 2, none⟩) h.lt hB).trans h.c2, (hc.cell (p := ⟨X, 3, none⟩) h.lt hB).trans h.c3, (hc.cell (p := ⟨X, 4, none⟩) h.lt hB).trans h.c4, fun o => (hc.frozen (p := ⟨X, o, none⟩) h.lt hB).trans (h.fz o), Nat.lt_of_lt_of_le h.lt hc.size, h.args.ch hc hA, hro, fun hb => ?_, fun k hk1 hk2 => ?_⟩, hin⟩
 ·rcases List.mem_append.1 hb with hb | hb
  ·exact h.nB (by simp [hb])
  ·rcases hin X hb with h2 | h2 | h2
   ·exact h.nB (List.mem_append.2 (.inr h2))
   ·exact (hd X h2).1 rfl
   ·have := h.lt; omega
 ·rcases hin k hk2 with h2 | h2 | h2
  ·exact h.nd k hk1 h2
  ·exact (hd k h2).2.1 hk1
  ·have := (Fr.blks h.args k hk1).2; omega
end
theorem ActS.ch {w w' : World} {a : Option Addr} {L : List aA} {M : Nat → Prop} (h : ActS w a L) (hc : Ch M w w') (hd : ∀ k ∈ acB a L, ¬ M k) : ActS w' a L :=
 ⟨Sl.ch h.1 hc (fun k hk => hd k (by simp [roB, hk])), fun r hr => Sl.ch (h.2 r hr) hc (fun k hk => hd k (by simp only [roB, List.mem_append, List.mem_flatMap]; exact .inr ⟨r, hr, hk⟩))⟩
def FzA (X : Nat) (w : World) : Prop := X < w.heap.size ∧ ∀ o, w.frozen? ⟨X, o, none⟩ = false
theorem FzA.below {X : Nat} {w w' : World} (h : FzA X w) (hb : Below w.heap.size w w') : FzA X w' := ⟨Nat.lt_of_lt_of_le h.1 hb.size, fun o => (hb.frozen (p := ⟨X, o, none⟩) h.1).trans (h.2 o)⟩
theorem FzA.alloc {X : Nat} {w : World} (h : FzA X w) (o : Obj) : FzA X (w.alloc o) := h.below (bA)
theorem Zj6 {p : PV} (h : PvOK p) : PvSz p 1048576 := by
 refine ⟨by have := h.len; omega, by have := h.tit.1; omega, ?_⟩
 by_cases h6 : p.state = 6
 ·have := h.ut h6
  simp only [begB, Bool.and_eq_true, decide_eq_true_eq] at this
  have h2 : uL (p.utf.data.toList.headD 0).toNat ≤ 4 := by unfold uL; (repeat' split) <;> omega
  have h3 : p.utf.data.toList.length = p.utf.size := rfl
  omega
 ·rw [h.nout h6]; decide
theorem Sl.takeK {α : Type} {enc : α → List Value} {sz : Nat} {w : World} {a : Option Addr} {xs : List α} (h : Sl enc sz w a xs) (k : Nat) : Sl enc sz w a (xs.take k) := by
 rcases h with rfl | ⟨b, off, he, hlt, hc⟩
 ·exact .inl (by simp)
 ·refine .inr ⟨b, off, he, hlt, fun i hi j hj => ?_⟩
  have hi' : i < xs.length := by rw [List.length_take] at hi; omega
  have h2 := hc i hi' j (by simpa using hj)
  simpa using h2
theorem Sl.dropK {α : Type} {enc : α → List Value} {sz : Nat} {w : World} {b : Nat} {xs : List α} (h : Sl enc sz w (some ⟨b, 0, none⟩) xs) (k : Nat) : Sl enc sz w (some ⟨b, k * sz, none⟩) (xs.drop k) := by
 rcases h with rfl | ⟨b', off, he, hlt, hc⟩
 ·exact .inl (by simp)
 ·cases he
  refine .inr ⟨b, k * sz, rfl, hlt, fun i hi j hj => ?_⟩
  have hi' : k + i < xs.length := by rw [List.length_drop] at hi; omega
  have h2 := hc (k + i) hi' j (by simpa using hj)
  rw [Nat.add_mul, ← Nat.add_assoc, Nat.zero_add] at h2
  simpa using h2
def ByA (g : Nat) (l : List UInt8) (w : World) : Prop := Sl yE 1 w (some ⟨g, 0, none⟩) l
theorem ByA.below {g : Nat} {l : List UInt8} {w w' : World} (h : ByA g l w) (hb : Below w.heap.size w w') : ByA g l w' := Sl.keep h hb
theorem ByA.alloc {g : Nat} {l : List UInt8} {w : World} (h : ByA g l w) (o : Obj) : ByA g l (w.alloc o) := h.below (bA)
theorem ByA.drew {g : Nat} {l : List UInt8} {w : World} (h : ByA g l w) : ByA g l w.drew := h.below ((Below.refl _ _).drew)
theorem ByA.ch {g : Nat} {l : List UInt8} {w w' : World} {M : Nat → Prop} (h : ByA g l w) (hc : Ch M w w') (hg : ¬ M g) : ByA g l w' := Sl.ch h hc (fun k hk => by simp [bO] at hk; subst hk; exact hg)
theorem ByA.sl {g : Nat} {l : List UInt8} {w : World} (h : ByA g l w) : Sl yE 1 w (some ⟨g, 0, none⟩) l := h
end
section
def goodA (a : AV) : Prop := a.kind = 4 → a.n = 109 → ∀ x ∈ a.args, x = 0 ∨ x = 1 ∨ x = 31
def goodB (a : AV) : Bool := !(a.kind == 4) || !(a.n == 109) || a.args.all fun x => x == 0 || x == 1 || x == 31
def pzB (p : PV) : Bool := p.state == 0 && p.args.isEmpty && !p.priv && p.text.size == 0 && p.utf.size == 0
theorem Yb6 {a : AV} (h : goodB a = true) : goodA a := by
 intro hk hn x hx
 simp only [goodB, hk, hn, beq_self_eq_true, Bool.not_true, Bool.false_or, List.all_eq_true, Bool.or_eq_true, beq_iff_eq] at h
 rcases h x hx with (h | h) | h
 ·exact .inl h
 ·exact .inr (.inl h)
 ·exact .inr (.inr h)
theorem pzB_spec {p : PV} (h : pzB p = true) : p = pz := by
 obtain ⟨st, ar, pv, tx, ut⟩ := p
 simp only [pzB, Bool.and_eq_true, beq_iff_eq, List.isEmpty_iff, Bool.not_eq_true'] at h
 obtain ⟨⟨⟨⟨rfl, rfl⟩, rfl⟩, h1⟩, h2⟩ := h
 rw [Zf0.1 h1, Zf0.1 h2]
 rfl
theorem outB : outL.all (fun t => pzB (prun pz t.data.toList).1 && (prun pz t.data.toList).2.all goodB) = true := by decide +kernel
theorem out_run {t : ByteArray} (h : t ∈ outL) : (prun pz t.data.toList).1 = pz ∧ ∀ a ∈ (prun pz t.data.toList).2, goodA a := by
 have h1 := List.all_eq_true.1 outB t h
 simp only [Bool.and_eq_true, List.all_eq_true] at h1
 exact ⟨pzB_spec h1.1, fun a ha => Yb6 (h1.2 a ha)⟩
theorem Ya0 {s : ByteArray} (h : OutC s) : (prun pz s.data.toList).1 = pz ∧ ∀ a ∈ (prun pz s.data.toList).2, goodA a := by
 obtain ⟨L, h1, h2⟩ := h
 rw [h2]
 clear h2
 induction L with
 | nil => exact ⟨rfl, fun a ha => by cases ha⟩
 | cons t L ih =>
   have h3 := out_run (h1 t (by simp))
   have h4 := ih (fun u hu => h1 u (by simp [hu]))
   rw [List.flatMap_cons, Zd8, h3.1]
   refine ⟨h4.1, fun a ha => ?_⟩
   rcases List.mem_append.1 ha with ha | ha
   ·exact h3.2 a ha
   ·exact h4.2 a ha
theorem Yd9 : ∀ l : Fin 128, l.val &&& 48 = 0 → lookN l.val 0 &&& 48 = 0 ∧ lookN l.val 1 &&& 48 = 0 ∧ lookN l.val 31 &&& 48 = 0 := by decide +kernel
theorem Yb9 {l : Nat} (h : l ≤ 127) (h0 : l &&& 48 = 0) {x : Int} (hx : x = 0 ∨ x = 1 ∨ x = 31) : lookN l x &&& 48 = 0 := by
 have h1 := Yd9 ⟨l, by omega⟩ h0
 rcases hx with rfl | rfl | rfl
 ·exact h1.1
 ·exact h1.2.1
 ·exact h1.2.2
theorem Ya8 {l : Nat} (h : l ≤ 127) (h0 : l &&& 48 = 0) : ∀ xs : List Int, (∀ x ∈ xs, x = 0 ∨ x = 1 ∨ x = 31) → xs.foldl lookN l &&& 48 = 0 := by
 intro xs
 induction xs generalizing l with
 | nil => intro _; exact h0
 | cons x xs ih =>
   intro hx
   rw [List.foldl_cons]
   exact ih (Zz4 h x) (Yb9 h h0 (hx x (by simp))) (fun y hy => hx y (by simp [hy]))
theorem Zx1 (s : Scr) (n : Int) : (Zh5 s n).look = s.look := by
 unfold Zh5 putS wrapS
 simp only
 split
 ·exact (Zg0 _).2.2.2
 ·rfl
theorem upS_look (s : Scr) : (upS s).look = s.look := by unfold upS; split <;> rfl
theorem Yh6 (s : Scr) (n : Int) : (ctlS s n).look = s.look := by
 unfold ctlS
 repeat' split
 all_goals first | rfl | exact (Zg0 _).2.2.2
theorem Yg1 (s : Scr) (n : Int) : (escS s n).look = s.look ∨ (escS s n).look = 0 := by
 unfold escS
 repeat' split
 all_goals first | exact .inl rfl | exact .inr rfl | exact .inl (Zg0 _).2.2.2 | exact .inl (upS_look _)
theorem Zu5 (s : Scr) (n : Int) (f t : Nat) : (eraS s n f t).look = s.look := by
 unfold eraS
 split
 ·rfl
 split
 ·rfl
 split <;> rfl
theorem Yf2 (s : Scr) (c : Int) (xs : List Int) (h : ¬ c = 109) : (csiS s c xs).look = s.look := by
 have hU := fun k a b n => (Zd2 k a b s n).2.2.2.2.1
 have hD := fun a b n => (Zc2 a b s n).2.2.2.2.1
 unfold csiS
 refine iO (P := fun t : Scr => t.look = s.look) (fun _ => rfl) (fun _ => ?_)
 refine iO (P := fun t : Scr => t.look = s.look) (fun _ => rfl) (fun _ => ?_)
 refine iO (P := fun t : Scr => t.look = s.look) (fun _ => rfl) (fun _ => ?_)
 refine iO (P := fun t : Scr => t.look = s.look) (fun _ => rfl) (fun _ => ?_)
 refine iO (P := fun t : Scr => t.look = s.look) (fun _ => rfl) (fun _ => ?_)
 refine iO (P := fun t : Scr => t.look = s.look) (fun _ => Zu5 _ _ _ _) (fun _ => ?_)
 refine iO (P := fun t : Scr => t.look = s.look) (fun _ => Zu5 _ _ _ _) (fun _ => ?_)
 refine iO (P := fun t : Scr => t.look = s.look) (fun _ => iO (P := fun t : Scr => t.look = s.look) (fun _ => hD _ _ _) (fun _ => rfl)) (fun _ => ?_)
 refine iO (P := fun t : Scr => t.look = s.look) (fun _ => iO (P := fun t : Scr => t.look = s.look) (fun _ => hU _ _ _ _) (fun _ => rfl)) (fun _ => ?_)
 refine iO (P := fun t : Scr => t.look = s.look) (fun _ => hU _ _ _ _) (fun _ => ?_)
 refine iO (P := fun t : Scr => t.look = s.look) (fun _ => hD _ _ _) (fun _ => ?_)
 refine iO (P := fun t : Scr => t.look = s.look) (fun h1 => absurd h1 h) (fun _ => ?_)
 refine iO (P := fun t : Scr => t.look = s.look) (fun _ => iO (P := fun t : Scr => t.look = s.look) (fun _ => rfl) (fun _ => rfl)) (fun _ => rfl)
theorem Yd4 {s : Scr} {a : AV} (ok : sK s) (hl : s.look &&& 48 = 0) (ha : goodA a) : (actS s a).look &&& 48 = 0 := by
 obtain ⟨kd, n, pv, xs, tx⟩ := a
 unfold actS
 refine iO (P := fun t : Scr => t.look &&& 48 = 0) (fun _ => by rw [Zx1]; exact hl) (fun _ => ?_)
 refine iO (P := fun t : Scr => t.look &&& 48 = 0) (fun _ => by rw [Yh6]; exact hl) (fun _ => ?_)
 refine iO (P := fun t : Scr => t.look &&& 48 = 0) (fun _ => by rcases Yg1 s n with h | h <;> rw [h] <;> first | exact hl | rfl) (fun _ => ?_)
 refine iO (P := fun t : Scr => t.look &&& 48 = 0) (fun hk => ?_) (fun _ => ?_)
 ·refine iO (P := fun t : Scr => t.look &&& 48 = 0) (fun _ => hl) (fun hp => ?_)
  by_cases h9 : n = 109
  ·subst h9
   exact Ya8 ok.lk hl xs (ha hk rfl)
  ·rw [Yf2 s n xs h9]
   exact hl
 ·exact iO (P := fun t : Scr => t.look &&& 48 = 0) (fun _ => hl) (fun _ => hl)
theorem Yb0 {s : Scr} (ok : sK s) (hl : s.look &&& 48 = 0) : ∀ {l : List AV}, (∀ a ∈ l, AcOK a) → (∀ a ∈ l, goodA a) → (actsS s l).look &&& 48 = 0 := by
 intro l
 induction l generalizing s with
 | nil => intro _ _; exact hl
 | cons a l ih =>
   intro h1 h2
   exact ih (ok.act (h1 a (by simp))) (Yd4 ok hl (h2 a (by simp))) (fun b hb => h1 b (by simp [hb])) (fun b hb => h2 b (by simp [hb]))
end
section
def FeedR (s : Scr) (p : PV) (w : World) (e : Ending) (w' : World) : Prop :=
 ∃ ac cc ah dh ap cp, e = .returned (.tuple #[scrV s ac cc ah dh, .agg #[.int .i64 p.state, .slice ap p.args.length cp, .bool p.priv, .string p.text, .string p.utf]]) ∧ sF w.heap.size s ac cc ah dh w' ∧ Fr iE 3 1 w.heap.size w'.heap.size (.slice ap p.args.length cp) p.args w' ∧ (∀ k ∈ bO ap, k ∉ bO ac ∧ k ∉ bO ah) ∧ Below w.heap.size w w'
theorem Yh7 (s : Scr) (ac : Option Addr) (cc : Nat) (ah : Option Addr) (dh : Nat) (p : PV) (ap : Option Addr) (cp : Nat) (t : ByteArray) (w : World) (hs : sS s ac ah w) (ok : sK s) (hp : PvOK p) (ha : Sl iE 1 w ap p.args) (ht : t.size ≤ 131072) :
 Calls Tryz.prog 51 #[.agg #[.int .i64 s.w, .int .i64 s.h, .int .i64 s.x, .int .i64 s.y, .int .i64 s.look, .int .i64 s.top, .int .i64 s.bot, .int .i64 s.sx, .int .i64 s.sy, .string s.title, .slice ac s.cells.length cc, .slice ah s.hist.length dh], .agg #[.int .i64 p.state, .slice ap p.args.length cp, .bool p.priv, .string p.text, .string p.utf], .string t] w (FeedR (actsS s (prun p t.data.toList).2) (prun p t.data.toList).1 w) := by
 obtain ⟨W0, hW0⟩ : ∃ x, (((w.alloc (.cells #[.int .i64 s.w, .int .i64 s.h, .int .i64 s.x, .int .i64 s.y, .int .i64 s.look, .int .i64 s.top, .int .i64 s.bot, .int .i64 s.sx, .int .i64 s.sy, .string s.title, .slice ac s.cells.length cc, .slice ah s.hist.length dh] 26)).alloc (.cells #[.int .i64 p.state, .slice ap p.args.length cp, .bool p.priv, .string p.text, .string p.utf] 42)).alloc (.cells #[.int .i64 0, .int .i64 0, .int .i64 0, .int .i64 0, .int .i64 0, .int .i64 0, .int .i64 0, .int .i64 0, .int .i64 0, .string ⟨#[]⟩, .slice none 0 0, .slice none 0 0] 26)).alloc (.cells #[.int .i64 0, .slice none 0 0, .bool false, .string ⟨#[]⟩, .string ⟨#[]⟩] 42) = x := ⟨_, rfl⟩
 have HB0 : Hid (Below w.heap.size w W0) := zz (by rw [← hW0]; exact ((((Below.refl w.heap.size w).alloc (Nat.le_refl _) _).alloc (by simp) _).alloc (by simp; omega) _).alloc (by simp; omega) _)
 have hz0 : w.heap.size + 3 < W0.heap.size := by rw [← hW0]; simp
 have a_0 : W0.cell? ⟨w.heap.size, 0, none⟩ = some (.int .i64 s.w) := by rw [← hW0]; simp [go_sem]
 have a_1 : W0.cell? ⟨w.heap.size, 1, none⟩ = some (.int .i64 s.h) := by rw [← hW0]; simp [go_sem]
 have a_2 : W0.cell? ⟨w.heap.size, 2, none⟩ = some (.int .i64 s.x) := by rw [← hW0]; simp [go_sem]
 have a_3 : W0.cell? ⟨w.heap.size, 3, none⟩ = some (.int .i64 s.y) := by rw [← hW0]; simp [go_sem]
 have a_4 : W0.cell? ⟨w.heap.size, 4, none⟩ = some (.int .i64 s.look) := by rw [← hW0]; simp [go_sem]
 have a_5 : W0.cell? ⟨w.heap.size, 5, none⟩ = some (.int .i64 s.top) := by rw [← hW0]; simp [go_sem]
 have a_6 : W0.cell? ⟨w.heap.size, 6, none⟩ = some (.int .i64 s.bot) := by rw [← hW0]; simp [go_sem]
 have a_7 : W0.cell? ⟨w.heap.size, 7, none⟩ = some (.int .i64 s.sx) := by rw [← hW0]; simp [go_sem]
 have a_8 : W0.cell? ⟨w.heap.size, 8, none⟩ = some (.int .i64 s.sy) := by rw [← hW0]; simp [go_sem]
 have a_9 : W0.cell? ⟨w.heap.size, 9, none⟩ = some (.string s.title) := by rw [← hW0]; simp [go_sem]
 have a_10 : W0.cell? ⟨w.heap.size, 10, none⟩ = some (.slice ac s.cells.length cc) := by rw [← hW0]; simp [go_sem]
 have a_11 : W0.cell? ⟨w.heap.size, 11, none⟩ = some (.slice ah s.hist.length dh) := by rw [← hW0]; simp [go_sem]
 have b_0 : W0.cell? ⟨w.heap.size + 1, 0, none⟩ = some (.int .i64 p.state) := by rw [← hW0]; simp [go_sem]
 have b_1 : W0.cell? ⟨w.heap.size + 1, 1, none⟩ = some (.slice ap p.args.length cp) := by rw [← hW0]; simp [go_sem]
 have b_2 : W0.cell? ⟨w.heap.size + 1, 2, none⟩ = some (.bool p.priv) := by rw [← hW0]; simp [go_sem]
 have b_3 : W0.cell? ⟨w.heap.size + 1, 3, none⟩ = some (.string p.text) := by rw [← hW0]; simp [go_sem]
 have b_4 : W0.cell? ⟨w.heap.size + 1, 4, none⟩ = some (.string p.utf) := by rw [← hW0]; simp [go_sem]
 have c_0 : W0.cell? ⟨w.heap.size + 2, 0, none⟩ = some (.int .i64 0) := by rw [← hW0]; simp [go_sem]
 have c_1 : W0.cell? ⟨w.heap.size + 2, 1, none⟩ = some (.int .i64 0) := by rw [← hW0]; simp [go_sem]
 have c_2 : W0.cell? ⟨w.heap.size + 2, 2, none⟩ = some (.int .i64 0) := by rw [← hW0]; simp [go_sem]
 have c_3 : W0.cell? ⟨w.heap.size + 2, 3, none⟩ = some (.int .i64 0) := by rw [← hW0]; simp [go_sem]
 have c_4 : W0.cell? ⟨w.heap.size + 2, 4, none⟩ = some (.int .i64 0) := by rw [← hW0]; simp [go_sem]
 have c_5 : W0.cell? ⟨w.heap.size + 2, 5, none⟩ = some (.int .i64 0) := by rw [← hW0]; simp [go_sem]
 have c_6 : W0.cell? ⟨w.heap.size + 2, 6, none⟩ = some (.int .i64 0) := by rw [← hW0]; simp [go_sem]
 have c_7 : W0.cell? ⟨w.heap.size + 2, 7, none⟩ = some (.int .i64 0) := by rw [← hW0]; simp [go_sem]
 have c_8 : W0.cell? ⟨w.heap.size + 2, 8, none⟩ = some (.int .i64 0) := by rw [← hW0]; simp [go_sem]
 have c_9 : W0.cell? ⟨w.heap.size + 2, 9, none⟩ = some (.string ⟨#[]⟩) := by rw [← hW0]; simp [go_sem]
 have c_10 : W0.cell? ⟨w.heap.size + 2, 10, none⟩ = some (.slice none 0 0) := by rw [← hW0]; simp [go_sem]
 have c_11 : W0.cell? ⟨w.heap.size + 2, 11, none⟩ = some (.slice none 0 0) := by rw [← hW0]; simp [go_sem]
 have c_f : ∀ o, W0.frozen? ⟨w.heap.size + 2, o, none⟩ = false := fun o => by rw [← hW0]; simp [go_sem]
 have d_0 : W0.cell? ⟨w.heap.size + 3, 0, none⟩ = some (.int .i64 0) := by rw [← hW0]; simp [go_sem]
 have d_1 : W0.cell? ⟨w.heap.size + 3, 1, none⟩ = some (.slice none 0 0) := by rw [← hW0]; simp [go_sem]
 have d_2 : W0.cell? ⟨w.heap.size + 3, 2, none⟩ = some (.bool false) := by rw [← hW0]; simp [go_sem]
 have d_3 : W0.cell? ⟨w.heap.size + 3, 3, none⟩ = some (.string ⟨#[]⟩) := by rw [← hW0]; simp [go_sem]
 have d_4 : W0.cell? ⟨w.heap.size + 3, 4, none⟩ = some (.string ⟨#[]⟩) := by rw [← hW0]; simp [go_sem]
 have d_f : ∀ o, W0.frozen? ⟨w.heap.size + 3, o, none⟩ = false := fun o => by rw [← hW0]; simp [go_sem]
 have HS0 := zz (hs.below HB0.out)
 have HOK := zz ok
 have HP := zz hp
 have HA0 := zz (ha.keep HB0.out)
 have hcn : s.cells.length ≤ 240 := by rw [ok.cn]; exact Nat.mul_le_mul ok.w2 ok.h2
 have hhn := ok.hn
 have hc0 : 0 < s.cells.length := by rw [ok.cn]; exact Nat.mul_pos (by have := ok.w1; omega) (by have := ok.h1; omega)
 have HCN := zz hcn
 have HHN := zz hhn
 have HC0 := zz hc0
 clear hs ok hp ha hcn hhn hc0
 go_enter Tryz.func51, Tryz.ntmps51
 go_upto_region 1 with fail
 clear hW0
 go_wp2_with fail
 refine (run_r ap cp p t _ HA0.out ht HP.out).mono ?_
 rintro e w1 ⟨ap2, cp2, al2, cl2, L, rfl, hf, hro, hd, hL, hb⟩
 obtain ⟨q, hq⟩ : ∃ q, (prun p t.data.toList).1 = q := ⟨_, rfl⟩
 obtain ⟨acts, hacts⟩ : ∃ l, (prun p t.data.toList).2 = l := ⟨_, rfl⟩
 have hAC : ∀ r ∈ L, AcOK r.A := fun r hr => Zd4 t.data.toList HP.out r.A (by rw [← hL]; exact List.mem_map_of_mem hr)
 have hLn : L.length ≤ 300000 := by
  have h1 := Zv6 t.data.toList p
  have h2 := congrArg List.length hL
  have h3 : t.data.toList.length = t.size := rfl
  rw [List.length_map] at h2
  omega
 rw [hq] at hf
 rw [hacts] at hL
 rw [hq]
 have HQ := zz hq
 have HACTS := zz hacts
 have HB1 := zz hb
 have hz1 := hb.size
 have HF := zz hf
 have HRO := zz hro
 have HL := zz hL
 have HAC := zz hAC
 obtain ⟨W1, hW1⟩ := eX (w1.alloc (.cells #[.int .i64 q.state, .slice ap2 q.args.length cp2, .bool q.priv, .string q.text, .string q.utf] 42))
 have HBW1 : Hid (Below w1.heap.size w1 W1) := zz (by rw [← hW1]; exact bA)
 have hzW1 : w1.heap.size < W1.heap.size := by rw [← hW1]; simp
 have y_0 : W1.cell? ⟨w1.heap.size, 0, none⟩ = some (.int .i64 q.state) := by rw [← hW1]; simp [go_sem]
 have y_1 : W1.cell? ⟨w1.heap.size, 1, none⟩ = some (.slice ap2 q.args.length cp2) := by rw [← hW1]; simp [go_sem]
 have y_2 : W1.cell? ⟨w1.heap.size, 2, none⟩ = some (.bool q.priv) := by rw [← hW1]; simp [go_sem]
 have y_3 : W1.cell? ⟨w1.heap.size, 3, none⟩ = some (.string q.text) := by rw [← hW1]; simp [go_sem]
 have y_4 : W1.cell? ⟨w1.heap.size, 4, none⟩ = some (.string q.utf) := by rw [← hW1]; simp [go_sem]
 have HB01 : Hid (Below W0.heap.size W0 W1) := zz (HB1.out.trans (HBW1.out.mono hz1))
 have e_0 := kC HB01.out (by omega) a_0
 have e_1 := kC HB01.out (by omega) a_1
 have e_2 := kC HB01.out (by omega) a_2
 have e_3 := kC HB01.out (by omega) a_3
 have e_4 := kC HB01.out (by omega) a_4
 have e_5 := kC HB01.out (by omega) a_5
 have e_6 := kC HB01.out (by omega) a_6
 have e_7 := kC HB01.out (by omega) a_7
 have e_8 := kC HB01.out (by omega) a_8
 have e_9 := kC HB01.out (by omega) a_9
 have e_10 := kC HB01.out (by omega) a_10
 have e_11 := kC HB01.out (by omega) a_11
 have HS1 := zz (HS0.out.below HB01.out)
 clear hf hro hd hL hb hq hacts hAC
 go_upto_region 2 with fail
 clear hW1
 go_wp2_with fail
 refine (Zz1 s ac cc ah dh _ HS1.out HCN.out HHN.out).mono ?_
 rintro e w2 ⟨ac2, cc2, ah2, dh2, rfl, hF2, hb2⟩
 obtain ⟨g2, rfl⟩ := hF2.blk HC0.out
 have HF2 := zz hF2
 have HB2 := zz hb2
 have hz2 := hb2.size
 obtain ⟨lo, hlo⟩ := eX (W1.heap.size)
 unfold scrV
 obtain ⟨b, hb⟩ := eX (w2.heap.size)
 obtain ⟨W3, hW3⟩ := eX (w2.alloc (.cells #[.int .i64 s.w, .int .i64 s.h, .int .i64 s.x, .int .i64 s.y, .int .i64 s.look, .int .i64 s.top, .int .i64 s.bot, .int .i64 s.sx, .int .i64 s.sy, .string s.title, .slice (some ⟨g2, 0, none⟩) s.cells.length cc2, .slice ah2 s.hist.length dh2] 67))
 have HA3 : Hid (SA lo b 0 s g2 cc2 ah2 dh2 W3) := zz (by rw [← hW3, ← hb, ← hlo]; exact SA.box hF2 _)
 have HB23 : Hid (Below w2.heap.size w2 W3) := zz (by rw [← hW3]; exact bA)
 have HB3 : Hid (Below lo W1 W3) := zz (by rw [← hlo]; exact hb2.trans (HB23.out.mono hz2))
 have hlob : lo ≤ b := by omega
 have HLO := zz hlo
 have HBB := zz hb
 clear hF2 hb2 e_0 e_1 e_2 e_3 e_4 e_5 e_6 e_7 e_8 e_9 e_10 e_11
 go_upto_region 3 with fail
 clear hW3 hb
 go_wp2_with fail
 go_loopw [11] (fun iv wr => ∃ i : Nat, i ≤ L.length ∧ iv = .int .i64 i ∧ Hid (∃ g1 c1 a1 d1, SA lo b 0 (actsS s ((L.take i).map (·.A))) g1 c1 a1 d1 wr ∧ Below lo W1 wr)) (fun iv _ => L.length - (intOf iv).toNat)
 case atStart => exact ⟨0, Nat.zero_le _, rfl, zz ⟨g2, cc2, ah2, dh2, HA3.out, HB3.out⟩⟩
 case round =>
  obtain ⟨i, hi, rfl, HI⟩ := hrel
  obtain ⟨g1, c1, a1, d1, hax, hbx⟩ := HI.out
  obtain ⟨s1, hs1⟩ := eX (actsS s ((L.take i).map (·.A)))
  have hok1 : sK s1 := by
   rw [← hs1]
   exact HOK.out.acts (fun a ha => by
    obtain ⟨r, hr, rfl⟩ := List.mem_map.1 ha
    exact HAC.out r (List.mem_of_mem_take hr))
  rw [hs1] at hax
  have HX := zz hax
  have HBX := zz hbx
  have HOK1 := zz hok1
  have HS1' := zz hs1
  have hzr := hbx.size
  have hzl := HLO.out
  clear hax hbx hs1 hok1
  have HBW : Hid (Below W1.heap.size W1 wr) := zz (by rw [HLO.out]; exact HBX.out)
  have hw1r : w1.heap.size < wr.heap.size := by omega
  have HLr : Hid (Sl actE 5 wr al2 L ∧ ∀ r ∈ L, Sl iE 1 wr r.aa r.A.args ∧ ∀ k ∈ bO r.aa, k < lo) := zz ⟨((Fr.sl (enc := actE) (sz := 5) (fun _ => rfl) HRO.out.row).keep HBW1.out).keep HBW.out, fun r hr => ⟨((Fr.sl (enc := iE) (fun _ => rfl) (HRO.out.ow r hr)).keep HBW1.out).keep HBW.out, fun k hk => by have := (Fr.blks (HRO.out.ow r hr) k hk).2; omega⟩⟩
  by_cases hlt : i < L.length
  ·have hlt' : (i : Int) < (L.length : Int) := by omega
   obtain ⟨b1, o1, hae, hb1, hc1⟩ := HLr.out.1.at hlt
   subst hae
   obtain ⟨r, hr⟩ := eX (L[i])
   have hrm : r ∈ L := hr ▸ List.getElem_mem hlt
   have HRM := zz (HLr.out.2 r hrm)
   have HRA := zz (HAC.out r hrm)
   have r_0 : wr.cell? ⟨b1, o1 + i * 5, none⟩ = some (.int .i64 r.A.kind) := by have := hc1 i hlt 0 (by omega); rw [hr] at this; simpa [actE] using this
   have r_1 : wr.cell? ⟨b1, o1 + i * 5 + 1, none⟩ = some (.int .i64 r.A.n) := by have := hc1 i hlt 1 (by omega); rw [hr] at this; simpa [actE] using this
   have r_2 : wr.cell? ⟨b1, o1 + i * 5 + 2, none⟩ = some (.bool r.A.priv) := by have := hc1 i hlt 2 (by omega); rw [hr] at this; simpa [actE] using this
   have r_3 : wr.cell? ⟨b1, o1 + i * 5 + 3, none⟩ = some (.slice r.aa r.A.args.length r.ca) := by have := hc1 i hlt 3 (by omega); rw [hr] at this; simpa [actE] using this
   have r_4 : wr.cell? ⟨b1, o1 + i * 5 + 4, none⟩ = some (.string r.A.text) := by have := hc1 i hlt 4 (by omega); rw [hr] at this; simpa [actE] using this
   have HTK : Hid (actsS s ((L.take (i + 1)).map (·.A)) = actS s1 r.A) := zz (by
    rw [List.take_succ_eq_append_getElem hlt, hr, List.map_append, ← HS1'.out]
    unfold actsS
    rw [List.foldl_append]
    rfl)
   have hnaa : ∀ k ∈ bO r.aa, k ≠ b ∧ k ≠ g1 ∧ k ∉ bO a1 := fun k hk => by
    have h1 := HRM.out.2 k hk
    have h2 := HX.out.glt.1
    refine ⟨by omega, by omega, fun h => ?_⟩
    have := (HX.out.win.blk k h).1
    omega
   have HNAA := zz hnaa
   clear hc1 hr hrm hnaa
   go_wp2_with fail
   refine (do_c lo b s1 g1 c1 a1 d1 _ r.A r.aa r.ca HX.out HOK1.out (by omega) HRA.out HRM.out.1 HNAA.out).mono ?_
   rintro e x1 ⟨rfl, g3, c3, a3, d3, hx3, hu3, _⟩
   have HX3 := zz hx3
   have HB3' : Hid (Below lo W1 x1) := zz (HBX.out.trans (hu3.toBelow (by omega) hlob (fun k hk => by
    rcases hk with h | h
    ·rw [h]; exact HX.out.glt.1
    ·exact (HX.out.win.blk k h).1)))
   clear hx3 hu3
   go_wp2_with fail
   go_roundw
   case rel => exact ⟨i + 1, by omega, by go_num, zz ⟨g3, c3, a3, d3, by rw [HTK.out]; exact HX3.out, HB3'.out⟩⟩
   case measure => simp [intOf]; omega
  ·obtain rfl : i = L.length := by omega
   have HE : Hid (actsS s acts = s1) := zz (by rw [← HS1'.out, List.take_length, HL.out])
   go_upto_region 7 with fail
   have f_0 := kC HBW.out hzW1 y_0
   have f_1 := kC HBW.out hzW1 y_1
   have f_2 := kC HBW.out hzW1 y_2
   have f_3 := kC HBW.out hzW1 y_3
   have f_4 := kC HBW.out hzW1 y_4
   have hz02 : w.heap.size + 2 < W0.heap.size := by omega
   have u_0 : wr.cell? ⟨w.heap.size + 2, 0, none⟩ = some (.int .i64 0) := (HBW.out.cell (p := ⟨w.heap.size + 2, 0, none⟩) (by show w.heap.size + 2 < _; omega)).trans ((HB01.out.cell (p := ⟨w.heap.size + 2, 0, none⟩) hz02).trans c_0)
   have u_1 : wr.cell? ⟨w.heap.size + 2, 1, none⟩ = some (.int .i64 0) := (HBW.out.cell (p := ⟨w.heap.size + 2, 1, none⟩) (by show w.heap.size + 2 < _; omega)).trans ((HB01.out.cell (p := ⟨w.heap.size + 2, 1, none⟩) hz02).trans c_1)
   have u_2 : wr.cell? ⟨w.heap.size + 2, 2, none⟩ = some (.int .i64 0) := (HBW.out.cell (p := ⟨w.heap.size + 2, 2, none⟩) (by show w.heap.size + 2 < _; omega)).trans ((HB01.out.cell (p := ⟨w.heap.size + 2, 2, none⟩) hz02).trans c_2)
   have u_3 : wr.cell? ⟨w.heap.size + 2, 3, none⟩ = some (.int .i64 0) := (HBW.out.cell (p := ⟨w.heap.size + 2, 3, none⟩) (by show w.heap.size + 2 < _; omega)).trans ((HB01.out.cell (p := ⟨w.heap.size + 2, 3, none⟩) hz02).trans c_3)
   have u_4 : wr.cell? ⟨w.heap.size + 2, 4, none⟩ = some (.int .i64 0) := (HBW.out.cell (p := ⟨w.heap.size + 2, 4, none⟩) (by show w.heap.size + 2 < _; omega)).trans ((HB01.out.cell (p := ⟨w.heap.size + 2, 4, none⟩) hz02).trans c_4)
   have u_5 : wr.cell? ⟨w.heap.size + 2, 5, none⟩ = some (.int .i64 0) := (HBW.out.cell (p := ⟨w.heap.size + 2, 5, none⟩) (by show w.heap.size + 2 < _; omega)).trans ((HB01.out.cell (p := ⟨w.heap.size + 2, 5, none⟩) hz02).trans c_5)
   have u_6 : wr.cell? ⟨w.heap.size + 2, 6, none⟩ = some (.int .i64 0) := (HBW.out.cell (p := ⟨w.heap.size + 2, 6, none⟩) (by show w.heap.size + 2 < _; omega)).trans ((HB01.out.cell (p := ⟨w.heap.size + 2, 6, none⟩) hz02).trans c_6)
   have u_7 : wr.cell? ⟨w.heap.size + 2, 7, none⟩ = some (.int .i64 0) := (HBW.out.cell (p := ⟨w.heap.size + 2, 7, none⟩) (by show w.heap.size + 2 < _; omega)).trans ((HB01.out.cell (p := ⟨w.heap.size + 2, 7, none⟩) hz02).trans c_7)
   have u_8 : wr.cell? ⟨w.heap.size + 2, 8, none⟩ = some (.int .i64 0) := (HBW.out.cell (p := ⟨w.heap.size + 2, 8, none⟩) (by show w.heap.size + 2 < _; omega)).trans ((HB01.out.cell (p := ⟨w.heap.size + 2, 8, none⟩) hz02).trans c_8)
   have u_9 : wr.cell? ⟨w.heap.size + 2, 9, none⟩ = some (.string ⟨#[]⟩) := (HBW.out.cell (p := ⟨w.heap.size + 2, 9, none⟩) (by show w.heap.size + 2 < _; omega)).trans ((HB01.out.cell (p := ⟨w.heap.size + 2, 9, none⟩) hz02).trans c_9)
   have u_10 : wr.cell? ⟨w.heap.size + 2, 10, none⟩ = some (.slice none 0 0) := (HBW.out.cell (p := ⟨w.heap.size + 2, 10, none⟩) (by show w.heap.size + 2 < _; omega)).trans ((HB01.out.cell (p := ⟨w.heap.size + 2, 10, none⟩) hz02).trans c_10)
   have u_11 : wr.cell? ⟨w.heap.size + 2, 11, none⟩ = some (.slice none 0 0) := (HBW.out.cell (p := ⟨w.heap.size + 2, 11, none⟩) (by show w.heap.size + 2 < _; omega)).trans ((HB01.out.cell (p := ⟨w.heap.size + 2, 11, none⟩) hz02).trans c_11)
   have u_f : ∀ o, wr.frozen? ⟨w.heap.size + 2, o, none⟩ = false := fun o => (HBW.out.frozen (p := ⟨w.heap.size + 2, o, none⟩) (by show w.heap.size + 2 < _; omega)).trans ((HB01.out.frozen (p := ⟨w.heap.size + 2, o, none⟩) hz02).trans (c_f o))
   have v_0 : wr.cell? ⟨w.heap.size + 3, 0, none⟩ = some (.int .i64 0) := (HBW.out.cell (p := ⟨w.heap.size + 3, 0, none⟩) (by show w.heap.size + 3 < _; omega)).trans ((HB01.out.cell (p := ⟨w.heap.size + 3, 0, none⟩) hz0).trans d_0)
   have v_1 : wr.cell? ⟨w.heap.size + 3, 1, none⟩ = some (.slice none 0 0) := (HBW.out.cell (p := ⟨w.heap.size + 3, 1, none⟩) (by show w.heap.size + 3 < _; omega)).trans ((HB01.out.cell (p := ⟨w.heap.size + 3, 1, none⟩) hz0).trans d_1)
   have v_2 : wr.cell? ⟨w.heap.size + 3, 2, none⟩ = some (.bool false) := (HBW.out.cell (p := ⟨w.heap.size + 3, 2, none⟩) (by show w.heap.size + 3 < _; omega)).trans ((HB01.out.cell (p := ⟨w.heap.size + 3, 2, none⟩) hz0).trans d_2)
   have v_3 : wr.cell? ⟨w.heap.size + 3, 3, none⟩ = some (.string ⟨#[]⟩) := (HBW.out.cell (p := ⟨w.heap.size + 3, 3, none⟩) (by show w.heap.size + 3 < _; omega)).trans ((HB01.out.cell (p := ⟨w.heap.size + 3, 3, none⟩) hz0).trans d_3)
   have v_4 : wr.cell? ⟨w.heap.size + 3, 4, none⟩ = some (.string ⟨#[]⟩) := (HBW.out.cell (p := ⟨w.heap.size + 3, 4, none⟩) (by show w.heap.size + 3 < _; omega)).trans ((HB01.out.cell (p := ⟨w.heap.size + 3, 4, none⟩) hz0).trans d_4)
   have v_f : ∀ o, wr.frozen? ⟨w.heap.size + 3, o, none⟩ = false := fun o => (HBW.out.frozen (p := ⟨w.heap.size + 3, o, none⟩) (by show w.heap.size + 3 < _; omega)).trans ((HB01.out.frozen (p := ⟨w.heap.size + 3, o, none⟩) hz0).trans (d_f o))
   have k_0 := HX.out.e0
   have k_1 := HX.out.e1
   have k_2 := HX.out.e2
   have k_3 := HX.out.e3
   have k_4 := HX.out.e4
   have k_5 := HX.out.e5
   have k_6 := HX.out.e6
   have k_7 := HX.out.e7
   have k_8 := HX.out.e8
   have k_9 := HX.out.e9
   have k_10 := HX.out.e10
   have k_11 := HX.out.e11
   have k_f := HX.out.fz
   have k_l := HX.out.lt
   have hSc1 := And.intro k_0 (And.intro k_1 (And.intro k_2 (And.intro k_3 (And.intro k_4 (And.intro k_5 (And.intro k_6 (And.intro k_7 (And.intro k_8 (And.intro k_9 (And.intro k_10 (And.intro k_11 (And.intro f_0 (And.intro f_1 (And.intro f_2 (And.intro f_3 f_4)))))))))))))))
   refine rO (fun w' => w'.cell? ⟨b, 0, none⟩ = some (.int .i64 s1.w) ∧ w'.cell? ⟨b, 1, none⟩ = some (.int .i64 s1.h) ∧ w'.cell? ⟨b, 2, none⟩ = some (.int .i64 s1.x) ∧ w'.cell? ⟨b, 3, none⟩ = some (.int .i64 s1.y) ∧ w'.cell? ⟨b, 4, none⟩ = some (.int .i64 s1.look) ∧ w'.cell? ⟨b, 5, none⟩ = some (.int .i64 s1.top) ∧ w'.cell? ⟨b, 6, none⟩ = some (.int .i64 s1.bot) ∧ w'.cell? ⟨b, 7, none⟩ = some (.int .i64 s1.sx) ∧ w'.cell? ⟨b, 8, none⟩ = some (.int .i64 s1.sy) ∧ w'.cell? ⟨b, 9, none⟩ = some (.string s1.title) ∧ w'.cell? ⟨b, 10, none⟩ = some (.slice (some ⟨g1, 0, none⟩) s1.cells.length c1) ∧ w'.cell? ⟨b, 11, none⟩ = some (.slice a1 s1.hist.length d1) ∧ w'.cell? ⟨w1.heap.size, 0, none⟩ = some (.int .i64 q.state) ∧ w'.cell? ⟨w1.heap.size, 1, none⟩ = some (.slice ap2 q.args.length cp2) ∧ w'.cell? ⟨w1.heap.size, 2, none⟩ = some (.bool q.priv) ∧ w'.cell? ⟨w1.heap.size, 3, none⟩ = some (.string q.text) ∧ w'.cell? ⟨w1.heap.size, 4, none⟩ = some (.string q.utf)) [7] [0,1,2,3,5,4,6,7] ?_
   iterate 5 (first | refine oW (h := ?_) | refine oL (hS := hSc1) (h := ?_))
   refine oO (hS := .inr hSc1) (h := ?_)
   intro K' hK
   go_simp
   refine (Zz1 s1 (some ⟨g1, 0, none⟩) c1 a1 d1 _ HX.out.drew.rd (by rw [HOK1.out.cn]; exact Nat.mul_le_mul HOK1.out.w2 HOK1.out.h2) HOK1.out.hn).mono ?_
   rintro e x1 ⟨ac3, cc3, ah3, dh3, rfl, hF3, hb3⟩
   have HB3x : Hid (Below wr.heap.size wr x1) := zz (((Below.refl _ _).drew).trans hb3)
   have HF3 : Hid (sF wr.heap.size s1 ac3 cc3 ah3 dh3 x1) := zz hF3
   have hzx := HB3x.out.size
   have HX1 := zz (HX.out.below HB3x.out)
   clear hF3 hb3
   unfold scrV
   have hSx : x1.cell? ⟨b, 0, none⟩ = some (.int .i64 s1.w) ∧ x1.cell? ⟨b, 1, none⟩ = some (.int .i64 s1.h) ∧ x1.cell? ⟨b, 2, none⟩ = some (.int .i64 s1.x) ∧ x1.cell? ⟨b, 3, none⟩ = some (.int .i64 s1.y) ∧ x1.cell? ⟨b, 4, none⟩ = some (.int .i64 s1.look) ∧ x1.cell? ⟨b, 5, none⟩ = some (.int .i64 s1.top) ∧ x1.cell? ⟨b, 6, none⟩ = some (.int .i64 s1.bot) ∧ x1.cell? ⟨b, 7, none⟩ = some (.int .i64 s1.sx) ∧ x1.cell? ⟨b, 8, none⟩ = some (.int .i64 s1.sy) ∧ x1.cell? ⟨b, 9, none⟩ = some (.string s1.title) ∧ x1.cell? ⟨b, 10, none⟩ = some (.slice (some ⟨g1, 0, none⟩) s1.cells.length c1) ∧ x1.cell? ⟨b, 11, none⟩ = some (.slice a1 s1.hist.length d1) ∧ x1.cell? ⟨w1.heap.size, 0, none⟩ = some (.int .i64 q.state) ∧ x1.cell? ⟨w1.heap.size, 1, none⟩ = some (.slice ap2 q.args.length cp2) ∧ x1.cell? ⟨w1.heap.size, 2, none⟩ = some (.bool q.priv) ∧ x1.cell? ⟨w1.heap.size, 3, none⟩ = some (.string q.text) ∧ x1.cell? ⟨w1.heap.size, 4, none⟩ = some (.string q.utf) := ⟨HX1.out.c0, HX1.out.c1, HX1.out.c2, HX1.out.c3, HX1.out.c4, HX1.out.c5, HX1.out.c6, HX1.out.c7, HX1.out.c8, HX1.out.c9, HX1.out.c10, HX1.out.c11, (HB3x.out.cell (p := ⟨w1.heap.size, 0, none⟩) hw1r).trans f_0, (HB3x.out.cell (p := ⟨w1.heap.size, 1, none⟩) hw1r).trans f_1, (HB3x.out.cell (p := ⟨w1.heap.size, 2, none⟩) hw1r).trans f_2, (HB3x.out.cell (p := ⟨w1.heap.size, 3, none⟩) hw1r).trans f_3, (HB3x.out.cell (p := ⟨w1.heap.size, 4, none⟩) hw1r).trans f_4⟩
   have p6_0 := kC HB3x.out (by omega) u_0
   have p6_1 := kC HB3x.out (by omega) u_1
   have p6_2 := kC HB3x.out (by omega) u_2
   have p6_3 := kC HB3x.out (by omega) u_3
   have p6_4 := kC HB3x.out (by omega) u_4
   have p6_5 := kC HB3x.out (by omega) u_5
   have p6_6 := kC HB3x.out (by omega) u_6
   have p6_7 := kC HB3x.out (by omega) u_7
   have p6_8 := kC HB3x.out (by omega) u_8
   have p6_9 := kC HB3x.out (by omega) u_9
   have p6_10 := kC HB3x.out (by omega) u_10
   have p6_11 := kC HB3x.out (by omega) u_11
   have p6_f : ∀ o, x1.frozen? ⟨w.heap.size + 2, o, none⟩ = false := fun o => (HB3x.out.frozen (p := ⟨w.heap.size + 2, o, none⟩) (by show w.heap.size + 2 < _; omega)).trans (u_f o)
   have p7_0 := kC HB3x.out (by omega) v_0
   have p7_1 := kC HB3x.out (by omega) v_1
   have p7_2 := kC HB3x.out (by omega) v_2
   have p7_3 := kC HB3x.out (by omega) v_3
   have p7_4 := kC HB3x.out (by omega) v_4
   have p7_f : ∀ o, x1.frozen? ⟨w.heap.size + 3, o, none⟩ = false := fun o => (HB3x.out.frozen (p := ⟨w.heap.size + 3, o, none⟩) (by show w.heap.size + 3 < _; omega)).trans (v_f o)
   have p6_l : w.heap.size + 2 < x1.heap.size := by omega
   have p7_l : w.heap.size + 3 < x1.heap.size := by omega
   refine oN hK (hS := .inr hSx) (h := ?_)
   clear hK K'
   refine oO (hS := .inr hSx) (h := ?_)
   intro K' hK
   go_simp
   obtain ⟨x2, hx2⟩ : ∃ x, ((((((((((((x1.setCell ⟨w.heap.size + 1 + 1, 0, none⟩ (.int .i64 s1.w)).setCell ⟨w.heap.size + 1 + 1, 1, none⟩ (.int .i64 s1.h)).setCell ⟨w.heap.size + 1 + 1, 2, none⟩ (.int .i64 s1.x)).setCell ⟨w.heap.size + 1 + 1, 3, none⟩ (.int .i64 s1.y)).setCell ⟨w.heap.size + 1 + 1, 4, none⟩ (.int .i64 s1.look)).setCell ⟨w.heap.size + 1 + 1, 5, none⟩ (.int .i64 s1.top)).setCell ⟨w.heap.size + 1 + 1, 6, none⟩ (.int .i64 s1.bot)).setCell ⟨w.heap.size + 1 + 1, 7, none⟩ (.int .i64 s1.sx)).setCell ⟨w.heap.size + 1 + 1, 8, none⟩ (.int .i64 s1.sy)).setCell ⟨w.heap.size + 1 + 1, 9, none⟩ (.string s1.title)).setCell ⟨w.heap.size + 1 + 1, 10, none⟩ (.slice ac3 s1.cells.length cc3)).setCell ⟨w.heap.size + 1 + 1, 11, none⟩ (.slice ah3 s1.hist.length dh3)) = x := ⟨_, rfl⟩
   have HC2 : Hid (Ch (· = w.heap.size + 2) x1 x2) := zz (by rw [← hx2]; exact (((((((((((Ch.set1' _ _ 0 _).trans (Ch.set1' _ _ 1 _) (fun _ h => .inl h)).trans (Ch.set1' _ _ 2 _) (fun _ h => .inl h)).trans (Ch.set1' _ _ 3 _) (fun _ h => .inl h)).trans (Ch.set1' _ _ 4 _) (fun _ h => .inl h)).trans (Ch.set1' _ _ 5 _) (fun _ h => .inl h)).trans (Ch.set1' _ _ 6 _) (fun _ h => .inl h)).trans (Ch.set1' _ _ 7 _) (fun _ h => .inl h)).trans (Ch.set1' _ _ 8 _) (fun _ h => .inl h)).trans (Ch.set1' _ _ 9 _) (fun _ h => .inl h)).trans (Ch.set1' _ _ 10 _) (fun _ h => .inl h)).trans (Ch.set1' _ _ 11 _) (fun _ h => .inl h))
   have t_0 : x2.cell? ⟨w.heap.size + 2, 0, none⟩ = some (.int .i64 s1.w) := by rw [← hx2]; simp [go_sem, p6_0, p6_1, p6_2, p6_3, p6_4, p6_5, p6_6, p6_7, p6_8, p6_9, p6_10, p6_11, p6_l]
   have t_1 : x2.cell? ⟨w.heap.size + 2, 1, none⟩ = some (.int .i64 s1.h) := by rw [← hx2]; simp [go_sem, p6_0, p6_1, p6_2, p6_3, p6_4, p6_5, p6_6, p6_7, p6_8, p6_9, p6_10, p6_11, p6_l]
   have t_2 : x2.cell? ⟨w.heap.size + 2, 2, none⟩ = some (.int .i64 s1.x) := by rw [← hx2]; simp [go_sem, p6_0, p6_1, p6_2, p6_3, p6_4, p6_5, p6_6, p6_7, p6_8, p6_9, p6_10, p6_11, p6_l]
   have t_3 : x2.cell? ⟨w.heap.size + 2, 3, none⟩ = some (.int .i64 s1.y) := by rw [← hx2]; simp [go_sem, p6_0, p6_1, p6_2, p6_3, p6_4, p6_5, p6_6, p6_7, p6_8, p6_9, p6_10, p6_11, p6_l]
   have t_4 : x2.cell? ⟨w.heap.size + 2, 4, none⟩ = some (.int .i64 s1.look) := by rw [← hx2]; simp [go_sem, p6_0, p6_1, p6_2, p6_3, p6_4, p6_5, p6_6, p6_7, p6_8, p6_9, p6_10, p6_11, p6_l]
   have t_5 : x2.cell? ⟨w.heap.size + 2, 5, none⟩ = some (.int .i64 s1.top) := by rw [← hx2]; simp [go_sem, p6_0, p6_1, p6_2, p6_3, p6_4, p6_5, p6_6, p6_7, p6_8, p6_9, p6_10, p6_11, p6_l]
   have t_6 : x2.cell? ⟨w.heap.size + 2, 6, none⟩ = some (.int .i64 s1.bot) := by rw [← hx2]; simp [go_sem, p6_0, p6_1, p6_2, p6_3, p6_4, p6_5, p6_6, p6_7, p6_8, p6_9, p6_10, p6_11, p6_l]
   have t_7 : x2.cell? ⟨w.heap.size + 2, 7, none⟩ = some (.int .i64 s1.sx) := by rw [← hx2]; simp [go_sem, p6_0, p6_1, p6_2, p6_3, p6_4, p6_5, p6_6, p6_7, p6_8, p6_9, p6_10, p6_11, p6_l]
   have t_8 : x2.cell? ⟨w.heap.size + 2, 8, none⟩ = some (.int .i64 s1.sy) := by rw [← hx2]; simp [go_sem, p6_0, p6_1, p6_2, p6_3, p6_4, p6_5, p6_6, p6_7, p6_8, p6_9, p6_10, p6_11, p6_l]
   have t_9 : x2.cell? ⟨w.heap.size + 2, 9, none⟩ = some (.string s1.title) := by rw [← hx2]; simp [go_sem, p6_0, p6_1, p6_2, p6_3, p6_4, p6_5, p6_6, p6_7, p6_8, p6_9, p6_10, p6_11, p6_l]
   have t_10 : x2.cell? ⟨w.heap.size + 2, 10, none⟩ = some (.slice ac3 s1.cells.length cc3) := by rw [← hx2]; simp [go_sem, p6_0, p6_1, p6_2, p6_3, p6_4, p6_5, p6_6, p6_7, p6_8, p6_9, p6_10, p6_11, p6_l]
   have t_11 : x2.cell? ⟨w.heap.size + 2, 11, none⟩ = some (.slice ah3 s1.hist.length dh3) := by rw [← hx2]; simp [go_sem, p6_0, p6_1, p6_2, p6_3, p6_4, p6_5, p6_6, p6_7, p6_8, p6_9, p6_10, p6_11, p6_l]
   have hzx2 := HC2.out.size
   have t_l : w.heap.size + 2 < x2.heap.size := by omega
   have p8_0 : x2.cell? ⟨w.heap.size + 3, 0, none⟩ = some (.int .i64 0) := (HC2.out.cell (p := ⟨w.heap.size + 3, 0, none⟩) p7_l (by show ¬ w.heap.size + 3 = w.heap.size + 2; omega)).trans p7_0
   have p8_1 : x2.cell? ⟨w.heap.size + 3, 1, none⟩ = some (.slice none 0 0) := (HC2.out.cell (p := ⟨w.heap.size + 3, 1, none⟩) p7_l (by show ¬ w.heap.size + 3 = w.heap.size + 2; omega)).trans p7_1
   have p8_2 : x2.cell? ⟨w.heap.size + 3, 2, none⟩ = some (.bool false) := (HC2.out.cell (p := ⟨w.heap.size + 3, 2, none⟩) p7_l (by show ¬ w.heap.size + 3 = w.heap.size + 2; omega)).trans p7_2
   have p8_3 : x2.cell? ⟨w.heap.size + 3, 3, none⟩ = some (.string ⟨#[]⟩) := (HC2.out.cell (p := ⟨w.heap.size + 3, 3, none⟩) p7_l (by show ¬ w.heap.size + 3 = w.heap.size + 2; omega)).trans p7_3
   have p8_4 : x2.cell? ⟨w.heap.size + 3, 4, none⟩ = some (.string ⟨#[]⟩) := (HC2.out.cell (p := ⟨w.heap.size + 3, 4, none⟩) p7_l (by show ¬ w.heap.size + 3 = w.heap.size + 2; omega)).trans p7_4
   have p8_f : ∀ o, x2.frozen? ⟨w.heap.size + 3, o, none⟩ = false := fun o => (HC2.out.frozen (p := ⟨w.heap.size + 3, o, none⟩) p7_l (by show ¬ w.heap.size + 3 = w.heap.size + 2; omega)).trans (p7_f o)
   have p8_l : w.heap.size + 3 < x2.heap.size := by omega
   have hS2 : x2.cell? ⟨b, 0, none⟩ = some (.int .i64 s1.w) ∧ x2.cell? ⟨b, 1, none⟩ = some (.int .i64 s1.h) ∧ x2.cell? ⟨b, 2, none⟩ = some (.int .i64 s1.x) ∧ x2.cell? ⟨b, 3, none⟩ = some (.int .i64 s1.y) ∧ x2.cell? ⟨b, 4, none⟩ = some (.int .i64 s1.look) ∧ x2.cell? ⟨b, 5, none⟩ = some (.int .i64 s1.top) ∧ x2.cell? ⟨b, 6, none⟩ = some (.int .i64 s1.bot) ∧ x2.cell? ⟨b, 7, none⟩ = some (.int .i64 s1.sx) ∧ x2.cell? ⟨b, 8, none⟩ = some (.int .i64 s1.sy) ∧ x2.cell? ⟨b, 9, none⟩ = some (.string s1.title) ∧ x2.cell? ⟨b, 10, none⟩ = some (.slice (some ⟨g1, 0, none⟩) s1.cells.length c1) ∧ x2.cell? ⟨b, 11, none⟩ = some (.slice a1 s1.hist.length d1) ∧ x2.cell? ⟨w1.heap.size, 0, none⟩ = some (.int .i64 q.state) ∧ x2.cell? ⟨w1.heap.size, 1, none⟩ = some (.slice ap2 q.args.length cp2) ∧ x2.cell? ⟨w1.heap.size, 2, none⟩ = some (.bool q.priv) ∧ x2.cell? ⟨w1.heap.size, 3, none⟩ = some (.string q.text) ∧ x2.cell? ⟨w1.heap.size, 4, none⟩ = some (.string q.utf) := ⟨(HC2.out.cell (p := ⟨b, 0, none⟩) HX1.out.lt (by show ¬ b = w.heap.size + 2; omega)).trans HX1.out.c0, (HC2.out.cell (p := ⟨b, 1, none⟩) HX1.out.lt (by show ¬ b = w.heap.size + 2; omega)).trans HX1.out.c1, (HC2.out.cell (p := ⟨b, 2, none⟩) HX1.out.lt (by show ¬ b = w.heap.size + 2; omega)).trans HX1.out.c2, (HC2.out.cell (p := ⟨b, 3, none⟩) HX1.out.lt (by show ¬ b = w.heap.size + 2; omega)).trans HX1.out.c3, (HC2.out.cell (p := ⟨b, 4, none⟩) HX1.out.lt (by show ¬ b = w.heap.size + 2; omega)).trans HX1.out.c4, (HC2.out.cell (p := ⟨b, 5, none⟩) HX1.out.lt (by show ¬ b = w.heap.size + 2; omega)).trans HX1.out.c5, (HC2.out.cell (p := ⟨b, 6, none⟩) HX1.out.lt (by show ¬ b = w.heap.size + 2; omega)).trans HX1.out.c6, (HC2.out.cell (p := ⟨b, 7, none⟩) HX1.out.lt (by show ¬ b = w.heap.size + 2; omega)).trans HX1.out.c7, (HC2.out.cell (p := ⟨b, 8, none⟩) HX1.out.lt (by show ¬ b = w.heap.size + 2; omega)).trans HX1.out.c8, (HC2.out.cell (p := ⟨b, 9, none⟩) HX1.out.lt (by show ¬ b = w.heap.size + 2; omega)).trans HX1.out.c9, (HC2.out.cell (p := ⟨b, 10, none⟩) HX1.out.lt (by show ¬ b = w.heap.size + 2; omega)).trans HX1.out.c10, (HC2.out.cell (p := ⟨b, 11, none⟩) HX1.out.lt (by show ¬ b = w.heap.size + 2; omega)).trans HX1.out.c11, (HC2.out.cell (p := ⟨w1.heap.size, 0, none⟩) (by show w1.heap.size < _; omega) (by show ¬ w1.heap.size = w.heap.size + 2; omega)).trans hSx.2.2.2.2.2.2.2.2.2.2.2.2.1, (HC2.out.cell (p := ⟨w1.heap.size, 1, none⟩) (by show w1.heap.size < _; omega) (by show ¬ w1.heap.size = w.heap.size + 2; omega)).trans hSx.2.2.2.2.2.2.2.2.2.2.2.2.2.1, (HC2.out.cell (p := ⟨w1.heap.size, 2, none⟩) (by show w1.heap.size < _; omega) (by show ¬ w1.heap.size = w.heap.size + 2; omega)).trans hSx.2.2.2.2.2.2.2.2.2.2.2.2.2.2.1, (HC2.out.cell (p := ⟨w1.heap.size, 3, none⟩) (by show w1.heap.size < _; omega) (by show ¬ w1.heap.size = w.heap.size + 2; omega)).trans hSx.2.2.2.2.2.2.2.2.2.2.2.2.2.2.2.1, (HC2.out.cell (p := ⟨w1.heap.size, 4, none⟩) (by show w1.heap.size < _; omega) (by show ¬ w1.heap.size = w.heap.size + 2; omega)).trans hSx.2.2.2.2.2.2.2.2.2.2.2.2.2.2.2.2⟩
   rw [hx2]
   clear hx2 hSx p6_0 p6_1 p6_2 p6_3 p6_4 p6_5 p6_6 p6_7 p6_8 p6_9 p6_10 p6_11 p6_f p6_l p7_0 p7_1 p7_2 p7_3 p7_4 p7_f p7_l
   refine oN hK (hS := .inr hS2) (h := ?_)
   clear hK K'
   refine oO (hS := .inl rfl) (h := ?_)
   intro K' hK
   go_simp
   refine oN hK (hS := .inl rfl) (h := ?_)
   clear hK K'
   refine oD ?_
   have nn : ¬ w.heap.size + 2 = w.heap.size + 3 := by omega
   have nm : ¬ w.heap.size + 3 = w.heap.size + 2 := by omega
   go_wp2_with fail
   refine bodyPost_ret (v := .tuple #[scrV s1 ac3 cc3 ah3 dh3, .agg #[.int .i64 q.state, .slice ap2 q.args.length cp2, .bool q.priv, .string q.text, .string q.utf]]) (by simp [results, Tryz.results51, scrV, go_sem, t_0, t_1, t_2, t_3, t_4, t_5, t_6, t_7, t_8, t_9, t_10, t_11, t_l, p8_0, p8_1, p8_2, p8_3, p8_4, p8_l, nn, nm]) rfl ?_
   rw [HACTS.out, HQ.out, HE.out]
   have hfin : ∀ wz, Ch (· = w.heap.size + 3) x2 wz → FeedR s1 q w (.returned (.tuple #[scrV s1 ac3 cc3 ah3 dh3, .agg #[.int .i64 q.state, .slice ap2 q.args.length cp2, .bool q.priv, .string q.text, .string q.utf]])) wz := fun wz hc => by
    have h1 : Below w.heap.size w x1 := (((HB0.out.trans (HB1.out.mono (by omega))).trans (HBW1.out.mono (by omega))).trans (HBW.out.mono (by omega))).trans (HB3x.out.mono (by omega))
    have h2 : Ch (fun k => k = w.heap.size + 2 ∨ k = w.heap.size + 3) x1 wz := (HC2.out.mono (fun i h => .inl (.inl h))).trans hc (fun i h => .inl (.inr h))
    have hfb := Fr.blks HF.out
    have f1 := ((HF.out.keepB HBW1.out).keepB HBW.out).keepB HB3x.out
    have fc := Fr.blks HF3.out.row
    have fh := HF3.out.win.blk
    refine ⟨ac3, cc3, ah3, dh3, ap2, cp2, rfl, (HF3.out.low (by omega)).ch h2 (fun k hk e => by have := (fc k hk).1; omega) (fun k hk e => by have := (fh k hk).1; omega), (f1.ch h2 (fun k hk e => by have := (hfb k hk).1; omega)).mono (by omega) (Nat.le_refl _), fun k hk => ⟨fun h => ?_, fun h => ?_⟩, h1.trans (h2.below (by omega) (fun k h => by omega))⟩
    ·have := (hfb k hk).2; have := (fc k h).1; omega
    ·have := (hfb k hk).2; have := (fh k h).1; omega
   refine hfin _ ?_
   exact ((((Ch.set1' _ _ 0 _).trans (Ch.set1' _ _ 1 _) (fun _ h => .inl h)).trans (Ch.set1' _ _ 2 _) (fun _ h => .inl h)).trans (Ch.set1' _ _ 3 _) (fun _ h => .inl h)).trans (Ch.set1' _ _ 4 _) (fun _ h => .inl h)
end
section
section
variable {P : Program} {md : Region.Mode} {ops : Array Oper} {Q : Exit → Act → World → Prop} {S : World → Prop} {ex : Nat → Bool}
end
structure DrS (b : Nat) (a : Option Addr) (c : Nat) (xs : List UInt8) (K lo X Y : Nat) (s : Scr) (ac : Option Addr) (cc : Nat) (ah : Option Addr) (dh : Nat) (p : PV) (ap : Option Addr) (cp : Nat) (w : World) : Prop where
 sc : sF lo s ac cc ah dh w
 ok : sK s
 pv : PvOK p
 gd : p = pz ∧ s.look &&& 48 = 0
 ar : Fr iE 3 1 lo w.heap.size (.slice ap p.args.length cp) p.args w
 src : SrcAt b a c xs K w
 x0 : w.cell? ⟨X, 0, none⟩ = some (.int .i64 s.w)
 x1 : w.cell? ⟨X, 1, none⟩ = some (.int .i64 s.h)
 x2 : w.cell? ⟨X, 2, none⟩ = some (.int .i64 s.x)
 x3 : w.cell? ⟨X, 3, none⟩ = some (.int .i64 s.y)
 x4 : w.cell? ⟨X, 4, none⟩ = some (.int .i64 s.look)
 x5 : w.cell? ⟨X, 5, none⟩ = some (.int .i64 s.top)
 x6 : w.cell? ⟨X, 6, none⟩ = some (.int .i64 s.bot)
 x7 : w.cell? ⟨X, 7, none⟩ = some (.int .i64 s.sx)
 x8 : w.cell? ⟨X, 8, none⟩ = some (.int .i64 s.sy)
 x9 : w.cell? ⟨X, 9, none⟩ = some (.string s.title)
 x10 : w.cell? ⟨X, 10, none⟩ = some (.slice ac s.cells.length cc)
 x11 : w.cell? ⟨X, 11, none⟩ = some (.slice ah s.hist.length dh)
 y0 : w.cell? ⟨Y, 0, none⟩ = some (.int .i64 p.state)
 y1 : w.cell? ⟨Y, 1, none⟩ = some (.slice ap p.args.length cp)
 y2 : w.cell? ⟨Y, 2, none⟩ = some (.bool p.priv)
 y3 : w.cell? ⟨Y, 3, none⟩ = some (.string p.text)
 y4 : w.cell? ⟨Y, 4, none⟩ = some (.string p.utf)
 xf : ∀ o, w.frozen? ⟨X, o, none⟩ = false
 yf : ∀ o, w.frozen? ⟨Y, o, none⟩ = false
 xl : lo ≤ X ∧ X < w.heap.size
 yl : lo ≤ Y ∧ Y < w.heap.size
 xy : X ≠ Y
 bl : b < lo
 nx : ∀ k, k ∈ bO ac ∨ k ∈ bO ah ∨ k ∈ bO ap → k ≠ X ∧ k ≠ Y
theorem SrcAt.ch {b K c : Nat} {a : Option Addr} {xs : List UInt8} {w w' : World} {M : Nat → Prop} (h : SrcAt b a c xs K w) (hc : Ch M w w') (hb : ¬ M b) (ha : ∀ b' o, a = some ⟨b', o, none⟩ → xs = [] ∨ ¬ M b') : SrcAt b a c xs K w' := by
 obtain ⟨q, seed, h1, h2, h3, c0, c1, c2, hf, hs, hne, hb0⟩ := h
 refine ⟨q, seed, h1, h2, h3, (hc.cell (p := ⟨b, 0, none⟩) hb0 hb).trans c0, (hc.cell (p := ⟨b, 1, none⟩) hb0 hb).trans c1, (hc.cell (p := ⟨b, 2, none⟩) hb0 hb).trans c2, fun o => (hc.frozen (p := ⟨b, o, none⟩) hb0 hb).trans (hf o), ?_, hne, Nat.lt_of_lt_of_le hb0 hc.size⟩
 by_cases hx : xs = []
 ·exact .inl hx
 ·refine hs.ch hc (fun k hk => ?_)
  cases a with
  | none => simp [bO] at hk
  | some p =>
    simp only [bO, List.mem_singleton] at hk
    subst hk
    obtain ⟨pb, po, ps⟩ := p
    rcases hs with hs | ⟨b2, o2, he2, _⟩
    ·exact absurd hs hx
    ·cases he2
     exact (ha pb po rfl).resolve_left hx
theorem DrS.ch {b : Nat} {a : Option Addr} {c : Nat} {xs : List UInt8} {K K' lo X Y : Nat} {s : Scr} {ac : Option Addr} {cc : Nat} {ah : Option Addr} {dh : Nat} {p : PV} {ap : Option Addr} {cp : Nat} {w w' : World} (h : DrS b a c xs K lo X Y s ac cc ah dh p ap cp w) (hc : Ch (· = b) w w') (hs : SrcAt b a c xs K' w') : DrS b a c xs K' lo X Y s ac cc ah dh p ap cp w' := by
 have hb := h.bl
 have hX := h.xl
 have hY := h.yl
 have f1 := Fr.blks h.sc.row
 have f2 := h.sc.win.blk
 have f3 := Fr.blks h.ar
 have nX : ¬ X = b := by omega
 have nY : ¬ Y = b := by omega
 have hz := hc.size
 exact ⟨h.sc.ch hc (fun k hk e => by have := (f1 k hk).1; omega) (fun k hk e => by have := (f2 k hk).1; omega), h.ok, h.pv, h.gd, h.ar.ch hc (fun k hk e => by have := (f3 k hk).1; omega), hs, (hc.cell (p := ⟨X, 0, none⟩) hX.2 nX).trans h.x0, (hc.cell (p := ⟨X, 1, none⟩) hX.2 nX).trans h.x1, (hc.cell (p := ⟨X, 2, none⟩) hX.2 nX).trans h.x2, (hc.cell (p := ⟨X, 3, none⟩) hX.2 nX).trans h.x3, (hc.cell (p := ⟨X, 4, none⟩) hX.2 nX).trans h.x4, (hc.cell (p := ⟨X, 5, none⟩) hX.2 nX).trans h.x5, (hc.cell (p := ⟨X, 6, none⟩) hX.2 nX).trans h.x6, (hc.cell (p := ⟨X, 7, none⟩) hX.2 nX).trans h.x7, (hc.cell (p := ⟨X, 8, none⟩) hX.2 nX).trans h.x8, (hc.cell (p := ⟨X, 9, none⟩) hX.2 nX).trans h.x9, (hc.cell (p := ⟨X, 10, none⟩) hX.2 nX).trans h.x10, (hc.cell (p := ⟨X, 11, none⟩) hX.2 nX).trans h.x11, (hc.cell (p := ⟨Y, 0, none⟩) hY.2 nY).trans h.y0, (hc.cell (p := ⟨Y, 1, none⟩) hY.2 nY).trans h.y1, (hc.cell (p := ⟨Y, 2, none⟩) hY.2 nY).trans h.y2, (hc.cell (p := ⟨Y, 3, none⟩) hY.2 nY).trans h.y3, (hc.cell (p := ⟨Y, 4, none⟩) hY.2 nY).trans h.y4, fun o => (hc.frozen (p := ⟨X, o, none⟩) hX.2 nX).trans (h.xf o), fun o => (hc.frozen (p := ⟨Y, o, none⟩) hY.2 nY).trans (h.yf o), ⟨hX.1, by omega⟩, ⟨hY.1, by omega⟩, h.xy, hb, h.nx⟩
theorem Zv5 (b : Nat) (a : Option Addr) (c : Nat) (xs : List UInt8) (w : World) (h : SrcAt b a c xs 0 w) :
 Calls Tryz.prog 23 #[.pointer (some ⟨b, 0, none⟩)] w fun e w' => ∃ s, (sK s ∧ s.look &&& 48 = 0) ∧ Below b w w' ∧ ∃ ac cc ah dh, e = .returned (scrV s ac cc ah dh) ∧ sF w.heap.size s ac cc ah dh w' := by
 have hb0 : b < w.heap.size := h.lt
 have hfar := h.far
 obtain ⟨W0, hW0⟩ := eX (w.alloc (.cells #[.int .i64 0, .int .i64 0, .int .i64 0, .int .i64 0, .int .i64 0, .int .i64 0, .int .i64 0, .int .i64 0, .int .i64 0, .string ⟨#[]⟩, .slice none 0 0, .slice none 0 0] 26))
 have HB0 : Hid (Below w.heap.size w W0) := zz (by rw [← hW0]; exact bA)
 have hz0 : w.heap.size < W0.heap.size := by rw [← hW0]; simp
 have z_0 : W0.cell? ⟨w.heap.size, 0, none⟩ = some (.int .i64 0) := by rw [← hW0]; simp [go_sem]
 have z_1 : W0.cell? ⟨w.heap.size, 1, none⟩ = some (.int .i64 0) := by rw [← hW0]; simp [go_sem]
 have z_2 : W0.cell? ⟨w.heap.size, 2, none⟩ = some (.int .i64 0) := by rw [← hW0]; simp [go_sem]
 have z_3 : W0.cell? ⟨w.heap.size, 3, none⟩ = some (.int .i64 0) := by rw [← hW0]; simp [go_sem]
 have z_4 : W0.cell? ⟨w.heap.size, 4, none⟩ = some (.int .i64 0) := by rw [← hW0]; simp [go_sem]
 have z_5 : W0.cell? ⟨w.heap.size, 5, none⟩ = some (.int .i64 0) := by rw [← hW0]; simp [go_sem]
 have z_6 : W0.cell? ⟨w.heap.size, 6, none⟩ = some (.int .i64 0) := by rw [← hW0]; simp [go_sem]
 have z_7 : W0.cell? ⟨w.heap.size, 7, none⟩ = some (.int .i64 0) := by rw [← hW0]; simp [go_sem]
 have z_8 : W0.cell? ⟨w.heap.size, 8, none⟩ = some (.int .i64 0) := by rw [← hW0]; simp [go_sem]
 have z_9 : W0.cell? ⟨w.heap.size, 9, none⟩ = some (.string ⟨#[]⟩) := by rw [← hW0]; simp [go_sem]
 have z_10 : W0.cell? ⟨w.heap.size, 10, none⟩ = some (.slice none 0 0) := by rw [← hW0]; simp [go_sem]
 have z_11 : W0.cell? ⟨w.heap.size, 11, none⟩ = some (.slice none 0 0) := by rw [← hW0]; simp [go_sem]
 have z_f : ∀ o, W0.frozen? ⟨w.heap.size, o, none⟩ = false := fun o => by rw [← hW0]; simp [go_sem]
 have HN := zz (Zf4 b a c xs 0 12 W0 (h.below HB0.out) (by omega) (by omega) (by omega))
 clear h
 go_enter Tryz.func23, Tryz.ntmps23
 go_upto_region 1 with fail
 clear hW0
 go_wp2_with fail
 refine HN.out.mono ?_
 rintro e w1 ⟨m1, hm1, rfl, hs1, hd1⟩
 have HS1 := zz hs1
 have HD1 := zz hd1
 have hz1 := hd1.size
 have HN2 := zz (Zf4 b a c xs 1 6 w1 hs1 (by omega) (by omega) (by omega))
 clear hs1 hd1
 go_wp2_with fail
 refine HN2.out.mono ?_
 rintro e w2 ⟨m2, hm2, rfl, hs2, hd2⟩
 have HS2 := zz hs2
 have HD2 := zz hd2
 have hz2 := hd2.size
 clear hs2 hd2
 obtain ⟨n1, hn1⟩ := eX (2 + m1)
 obtain ⟨n2, hn2⟩ := eX (2 + m2)
 have hi1 : (2 : Int) + (m1 : Int) = (n1 : Int) := by omega
 have hi2 : (2 : Int) + (m2 : Int) = (n2 : Int) := by omega
 go_wp2_with fail
 refine (Zy3 n1 n2 _ (by omega) (by omega) (by omega)).mono ?_
 rintro e w3 ⟨ac3, cc3, ah3, dh3, rfl, hf3, hb3⟩
 have HF3 := zz hf3
 have HB3 := zz hb3
 have hz3 := hb3.size
 unfold scrV
 obtain ⟨X, hX⟩ := eX (w3.heap.size)
 obtain ⟨W3, hW3⟩ := eX (w3.alloc (.cells #[.int .i64 ((newS n1 n2).w : Int), .int .i64 ((newS n1 n2).h : Int), .int .i64 ((newS n1 n2).x : Int), .int .i64 ((newS n1 n2).y : Int), .int .i64 ((newS n1 n2).look : Int), .int .i64 ((newS n1 n2).top : Int), .int .i64 ((newS n1 n2).bot : Int), .int .i64 ((newS n1 n2).sx : Int), .int .i64 ((newS n1 n2).sy : Int), .string (newS n1 n2).title, .slice ac3 (newS n1 n2).cells.length cc3, .slice ah3 (newS n1 n2).hist.length dh3] 26))
 have HB3' : Hid (Below w3.heap.size w3 W3) := zz (by rw [← hW3]; exact bA)
 have hX3 : X < W3.heap.size := by rw [← hW3, ← hX]; simp
 have x_0 : W3.cell? ⟨X, 0, none⟩ = some (.int .i64 ((newS n1 n2).w : Int)) := by rw [← hW3, ← hX]; simp [go_sem]
 have x_1 : W3.cell? ⟨X, 1, none⟩ = some (.int .i64 ((newS n1 n2).h : Int)) := by rw [← hW3, ← hX]; simp [go_sem]
 have x_2 : W3.cell? ⟨X, 2, none⟩ = some (.int .i64 ((newS n1 n2).x : Int)) := by rw [← hW3, ← hX]; simp [go_sem]
 have x_3 : W3.cell? ⟨X, 3, none⟩ = some (.int .i64 ((newS n1 n2).y : Int)) := by rw [← hW3, ← hX]; simp [go_sem]
 have x_4 : W3.cell? ⟨X, 4, none⟩ = some (.int .i64 ((newS n1 n2).look : Int)) := by rw [← hW3, ← hX]; simp [go_sem]
 have x_5 : W3.cell? ⟨X, 5, none⟩ = some (.int .i64 ((newS n1 n2).top : Int)) := by rw [← hW3, ← hX]; simp [go_sem]
 have x_6 : W3.cell? ⟨X, 6, none⟩ = some (.int .i64 ((newS n1 n2).bot : Int)) := by rw [← hW3, ← hX]; simp [go_sem]
 have x_7 : W3.cell? ⟨X, 7, none⟩ = some (.int .i64 ((newS n1 n2).sx : Int)) := by rw [← hW3, ← hX]; simp [go_sem]
 have x_8 : W3.cell? ⟨X, 8, none⟩ = some (.int .i64 ((newS n1 n2).sy : Int)) := by rw [← hW3, ← hX]; simp [go_sem]
 have x_9 : W3.cell? ⟨X, 9, none⟩ = some (.string (newS n1 n2).title) := by rw [← hW3, ← hX]; simp [go_sem]
 have x_10 : W3.cell? ⟨X, 10, none⟩ = some (.slice ac3 (newS n1 n2).cells.length cc3) := by rw [← hW3, ← hX]; simp [go_sem]
 have x_11 : W3.cell? ⟨X, 11, none⟩ = some (.slice ah3 (newS n1 n2).hist.length dh3) := by rw [← hW3, ← hX]; simp [go_sem]
 have x_f : ∀ o, W3.frozen? ⟨X, o, none⟩ = false := fun o => by rw [← hW3, ← hX]; simp [go_sem]
 clear hf3 hb3 hi1 hi2
 go_upto_region 2 with fail
 clear hW3
 go_upto_region 3 with fail
 obtain ⟨Y, hY⟩ := eX (W3.heap.size + 1)
 obtain ⟨W5, hW5⟩ : ∃ x, (W3.alloc (.cells #[] 3)).alloc (.cells #[.int .i64 0, .slice (some ⟨W3.heap.size, 0, none⟩) 0 0, .bool false, .string ⟨#[]⟩, .string ⟨#[]⟩] 42) = x := ⟨_, rfl⟩
 rw [hW5, hY]
 have HB5 : Hid (Below W3.heap.size W3 W5) := zz (by rw [← hW5]; exact (bA).alloc (by simp) _)
 have hY5 : Y < W5.heap.size := by rw [← hW5, ← hY]; simp
 have HAR : Hid (Fr iE 3 1 (w.heap.size + 1) W5.heap.size (.slice (some ⟨W3.heap.size, 0, none⟩) 0 0) ([] : List Int) W5) := zz (by
  rw [← hW5]
  exact (Fr.emp iE _ 1 (w.heap.size + 1) W3 (by omega)).keepB (bA))
 have y_0 : W5.cell? ⟨Y, 0, none⟩ = some (.int .i64 0) := by rw [← hW5, ← hY]; simp [go_sem]
 have y_1 : W5.cell? ⟨Y, 1, none⟩ = some (.slice (some ⟨W3.heap.size, 0, none⟩) 0 0) := by rw [← hW5, ← hY]; simp [go_sem]
 have y_2 : W5.cell? ⟨Y, 2, none⟩ = some (.bool false) := by rw [← hW5, ← hY]; simp [go_sem]
 have y_3 : W5.cell? ⟨Y, 3, none⟩ = some (.string ⟨#[]⟩) := by rw [← hW5, ← hY]; simp [go_sem]
 have y_4 : W5.cell? ⟨Y, 4, none⟩ = some (.string ⟨#[]⟩) := by rw [← hW5, ← hY]; simp [go_sem]
 have y_f : ∀ o, W5.frozen? ⟨Y, o, none⟩ = false := fun o => by rw [← hW5, ← hY]; simp [go_sem]
 obtain ⟨lo, hlo⟩ := eX (w.heap.size)
 have HLO := zz hlo
 have HZ0 : Hid (W0.cell? ⟨lo, 0, none⟩ = some (.int .i64 0) ∧ W0.cell? ⟨lo, 1, none⟩ = some (.int .i64 0) ∧ W0.cell? ⟨lo, 2, none⟩ = some (.int .i64 0) ∧ W0.cell? ⟨lo, 3, none⟩ = some (.int .i64 0) ∧ W0.cell? ⟨lo, 4, none⟩ = some (.int .i64 0) ∧ W0.cell? ⟨lo, 5, none⟩ = some (.int .i64 0) ∧ W0.cell? ⟨lo, 6, none⟩ = some (.int .i64 0) ∧ W0.cell? ⟨lo, 7, none⟩ = some (.int .i64 0) ∧ W0.cell? ⟨lo, 8, none⟩ = some (.int .i64 0) ∧ W0.cell? ⟨lo, 9, none⟩ = some (.string ⟨#[]⟩) ∧ W0.cell? ⟨lo, 10, none⟩ = some (.slice none 0 0) ∧ W0.cell? ⟨lo, 11, none⟩ = some (.slice none 0 0) ∧ ∀ o, W0.frozen? ⟨lo, o, none⟩ = false) := zz (by rw [← hlo]; exact ⟨z_0, z_1, z_2, z_3, z_4, z_5, z_6, z_7, z_8, z_9, z_10, z_11, z_f⟩)
 have HDR : Hid (DrS b a c xs 2 (lo + 1) X Y (newS n1 n2) ac3 cc3 ah3 dh3 pz (some ⟨W3.heap.size, 0, none⟩) 0 W5) := zz (by
  have f1 := Fr.blks HF3.out.row
  have f2 := HF3.out.win.blk
  have g1 : ∀ k, k ∈ bO ac3 ∨ k ∈ bO ah3 ∨ k ∈ bO (some ⟨W3.heap.size, 0, none⟩) → k ≠ X ∧ k ≠ Y := fun k hk => by
   rcases hk with h | h | h
   ·have := f1 k h; omega
   ·have := f2 k h; omega
   ·simp [bO] at h; omega
  have hsc : sF (lo + 1) (newS n1 n2) ac3 cc3 ah3 dh3 W5 := ((HF3.out.low (by omega)).below HB3'.out).below HB5.out
  have hsrc : SrcAt b a c xs 2 W5 := ((HS2.out.below HB3.out).below HB3'.out).below HB5.out
  have hX5 : X < W5.heap.size := by have := HB5.out.size; omega
  exact ⟨hsc, sK.new (by omega) (by omega) (by omega) (by omega), PvOK.z, ⟨rfl, by show (0 : Nat) &&& 48 = 0; decide⟩, by rw [← hlo]; exact HAR.out, hsrc, (HB5.out.cell (p := ⟨X, 0, none⟩) hX3).trans x_0, (HB5.out.cell (p := ⟨X, 1, none⟩) hX3).trans x_1, (HB5.out.cell (p := ⟨X, 2, none⟩) hX3).trans x_2, (HB5.out.cell (p := ⟨X, 3, none⟩) hX3).trans x_3, (HB5.out.cell (p := ⟨X, 4, none⟩) hX3).trans x_4, (HB5.out.cell (p := ⟨X, 5, none⟩) hX3).trans x_5, (HB5.out.cell (p := ⟨X, 6, none⟩) hX3).trans x_6, (HB5.out.cell (p := ⟨X, 7, none⟩) hX3).trans x_7, (HB5.out.cell (p := ⟨X, 8, none⟩) hX3).trans x_8, (HB5.out.cell (p := ⟨X, 9, none⟩) hX3).trans x_9, (HB5.out.cell (p := ⟨X, 10, none⟩) hX3).trans x_10, (HB5.out.cell (p := ⟨X, 11, none⟩) hX3).trans x_11, y_0, y_1, y_2, y_3, y_4, fun o => (HB5.out.frozen (p := ⟨X, o, none⟩) hX3).trans (x_f o), y_f, ⟨by omega, hX5⟩, ⟨by omega, hY5⟩, by omega, by omega, g1⟩)
 have HZ : Hid ((∀ o, W5.cell? ⟨lo, o, none⟩ = W0.cell? ⟨lo, o, none⟩) ∧ (∀ o, W5.frozen? ⟨lo, o, none⟩ = W0.frozen? ⟨lo, o, none⟩) ∧ Ch (fun k => k = b ∨ lo ≤ k) w W5) := zz (by
  have h1 : Mid b (b + 1) W0 w2 := HD1.out.trans HD2.out
  have hzz : lo < w2.heap.size := by omega
  have h2 : Below w2.heap.size w2 W5 := (HB3.out.trans (HB3'.out.mono hz3)).trans (HB5.out.mono (by omega))
  refine ⟨fun o => (h2.cell (p := ⟨lo, o, none⟩) hzz).trans (h1.cell (p := ⟨lo, o, none⟩) (by show lo < _; omega) (.inr (by show b + 1 ≤ lo; omega))), fun o => (h2.frozen (p := ⟨lo, o, none⟩) hzz).trans (h1.frozen (p := ⟨lo, o, none⟩) (by show lo < _; omega) (.inr (by show b + 1 ≤ lo; omega))), ?_⟩
  exact ((Ch.of_below HB0.out).trans (Ch.of_mid (M := fun k => k = b ∨ lo ≤ k) h1 (fun k h1 h2 _ => .inl (by omega))) (fun i hi => .inl hi)).trans (N := fun _ => False) (Ch.of_below h2) (fun _ h => h.elim))
 have hloX : lo < X := by omega
 have hloY : lo < Y := by omega
 have hlo5 : lo < W5.heap.size := by omega
 have hbl : b < lo := by omega
 have HFAR : Hid (∀ b' o, a = some ⟨b', o, none⟩ → xs = [] ∨ b' < lo) := zz (by rw [← hlo]; exact hfar)
 have HN5 := zz (Zf4 b a c xs 2 5 W5 HDR.out.src (by omega) (by omega) (by omega))
 clear hW5 x_0 x_1 x_2 x_3 x_4 x_5 x_6 x_7 x_8 x_9 x_10 x_11 x_f y_0 y_1 y_2 y_3 y_4 y_f z_0 z_1 z_2 z_3 z_4 z_5 z_6 z_7 z_8 z_9 z_10 z_11 z_f
 go_wp2_with fail
 refine HN5.out.mono ?_
 rintro e w6 ⟨m5, hm5, rfl, hs6, hd6⟩
 have hc6 : Ch (· = b) W5 w6 := Ch.of_mid hd6 (fun k h1 h2 _ => by omega)
 have HDR6 := zz (HDR.out.ch hc6 hs6)
 have HZ6 : Hid ((∀ o, w6.cell? ⟨lo, o, none⟩ = W0.cell? ⟨lo, o, none⟩) ∧ (∀ o, w6.frozen? ⟨lo, o, none⟩ = W0.frozen? ⟨lo, o, none⟩) ∧ Ch (fun k => k = b ∨ lo ≤ k) w w6) := zz ⟨fun o => (hc6.cell (p := ⟨lo, o, none⟩) hlo5 (by show ¬ lo = b; omega)).trans (HZ.out.1 o), fun o => (hc6.frozen (p := ⟨lo, o, none⟩) hlo5 (by show ¬ lo = b; omega)).trans (HZ.out.2.1 o), HZ.out.2.2.trans hc6 (fun i hi => .inl (.inl hi))⟩
 have hlo6 : lo < w6.heap.size := by have := hc6.size; omega
 clear hs6 hd6 hc6
 go_wp2_with fail
 go_loopw [5] (fun iv wr => ∃ (j : Nat), j ≤ 4 ∧ iv = .int .i64 j ∧ Hid (∃ K s ac cc ah dh p ap cp, K ≤ 1000 * (5 - j) ∧ DrS b a c xs K (lo + 1) X Y s ac cc ah dh p ap cp wr ∧ (∀ o, wr.cell? ⟨lo, o, none⟩ = W0.cell? ⟨lo, o, none⟩) ∧ (∀ o, wr.frozen? ⟨lo, o, none⟩ = W0.frozen? ⟨lo, o, none⟩) ∧ Ch (fun k => k = b ∨ lo ≤ k) w wr ∧ lo < wr.heap.size)) (fun iv _ => (intOf iv).toNat)
 case atStart => exact ⟨m5, by omega, rfl, zz ⟨3, _, _, _, _, _, _, _, _, by omega, HDR6.out, HZ6.out.1, HZ6.out.2.1, HZ6.out.2.2, hlo6⟩⟩
 case round =>
  obtain ⟨j, hj, rfl, HI⟩ := hrel
  obtain ⟨K, s, ac, cc, ah, dh, p, ap, cp, hK, hdr, hzc, hzf, hch, hlr⟩ := HI.out
  have HD := zz hdr
  have HZC := zz hzc
  have HZF := zz hzf
  have HCH := zz hch
  clear hdr hzc hzf hch
  by_cases hj0 : 0 < j
  ·have hj0' : (0 : Int) < (j : Int) := by omega
   go_upto_region 6 with fail
   have x_0 := HD.out.x0
   have x_1 := HD.out.x1
   have x_2 := HD.out.x2
   have x_3 := HD.out.x3
   have x_4 := HD.out.x4
   have x_5 := HD.out.x5
   have x_6 := HD.out.x6
   have x_7 := HD.out.x7
   have x_8 := HD.out.x8
   have x_9 := HD.out.x9
   have x_10 := HD.out.x10
   have x_11 := HD.out.x11
   have y_0 := HD.out.y0
   have y_1 := HD.out.y1
   have y_2 := HD.out.y2
   have y_3 := HD.out.y3
   have y_4 := HD.out.y4
   have hS0 : wr.cell? ⟨X, 0, none⟩ = some (.int .i64 s.w) ∧ wr.cell? ⟨X, 1, none⟩ = some (.int .i64 s.h) ∧ wr.cell? ⟨X, 2, none⟩ = some (.int .i64 s.x) ∧ wr.cell? ⟨X, 3, none⟩ = some (.int .i64 s.y) ∧ wr.cell? ⟨X, 4, none⟩ = some (.int .i64 s.look) ∧ wr.cell? ⟨X, 5, none⟩ = some (.int .i64 s.top) ∧ wr.cell? ⟨X, 6, none⟩ = some (.int .i64 s.bot) ∧ wr.cell? ⟨X, 7, none⟩ = some (.int .i64 s.sx) ∧ wr.cell? ⟨X, 8, none⟩ = some (.int .i64 s.sy) ∧ wr.cell? ⟨X, 9, none⟩ = some (.string s.title) ∧ wr.cell? ⟨X, 10, none⟩ = some (.slice ac s.cells.length cc) ∧ wr.cell? ⟨X, 11, none⟩ = some (.slice ah s.hist.length dh) ∧ wr.cell? ⟨Y, 0, none⟩ = some (.int .i64 p.state) ∧ wr.cell? ⟨Y, 1, none⟩ = some (.slice ap p.args.length cp) ∧ wr.cell? ⟨Y, 2, none⟩ = some (.bool p.priv) ∧ wr.cell? ⟨Y, 3, none⟩ = some (.string p.text) ∧ wr.cell? ⟨Y, 4, none⟩ = some (.string p.utf) := ⟨x_0, x_1, x_2, x_3, x_4, x_5, x_6, x_7, x_8, x_9, x_10, x_11, y_0, y_1, y_2, y_3, y_4⟩
   refine rO (fun w' => w'.cell? ⟨X, 0, none⟩ = some (.int .i64 s.w) ∧ w'.cell? ⟨X, 1, none⟩ = some (.int .i64 s.h) ∧ w'.cell? ⟨X, 2, none⟩ = some (.int .i64 s.x) ∧ w'.cell? ⟨X, 3, none⟩ = some (.int .i64 s.y) ∧ w'.cell? ⟨X, 4, none⟩ = some (.int .i64 s.look) ∧ w'.cell? ⟨X, 5, none⟩ = some (.int .i64 s.top) ∧ w'.cell? ⟨X, 6, none⟩ = some (.int .i64 s.bot) ∧ w'.cell? ⟨X, 7, none⟩ = some (.int .i64 s.sx) ∧ w'.cell? ⟨X, 8, none⟩ = some (.int .i64 s.sy) ∧ w'.cell? ⟨X, 9, none⟩ = some (.string s.title) ∧ w'.cell? ⟨X, 10, none⟩ = some (.slice ac s.cells.length cc) ∧ w'.cell? ⟨X, 11, none⟩ = some (.slice ah s.hist.length dh) ∧ w'.cell? ⟨Y, 0, none⟩ = some (.int .i64 p.state) ∧ w'.cell? ⟨Y, 1, none⟩ = some (.slice ap p.args.length cp) ∧ w'.cell? ⟨Y, 2, none⟩ = some (.bool p.priv) ∧ w'.cell? ⟨Y, 3, none⟩ = some (.string p.text) ∧ w'.cell? ⟨Y, 4, none⟩ = some (.string p.utf)) [8,9] [0,1,2,3,4,5,6,7,8,9] ?_
   iterate 3 (first | refine oW (h := ?_) | refine oL (hS := hS0) (h := ?_))
   refine oO (hS := .inr hS0) (h := ?_)
   intro K' hK
   go_simp
   refine (Zi8 b a c xs K _ (HD.out.src.below ((Below.refl _ _).drew)) (by omega)).mono ?_
   rintro e x1 ⟨t, ⟨hoc, ht1, ht2⟩, rfl, hs1, hd1⟩
   have HOC := zz hoc
   clear hoc
   have hc1 : Ch (· = b) wr x1 := (Ch.refl.drew).trans (Ch.of_mid (M := (· = b)) hd1 (fun k h1 h2 _ => by omega)) (fun _ h => .inl h)
   have HD1 := zz (HD.out.ch hc1 hs1)
   have HC1 := zz hc1
   have hzx1 := hc1.size
   have hSx1 : x1.cell? ⟨X, 0, none⟩ = some (.int .i64 s.w) ∧ x1.cell? ⟨X, 1, none⟩ = some (.int .i64 s.h) ∧ x1.cell? ⟨X, 2, none⟩ = some (.int .i64 s.x) ∧ x1.cell? ⟨X, 3, none⟩ = some (.int .i64 s.y) ∧ x1.cell? ⟨X, 4, none⟩ = some (.int .i64 s.look) ∧ x1.cell? ⟨X, 5, none⟩ = some (.int .i64 s.top) ∧ x1.cell? ⟨X, 6, none⟩ = some (.int .i64 s.bot) ∧ x1.cell? ⟨X, 7, none⟩ = some (.int .i64 s.sx) ∧ x1.cell? ⟨X, 8, none⟩ = some (.int .i64 s.sy) ∧ x1.cell? ⟨X, 9, none⟩ = some (.string s.title) ∧ x1.cell? ⟨X, 10, none⟩ = some (.slice ac s.cells.length cc) ∧ x1.cell? ⟨X, 11, none⟩ = some (.slice ah s.hist.length dh) ∧ x1.cell? ⟨Y, 0, none⟩ = some (.int .i64 p.state) ∧ x1.cell? ⟨Y, 1, none⟩ = some (.slice ap p.args.length cp) ∧ x1.cell? ⟨Y, 2, none⟩ = some (.bool p.priv) ∧ x1.cell? ⟨Y, 3, none⟩ = some (.string p.text) ∧ x1.cell? ⟨Y, 4, none⟩ = some (.string p.utf) := ⟨HD1.out.x0, HD1.out.x1, HD1.out.x2, HD1.out.x3, HD1.out.x4, HD1.out.x5, HD1.out.x6, HD1.out.x7, HD1.out.x8, HD1.out.x9, HD1.out.x10, HD1.out.x11, HD1.out.y0, HD1.out.y1, HD1.out.y2, HD1.out.y3, HD1.out.y4⟩
   clear hs1 hd1 hc1
   refine oN hK (hS := .inr hSx1) (h := ?_)
   clear hK K'
   refine oO (hS := .inr hSx1) (h := ?_)
   intro K' hK
   go_simp
   refine (Yh7 s ac cc ah dh p ap cp t _ HD1.out.sc.rd HD1.out.ok HD1.out.pv (Fr.sl (enc := iE) (fun _ => rfl) HD1.out.ar) (by omega)).mono ?_
   rintro e x2 ⟨ac2, cc2, ah2, dh2, ap2, cp2, rfl, hsc2, har2, hdj2, hb2⟩
   obtain ⟨s2, hs2⟩ := eX (actsS s (prun p t.data.toList).2)
   obtain ⟨p2, hp2⟩ : ∃ z, (prun p t.data.toList).1 = z := ⟨_, rfl⟩
   have hok2 : sK s2 := by
    rw [← hs2]
    exact HD1.out.ok.acts (fun A hA => Zd4 t.data.toList HD1.out.pv A hA)
   have hpv2 : PvOK p2 := by rw [← hp2]; exact Ze9 _ HD1.out.pv
   have hgd2 : p2 = pz ∧ s2.look &&& 48 = 0 := by
    rw [← hs2, ← hp2, HD1.out.gd.1]
    exact ⟨(Ya0 HOC.out).1, Yb0 HD1.out.ok HD1.out.gd.2 (fun A hA => Zd4 t.data.toList PvOK.z A hA) (Ya0 HOC.out).2⟩
   have HGD2 := zz hgd2
   clear hgd2
   rw [hs2] at hsc2
   rw [hp2] at har2
   rw [hs2, hp2]
   have HSC2 := zz hsc2
   have HAR2 := zz har2
   have HB2 := zz hb2
   have HOK2 := zz hok2
   have HPV2 := zz hpv2
   have hzx2 := hb2.size
   have HD2 := zz (HD1.out.ch (w' := x2) (Ch.of_below hb2) (HD1.out.src.below hb2))
   have hSx2 : x2.cell? ⟨X, 0, none⟩ = some (.int .i64 s.w) ∧ x2.cell? ⟨X, 1, none⟩ = some (.int .i64 s.h) ∧ x2.cell? ⟨X, 2, none⟩ = some (.int .i64 s.x) ∧ x2.cell? ⟨X, 3, none⟩ = some (.int .i64 s.y) ∧ x2.cell? ⟨X, 4, none⟩ = some (.int .i64 s.look) ∧ x2.cell? ⟨X, 5, none⟩ = some (.int .i64 s.top) ∧ x2.cell? ⟨X, 6, none⟩ = some (.int .i64 s.bot) ∧ x2.cell? ⟨X, 7, none⟩ = some (.int .i64 s.sx) ∧ x2.cell? ⟨X, 8, none⟩ = some (.int .i64 s.sy) ∧ x2.cell? ⟨X, 9, none⟩ = some (.string s.title) ∧ x2.cell? ⟨X, 10, none⟩ = some (.slice ac s.cells.length cc) ∧ x2.cell? ⟨X, 11, none⟩ = some (.slice ah s.hist.length dh) ∧ x2.cell? ⟨Y, 0, none⟩ = some (.int .i64 p.state) ∧ x2.cell? ⟨Y, 1, none⟩ = some (.slice ap p.args.length cp) ∧ x2.cell? ⟨Y, 2, none⟩ = some (.bool p.priv) ∧ x2.cell? ⟨Y, 3, none⟩ = some (.string p.text) ∧ x2.cell? ⟨Y, 4, none⟩ = some (.string p.utf) := ⟨HD2.out.x0, HD2.out.x1, HD2.out.x2, HD2.out.x3, HD2.out.x4, HD2.out.x5, HD2.out.x6, HD2.out.x7, HD2.out.x8, HD2.out.x9, HD2.out.x10, HD2.out.x11, HD2.out.y0, HD2.out.y1, HD2.out.y2, HD2.out.y3, HD2.out.y4⟩
   clear hs2 hp2 hok2 hpv2 hsc2 har2 hdj2 hb2
   unfold scrV
   refine oN hK (hS := .inr hSx2) (h := ?_)
   clear hK K'
   iterate 3 refine oW (h := ?_)
   have e_0 := HD2.out.x0
   have e_1 := HD2.out.x1
   have e_2 := HD2.out.x2
   have e_3 := HD2.out.x3
   have e_4 := HD2.out.x4
   have e_5 := HD2.out.x5
   have e_6 := HD2.out.x6
   have e_7 := HD2.out.x7
   have e_8 := HD2.out.x8
   have e_9 := HD2.out.x9
   have e_10 := HD2.out.x10
   have e_11 := HD2.out.x11
   have e_f := HD2.out.xf
   have e_l := HD2.out.xl.2
   refine oO (hS := .inl rfl) (h := ?_)
   intro K' hK
   go_simp
   obtain ⟨x3, hx3⟩ : ∃ x, ((((((((((((x2.setCell ⟨X, 0, none⟩ (.int .i64 s2.w)).setCell ⟨X, 1, none⟩ (.int .i64 s2.h)).setCell ⟨X, 2, none⟩ (.int .i64 s2.x)).setCell ⟨X, 3, none⟩ (.int .i64 s2.y)).setCell ⟨X, 4, none⟩ (.int .i64 s2.look)).setCell ⟨X, 5, none⟩ (.int .i64 s2.top)).setCell ⟨X, 6, none⟩ (.int .i64 s2.bot)).setCell ⟨X, 7, none⟩ (.int .i64 s2.sx)).setCell ⟨X, 8, none⟩ (.int .i64 s2.sy)).setCell ⟨X, 9, none⟩ (.string s2.title)).setCell ⟨X, 10, none⟩ (.slice ac2 s2.cells.length cc2)).setCell ⟨X, 11, none⟩ (.slice ah2 s2.hist.length dh2)) = x := ⟨_, rfl⟩
   have HC3 : Hid (Ch (· = X) x2 x3) := zz (by rw [← hx3]; exact (((((((((((Ch.set1' _ _ 0 _).trans (Ch.set1' _ _ 1 _) (fun _ h => .inl h)).trans (Ch.set1' _ _ 2 _) (fun _ h => .inl h)).trans (Ch.set1' _ _ 3 _) (fun _ h => .inl h)).trans (Ch.set1' _ _ 4 _) (fun _ h => .inl h)).trans (Ch.set1' _ _ 5 _) (fun _ h => .inl h)).trans (Ch.set1' _ _ 6 _) (fun _ h => .inl h)).trans (Ch.set1' _ _ 7 _) (fun _ h => .inl h)).trans (Ch.set1' _ _ 8 _) (fun _ h => .inl h)).trans (Ch.set1' _ _ 9 _) (fun _ h => .inl h)).trans (Ch.set1' _ _ 10 _) (fun _ h => .inl h)).trans (Ch.set1' _ _ 11 _) (fun _ h => .inl h))
   have hzx3 := HC3.out.size
   have hnYX : ¬ Y = X := fun e => HD.out.xy e.symm
   have hnXY : ¬ X = Y := HD.out.xy
   have t_0 : x3.cell? ⟨X, 0, none⟩ = some (.int .i64 s2.w) := by rw [← hx3]; simp [go_sem, e_0, e_1, e_2, e_3, e_4, e_5, e_6, e_7, e_8, e_9, e_10, e_11, e_l]
   have t_1 : x3.cell? ⟨X, 1, none⟩ = some (.int .i64 s2.h) := by rw [← hx3]; simp [go_sem, e_0, e_1, e_2, e_3, e_4, e_5, e_6, e_7, e_8, e_9, e_10, e_11, e_l]
   have t_2 : x3.cell? ⟨X, 2, none⟩ = some (.int .i64 s2.x) := by rw [← hx3]; simp [go_sem, e_0, e_1, e_2, e_3, e_4, e_5, e_6, e_7, e_8, e_9, e_10, e_11, e_l]
   have t_3 : x3.cell? ⟨X, 3, none⟩ = some (.int .i64 s2.y) := by rw [← hx3]; simp [go_sem, e_0, e_1, e_2, e_3, e_4, e_5, e_6, e_7, e_8, e_9, e_10, e_11, e_l]
   have t_4 : x3.cell? ⟨X, 4, none⟩ = some (.int .i64 s2.look) := by rw [← hx3]; simp [go_sem, e_0, e_1, e_2, e_3, e_4, e_5, e_6, e_7, e_8, e_9, e_10, e_11, e_l]
   have t_5 : x3.cell? ⟨X, 5, none⟩ = some (.int .i64 s2.top) := by rw [← hx3]; simp [go_sem, e_0, e_1, e_2, e_3, e_4, e_5, e_6, e_7, e_8, e_9, e_10, e_11, e_l]
   have t_6 : x3.cell? ⟨X, 6, none⟩ = some (.int .i64 s2.bot) := by rw [← hx3]; simp [go_sem, e_0, e_1, e_2, e_3, e_4, e_5, e_6, e_7, e_8, e_9, e_10, e_11, e_l]
   have t_7 : x3.cell? ⟨X, 7, none⟩ = some (.int .i64 s2.sx) := by rw [← hx3]; simp [go_sem, e_0, e_1, e_2, e_3, e_4, e_5, e_6, e_7, e_8, e_9, e_10, e_11, e_l]
   have t_8 : x3.cell? ⟨X, 8, none⟩ = some (.int .i64 s2.sy) := by rw [← hx3]; simp [go_sem, e_0, e_1, e_2, e_3, e_4, e_5, e_6, e_7, e_8, e_9, e_10, e_11, e_l]
   have t_9 : x3.cell? ⟨X, 9, none⟩ = some (.string s2.title) := by rw [← hx3]; simp [go_sem, e_0, e_1, e_2, e_3, e_4, e_5, e_6, e_7, e_8, e_9, e_10, e_11, e_l]
   have t_10 : x3.cell? ⟨X, 10, none⟩ = some (.slice ac2 s2.cells.length cc2) := by rw [← hx3]; simp [go_sem, e_0, e_1, e_2, e_3, e_4, e_5, e_6, e_7, e_8, e_9, e_10, e_11, e_l]
   have t_11 : x3.cell? ⟨X, 11, none⟩ = some (.slice ah2 s2.hist.length dh2) := by rw [← hx3]; simp [go_sem, e_0, e_1, e_2, e_3, e_4, e_5, e_6, e_7, e_8, e_9, e_10, e_11, e_l]
   have x3_fX : ∀ o, x3.frozen? ⟨X, o, none⟩ = false := fun o => by rw [← hx3]; simp only [World.frozen?_setCell]; exact HD2.out.xf o
   rw [hx3]
   clear hx3 e_0 e_1 e_2 e_3 e_4 e_5 e_6 e_7 e_8 e_9 e_10 e_11 e_f e_l
   have e_0 := (HC3.out.cell (p := ⟨Y, 0, none⟩) HD2.out.yl.2 hnYX).trans HD2.out.y0
   have e_1 := (HC3.out.cell (p := ⟨Y, 1, none⟩) HD2.out.yl.2 hnYX).trans HD2.out.y1
   have e_2 := (HC3.out.cell (p := ⟨Y, 2, none⟩) HD2.out.yl.2 hnYX).trans HD2.out.y2
   have e_3 := (HC3.out.cell (p := ⟨Y, 3, none⟩) HD2.out.yl.2 hnYX).trans HD2.out.y3
   have e_4 := (HC3.out.cell (p := ⟨Y, 4, none⟩) HD2.out.yl.2 hnYX).trans HD2.out.y4
   have e_f : ∀ o, x3.frozen? ⟨Y, o, none⟩ = false := fun o => (HC3.out.frozen (p := ⟨Y, o, none⟩) HD2.out.yl.2 hnYX).trans (HD2.out.yf o)
   have e_l : Y < x3.heap.size := Nat.lt_of_lt_of_le HD2.out.yl.2 hzx3
   refine oN hK (hS := .inl rfl) (h := ?_)
   clear hK K'
   refine oO (hS := .inl rfl) (h := ?_)
   intro K' hK
   go_simp
   obtain ⟨x4, hx4⟩ : ∃ x, (((((x3.setCell ⟨Y, 0, none⟩ (.int .i64 p2.state)).setCell ⟨Y, 1, none⟩ (.slice ap2 p2.args.length cp2)).setCell ⟨Y, 2, none⟩ (.bool p2.priv)).setCell ⟨Y, 3, none⟩ (.string p2.text)).setCell ⟨Y, 4, none⟩ (.string p2.utf)) = x := ⟨_, rfl⟩
   have HC4 : Hid (Ch (· = Y) x3 x4) := zz (by rw [← hx4]; exact ((((Ch.set1' _ _ 0 _).trans (Ch.set1' _ _ 1 _) (fun _ h => .inl h)).trans (Ch.set1' _ _ 2 _) (fun _ h => .inl h)).trans (Ch.set1' _ _ 3 _) (fun _ h => .inl h)).trans (Ch.set1' _ _ 4 _) (fun _ h => .inl h))
   have u_0 : x4.cell? ⟨Y, 0, none⟩ = some (.int .i64 p2.state) := by rw [← hx4]; simp [go_sem, e_0, e_1, e_2, e_3, e_4, e_l]
   have u_1 : x4.cell? ⟨Y, 1, none⟩ = some (.slice ap2 p2.args.length cp2) := by rw [← hx4]; simp [go_sem, e_0, e_1, e_2, e_3, e_4, e_l]
   have u_2 : x4.cell? ⟨Y, 2, none⟩ = some (.bool p2.priv) := by rw [← hx4]; simp [go_sem, e_0, e_1, e_2, e_3, e_4, e_l]
   have u_3 : x4.cell? ⟨Y, 3, none⟩ = some (.string p2.text) := by rw [← hx4]; simp [go_sem, e_0, e_1, e_2, e_3, e_4, e_l]
   have u_4 : x4.cell? ⟨Y, 4, none⟩ = some (.string p2.utf) := by rw [← hx4]; simp [go_sem, e_0, e_1, e_2, e_3, e_4, e_l]
   have x4_fX : ∀ o, x4.frozen? ⟨X, o, none⟩ = false := fun o => by rw [← hx4]; simp only [World.frozen?_setCell]; exact x3_fX o
   have x4_fY : ∀ o, x4.frozen? ⟨Y, o, none⟩ = false := fun o => by rw [← hx4]; simp only [World.frozen?_setCell]; exact e_f o
   rw [hx4]
   clear hx4 e_0 e_1 e_2 e_3 e_4 e_f e_l
   have hzx4 := HC4.out.size
   refine oN hK (hS := .inl rfl) (h := ?_)
   clear hK K'
   refine oD ?_
   have HC34 : Hid (Ch (fun k => k = X ∨ k = Y) x2 x4) := zz ((HC3.out.mono (fun i h => .inl (.inl h))).trans HC4.out (fun i h => .inl (.inr h)))
   have HXY : Hid (x2.heap.size ≤ x4.heap.size ∧ X < x1.heap.size ∧ Y < x1.heap.size ∧ lo + 1 ≤ X ∧ lo + 1 ≤ Y ∧ wr.heap.size ≤ x1.heap.size) := zz ⟨HC34.out.size, HD1.out.xl.2, HD1.out.yl.2, HD.out.xl.1, HD.out.yl.1, hzx1⟩
   have HDN : Hid (DrS b a c xs (K + 9) (lo + 1) X Y s2 ac2 cc2 ah2 dh2 p2 ap2 cp2 x4) := zz (by
    have hq := HXY.out
    have f1 := Fr.blks HSC2.out.row
    have f2 := HSC2.out.win.blk
    have f3 := Fr.blks HAR2.out
    have hlx : lo + 1 ≤ x1.heap.size := by omega
    have hn : ∀ k, k ∈ bO ac2 ∨ k ∈ bO ah2 ∨ k ∈ bO ap2 → k ≠ X ∧ k ≠ Y := fun k hk => by
     rcases hk with h | h | h
     ·have := f1 k h; omega
     ·have := f2 k h; omega
     ·have := f3 k h; omega
    have hn' : ∀ k, k ∈ bO ac2 ∨ k ∈ bO ah2 ∨ k ∈ bO ap2 → ¬ (k = X ∨ k = Y) := fun k hk e => by have := hn k hk; omega
    exact ⟨(HSC2.out.low hlx).ch HC34.out (fun k hk => hn' k (.inl hk)) (fun k hk => hn' k (.inr (.inl hk))), HOK2.out, HPV2.out, HGD2.out, (HAR2.out.ch HC34.out (fun k hk => hn' k (.inr (.inr hk)))).mono hlx (Nat.le_refl _), HD2.out.src.ch HC34.out (by omega) (fun b' o he => (HFAR.out b' o he).imp id (fun h => by omega)), (HC4.out.cell (p := ⟨X, 0, none⟩) (by show X < _; omega) hnXY).trans t_0, (HC4.out.cell (p := ⟨X, 1, none⟩) (by show X < _; omega) hnXY).trans t_1, (HC4.out.cell (p := ⟨X, 2, none⟩) (by show X < _; omega) hnXY).trans t_2, (HC4.out.cell (p := ⟨X, 3, none⟩) (by show X < _; omega) hnXY).trans t_3, (HC4.out.cell (p := ⟨X, 4, none⟩) (by show X < _; omega) hnXY).trans t_4, (HC4.out.cell (p := ⟨X, 5, none⟩) (by show X < _; omega) hnXY).trans t_5, (HC4.out.cell (p := ⟨X, 6, none⟩) (by show X < _; omega) hnXY).trans t_6, (HC4.out.cell (p := ⟨X, 7, none⟩) (by show X < _; omega) hnXY).trans t_7, (HC4.out.cell (p := ⟨X, 8, none⟩) (by show X < _; omega) hnXY).trans t_8, (HC4.out.cell (p := ⟨X, 9, none⟩) (by show X < _; omega) hnXY).trans t_9, (HC4.out.cell (p := ⟨X, 10, none⟩) (by show X < _; omega) hnXY).trans t_10, (HC4.out.cell (p := ⟨X, 11, none⟩) (by show X < _; omega) hnXY).trans t_11, u_0, u_1, u_2, u_3, u_4, x4_fX, x4_fY, ⟨hq.2.2.2.1, by omega⟩, ⟨hq.2.2.2.2.1, by omega⟩, HD.out.xy, by omega, hn⟩)
   have HZN : Hid ((∀ o, x4.cell? ⟨lo, o, none⟩ = W0.cell? ⟨lo, o, none⟩) ∧ (∀ o, x4.frozen? ⟨lo, o, none⟩ = W0.frozen? ⟨lo, o, none⟩) ∧ Ch (fun k => k = b ∨ lo ≤ k) w x4 ∧ lo < x4.heap.size) := zz (by
    have hq := HXY.out
    have hce : Ch (fun k => k = b ∨ k = X ∨ k = Y) wr x4 := ((HC1.out.mono (M := fun k => k = b ∨ k = X ∨ k = Y) (fun i h => .inl (.inl h))).trans (N := fun _ => False) (Ch.of_below HB2.out) (fun _ h => h.elim)).trans HC34.out (fun i h => .inl (.inr h))
    have hnl : ¬ (lo = b ∨ lo = X ∨ lo = Y) := by omega
    exact ⟨fun o => (hce.cell (p := ⟨lo, o, none⟩) hlr hnl).trans (HZC.out o), fun o => (hce.frozen (p := ⟨lo, o, none⟩) hlr hnl).trans (HZF.out o), HCH.out.trans hce (fun i hi => .inl (by omega)), by omega⟩)
   go_wp2_with fail
   go_roundw
   case rel => exact ⟨j - 1, by omega, by go_num, zz ⟨K + 9, s2, ac2, cc2, ah2, dh2, p2, ap2, cp2, by omega, HDN.out, HZN.out.1, HZN.out.2.1, HZN.out.2.2.1, HZN.out.2.2.2⟩⟩
   case measure => simp [intOf]; omega
  ·obtain rfl : j = 0 := by omega
   have x_0 : wr.cell? ⟨X, 0, none⟩ = some (.int .i64 s.w) := HD.out.x0
   have x_1 : wr.cell? ⟨X, 1, none⟩ = some (.int .i64 s.h) := HD.out.x1
   have x_2 : wr.cell? ⟨X, 2, none⟩ = some (.int .i64 s.x) := HD.out.x2
   have x_3 : wr.cell? ⟨X, 3, none⟩ = some (.int .i64 s.y) := HD.out.x3
   have x_4 : wr.cell? ⟨X, 4, none⟩ = some (.int .i64 s.look) := HD.out.x4
   have x_5 : wr.cell? ⟨X, 5, none⟩ = some (.int .i64 s.top) := HD.out.x5
   have x_6 : wr.cell? ⟨X, 6, none⟩ = some (.int .i64 s.bot) := HD.out.x6
   have x_7 : wr.cell? ⟨X, 7, none⟩ = some (.int .i64 s.sx) := HD.out.x7
   have x_8 : wr.cell? ⟨X, 8, none⟩ = some (.int .i64 s.sy) := HD.out.x8
   have x_9 : wr.cell? ⟨X, 9, none⟩ = some (.string s.title) := HD.out.x9
   have x_10 : wr.cell? ⟨X, 10, none⟩ = some (.slice ac s.cells.length cc) := HD.out.x10
   have x_11 : wr.cell? ⟨X, 11, none⟩ = some (.slice ah s.hist.length dh) := HD.out.x11
   have z_0 : wr.cell? ⟨lo, 0, none⟩ = some (.int .i64 0) := (HZC.out 0).trans HZ0.out.1
   have z_1 : wr.cell? ⟨lo, 1, none⟩ = some (.int .i64 0) := (HZC.out 1).trans HZ0.out.2.1
   have z_2 : wr.cell? ⟨lo, 2, none⟩ = some (.int .i64 0) := (HZC.out 2).trans HZ0.out.2.2.1
   have z_3 : wr.cell? ⟨lo, 3, none⟩ = some (.int .i64 0) := (HZC.out 3).trans HZ0.out.2.2.2.1
   have z_4 : wr.cell? ⟨lo, 4, none⟩ = some (.int .i64 0) := (HZC.out 4).trans HZ0.out.2.2.2.2.1
   have z_5 : wr.cell? ⟨lo, 5, none⟩ = some (.int .i64 0) := (HZC.out 5).trans HZ0.out.2.2.2.2.2.1
   have z_6 : wr.cell? ⟨lo, 6, none⟩ = some (.int .i64 0) := (HZC.out 6).trans HZ0.out.2.2.2.2.2.2.1
   have z_7 : wr.cell? ⟨lo, 7, none⟩ = some (.int .i64 0) := (HZC.out 7).trans HZ0.out.2.2.2.2.2.2.2.1
   have z_8 : wr.cell? ⟨lo, 8, none⟩ = some (.int .i64 0) := (HZC.out 8).trans HZ0.out.2.2.2.2.2.2.2.2.1
   have z_9 : wr.cell? ⟨lo, 9, none⟩ = some (.string ⟨#[]⟩) := (HZC.out 9).trans HZ0.out.2.2.2.2.2.2.2.2.2.1
   have z_10 : wr.cell? ⟨lo, 10, none⟩ = some (.slice none 0 0) := (HZC.out 10).trans HZ0.out.2.2.2.2.2.2.2.2.2.2.1
   have z_11 : wr.cell? ⟨lo, 11, none⟩ = some (.slice none 0 0) := (HZC.out 11).trans HZ0.out.2.2.2.2.2.2.2.2.2.2.2.1
   have z_f : ∀ o, wr.frozen? ⟨lo, o, none⟩ = false := fun o => (HZF.out o).trans (HZ0.out.2.2.2.2.2.2.2.2.2.2.2.2 o)
   have nn : ¬ X = lo := by omega
   have nm : ¬ lo = X := by omega
   have hXr := HD.out.xl.2
   go_wp2_with fail
   refine bodyPost_ret (v := scrV s ac cc ah dh) (by simp [results, Tryz.results23, scrV, go_sem, x_0, x_1, x_2, x_3, x_4, x_5, x_6, x_7, x_8, x_9, x_10, x_11, z_0, z_1, z_2, z_3, z_4, z_5, z_6, z_7, z_8, z_9, z_10, z_11, hlr, hXr, nn, nm]) rfl ?_
   have hfin : ∀ wz, Ch (· = lo) wr wz → sF w.heap.size s ac cc ah dh wz ∧ Below b w wz := fun wz hc => by
    rw [HLO.out]
    have f1 := Fr.blks HD.out.sc.row
    have f2 := HD.out.sc.win.blk
    refine ⟨(HD.out.sc.low (Nat.le_succ lo)).ch hc (fun k hk e => ?_) (fun k hk e => ?_), ?_⟩
    ·have := (f1 k hk).1; omega
    ·have := (f2 k hk).1; omega
    ·exact (HCH.out.below (by rw [HLO.out]; omega) (fun k h => by omega)).trans (hc.below (by omega) (fun k h => by omega))
   refine ⟨s, ⟨HD.out.ok, HD.out.gd.2⟩, (hfin _ ?_).2, ac, cc, ah, dh, rfl, (hfin _ ?_).1⟩
   all_goals repeat (first | (with_reducible exact Ch.refl) | (with_reducible refine Ch.setB ?_ _ _))
theorem Zu8 (a : Option Addr) (c : Nat) (xs : List UInt8) (w : World) (ha : Sl yE 1 w a xs) (hl : xs.length ≤ 1048576) :
 Calls Tryz.prog 6 #[.slice a xs.length c] w fun e w' => ∃ s, (sK s ∧ s.look &&& 48 = 0) ∧ Below w.heap.size w w' ∧ ∃ ac cc ah dh, e = .returned (scrV s ac cc ah dh) ∧ sF w.heap.size s ac cc ah dh w' := by
 obtain ⟨W0, hW0⟩ := eX (w.alloc (.cells #[.int .i64 0, .int .i64 0, .int .i64 0, .int .i64 0, .int .i64 0, .int .i64 0, .int .i64 0, .int .i64 0, .int .i64 0, .string ⟨#[]⟩, .slice none 0 0, .slice none 0 0] 26))
 have HB0 : Hid (Below w.heap.size w W0) := zz (by rw [← hW0]; exact bA)
 have hz0 : w.heap.size < W0.heap.size := by rw [← hW0]; simp
 have z_0 : W0.cell? ⟨w.heap.size, 0, none⟩ = some (.int .i64 0) := by rw [← hW0]; simp [go_sem]
 have z_1 : W0.cell? ⟨w.heap.size, 1, none⟩ = some (.int .i64 0) := by rw [← hW0]; simp [go_sem]
 have z_2 : W0.cell? ⟨w.heap.size, 2, none⟩ = some (.int .i64 0) := by rw [← hW0]; simp [go_sem]
 have z_3 : W0.cell? ⟨w.heap.size, 3, none⟩ = some (.int .i64 0) := by rw [← hW0]; simp [go_sem]
 have z_4 : W0.cell? ⟨w.heap.size, 4, none⟩ = some (.int .i64 0) := by rw [← hW0]; simp [go_sem]
 have z_5 : W0.cell? ⟨w.heap.size, 5, none⟩ = some (.int .i64 0) := by rw [← hW0]; simp [go_sem]
 have z_6 : W0.cell? ⟨w.heap.size, 6, none⟩ = some (.int .i64 0) := by rw [← hW0]; simp [go_sem]
 have z_7 : W0.cell? ⟨w.heap.size, 7, none⟩ = some (.int .i64 0) := by rw [← hW0]; simp [go_sem]
 have z_8 : W0.cell? ⟨w.heap.size, 8, none⟩ = some (.int .i64 0) := by rw [← hW0]; simp [go_sem]
 have z_9 : W0.cell? ⟨w.heap.size, 9, none⟩ = some (.string ⟨#[]⟩) := by rw [← hW0]; simp [go_sem]
 have z_10 : W0.cell? ⟨w.heap.size, 10, none⟩ = some (.slice none 0 0) := by rw [← hW0]; simp [go_sem]
 have z_11 : W0.cell? ⟨w.heap.size, 11, none⟩ = some (.slice none 0 0) := by rw [← hW0]; simp [go_sem]
 have z_f : ∀ o, W0.frozen? ⟨w.heap.size, o, none⟩ = false := fun o => by rw [← hW0]; simp [go_sem]
 have HC := zz (Zg7 a c xs W0 (ha.keep HB0.out) (Nat.le_trans hl (by decide)))
 clear ha
 go_enter Tryz.func6, Tryz.ntmps6
 go_upto_region 1 with fail
 clear hW0
 go_wp2_with fail
 refine HC.out.mono ?_
 rintro e w1 ⟨rfl, hs1, hb1⟩
 have HB1 := zz hb1
 have HN := zz (Zv5 W0.heap.size a c xs w1 hs1)
 have hz1 := hb1.size
 clear hs1 hb1
 go_wp2_with fail
 refine HN.out.mono ?_
 rintro e w2 ⟨s, hok, hb2, ac, cc, ah, dh, rfl, hsc⟩
 have HOK := zz hok
 have HB2 := zz hb2
 have HSC := zz hsc
 have hz2 := hb2.size
 have HB12 : Hid (Below W0.heap.size W0 w2) := zz (HB1.out.trans hb2)
 unfold scrV
 have x_0 := kC HB12.out hz0 z_0
 have x_1 := kC HB12.out hz0 z_1
 have x_2 := kC HB12.out hz0 z_2
 have x_3 := kC HB12.out hz0 z_3
 have x_4 := kC HB12.out hz0 z_4
 have x_5 := kC HB12.out hz0 z_5
 have x_6 := kC HB12.out hz0 z_6
 have x_7 := kC HB12.out hz0 z_7
 have x_8 := kC HB12.out hz0 z_8
 have x_9 := kC HB12.out hz0 z_9
 have x_10 := kC HB12.out hz0 z_10
 have x_11 := kC HB12.out hz0 z_11
 have x_f := fun o => kF HB12.out hz0 (z_f o)
 have x_l : w.heap.size < w2.heap.size := by have := HB12.out.size; omega
 clear hok hb2 hsc z_0 z_1 z_2 z_3 z_4 z_5 z_6 z_7 z_8 z_9 z_10 z_11 z_f
 go_wp2_with fail
 refine bodyPost_ret (v := scrV s ac cc ah dh) (by simp [results, Tryz.results6, scrV, go_sem, x_0, x_1, x_2, x_3, x_4, x_5, x_6, x_7, x_8, x_9, x_10, x_11, x_l]) rfl ?_
 have hfin : ∀ wz, Ch (fun k => k = w.heap.size) w2 wz → sF w.heap.size s ac cc ah dh wz ∧ Below w.heap.size w wz := fun wz hc => by
  have f1 := Fr.blks HSC.out.row
  have f2 := HSC.out.win.blk
  refine ⟨(HSC.out.low (by omega)).ch hc (fun k hk e => ?_) (fun k hk e => ?_), ?_⟩
  ·have := (f1 k hk).1; omega
  ·have := (f2 k hk).1; omega
  ·exact (HB0.out.trans (HB12.out.mono (by omega))).trans (hc.below (by omega) (fun k h => by omega))
 refine ⟨s, HOK.out, (hfin _ ?_).2, ac, cc, ah, dh, rfl, (hfin _ ?_).1⟩
 all_goals repeat (first | (with_reducible exact Ch.refl) | (with_reducible refine Ch.setB ?_ _ _))
theorem Ya5 (a : Option Addr) (c : Nat) (xs : List UInt8) (w : World) (ha : Sl yE 1 w a xs) (hl : xs.length ≤ 1048576) :
 Calls Tryz.prog 6 #[.slice a xs.length c] w fun e w' => ∃ s, sK s ∧ Below w.heap.size w w' ∧ ∃ ac cc ah dh, e = .returned (scrV s ac cc ah dh) ∧ sF w.heap.size s ac cc ah dh w' :=
 (Zu8 a c xs w ha hl).mono (fun e w' ⟨s, hs, h2⟩ => ⟨s, hs.1, h2⟩)
end
end Go.Proofs.YtjmpgeffkdjpdaaGreatDoor
