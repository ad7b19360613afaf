/- Contracts of the functions that the claim reaches. No conditions but sizes. -/
import Derived.Test.YtjmpgeffkdjpdaaGreatDoorPRza
import Derived.Deep.DeepCutAuto
import Derived.Shelf.Unicode.DecodeAny
import Derived.Lib.LazyBuf
namespace Go.Proofs.YtjmpgeffkdjpdaaGreatDoor
set_option linter.unusedVariables false
set_option linter.unusedSimpArgs false
set_option maxRecDepth 100000
set_option maxHeartbeats 16000000
section
open Go.RowKit
def scrV (s : Scr) (ac : Option Addr) (cc : Nat) (ah : Option Addr) (dh : Nat) : Value := .agg #[.int .i64 (s.w : Int), .int .i64 (s.h : Int), .int .i64 (s.x : Int), .int .i64 (s.y : Int), .int .i64 (s.look : Int), .int .i64 (s.top : Int), .int .i64 (s.bot : Int), .int .i64 (s.sx : Int), .int .i64 (s.sy : Int), .string s.title, .slice ac s.cells.length cc, .slice ah s.hist.length dh]
structure ScrF (lo : Nat) (s : Scr) (ac : Option Addr) (cc : Nat) (ah : Option Addr) (dh : Nat) (w : World) : Prop where
  row : FreshIn celE 87 2 lo w.heap.size (.slice ac s.cells.length cc) s.cells w
  win : Win strE 9 1 lo w ah dh s.hist
  ap : ∀ k ∈ blkOf ah, k ∉ blkOf ac
structure ScrS (s : Scr) (ac ah : Option Addr) (w : World) : Prop where
  cs : Sl celE 2 w ac s.cells
  hs : Sl strE 1 w ah s.hist
section
variable {lo : Nat} {s : Scr} {ac ah : Option Addr} {cc dh : Nat} {w w' : World} {M : Nat → Prop}
theorem ScrF.ch (h : ScrF lo s ac cc ah dh w) (hc : Ch M w w') (h1 : ∀ k ∈ blkOf ac, ¬ M k) (h2 : ∀ k ∈ blkOf ah, ¬ M k) : ScrF lo s ac cc ah dh w' := ⟨h.row.ch hc h1, h.win.ch hc h2, h.ap⟩
theorem ScrF.below (h : ScrF lo s ac cc ah dh w) (hb : Below w.heap.size w w') : ScrF lo s ac cc ah dh w' := h.ch (M := fun _ => False) (Ch.of_below hb) (fun _ _ h => h) (fun _ _ h => h)
theorem ScrF.low {lo' : Nat} (h : ScrF lo s ac cc ah dh w) (hl : lo' ≤ lo) : ScrF lo' s ac cc ah dh w := ⟨h.row.mono hl (Nat.le_refl _), h.win.low hl, h.ap⟩
theorem ScrF.rd (h : ScrF lo s ac cc ah dh w) : ScrS s ac ah w := ⟨h.row.sl (fun _ => rfl), h.win.sl (fun _ => rfl)⟩
theorem ScrS.below (h : ScrS s ac ah w) (hb : Below w.heap.size w w') : ScrS s ac ah w' := ⟨h.cs.keep hb, h.hs.keep hb⟩
theorem ScrS.alloc (h : ScrS s ac ah w) (o : Obj) : ScrS s ac ah (w.alloc o) := h.below ((Below.refl _ _).alloc (Nat.le_refl _) _)
theorem ScrS.drew (h : ScrS s ac ah w) : ScrS s ac ah w.drew := h.below ((Below.refl _ _).drew)
theorem ScrAt.rd {b o g : Nat} (h : ScrAt lo b o s g cc ah dh w) : ScrS s (some ⟨g, 0, none⟩) ah w := ⟨h.sl, h.hsl⟩
theorem ScrF.blk (h : ScrF lo s ac cc ah dh w) (h0 : 0 < s.cells.length) : ∃ g, ac = some ⟨g, 0, none⟩ := by
  obtain ⟨g, h1, _⟩ := h.row.block h0
  exact ⟨g, h1⟩
end
def ScrN (s : Scr) (w : World) (e : Ending) (w' : World) : Prop :=
  ∃ ac cc ah dh, e = .returned (scrV s ac cc ah dh) ∧ ScrF w.heap.size s ac cc ah dh w' ∧ Below w.heap.size w w'
theorem ScrAt.box {lo : Nat} {s : Scr} {g cc : Nat} {ah : Option Addr} {dh : Nat} {w : World} (h : ScrF lo s (some ⟨g, 0, none⟩) cc ah dh w) (T : TypeId) : ScrAt lo w.heap.size 0 s g cc ah dh (w.alloc (.cells #[.int .i64 (s.w : Int), .int .i64 (s.h : Int), .int .i64 (s.x : Int), .int .i64 (s.y : Int), .int .i64 (s.look : Int), .int .i64 (s.top : Int), .int .i64 (s.bot : Int), .int .i64 (s.sx : Int), .int .i64 (s.sy : Int), .string s.title, .slice (some ⟨g, 0, none⟩) s.cells.length cc, .slice ah s.hist.length dh] T)) := by
  have hg := FreshIn.blks h.row g (by simp [blkOf])
  have hh := h.win.blk
  have hc : Ch (fun _ => False) w (w.alloc (.cells #[.int .i64 (s.w : Int), .int .i64 (s.h : Int), .int .i64 (s.x : Int), .int .i64 (s.y : Int), .int .i64 (s.look : Int), .int .i64 (s.top : Int), .int .i64 (s.bot : Int), .int .i64 (s.sx : Int), .int .i64 (s.sy : Int), .string s.title, .slice (some ⟨g, 0, none⟩) s.cells.length cc, .slice ah s.hist.length dh] T)) := Ch.refl.alloc _
  refine ⟨?_, ?_, ?_, ?_, ?_, ?_, ?_, ?_, ?_, ?_, ?_, ?_, ?_, by simp, h.row.ch hc (fun _ _ h => h), h.win.ch hc (fun _ _ h => h), by omega, fun k hk => ⟨by have := hh k hk; omega, fun e => h.ap k hk (by rw [e]; simp [blkOf])⟩⟩
  all_goals simp [go_sem]
theorem l04New_c (wd ht : Nat) (w : World) (h1 : wd ≤ 24) (h2 : ht ≤ 10) (h3 : 1 ≤ ht) :
    Calls Tryz.prog 49 #[.int .i64 wd, .int .i64 ht] w (ScrN (newS wd ht) w) := by
  obtain ⟨n, hn⟩ : ∃ n, wd * ht = n := ⟨_, rfl⟩
  have hn2 : n ≤ 240 := by rw [← hn]; exact Nat.mul_le_mul h1 h2
  have hq : (wd : Int) * (ht : Int) = (n : Int) := by rw [← hn]; exact (Int.natCast_mul wd ht).symm
  have hq2 : (ht : Int) - 1 = ((ht - 1 : Nat) : Int) := by omega
  have HN := Lib.hid hn
  clear hn
  go_enter Tryz.func49, Tryz.ntmps49
  go_wp2_with (go_at_call 91; refine (l04Blank_c n _ hn2).mono ?_)
  rintro e w1 ⟨a, c, rfl, hf, hb⟩
  have HF := Lib.hid hf
  have HB := Lib.hid hb
  have hz := hb.size
  simp only [World.size_alloc] at hz
  have ul : w.heap.size < w1.heap.size := by omega
  have u_0 : w1.cell? ⟨w.heap.size, 0, none⟩ = some (.int .i64 0) := kC hb (by simp) (by simp [go_sem])
  have u_1 : w1.cell? ⟨w.heap.size, 1, none⟩ = some (.int .i64 0) := kC hb (by simp) (by simp [go_sem])
  have u_2 : w1.cell? ⟨w.heap.size, 2, none⟩ = some (.int .i64 0) := kC hb (by simp) (by simp [go_sem])
  have u_3 : w1.cell? ⟨w.heap.size, 3, none⟩ = some (.int .i64 0) := kC hb (by simp) (by simp [go_sem])
  have u_4 : w1.cell? ⟨w.heap.size, 4, none⟩ = some (.int .i64 0) := kC hb (by simp) (by simp [go_sem])
  have u_5 : w1.cell? ⟨w.heap.size, 5, none⟩ = some (.int .i64 0) := kC hb (by simp) (by simp [go_sem])
  have u_6 : w1.cell? ⟨w.heap.size, 6, none⟩ = some (.int .i64 0) := kC hb (by simp) (by simp [go_sem])
  have u_7 : w1.cell? ⟨w.heap.size, 7, none⟩ = some (.int .i64 0) := kC hb (by simp) (by simp [go_sem])
  have u_8 : w1.cell? ⟨w.heap.size, 8, none⟩ = some (.int .i64 0) := kC hb (by simp) (by simp [go_sem])
  have u_9 : w1.cell? ⟨w.heap.size, 9, none⟩ = some (.string ⟨#[]⟩) := kC hb (by simp) (by simp [go_sem])
  have u_10 : w1.cell? ⟨w.heap.size, 10, none⟩ = some (.slice none 0 0) := kC hb (by simp) (by simp [go_sem])
  have u_11 : w1.cell? ⟨w.heap.size, 11, none⟩ = some (.slice none 0 0) := kC hb (by simp) (by simp [go_sem])
  have u_f : ∀ o, w1.frozen? ⟨w.heap.size, o, none⟩ = false := fun o => (hb.frozen (p := ⟨w.heap.size, o, none⟩) (by show w.heap.size < _; simp)).trans (by simp [go_sem])
  clear hf hb
  go_wp2_with fail
  refine bodyPost_ret (v := .agg #[.int .i64 wd, .int .i64 ht, .int .i64 0, .int .i64 0, .int .i64 0, .int .i64 0, .int .i64 ((ht - 1 : Nat) : Int), .int .i64 0, .int .i64 0, .string ⟨#[]⟩, .slice a n c, .slice (some ⟨w1.heap.size, 0, none⟩) 0 0]) (by simp [results, Tryz.results49, go_sem, u_0, u_1, u_2, u_3, u_4, u_5, u_6, u_7, u_8, u_9, u_10, u_11, ul]) rfl ?_
  have hlen : (newS wd ht).cells.length = n := by rw [← HN.out]; simp [newS, blanksL]
  have hfz : ∀ wz, Ch (fun k => k = w.heap.size) w1 wz → w1.heap.size < wz.heap.size → (∃ cur, wz.heap[w1.heap.size]? = some (.cells cur 9 (0, 0))) → ScrN (newS wd ht) w (.returned (.agg #[.int .i64 wd, .int .i64 ht, .int .i64 0, .int .i64 0, .int .i64 0, .int .i64 0, .int .i64 ((ht - 1 : Nat) : Int), .int .i64 0, .int .i64 0, .string ⟨#[]⟩, .slice a n c, .slice (some ⟨w1.heap.size, 0, none⟩) 0 0])) wz := fun wz hc hlt ⟨cur, hcur⟩ => by
    have hfb := FreshIn.blks HF.out
    refine ⟨a, c, some ⟨w1.heap.size, 0, none⟩, 0, by unfold scrV; rw [hlen]; rfl, ⟨?_, ?_, ?_⟩, ?_⟩
    · rw [hlen]
      have h5 := HF.out.ch hc (fun k hk e => by have := (hfb k hk).1; simp at this; omega)
      have h6 : (newS wd ht).cells = blanksL n := by rw [← HN.out]; rfl
      rw [h6]
      exact h5.mono (by simp) (Nat.le_refl _)
    · exact .inr ⟨w1.heap.size, 0, cur, rfl, by omega, hcur, Nat.zero_le _, by simp, Nat.zero_le _, by simp [newS]⟩
    · intro k hk hk2
      simp only [blkOf, List.mem_singleton] at hk
      have := (hfb k hk2).2
      omega
    · exact (((Below.refl w.heap.size w).alloc (Nat.le_refl _) _).trans (HB.out.mono (by simp))).trans (hc.below (by omega) (fun k h => by omega))
  refine hfz _ ?_ ?_ ?_
  · repeat (first | (with_reducible exact Ch.refl) | (with_reducible refine Ch.alloc ?_ _) | (with_reducible refine Ch.setB ?_ _ _))
  · simp [World.setCell]
  · have hx : ∀ X : World, X.heap.size = w1.heap.size → (X.alloc (.cells #[] 9)).heap[w1.heap.size]? = some (.cells #[] 9 (0, 0)) := fun X hX => by rw [← hX]; exact heap_alloc_new X _
    exact ⟨#[], hx _ (by simp [World.setCell])⟩
theorem Tryz.infoStr : (Tryz.prog.info? 9).map (fun i => (i.zero, i.size, i.bytes)) = some (some (.string ⟨#[]⟩), 1, 16) := by kernel_rfl
theorem strOne : ∀ x : ByteArray, ∀ u ∈ strE x, u.oneCell' = true := fun x u hu => by
  simp only [strE, List.mem_singleton] at hu
  subst hu
  rfl
theorem l04Own_c (s : Scr) (ac : Option Addr) (cc : Nat) (ah : Option Addr) (dh : Nat) (w : World) (h : ScrS s ac ah w) (hc : s.cells.length ≤ 240) (hh : s.hist.length ≤ 6) :
    Calls Tryz.prog 39 #[scrV s ac cc ah dh] w (ScrN s w) := by
  obtain ⟨iC, hC, hC0, hC1, hC2⟩ := info_parts Tryz.infoCell
  have hC := hC
  obtain ⟨iS, hS, hS0, hS1, hS2⟩ := info_parts Tryz.infoStr
  have hS := hS
  have HR := Lib.hid h
  obtain ⟨nc, hnc⟩ : ∃ n, s.cells.length = n := ⟨_, rfl⟩
  obtain ⟨nh, hnh⟩ : ∃ n, s.hist.length = n := ⟨_, rfl⟩
  have HNC := Lib.hid hnc
  have HNH := Lib.hid hnh
  unfold scrV
  rw [hnc] at hc ⊢
  rw [hnh] at hh ⊢
  clear h hnc hnh
  obtain ⟨W1, hW1⟩ : ∃ x, (w.alloc (.cells #[.int .i64 (s.w : Int), .int .i64 (s.h : Int), .int .i64 (s.x : Int), .int .i64 (s.y : Int), .int .i64 (s.look : Int), .int .i64 (s.top : Int), .int .i64 (s.bot : Int), .int .i64 (s.sx : Int), .int .i64 (s.sy : Int), .string s.title, .slice ac nc cc, .slice ah nh dh] 26)).alloc (.cells #[.int .i64 0, .int .i64 0, .int .i64 0, .int .i64 0, .int .i64 0, .int .i64 0, .int .i64 0, .int .i64 0, .int .i64 0, .string ⟨#[]⟩, .slice none 0 0, .slice none 0 0] 26) = x := ⟨_, rfl⟩
  have HB1 : Hid (Below w.heap.size w W1) := Lib.hid (by rw [← hW1]; exact ((Below.refl w.heap.size w).alloc (Nat.le_refl _) _).alloc (by simp) _)
  have hz1 : w.heap.size + 1 < W1.heap.size := by rw [← hW1]; simp
  go_enter Tryz.func39, Tryz.ntmps39
  go_upto_region 1 with fail
  have q_0 : W1.cell? ⟨w.heap.size, 0, none⟩ = some (.int .i64 (s.w : Int)) := by rw [← hW1]; simp [go_sem]
  have q_1 : W1.cell? ⟨w.heap.size, 1, none⟩ = some (.int .i64 (s.h : Int)) := by rw [← hW1]; simp [go_sem]
  have q_2 : W1.cell? ⟨w.heap.size, 2, none⟩ = some (.int .i64 (s.x : Int)) := by rw [← hW1]; simp [go_sem]
  have q_3 : W1.cell? ⟨w.heap.size, 3, none⟩ = some (.int .i64 (s.y : Int)) := by rw [← hW1]; simp [go_sem]
  have q_4 : W1.cell? ⟨w.heap.size, 4, none⟩ = some (.int .i64 (s.look : Int)) := by rw [← hW1]; simp [go_sem]
  have q_5 : W1.cell? ⟨w.heap.size, 5, none⟩ = some (.int .i64 (s.top : Int)) := by rw [← hW1]; simp [go_sem]
  have q_6 : W1.cell? ⟨w.heap.size, 6, none⟩ = some (.int .i64 (s.bot : Int)) := by rw [← hW1]; simp [go_sem]
  have q_7 : W1.cell? ⟨w.heap.size, 7, none⟩ = some (.int .i64 (s.sx : Int)) := by rw [← hW1]; simp [go_sem]
  have q_8 : W1.cell? ⟨w.heap.size, 8, none⟩ = some (.int .i64 (s.sy : Int)) := by rw [← hW1]; simp [go_sem]
  have q_9 : W1.cell? ⟨w.heap.size, 9, none⟩ = some (.string s.title) := by rw [← hW1]; simp [go_sem]
  have q_10 : W1.cell? ⟨w.heap.size, 10, none⟩ = some (.slice ac nc cc) := by rw [← hW1]; simp [go_sem]
  have q_11 : W1.cell? ⟨w.heap.size, 11, none⟩ = some (.slice ah nh dh) := by rw [← hW1]; simp [go_sem]
  have q_f : ∀ o, W1.frozen? ⟨w.heap.size, o, none⟩ = false := fun o => by rw [← hW1]; simp [go_sem]
  have r_0 : W1.cell? ⟨w.heap.size + 1, 0, none⟩ = some (.int .i64 0) := by rw [← hW1]; simp [go_sem]
  have r_1 : W1.cell? ⟨w.heap.size + 1, 1, none⟩ = some (.int .i64 0) := by rw [← hW1]; simp [go_sem]
  have r_2 : W1.cell? ⟨w.heap.size + 1, 2, none⟩ = some (.int .i64 0) := by rw [← hW1]; simp [go_sem]
  have r_3 : W1.cell? ⟨w.heap.size + 1, 3, none⟩ = some (.int .i64 0) := by rw [← hW1]; simp [go_sem]
  have r_4 : W1.cell? ⟨w.heap.size + 1, 4, none⟩ = some (.int .i64 0) := by rw [← hW1]; simp [go_sem]
  have r_5 : W1.cell? ⟨w.heap.size + 1, 5, none⟩ = some (.int .i64 0) := by rw [← hW1]; simp [go_sem]
  have r_6 : W1.cell? ⟨w.heap.size + 1, 6, none⟩ = some (.int .i64 0) := by rw [← hW1]; simp [go_sem]
  have r_7 : W1.cell? ⟨w.heap.size + 1, 7, none⟩ = some (.int .i64 0) := by rw [← hW1]; simp [go_sem]
  have r_8 : W1.cell? ⟨w.heap.size + 1, 8, none⟩ = some (.int .i64 0) := by rw [← hW1]; simp [go_sem]
  have r_9 : W1.cell? ⟨w.heap.size + 1, 9, none⟩ = some (.string ⟨#[]⟩) := by rw [← hW1]; simp [go_sem]
  have r_10 : W1.cell? ⟨w.heap.size + 1, 10, none⟩ = some (.slice none 0 0) := by rw [← hW1]; simp [go_sem]
  have r_11 : W1.cell? ⟨w.heap.size + 1, 11, none⟩ = some (.slice none 0 0) := by rw [← hW1]; simp [go_sem]
  have r_f : ∀ o, W1.frozen? ⟨w.heap.size + 1, o, none⟩ = false := fun o => by rw [← hW1]; simp [go_sem]
  clear hW1
  obtain ⟨W2, hW2⟩ : ∃ x, W1.alloc (.cells #[] 87) = x := ⟨_, rfl⟩
  have HB2 : Hid (Below W1.heap.size W1 W2) := Lib.hid (by rw [← hW2]; exact (Below.refl _ _).alloc (Nat.le_refl _) _)
  have hz2 : W1.heap.size < W2.heap.size := by rw [← hW2]; simp
  have HF2 : Hid (FreshIn celE 87 2 w.heap.size W2.heap.size (.slice (some ⟨W1.heap.size, 0, none⟩) 0 0) [] W2) := Lib.hid (by rw [← hW2]; exact FreshIn.emp celE _ 2 w.heap.size W1 (by omega))
  have HSRC : Hid (Src Tryz.prog 2 23 (.slice ac nc cc) s.cells.length (s.cells.flatMap celE) W2) := Lib.hid (by
    rw [← HNC.out]
    exact Src.ofSl (enc := celE) (sz := 2) Tryz.underlying23 (fun _ => rfl) celOne ((HR.out.below HB1.out).below HB2.out).cs _)
  have y_0 := kC HB2.out (by omega) q_0
  have y_1 := kC HB2.out (by omega) q_1
  have y_2 := kC HB2.out (by omega) q_2
  have y_3 := kC HB2.out (by omega) q_3
  have y_4 := kC HB2.out (by omega) q_4
  have y_5 := kC HB2.out (by omega) q_5
  have y_6 := kC HB2.out (by omega) q_6
  have y_7 := kC HB2.out (by omega) q_7
  have y_8 := kC HB2.out (by omega) q_8
  have y_9 := kC HB2.out (by omega) q_9
  have y_10 := kC HB2.out (by omega) q_10
  have y_11 := kC HB2.out (by omega) q_11
  have y_f : ∀ o, W2.frozen? ⟨w.heap.size, o, none⟩ = false := fun o => (HB2.out.frozen (p := ⟨w.heap.size, o, none⟩) (by show w.heap.size < _; omega)).trans (q_f o)
  have yl : w.heap.size < W2.heap.size := by omega
  clear q_0 q_1
  go_wp2_with (at_builtin; refine wpList_append_ch (.tmp 3) (.tmp 5) 23 23 w.heap.size 87 iC (.agg #[.int .i64 0, .int .i64 0]) 2 16 Tryz.underlying23 hC hC0 hC1 hC2 rfl (by decide) (some ⟨W1.heap.size, 0, none⟩) 0 0 [] HF2.out (.slice ac nc cc) s.cells HSRC.out (by have := HNC.out; simp; omega) (by omega) rfl rfl rfl rfl ?_)
  intro a8 c8 w8 us hus hf8 hc8 hk8
  obtain rfl : us = s.cells := by simpa using hus.out
  have HF8 := Lib.hid hf8
  have HK8 := Lib.hid hk8
  have hcb := hc8
  have hz8 := hc8.size
  have HB8 : Hid (Below w.heap.size w w8) := Lib.hid ((HB1.out.trans (HB2.out.mono (by omega))).trans (hc8.below (by omega) (fun k hk => by simp [blkOf] at hk; omega)))
  have z_0 : w8.cell? ⟨w.heap.size, 0, none⟩ = some (.int .i64 (s.w : Int)) := (hc8.cell (p := ⟨w.heap.size, 0, none⟩) (by show w.heap.size < _; omega) (by simp [blkOf]; omega)).trans y_0
  have z_1 : w8.cell? ⟨w.heap.size, 1, none⟩ = some (.int .i64 (s.h : Int)) := (hc8.cell (p := ⟨w.heap.size, 1, none⟩) (by show w.heap.size < _; omega) (by simp [blkOf]; omega)).trans y_1
  have z_2 : w8.cell? ⟨w.heap.size, 2, none⟩ = some (.int .i64 (s.x : Int)) := (hc8.cell (p := ⟨w.heap.size, 2, none⟩) (by show w.heap.size < _; omega) (by simp [blkOf]; omega)).trans y_2
  have z_3 : w8.cell? ⟨w.heap.size, 3, none⟩ = some (.int .i64 (s.y : Int)) := (hc8.cell (p := ⟨w.heap.size, 3, none⟩) (by show w.heap.size < _; omega) (by simp [blkOf]; omega)).trans y_3
  have z_4 : w8.cell? ⟨w.heap.size, 4, none⟩ = some (.int .i64 (s.look : Int)) := (hc8.cell (p := ⟨w.heap.size, 4, none⟩) (by show w.heap.size < _; omega) (by simp [blkOf]; omega)).trans y_4
  have z_5 : w8.cell? ⟨w.heap.size, 5, none⟩ = some (.int .i64 (s.top : Int)) := (hc8.cell (p := ⟨w.heap.size, 5, none⟩) (by show w.heap.size < _; omega) (by simp [blkOf]; omega)).trans y_5
  have z_6 : w8.cell? ⟨w.heap.size, 6, none⟩ = some (.int .i64 (s.bot : Int)) := (hc8.cell (p := ⟨w.heap.size, 6, none⟩) (by show w.heap.size < _; omega) (by simp [blkOf]; omega)).trans y_6
  have z_7 : w8.cell? ⟨w.heap.size, 7, none⟩ = some (.int .i64 (s.sx : Int)) := (hc8.cell (p := ⟨w.heap.size, 7, none⟩) (by show w.heap.size < _; omega) (by simp [blkOf]; omega)).trans y_7
  have z_8 : w8.cell? ⟨w.heap.size, 8, none⟩ = some (.int .i64 (s.sy : Int)) := (hc8.cell (p := ⟨w.heap.size, 8, none⟩) (by show w.heap.size < _; omega) (by simp [blkOf]; omega)).trans y_8
  have z_9 : w8.cell? ⟨w.heap.size, 9, none⟩ = some (.string s.title) := (hc8.cell (p := ⟨w.heap.size, 9, none⟩) (by show w.heap.size < _; omega) (by simp [blkOf]; omega)).trans y_9
  have z_10 : w8.cell? ⟨w.heap.size, 10, none⟩ = some (.slice ac nc cc) := (hc8.cell (p := ⟨w.heap.size, 10, none⟩) (by show w.heap.size < _; omega) (by simp [blkOf]; omega)).trans y_10
  have z_11 : w8.cell? ⟨w.heap.size, 11, none⟩ = some (.slice ah nh dh) := (hc8.cell (p := ⟨w.heap.size, 11, none⟩) (by show w.heap.size < _; omega) (by simp [blkOf]; omega)).trans y_11
  have z_f : ∀ o, w8.frozen? ⟨w.heap.size, o, none⟩ = false := fun o => (hc8.frozen (p := ⟨w.heap.size, o, none⟩) (by show w.heap.size < _; omega) (by simp [blkOf]; omega)).trans (y_f o)
  have x_0 : w8.cell? ⟨w.heap.size + 1, 0, none⟩ = some (.int .i64 0) := (hc8.cell (p := ⟨w.heap.size + 1, 0, none⟩) (by show w.heap.size + 1 < _; omega) (by simp [blkOf]; omega)).trans ((HB2.out.cell (p := ⟨w.heap.size + 1, 0, none⟩) (by show w.heap.size + 1 < _; omega)).trans r_0)
  have x_1 : w8.cell? ⟨w.heap.size + 1, 1, none⟩ = some (.int .i64 0) := (hc8.cell (p := ⟨w.heap.size + 1, 1, none⟩) (by show w.heap.size + 1 < _; omega) (by simp [blkOf]; omega)).trans ((HB2.out.cell (p := ⟨w.heap.size + 1, 1, none⟩) (by show w.heap.size + 1 < _; omega)).trans r_1)
  have x_2 : w8.cell? ⟨w.heap.size + 1, 2, none⟩ = some (.int .i64 0) := (hc8.cell (p := ⟨w.heap.size + 1, 2, none⟩) (by show w.heap.size + 1 < _; omega) (by simp [blkOf]; omega)).trans ((HB2.out.cell (p := ⟨w.heap.size + 1, 2, none⟩) (by show w.heap.size + 1 < _; omega)).trans r_2)
  have x_3 : w8.cell? ⟨w.heap.size + 1, 3, none⟩ = some (.int .i64 0) := (hc8.cell (p := ⟨w.heap.size + 1, 3, none⟩) (by show w.heap.size + 1 < _; omega) (by simp [blkOf]; omega)).trans ((HB2.out.cell (p := ⟨w.heap.size + 1, 3, none⟩) (by show w.heap.size + 1 < _; omega)).trans r_3)
  have x_4 : w8.cell? ⟨w.heap.size + 1, 4, none⟩ = some (.int .i64 0) := (hc8.cell (p := ⟨w.heap.size + 1, 4, none⟩) (by show w.heap.size + 1 < _; omega) (by simp [blkOf]; omega)).trans ((HB2.out.cell (p := ⟨w.heap.size + 1, 4, none⟩) (by show w.heap.size + 1 < _; omega)).trans r_4)
  have x_5 : w8.cell? ⟨w.heap.size + 1, 5, none⟩ = some (.int .i64 0) := (hc8.cell (p := ⟨w.heap.size + 1, 5, none⟩) (by show w.heap.size + 1 < _; omega) (by simp [blkOf]; omega)).trans ((HB2.out.cell (p := ⟨w.heap.size + 1, 5, none⟩) (by show w.heap.size + 1 < _; omega)).trans r_5)
  have x_6 : w8.cell? ⟨w.heap.size + 1, 6, none⟩ = some (.int .i64 0) := (hc8.cell (p := ⟨w.heap.size + 1, 6, none⟩) (by show w.heap.size + 1 < _; omega) (by simp [blkOf]; omega)).trans ((HB2.out.cell (p := ⟨w.heap.size + 1, 6, none⟩) (by show w.heap.size + 1 < _; omega)).trans r_6)
  have x_7 : w8.cell? ⟨w.heap.size + 1, 7, none⟩ = some (.int .i64 0) := (hc8.cell (p := ⟨w.heap.size + 1, 7, none⟩) (by show w.heap.size + 1 < _; omega) (by simp [blkOf]; omega)).trans ((HB2.out.cell (p := ⟨w.heap.size + 1, 7, none⟩) (by show w.heap.size + 1 < _; omega)).trans r_7)
  have x_8 : w8.cell? ⟨w.heap.size + 1, 8, none⟩ = some (.int .i64 0) := (hc8.cell (p := ⟨w.heap.size + 1, 8, none⟩) (by show w.heap.size + 1 < _; omega) (by simp [blkOf]; omega)).trans ((HB2.out.cell (p := ⟨w.heap.size + 1, 8, none⟩) (by show w.heap.size + 1 < _; omega)).trans r_8)
  have x_9 : w8.cell? ⟨w.heap.size + 1, 9, none⟩ = some (.string ⟨#[]⟩) := (hc8.cell (p := ⟨w.heap.size + 1, 9, none⟩) (by show w.heap.size + 1 < _; omega) (by simp [blkOf]; omega)).trans ((HB2.out.cell (p := ⟨w.heap.size + 1, 9, none⟩) (by show w.heap.size + 1 < _; omega)).trans r_9)
  have x_10 : w8.cell? ⟨w.heap.size + 1, 10, none⟩ = some (.slice none 0 0) := (hc8.cell (p := ⟨w.heap.size + 1, 10, none⟩) (by show w.heap.size + 1 < _; omega) (by simp [blkOf]; omega)).trans ((HB2.out.cell (p := ⟨w.heap.size + 1, 10, none⟩) (by show w.heap.size + 1 < _; omega)).trans r_10)
  have x_11 : w8.cell? ⟨w.heap.size + 1, 11, none⟩ = some (.slice none 0 0) := (hc8.cell (p := ⟨w.heap.size + 1, 11, none⟩) (by show w.heap.size + 1 < _; omega) (by simp [blkOf]; omega)).trans ((HB2.out.cell (p := ⟨w.heap.size + 1, 11, none⟩) (by show w.heap.size + 1 < _; omega)).trans r_11)
  have x_f : ∀ o, w8.frozen? ⟨w.heap.size + 1, o, none⟩ = false := fun o => (hc8.frozen (p := ⟨w.heap.size + 1, o, none⟩) (by show w.heap.size + 1 < _; omega) (by simp [blkOf]; omega)).trans ((HB2.out.frozen (p := ⟨w.heap.size + 1, o, none⟩) (by show w.heap.size + 1 < _; omega)).trans (r_f o))
  have zl : w.heap.size < w8.heap.size := by omega
  have xl : w.heap.size + 1 < w8.heap.size := by omega
  clear hus hf8 hc8 hk8 hcb y_0 y_1 y_2 y_3 y_4 y_5 y_6 y_7 y_8 y_9 y_10 y_11 y_f yl r_0 r_1 r_2 r_3 r_4 r_5 r_6 r_7 r_8 r_9 r_10 r_11 r_f
  go_upto_region 2 with fail
  obtain ⟨W3, hW3⟩ : ∃ x, w8.setCell ⟨w.heap.size, 10, none⟩ (.slice a8 s.cells.length c8) = x := ⟨_, rfl⟩
  have HC3 : Hid (Ch (fun k => k = w.heap.size) w8 W3) := Lib.hid (by rw [← hW3]; exact Ch.set1' _ _ _ _)
  have hz3 := HC3.out.size
  have nn : ¬ w.heap.size + 1 = w.heap.size := by omega
  have q_0 : W3.cell? ⟨w.heap.size, 0, none⟩ = some (.int .i64 (s.w : Int)) := by rw [← hW3]; simp [go_sem, z_0, zl]
  have q_1 : W3.cell? ⟨w.heap.size, 1, none⟩ = some (.int .i64 (s.h : Int)) := by rw [← hW3]; simp [go_sem, z_1, zl]
  have q_2 : W3.cell? ⟨w.heap.size, 2, none⟩ = some (.int .i64 (s.x : Int)) := by rw [← hW3]; simp [go_sem, z_2, zl]
  have q_3 : W3.cell? ⟨w.heap.size, 3, none⟩ = some (.int .i64 (s.y : Int)) := by rw [← hW3]; simp [go_sem, z_3, zl]
  have q_4 : W3.cell? ⟨w.heap.size, 4, none⟩ = some (.int .i64 (s.look : Int)) := by rw [← hW3]; simp [go_sem, z_4, zl]
  have q_5 : W3.cell? ⟨w.heap.size, 5, none⟩ = some (.int .i64 (s.top : Int)) := by rw [← hW3]; simp [go_sem, z_5, zl]
  have q_6 : W3.cell? ⟨w.heap.size, 6, none⟩ = some (.int .i64 (s.bot : Int)) := by rw [← hW3]; simp [go_sem, z_6, zl]
  have q_7 : W3.cell? ⟨w.heap.size, 7, none⟩ = some (.int .i64 (s.sx : Int)) := by rw [← hW3]; simp [go_sem, z_7, zl]
  have q_8 : W3.cell? ⟨w.heap.size, 8, none⟩ = some (.int .i64 (s.sy : Int)) := by rw [← hW3]; simp [go_sem, z_8, zl]
  have q_9 : W3.cell? ⟨w.heap.size, 9, none⟩ = some (.string s.title) := by rw [← hW3]; simp [go_sem, z_9, zl]
  have q_10 : W3.cell? ⟨w.heap.size, 10, none⟩ = some (.slice a8 s.cells.length c8) := by rw [← hW3]; simp [go_sem, z_10, zl]
  have q_11 : W3.cell? ⟨w.heap.size, 11, none⟩ = some (.slice ah nh dh) := by rw [← hW3]; simp [go_sem, z_11, zl]
  have q_f : ∀ o, W3.frozen? ⟨w.heap.size, o, none⟩ = false := fun o => by rw [← hW3]; simp [go_sem, z_f]
  have r_0 : W3.cell? ⟨w.heap.size + 1, 0, none⟩ = some (.int .i64 0) := (HC3.out.cell (p := ⟨w.heap.size + 1, 0, none⟩) (by show w.heap.size + 1 < _; omega) nn).trans x_0
  have r_1 : W3.cell? ⟨w.heap.size + 1, 1, none⟩ = some (.int .i64 0) := (HC3.out.cell (p := ⟨w.heap.size + 1, 1, none⟩) (by show w.heap.size + 1 < _; omega) nn).trans x_1
  have r_2 : W3.cell? ⟨w.heap.size + 1, 2, none⟩ = some (.int .i64 0) := (HC3.out.cell (p := ⟨w.heap.size + 1, 2, none⟩) (by show w.heap.size + 1 < _; omega) nn).trans x_2
  have r_3 : W3.cell? ⟨w.heap.size + 1, 3, none⟩ = some (.int .i64 0) := (HC3.out.cell (p := ⟨w.heap.size + 1, 3, none⟩) (by show w.heap.size + 1 < _; omega) nn).trans x_3
  have r_4 : W3.cell? ⟨w.heap.size + 1, 4, none⟩ = some (.int .i64 0) := (HC3.out.cell (p := ⟨w.heap.size + 1, 4, none⟩) (by show w.heap.size + 1 < _; omega) nn).trans x_4
  have r_5 : W3.cell? ⟨w.heap.size + 1, 5, none⟩ = some (.int .i64 0) := (HC3.out.cell (p := ⟨w.heap.size + 1, 5, none⟩) (by show w.heap.size + 1 < _; omega) nn).trans x_5
  have r_6 : W3.cell? ⟨w.heap.size + 1, 6, none⟩ = some (.int .i64 0) := (HC3.out.cell (p := ⟨w.heap.size + 1, 6, none⟩) (by show w.heap.size + 1 < _; omega) nn).trans x_6
  have r_7 : W3.cell? ⟨w.heap.size + 1, 7, none⟩ = some (.int .i64 0) := (HC3.out.cell (p := ⟨w.heap.size + 1, 7, none⟩) (by show w.heap.size + 1 < _; omega) nn).trans x_7
  have r_8 : W3.cell? ⟨w.heap.size + 1, 8, none⟩ = some (.int .i64 0) := (HC3.out.cell (p := ⟨w.heap.size + 1, 8, none⟩) (by show w.heap.size + 1 < _; omega) nn).trans x_8
  have r_9 : W3.cell? ⟨w.heap.size + 1, 9, none⟩ = some (.string ⟨#[]⟩) := (HC3.out.cell (p := ⟨w.heap.size + 1, 9, none⟩) (by show w.heap.size + 1 < _; omega) nn).trans x_9
  have r_10 : W3.cell? ⟨w.heap.size + 1, 10, none⟩ = some (.slice none 0 0) := (HC3.out.cell (p := ⟨w.heap.size + 1, 10, none⟩) (by show w.heap.size + 1 < _; omega) nn).trans x_10
  have r_11 : W3.cell? ⟨w.heap.size + 1, 11, none⟩ = some (.slice none 0 0) := (HC3.out.cell (p := ⟨w.heap.size + 1, 11, none⟩) (by show w.heap.size + 1 < _; omega) nn).trans x_11
  have r_f : ∀ o, W3.frozen? ⟨w.heap.size + 1, o, none⟩ = false := fun o => (HC3.out.frozen (p := ⟨w.heap.size + 1, o, none⟩) (by show w.heap.size + 1 < _; omega) nn).trans (x_f o)
  have HF3 : Hid (FreshIn celE 87 2 w.heap.size W3.heap.size (.slice a8 s.cells.length c8) s.cells W3 ∧ ∀ k ∈ blkOf a8, w.heap.size + 1 < k) := Lib.hid (by
    have hq : ∀ k ∈ blkOf a8, w.heap.size + 1 < k := fun k hk => by
      rcases HK8.out k hk with h | h
      · simp [blkOf] at h; omega
      · omega
    exact ⟨HF8.out.ch HC3.out (fun k hk e => by have := hq k hk; omega), hq⟩)
  have HB3 : Hid (Below w.heap.size w W3) := Lib.hid (HB8.out.trans (HC3.out.below (by omega) (fun k h => by omega)))
  rw [hW3]
  clear hW3 z_0 z_1 z_2 z_3 z_4 z_5 z_6 z_7 z_8 z_9 z_10 z_11 z_f zl x_0 x_1 x_2 x_3 x_4 x_5 x_6 x_7 x_8 x_9 x_10 x_11 x_f xl
  obtain ⟨W4, hW4⟩ : ∃ x, W3.alloc (.cells #[] 9) = x := ⟨_, rfl⟩
  have HB4 : Hid (Below W3.heap.size W3 W4) := Lib.hid (by rw [← hW4]; exact (Below.refl _ _).alloc (Nat.le_refl _) _)
  have hz4 : W3.heap.size < W4.heap.size := by rw [← hW4]; simp
  have HF4 : Hid (FreshIn strE 9 1 w.heap.size W4.heap.size (.slice (some ⟨W3.heap.size, 0, none⟩) 0 0) [] W4) := Lib.hid (by rw [← hW4]; exact FreshIn.emp strE _ 1 w.heap.size W3 (by omega))
  have HSRH : Hid (Src Tryz.prog 1 24 (.slice ah nh dh) s.hist.length (s.hist.flatMap strE) W4) := Lib.hid (by
    rw [← HNH.out]
    exact Src.ofSl (enc := strE) (sz := 1) Tryz.underlying24 (fun _ => rfl) strOne ((HR.out.hs.keep HB3.out).keep HB4.out) _)
  have y_0 := kC HB4.out (by omega) q_0
  have y_1 := kC HB4.out (by omega) q_1
  have y_2 := kC HB4.out (by omega) q_2
  have y_3 := kC HB4.out (by omega) q_3
  have y_4 := kC HB4.out (by omega) q_4
  have y_5 := kC HB4.out (by omega) q_5
  have y_6 := kC HB4.out (by omega) q_6
  have y_7 := kC HB4.out (by omega) q_7
  have y_8 := kC HB4.out (by omega) q_8
  have y_9 := kC HB4.out (by omega) q_9
  have y_10 := kC HB4.out (by omega) q_10
  have y_11 := kC HB4.out (by omega) q_11
  have y_f : ∀ o, W4.frozen? ⟨w.heap.size, o, none⟩ = false := fun o => (HB4.out.frozen (p := ⟨w.heap.size, o, none⟩) (by show w.heap.size < _; omega)).trans (q_f o)
  have yl : w.heap.size < W4.heap.size := by omega
  go_wp2_with (at_builtin; refine wpList_append_ch (.tmp 8) (.tmp 10) 24 24 w.heap.size 9 iS (.string ⟨#[]⟩) 1 16 Tryz.underlying24 hS hS0 hS1 hS2 rfl (by decide) (some ⟨W3.heap.size, 0, none⟩) 0 0 [] HF4.out (.slice ah nh dh) s.hist HSRH.out (by have := HNH.out; simp; omega) (by omega) rfl rfl rfl rfl ?_)
  intro a9 c9 w9 us hus hf9 hc9 hk9
  obtain rfl : us = s.hist := by simpa using hus.out
  have HF9 := Lib.hid hf9
  have HK9 := Lib.hid hk9
  have HC9 := Lib.hid hc9
  have hz9 := hc9.size
  have z_0 : w9.cell? ⟨w.heap.size, 0, none⟩ = some (.int .i64 (s.w : Int)) := (hc9.cell (p := ⟨w.heap.size, 0, none⟩) (by show w.heap.size < _; omega) (by simp [blkOf]; omega)).trans y_0
  have z_1 : w9.cell? ⟨w.heap.size, 1, none⟩ = some (.int .i64 (s.h : Int)) := (hc9.cell (p := ⟨w.heap.size, 1, none⟩) (by show w.heap.size < _; omega) (by simp [blkOf]; omega)).trans y_1
  have z_2 : w9.cell? ⟨w.heap.size, 2, none⟩ = some (.int .i64 (s.x : Int)) := (hc9.cell (p := ⟨w.heap.size, 2, none⟩) (by show w.heap.size < _; omega) (by simp [blkOf]; omega)).trans y_2
  have z_3 : w9.cell? ⟨w.heap.size, 3, none⟩ = some (.int .i64 (s.y : Int)) := (hc9.cell (p := ⟨w.heap.size, 3, none⟩) (by show w.heap.size < _; omega) (by simp [blkOf]; omega)).trans y_3
  have z_4 : w9.cell? ⟨w.heap.size, 4, none⟩ = some (.int .i64 (s.look : Int)) := (hc9.cell (p := ⟨w.heap.size, 4, none⟩) (by show w.heap.size < _; omega) (by simp [blkOf]; omega)).trans y_4
  have z_5 : w9.cell? ⟨w.heap.size, 5, none⟩ = some (.int .i64 (s.top : Int)) := (hc9.cell (p := ⟨w.heap.size, 5, none⟩) (by show w.heap.size < _; omega) (by simp [blkOf]; omega)).trans y_5
  have z_6 : w9.cell? ⟨w.heap.size, 6, none⟩ = some (.int .i64 (s.bot : Int)) := (hc9.cell (p := ⟨w.heap.size, 6, none⟩) (by show w.heap.size < _; omega) (by simp [blkOf]; omega)).trans y_6
  have z_7 : w9.cell? ⟨w.heap.size, 7, none⟩ = some (.int .i64 (s.sx : Int)) := (hc9.cell (p := ⟨w.heap.size, 7, none⟩) (by show w.heap.size < _; omega) (by simp [blkOf]; omega)).trans y_7
  have z_8 : w9.cell? ⟨w.heap.size, 8, none⟩ = some (.int .i64 (s.sy : Int)) := (hc9.cell (p := ⟨w.heap.size, 8, none⟩) (by show w.heap.size < _; omega) (by simp [blkOf]; omega)).trans y_8
  have z_9 : w9.cell? ⟨w.heap.size, 9, none⟩ = some (.string s.title) := (hc9.cell (p := ⟨w.heap.size, 9, none⟩) (by show w.heap.size < _; omega) (by simp [blkOf]; omega)).trans y_9
  have z_10 : w9.cell? ⟨w.heap.size, 10, none⟩ = some (.slice a8 s.cells.length c8) := (hc9.cell (p := ⟨w.heap.size, 10, none⟩) (by show w.heap.size < _; omega) (by simp [blkOf]; omega)).trans y_10
  have z_11 : w9.cell? ⟨w.heap.size, 11, none⟩ = some (.slice ah nh dh) := (hc9.cell (p := ⟨w.heap.size, 11, none⟩) (by show w.heap.size < _; omega) (by simp [blkOf]; omega)).trans y_11
  have z_f : ∀ o, w9.frozen? ⟨w.heap.size, o, none⟩ = false := fun o => (hc9.frozen (p := ⟨w.heap.size, o, none⟩) (by show w.heap.size < _; omega) (by simp [blkOf]; omega)).trans (y_f o)
  have x_0 : w9.cell? ⟨w.heap.size + 1, 0, none⟩ = some (.int .i64 0) := (hc9.cell (p := ⟨w.heap.size + 1, 0, none⟩) (by show w.heap.size + 1 < _; omega) (by simp [blkOf]; omega)).trans ((HB4.out.cell (p := ⟨w.heap.size + 1, 0, none⟩) (by show w.heap.size + 1 < _; omega)).trans r_0)
  have x_1 : w9.cell? ⟨w.heap.size + 1, 1, none⟩ = some (.int .i64 0) := (hc9.cell (p := ⟨w.heap.size + 1, 1, none⟩) (by show w.heap.size + 1 < _; omega) (by simp [blkOf]; omega)).trans ((HB4.out.cell (p := ⟨w.heap.size + 1, 1, none⟩) (by show w.heap.size + 1 < _; omega)).trans r_1)
  have x_2 : w9.cell? ⟨w.heap.size + 1, 2, none⟩ = some (.int .i64 0) := (hc9.cell (p := ⟨w.heap.size + 1, 2, none⟩) (by show w.heap.size + 1 < _; omega) (by simp [blkOf]; omega)).trans ((HB4.out.cell (p := ⟨w.heap.size + 1, 2, none⟩) (by show w.heap.size + 1 < _; omega)).trans r_2)
  have x_3 : w9.cell? ⟨w.heap.size + 1, 3, none⟩ = some (.int .i64 0) := (hc9.cell (p := ⟨w.heap.size + 1, 3, none⟩) (by show w.heap.size + 1 < _; omega) (by simp [blkOf]; omega)).trans ((HB4.out.cell (p := ⟨w.heap.size + 1, 3, none⟩) (by show w.heap.size + 1 < _; omega)).trans r_3)
  have x_4 : w9.cell? ⟨w.heap.size + 1, 4, none⟩ = some (.int .i64 0) := (hc9.cell (p := ⟨w.heap.size + 1, 4, none⟩) (by show w.heap.size + 1 < _; omega) (by simp [blkOf]; omega)).trans ((HB4.out.cell (p := ⟨w.heap.size + 1, 4, none⟩) (by show w.heap.size + 1 < _; omega)).trans r_4)
  have x_5 : w9.cell? ⟨w.heap.size + 1, 5, none⟩ = some (.int .i64 0) := (hc9.cell (p := ⟨w.heap.size + 1, 5, none⟩) (by show w.heap.size + 1 < _; omega) (by simp [blkOf]; omega)).trans ((HB4.out.cell (p := ⟨w.heap.size + 1, 5, none⟩) (by show w.heap.size + 1 < _; omega)).trans r_5)
  have x_6 : w9.cell? ⟨w.heap.size + 1, 6, none⟩ = some (.int .i64 0) := (hc9.cell (p := ⟨w.heap.size + 1, 6, none⟩) (by show w.heap.size + 1 < _; omega) (by simp [blkOf]; omega)).trans ((HB4.out.cell (p := ⟨w.heap.size + 1, 6, none⟩) (by show w.heap.size + 1 < _; omega)).trans r_6)
  have x_7 : w9.cell? ⟨w.heap.size + 1, 7, none⟩ = some (.int .i64 0) := (hc9.cell (p := ⟨w.heap.size + 1, 7, none⟩) (by show w.heap.size + 1 < _; omega) (by simp [blkOf]; omega)).trans ((HB4.out.cell (p := ⟨w.heap.size + 1, 7, none⟩) (by show w.heap.size + 1 < _; omega)).trans r_7)
  have x_8 : w9.cell? ⟨w.heap.size + 1, 8, none⟩ = some (.int .i64 0) := (hc9.cell (p := ⟨w.heap.size + 1, 8, none⟩) (by show w.heap.size + 1 < _; omega) (by simp [blkOf]; omega)).trans ((HB4.out.cell (p := ⟨w.heap.size + 1, 8, none⟩) (by show w.heap.size + 1 < _; omega)).trans r_8)
  have x_9 : w9.cell? ⟨w.heap.size + 1, 9, none⟩ = some (.string ⟨#[]⟩) := (hc9.cell (p := ⟨w.heap.size + 1, 9, none⟩) (by show w.heap.size + 1 < _; omega) (by simp [blkOf]; omega)).trans ((HB4.out.cell (p := ⟨w.heap.size + 1, 9, none⟩) (by show w.heap.size + 1 < _; omega)).trans r_9)
  have x_10 : w9.cell? ⟨w.heap.size + 1, 10, none⟩ = some (.slice none 0 0) := (hc9.cell (p := ⟨w.heap.size + 1, 10, none⟩) (by show w.heap.size + 1 < _; omega) (by simp [blkOf]; omega)).trans ((HB4.out.cell (p := ⟨w.heap.size + 1, 10, none⟩) (by show w.heap.size + 1 < _; omega)).trans r_10)
  have x_11 : w9.cell? ⟨w.heap.size + 1, 11, none⟩ = some (.slice none 0 0) := (hc9.cell (p := ⟨w.heap.size + 1, 11, none⟩) (by show w.heap.size + 1 < _; omega) (by simp [blkOf]; omega)).trans ((HB4.out.cell (p := ⟨w.heap.size + 1, 11, none⟩) (by show w.heap.size + 1 < _; omega)).trans r_11)
  have x_f : ∀ o, w9.frozen? ⟨w.heap.size + 1, o, none⟩ = false := fun o => (hc9.frozen (p := ⟨w.heap.size + 1, o, none⟩) (by show w.heap.size + 1 < _; omega) (by simp [blkOf]; omega)).trans ((HB4.out.frozen (p := ⟨w.heap.size + 1, o, none⟩) (by show w.heap.size + 1 < _; omega)).trans (r_f o))
  have zl : w.heap.size < w9.heap.size := by omega
  have xl : w.heap.size + 1 < w9.heap.size := by omega
  clear hus hf9 hc9 hk9 y_0 y_1 y_2 y_3 y_4 y_5 y_6 y_7 y_8 y_9 y_10 y_11 y_f yl r_0 r_1 r_2 r_3 r_4 r_5 r_6 r_7 r_8 r_9 r_10 r_11 r_f q_0 q_1 q_2 q_3 q_4 q_5 q_6 q_7 q_8 q_9 q_10 q_11 q_f hW4
  go_wp2_with fail
  refine bodyPost_ret (v := scrV s a8 c8 a9 c9) (by simp [results, Tryz.results39, scrV, go_sem, z_0, z_1, z_2, z_3, z_4, z_5, z_6, z_7, z_8, z_9, z_10, z_11, x_0, x_1, x_2, x_3, x_4, x_5, x_6, x_7, x_8, x_9, x_10, x_11, zl, xl, nn]) rfl ?_
  have hfin : ∀ wz, Ch (fun k => k = w.heap.size ∨ k = w.heap.size + 1) w9 wz → ScrN s w (.returned (scrV s a8 c8 a9 c9)) wz := fun wz hc => by
    have h9 : ∀ k ∈ blkOf a9, W3.heap.size ≤ k := fun k hk => by
      rcases HK9.out k hk with h | h
      · simp [blkOf] at h; omega
      · omega
    have f8 := (HF3.out.1.keepB HB4.out).ch HC9.out (fun k hk e => by
      have := (FreshIn.blks HF3.out.1 k hk).2
      simp [blkOf] at e
      omega)
    refine ⟨a8, c8, a9, c9, rfl, ⟨f8.ch hc (fun k hk e => by have := HF3.out.2 k hk; omega), (FreshIn.win HF9.out).ch hc (fun k hk e => by have := h9 k hk; omega), fun k hk hk2 => ?_⟩, ?_⟩
    · have h1 := h9 k hk
      have h2 := (FreshIn.blks HF3.out.1 k hk2).2
      omega
    · exact ((HB3.out.trans (HB4.out.mono (by omega))).trans (HC9.out.below (by omega) (fun k hk => by simp [blkOf] at hk; omega))).trans (hc.below (by omega) (fun k h => by omega))
  refine hfin _ ?_
  repeat (first | (with_reducible exact Ch.refl) | (with_reducible refine Ch.alloc ?_ _) | (with_reducible refine Ch.setCell ?_ (Or.inl (Or.inl rfl)) _) | (with_reducible refine Ch.setCell ?_ (Or.inl (Or.inr rfl)) _))
end
section
open Go.RowKit
structure ScrI where
  w : Int
  h : Int
  x : Int
  y : Int
  look : Int
  top : Int
  bot : Int
  sx : Int
  sy : Int
  title : ByteArray
  cells : List Cl
  hist : List ByteArray
def Scr.i (s : Scr) : ScrI := ⟨s.w, s.h, s.x, s.y, s.look, s.top, s.bot, s.sx, s.sy, s.title, s.cells, s.hist⟩
def scrH (s : ScrI) : Bool := (inB s.w 2 24 && inB s.h 2 10) && inB s.x 0 s.w && inB s.y 0 (s.h - 1) && inB s.look 0 127 && inB s.top 0 (s.h - 2) && inB s.bot (s.top + 1) (s.h - 1) && inB s.sx 0 s.w && inB s.sy 0 (s.h - 1) && decide (s.title.size ≤ 40) && decide ((s.cells.length : Int) = s.w * s.h) && decide (s.hist.length ≤ 6)
def celB (c : Cl) : Bool := inB c.1 0 1114111 && !inB c.1 55296 57343 && decide (32 ≤ c.1) && !(c.1 == 127) && inB c.2 0 127
def tiB (l : List UInt8) : Bool := l.all fun b => decide (32 ≤ b.toNat) && decide (b.toNat ≤ 126)
def scrB (s : ScrI) : Bool := scrH s && tiB s.title.data.toList && s.cells.all celB && s.hist.all fun t => decide (t.size ≤ 96)
theorem l03RuneOK_c (n : Int) (W : World) : Calls Tryz.prog 77 #[.int .i64 n] W fun e w' => e = .returned (.bool (inB n 0 1114111 && !inB n 55296 57343)) ∧ W = w' := by
  obtain ⟨u, hu⟩ : ∃ u, inB n 0 1114111 = u := ⟨_, rfl⟩
  obtain ⟨v, hv⟩ : ∃ v, inB n 55296 57343 = v := ⟨_, rfl⟩
  have HU := Lib.hid hu
  have HV := Lib.hid hv
  rw [hu, hv]
  clear hu hv
  cases u <;> cases v
  all_goals
    go_enter Tryz.func77, Tryz.ntmps77
    go_wp2_with (go_at_call 60; refine (l01In_c _ _ _ _).mono ?_; (first | rw [HU.out] | rw [HV.out]); rintro e w' ⟨rfl, rfl⟩)
    all_goals
      go_ret
      exact ⟨rfl, rfl⟩
theorem l04Cell_c (c : Cl) (W : World) : Calls Tryz.prog 61 #[.agg #[.int .i64 c.1, .int .i64 c.2]] W fun e w' => e = .returned (.bool (celB c)) ∧ Below W.heap.size W w' := by
  obtain ⟨n, k⟩ := c
  obtain ⟨u, hu⟩ : ∃ u, (inB n 0 1114111 && !inB n 55296 57343) = u := ⟨_, rfl⟩
  obtain ⟨v, hv⟩ : ∃ v, inB k 0 127 = v := ⟨_, rfl⟩
  have HU := Lib.hid hu
  have HV := Lib.hid hv
  have hB : celB (n, k) = (u && decide (32 ≤ n) && !(n == 127) && v) := by unfold celB; rw [hu, hv]
  rw [hB]
  clear hB hu hv
  by_cases h32 : 32 ≤ n
  · have q32 : decide (32 ≤ n) = true := decide_eq_true h32
    cases h127 : (n == 127) <;> cases u <;> cases v
    all_goals
      have q127 : (n != 127) = !(n == 127) := rfl
      rw [h127] at q127
      go_enter Tryz.func61, Tryz.ntmps61
      go_wp2_with (first | (go_at_call 77; refine (l03RuneOK_c _ _).mono ?_; rw [HU.out]; rintro e w' ⟨rfl, rfl⟩) | (go_at_call 60; refine (l01In_c _ _ _ _).mono ?_; rw [HV.out]; rintro e w' ⟨rfl, rfl⟩))
      all_goals
        go_ret
        exact ⟨by simp [h32], (Below.refl _ _).alloc (Nat.le_refl _) _⟩
  · have q32 : decide (32 ≤ n) = false := decide_eq_false h32
    cases u
    all_goals
      go_enter Tryz.func61, Tryz.ntmps61
      go_wp2_with (first | (go_at_call 77; refine (l03RuneOK_c _ _).mono ?_; rw [HU.out]; rintro e w' ⟨rfl, rfl⟩) | (go_at_call 60; refine (l01In_c _ _ _ _).mono ?_; rw [HV.out]; rintro e w' ⟨rfl, rfl⟩))
      all_goals
        go_ret
        exact ⟨by rw [q32]; simp, (Below.refl _ _).alloc (Nat.le_refl _) _⟩
end
section
open Go.RowKit
def cel4 (c : Cl) : List UInt8 := be c.1.toNat 3 ++ [UInt8.ofNat c.2.toNat]
def celL (l : List Cl) : List UInt8 := l.flatMap cel4
def nineL (s : ScrI) : List Int := [s.w, s.h, s.x, s.y, s.look, s.top, s.bot, s.sx, s.sy]
def rowI (s : ScrI) (y : Nat) : List Cl := (s.cells.drop (y * s.w.toNat)).take s.w.toNat
def rowsL (s : ScrI) (n : Nat) : List ByteArray := (List.range n).map fun y => strOf (celL (rowI s y))
def scrFs (s : ScrI) : List ByteArray := strOf (numL (nineL s)) :: s.title :: strOf (fldL s.hist) :: rowsL s s.h.toNat
def scrText (s : ScrI) : List UInt8 := fldL (scrFs s)
def ScrIs (l : List UInt8) (s : ScrI) : Prop := scrB s = true ∧ scrText s = l
def chunkC : Nat → List UInt8 → List Cl
  | 0, _ => []
  | n + 1, l => ((bn (l.take 3) : Int), ((l.getD 3 0).toNat : Int)) :: chunkC n (l.drop 4)
theorem cel4_length (c : Cl) : (cel4 c).length = 4 := by simp [cel4, be_length]
theorem celL_cons (c : Cl) (l : List Cl) : celL (c :: l) = cel4 c ++ celL l := rfl
theorem celL_length : ∀ l : List Cl, (celL l).length = 4 * l.length
  | [] => rfl
  | c :: l => by rw [celL_cons, List.length_append, cel4_length, celL_length l, List.length_cons]; omega
theorem chunkC_celL : ∀ l : List Cl, (∀ c ∈ l, 0 ≤ c.1 ∧ c.1 < 16777216 ∧ 0 ≤ c.2 ∧ c.2 < 256) → chunkC l.length (celL l) = l
  | [], _ => rfl
  | c :: l, h => by
    have hc := h c (by simp)
    have ih := chunkC_celL l (fun y hy => h y (by simp [hy]))
    obtain ⟨n, k⟩ := c
    simp only at hc
    rw [List.length_cons, celL_cons]
    show ((bn ((cel4 (n, k) ++ celL l).take 3) : Int), (((cel4 (n, k) ++ celL l).getD 3 0).toNat : Int)) :: chunkC l.length ((cel4 (n, k) ++ celL l).drop 4) = _
    have e1 : (cel4 (n, k) ++ celL l).take 3 = be n.toNat 3 := by
      rw [cel4, List.append_assoc, List.take_append_of_le_length (by rw [be_length]; exact Nat.le_refl _), List.take_of_length_le (by rw [be_length]; exact Nat.le_refl _)]
    have e2 : (cel4 (n, k) ++ celL l).drop 4 = celL l := by
      rw [List.drop_append_of_le_length (by rw [cel4_length]; exact Nat.le_refl _), List.drop_of_length_le (by rw [cel4_length]; exact Nat.le_refl _), List.nil_append]
    have e3 : (cel4 (n, k) ++ celL l).getD 3 0 = UInt8.ofNat k.toNat := by
      rw [cel4, be_three]
      rfl
    rw [e1, e2, e3, ih, bn_be3 _ (by omega), UInt8.toNat_ofNat']
    congr 2 <;> omega
theorem rows_flat (w : Nat) (l : List Cl) : ∀ h, (List.range h).flatMap (fun y => (l.drop (y * w)).take w) = l.take (h * w)
  | 0 => by simp
  | h + 1 => by
    rw [List.range_succ, List.flatMap_append, rows_flat w l h, Nat.succ_mul, List.take_add]
    simp
theorem inB_iff {x a b : Int} : inB x a b = true ↔ a ≤ x ∧ x ≤ b := by unfold inB; simp
theorem celB_iff (c : Cl) : celB c = true → 0 ≤ c.1 ∧ c.1 < 16777216 ∧ 0 ≤ c.2 ∧ c.2 < 256 := by
  intro h
  unfold celB at h
  simp only [Bool.and_eq_true, inB_iff] at h
  omega
structure ScrBs (s : ScrI) : Prop where
  w1 : 2 ≤ s.w
  w2 : s.w ≤ 24
  h1 : 2 ≤ s.h
  h2 : s.h ≤ 10
  x1 : 0 ≤ s.x
  x2 : s.x ≤ s.w
  y1 : 0 ≤ s.y
  y2 : s.y ≤ s.h - 1
  l1 : 0 ≤ s.look
  l2 : s.look ≤ 127
  t1 : 0 ≤ s.top
  t2 : s.top ≤ s.h - 2
  b1 : s.top + 1 ≤ s.bot
  b2 : s.bot ≤ s.h - 1
  sx1 : 0 ≤ s.sx
  sx2 : s.sx ≤ s.w
  sy1 : 0 ≤ s.sy
  sy2 : s.sy ≤ s.h - 1
  ti : s.title.size ≤ 40
  tt : tiB s.title.data.toList = true
  cn : (s.cells.length : Int) = s.w * s.h
  cs : ∀ c ∈ s.cells, celB c = true
  hn : s.hist.length ≤ 6
  hs : ∀ t ∈ s.hist, t.size ≤ 96
theorem scrB_iff (s : ScrI) : scrB s = true ↔ ScrBs s := by
  unfold scrB scrH
  simp only [Bool.and_eq_true, inB_iff, decide_eq_true_eq, List.all_eq_true]
  constructor
  · rintro ⟨⟨⟨⟨⟨⟨⟨⟨⟨⟨⟨⟨⟨⟨⟨a1, a2⟩, b1, b2⟩, c1, c2⟩, d1, d2⟩, e1, e2⟩, f1, f2⟩, g1, g2⟩, h1, h2⟩, i1, i2⟩, j⟩, k⟩, l⟩, m⟩, n⟩, o⟩
    exact ⟨a1, a2, b1, b2, c1, c2, d1, d2, e1, e2, f1, f2, g1, g2, h1, h2, i1, i2, j, m, k, n, l, o⟩
  · rintro ⟨a1, a2, b1, b2, c1, c2, d1, d2, e1, e2, f1, f2, g1, g2, h1, h2, i1, i2, j, m, k, n, l, o⟩
    exact ⟨⟨⟨⟨⟨⟨⟨⟨⟨⟨⟨⟨⟨⟨⟨a1, a2⟩, b1, b2⟩, c1, c2⟩, d1, d2⟩, e1, e2⟩, f1, f2⟩, g1, g2⟩, h1, h2⟩, i1, i2⟩, j⟩, k⟩, l⟩, m⟩, n⟩, o⟩
end
section
open Go.RowKit
variable {l : List UInt8} {s : ScrI}
theorem ScrBs.len (h : ScrBs s) : s.cells.length = s.h.toNat * s.w.toNat := by
  obtain ⟨a, ha⟩ : ∃ a : Nat, s.w = (a : Int) := ⟨s.w.toNat, by have := h.w1; omega⟩
  obtain ⟨b, hb⟩ : ∃ b : Nat, s.h = (b : Int) := ⟨s.h.toNat, by have := h.h1; omega⟩
  have e := h.cn
  rw [ha, hb] at e
  rw [ha, hb, Int.toNat_natCast, Int.toNat_natCast, Nat.mul_comm]
  exact_mod_cast e
theorem ScrBs.rowLen (h : ScrBs s) {y : Nat} (hy : y < s.h.toNat) : (rowI s y).length = s.w.toNat := by
  have e := h.len
  have h1 : (y + 1) * s.w.toNat ≤ s.h.toNat * s.w.toNat := Nat.mul_le_mul_right _ hy
  rw [Nat.succ_mul] at h1
  rw [rowI, List.length_take, List.length_drop]
  omega
theorem ScrBs.rowCs (h : ScrBs s) (y : Nat) : ∀ c ∈ rowI s y, 0 ≤ c.1 ∧ c.1 < 16777216 ∧ 0 ≤ c.2 ∧ c.2 < 256 := fun c hc =>
  celB_iff c (h.cs c (List.mem_of_mem_drop (List.mem_of_mem_take hc)))
theorem ScrBs.row4 (h : ScrBs s) {y : Nat} (hy : y < s.h.toNat) : (strOf (celL (rowI s y))).size = 4 * s.w.toNat := by
  rw [strOf_size, celL_length, h.rowLen hy]
theorem rowsL_length (s : ScrI) (n : Nat) : (rowsL s n).length = n := by simp [rowsL]
theorem ScrBs.rows (h : ScrBs s) : ∀ r ∈ rowsL s s.h.toNat, r.size = 4 * s.w.toNat := by
  intro r hr
  obtain ⟨y, hy, rfl⟩ := List.mem_map.1 hr
  exact h.row4 (List.mem_range.1 hy)
theorem ScrBs.nine (h : ScrBs s) : ∀ x ∈ nineL s, -1 ≤ x ∧ x < 16777215 := by
  intro x hx
  obtain ⟨a1, a2, b1, b2, c1, c2, d1, d2, e1, e2, f1, f2, g1, g2, h1, h2, i1, i2, j, m, k, n, l, o⟩ := h
  simp only [nineL, List.mem_cons, List.not_mem_nil, or_false] at hx
  omega
theorem ScrBs.histLen (h : ScrBs s) : (fldL s.hist).length ≤ 589 := by
  have h1 := fldB_le s.hist 96 h.hs
  have h2 := h.hn
  simp only [fldL, List.length_cons]
  omega
theorem ScrBs.fs (h : ScrBs s) : ∀ r ∈ scrFs s, r.size ≤ 600 := by
  intro r hr
  have h1 := h.histLen
  have h2 := h.ti
  have h3 := h.w2
  simp only [scrFs, List.mem_cons] at hr
  rcases hr with rfl | rfl | rfl | hr
  · rw [strOf_size, numL_length]
    simp [nineL]
  · omega
  · rw [strOf_size]
    omega
  · have := h.rows r hr
    omega
theorem scrFs_length (s : ScrI) : (scrFs s).length = 3 + s.h.toNat := by simp [scrFs, rowsL_length]; omega
theorem ScrBs.text (h : ScrBs s) : (scrText s).length ≤ 8000 := by
  have h1 := fldB_le (scrFs s) 600 h.fs
  rw [scrFs_length] at h1
  have h2 := h.h2
  simp only [scrText, fldL, List.length_cons]
  have h3 : (3 + s.h.toNat) * (2 + 600) ≤ 13 * (2 + 600) := Nat.mul_le_mul_right _ (by omega)
  omega
theorem ScrIs.bs (h : ScrIs l s) : ScrBs s := (scrB_iff s).1 h.1
theorem ScrIs.len (h : ScrIs l s) : l.length ≤ 8000 := by rw [← h.2]; exact h.bs.text
theorem ScrIs.read (h : ScrIs l s) : rdAll l = some (scrFs s) := by
  rw [← h.2]
  have hh := h.bs.h2
  exact rdAll_fldL _ (fun r hr => by have := h.bs.fs r hr; omega) (by rw [scrFs_length]; omega)
theorem ScrIs.hist (h : ScrIs l s) : rdAll (fldL s.hist) = some s.hist :=
  rdAll_fldL _ (fun r hr => by have := h.bs.hs r hr; omega) (by have := h.bs.hn; omega)
def rowsC (w : Nat) (rows : List ByteArray) : List Cl := rows.flatMap fun r => chunkC w r.data.toList
theorem ScrIs.cells (h : ScrIs l s) : s.cells = rowsC s.w.toNat (rowsL s s.h.toNat) := by
  have e := rows_flat s.w.toNat s.cells s.h.toNat
  rw [List.take_of_length_le (by rw [h.bs.len]; exact Nat.le_refl _)] at e
  rw [rowsC, rowsL, List.flatMap_map]
  refine e.symm.trans ?_
  rw [List.flatMap_def, List.flatMap_def]
  refine congrArg List.flatten (List.map_congr_left ?_)
  intro y hy
  have hy' := List.mem_range.1 hy
  show rowI s y = chunkC s.w.toNat (strOf (celL (rowI s y))).data.toList
  have := chunkC_celL (rowI s y) (h.bs.rowCs y)
  rw [h.bs.rowLen hy'] at this
  rw [strOf_data', this]
end
section
open Go.RowKit
theorem celB_ok (c : Cl) : celB c = true ↔ celOK c := by
  unfold celB celOK rnOK
  simp only [Bool.and_eq_true, inB_iff, decide_eq_true_eq, Bool.not_eq_true', beq_eq_false_iff_ne, ne_eq]
  have h : inB c.1 55296 57343 = false ↔ ¬ (55296 ≤ c.1 ∧ c.1 ≤ 57343) := by rw [← Bool.not_eq_true, inB_iff]
  rw [h]
  omega
theorem titB_iff {t : ByteArray} : titB t = true ↔ t.size ≤ 40 ∧ tiB t.data.toList = true := by
  unfold titB tiB
  simp only [Bool.and_eq_true, decide_eq_true_eq]
theorem ScrOK.b {s : Scr} (h : ScrOK s) : scrB s.i = true := by
  obtain ⟨w1, w2, h1, h2, hx, hy, lk, tb, bh, hsx, hsy, ti, cn, cs, hn, hs⟩ := h
  obtain ⟨t1, t2⟩ := titB_iff.1 ti
  refine (scrB_iff _).2 ⟨?_, ?_, ?_, ?_, ?_, ?_, ?_, ?_, ?_, ?_, ?_, ?_, ?_, ?_, ?_, ?_, ?_, ?_, t1, t2, ?_, fun c hc => (celB_ok c).2 (cs c hc), hn, hs⟩
  all_goals simp only [Scr.i]
  all_goals first
    | omega
    | (rw [cn]; exact Int.natCast_mul _ _)
def ScrI.n (s : ScrI) : Scr := ⟨s.w.toNat, s.h.toNat, s.x.toNat, s.y.toNat, s.look.toNat, s.top.toNat, s.bot.toNat, s.sx.toNat, s.sy.toNat, s.title, s.cells, s.hist⟩
theorem ScrI.ok {s : ScrI} (h : scrB s = true) : ScrOK s.n := by
  have hl := ((scrB_iff s).1 h).len
  obtain ⟨a1, a2, b1, b2, c1, c2, d1, d2, e1, e2, f1, f2, g1, g2, h1, h2, i1, i2, j, m, k, n, l, o⟩ := (scrB_iff s).1 h
  refine ⟨?_, ?_, ?_, ?_, ?_, ?_, ?_, ?_, ?_, ?_, ?_, titB_iff.2 ⟨j, m⟩, ?_, fun c hc => (celB_ok c).1 (n c hc), l, o⟩
  all_goals simp only [ScrI.n]
  all_goals first
    | omega
    | (rw [hl, Nat.mul_comm])
end
section
open Go.RowKit
section
variable {B lo g : Nat} {p p' : PV} {ap ap' al al' : Option Addr} {cp cp' cl cl' : Nat} {L us : List ActA} {w w' w1 w2 : World} {R : PV × List AV} {e : Ending} {xs ys : List Int}
theorem FreshIn.setI {c k : Nat} (h : FreshIn intE 3 1 lo w.heap.size (.slice (some ⟨g, 0, none⟩) xs.length c) xs w) (hk : k < xs.length) (v : Int) : FreshIn intE 3 1 lo (w.setCell ⟨g, k, none⟩ (.int .i64 v)).heap.size (.slice (some ⟨g, 0, none⟩) (xs.set k v).length c) (xs.set k v) (w.setCell ⟨g, k, none⟩ (.int .i64 v)) := by
  obtain ⟨g', he, h1, h2, h3, ho⟩ := h.block (by omega)
  cases he
  have hs := (ho.stored k (.int .i64 v)).1
  rw [flat_set1 intE (fun _ => rfl) _ k hk v _ rfl] at hs
  have hl : (xs.set k v).length = xs.length := by simp
  refine ⟨?_, fun j hj => by simp [Value.ownBlock] at hj; subst hj; simpa [World.setCell] using h3⟩
  rw [hl]
  exact Fresh.of_own hs hl.symm rfl
theorem PS.arg2 (h : PS B lo p ap cp L al cl w) (hc : Ch (· ∈ blkOf ap) w w1) (ha : FreshIn intE 3 1 lo w1.heap.size (.slice ap' xs.length cp') xs w1) (hk : ∀ k ∈ blkOf ap', k ∈ blkOf ap ∨ w.heap.size ≤ k) : PS B lo { p with args := xs } ap' cp' L al cl (w1.setCell ⟨B, 1, none⟩ (.slice ap' xs.length cp')) := by
  have hB : ¬ B ∈ blkOf ap := fun hb => h.nB (by simp [hb])
  have hlt := Nat.lt_of_lt_of_le h.lt hc.size
  have hB' : B ∉ blkOf ap' := fun hb => by
    rcases hk B hb with h1 | h1
    · exact hB h1
    · have := h.lt; omega
  have hcs : Ch (fun k => k = B) w1 (w1.setCell ⟨B, 1, none⟩ (.slice ap' xs.length cp')) := Ch.set1 _ _ _ _
  have k1 : w1.cell? ⟨B, 1, none⟩ = some (.slice ap p.args.length cp) := (hc.cell (p := ⟨B, 1, none⟩) h.lt hB).trans h.c1
  have ot : ∀ o, o ≠ 1 → (w1.setCell ⟨B, 1, none⟩ (.slice ap' xs.length cp')).cell? ⟨B, o, none⟩ = w.cell? ⟨B, o, none⟩ := fun o ho => (World.cell?_setCell_other _ _ _ _ (fun e => by cases e; exact ho rfl)).trans (hc.cell (p := ⟨B, o, none⟩) h.lt hB)
  refine ⟨(ot 0 (by decide)).trans h.c0, by simp [go_sem, k1], (ot 2 (by decide)).trans h.c2, (ot 3 (by decide)).trans h.c3, (ot 4 (by decide)).trans h.c4, fun o => (World.frozen?_setCell _ _ _ _).trans ((hc.frozen (p := ⟨B, o, none⟩) h.lt hB).trans (h.fz o)), by simpa [World.setCell] using hlt, ha.ch hcs (fun k hk1 e => hB' (e ▸ hk1)), (h.ro.ch actL hc (fun k hk hk2 => h.nd k hk2 hk)).ch actL hcs (fun k hk1 e => h.nB (by rw [List.mem_append]; exact .inr (e ▸ hk1))), fun hb => ?_, fun k hk1 hk2 => ?_⟩
  · rcases List.mem_append.1 hb with hb | hb
    · exact hB' hb
    · exact h.nB (List.mem_append.2 (.inr hb))
  · rcases hk k hk1 with h1 | h1
    · exact h.nd k h1 hk2
    · have := (h.ro.bd actL k hk2).2; omega
end
end
section
open Go.Shelf Go.RowKit
structure UT (w : World) : Prop where
  tabs : Lib.Utf8Tabs 0 1 w
  l1 : 0 < w.heap.size
  l2 : 1 < w.heap.size
theorem UT.ch {M : Nat → Prop} {w w' : World} (h : UT w) (hc : Ch M w w') (h1 : ¬ M 0) (h2 : ¬ M 1) : UT w' := by
  obtain ⟨⟨a, b⟩, l1, l2⟩ := h
  refine ⟨⟨fun c hcc => (hc.cell (p := ⟨_, c, none⟩) l1 h1).trans (a c hcc), fun i hi => ⟨(hc.cell (p := ⟨_, 2 * i, none⟩) l2 h2).trans (b i hi).1, (hc.cell (p := ⟨_, 2 * i + 1, none⟩) l2 h2).trans (b i hi).2⟩⟩, Nat.lt_of_lt_of_le l1 hc.size, Nat.lt_of_lt_of_le l2 hc.size⟩
theorem UT.keep {w w' : World} (h : UT w) (hb : Below w.heap.size w w') : UT w' := h.ch (M := fun _ => False) (Ch.of_below hb) (fun h => h) (fun h => h)
end
section
open Go.RowKit
section
variable {p : PV} {b : UInt8} {n : Nat}
theorem cs1 (hn : b.toNat = n) (h : n = 27) : cstep p b = (pst 1, []) := by subst hn; unfold cstep; rw [if_pos h]
theorem cs2 (hn : b.toNat = n) (h : ¬ n = 27) (h2 : ctl n = true) : cstep p b = (p, [⟨2, n, false, [], e0⟩]) := by subst hn; unfold cstep; rw [if_neg h, if_pos h2]
theorem cs3 (hn : b.toNat = n) (h2 : ctl n = false) (h3 : 48 ≤ n ∧ n ≤ 57) : cstep p b = ({ p with args := p.args.dropLast ++ [min 9999 (max 0 (lastA p.args) * 10 + ((n : Int) - 48))] }, []) := by subst hn; unfold cstep; rw [if_neg (by omega), if_neg (by rw [h2]; simp), if_pos h3]
theorem cs4 (hn : b.toNat = n) (h2 : ctl n = false) (h3 : n = 59 ∧ p.args.length < 8) : cstep p b = ({ p with args := p.args ++ [-1] }, []) := by subst hn; unfold cstep; rw [if_neg (by omega), if_neg (by rw [h2]; simp), if_neg (by omega), if_pos h3]
theorem cs5 (hn : b.toNat = n) (h2 : ctl n = false) (h3 : n = 63 ∧ p.args = [-1] ∧ p.priv = false) : cstep p b = ({ p with priv := true }, []) := by subst hn; unfold cstep; rw [if_neg (by omega), if_neg (by rw [h2]; simp), if_neg (by omega), if_neg (by omega), if_pos h3]
theorem cs6 (hn : b.toNat = n) (h2 : ctl n = false) (h3 : 64 ≤ n ∧ n ≤ 126) : cstep p b = (pz, [⟨4, n, p.priv, p.args, e0⟩]) := by subst hn; unfold cstep; rw [if_neg (by omega), if_neg (by rw [h2]; simp), if_neg (by omega), if_neg (by omega), if_neg (by omega), if_pos h3]
theorem cs7 (hn : b.toNat = n) (h : ¬ n = 27) (h2 : ctl n = false) (h3 : ¬ (48 ≤ n ∧ n ≤ 57)) (h4 : ¬ (n = 59 ∧ p.args.length < 8)) (h5 : ¬ (n = 63 ∧ p.args = [-1] ∧ p.priv = false)) (h6 : ¬ (64 ≤ n ∧ n ≤ 126)) : cstep p b = (pst 3, []) := by
  subst hn; unfold cstep; rw [if_neg h, if_neg (by rw [h2]; simp), if_neg h3, if_neg h4, if_neg h5, if_neg h6]
end
theorem set_last {xs : List Int} {m : Nat} (hm : xs.length = m + 1) (v : Int) : xs.set m v = xs.dropLast ++ [v] := by
  have h1 : xs ≠ [] := by intro h; rw [h] at hm; simp at hm
  obtain ⟨ys, y, rfl⟩ : ∃ ys y, xs = ys ++ [y] := ⟨xs.dropLast, xs.getLast h1, (List.dropLast_concat_getLast h1).symm⟩
  have : ys.length = m := by simpa using hm
  subst this
  simp
theorem last_at {xs : List Int} {m : Nat} (hm : xs.length = m + 1) : lastA xs = xs[m]'(by omega) := by
  have h1 : xs ≠ [] := by intro h; rw [h] at hm; simp at hm
  unfold lastA
  rw [List.getLastD_eq_getLast?, List.getLast?_eq_some_getLast h1, Option.getD_some, List.getLast_eq_getElem]
  congr 1
  omega
theorem one_at {xs : List Int} (h1 : xs.length = 1) (h2 : xs[0]'(by omega) = -1) : xs = [-1] := by
  match xs, h1, h2 with
  | [x], _, h2 => simpa using h2
theorem u8_in {n : Int} (h1 : 0 ≤ n) (h2 : n < 256) : IntKind.u8.wrap n = n := by
  unfold IntKind.wrap
  simp [IntKind.bits, IntKind.signed]
  omega
theorem PR.base {B lo : Nat} {R : PV × List AV} {ap al : Option Addr} {L : List ActA} {w w1 w' : World} {e : Ending} (h : PR B lo R ap L al w1 e w') (hb : Below w.heap.size w w1) : PR B lo R ap L al w e w' := by
  obtain ⟨ap', cp', L', al', cl', h1, h2, h3, h4, h5⟩ := h
  refine ⟨ap', cp', L', al', cl', h1, h2, h3, (Ch.of_below hb).trans h4 (fun i hi => .inl hi), fun k hk => ?_⟩
  rcases h5 k hk with h6 | h6
  · exact .inl h6
  · have := hb.size
    exact .inr (by omega)
end
section
open Go.RowKit
section
variable {p : PV} {b : UInt8}
theorem us1 (h : mayF p.utf.data.toList b.toNat = false) : ustep p b = ((gstep b).1, pr 65533 :: (gstep b).2) := by unfold ustep; rw [if_pos h]
theorem us2 (h : mayF p.utf.data.toList b.toNat = true) (h2 : p.utf.size + 1 < utfLen (p.utf.data.toList.headD 0).toNat) : ustep p b = ({ p with utf := p.utf ++ ⟨#[b]⟩ }, []) := by unfold ustep; rw [if_neg (by rw [h]; simp), if_pos h2]
theorem us3 (h : mayF p.utf.data.toList b.toNat = true) (h2 : ¬ p.utf.size + 1 < utfLen (p.utf.data.toList.headD 0).toNat) : ustep p b = (pz, [pr (rnV (p.utf.data.toList ++ [b]))]) := by unfold ustep; rw [if_neg (by rw [h]; simp), if_neg h2]
end
theorem PR.after {B lo : Nat} {R : PV × List AV} {ap al a1 : Option Addr} {L us : List ActA} {x : ActA} {w w2 w' : World} {e : Ending} (h : PR B lo R none us a1 w2 e w') (hx : x.aa = none) (hus : us = L ++ [x]) (hc : Ch (fun k => k = B ∨ k ∈ blkOf al) w w2) (hka : ∀ k ∈ blkOf a1, k ∈ blkOf al ∨ w.heap.size ≤ k) :
    PR B lo (R.1, x.A :: R.2) ap L al w e w' := by
  obtain ⟨ap', cp', L', al', cl', h1, h2, h3, h4, h5⟩ := h
  have hbx : actBlk x = [] := by unfold actBlk; rw [hx]; rfl
  refine ⟨ap', cp', L', al', cl', h1, h2, by rw [h3, hus]; simp, ?_, fun k hk1 => ?_⟩
  · refine (hc.mono (M := fun k => k = B ∨ k ∈ blkOf ap ∨ k ∈ blkOf al) (fun i hi => .inl (by rcases hi with h | h; exact .inl h; exact .inr (.inr h)))).trans h4 (fun i hi => ?_)
    rcases hi with h6 | h6 | h6
    · exact .inl (.inl h6)
    · simp [blkOf] at h6
    · rcases hka i h6 with h7 | h7
      · exact .inl (.inr (.inr h7))
      · exact .inr h7
  · rcases h5 k hk1 with h6 | h6
    · simp only [blkOf, List.nil_append, roB, List.mem_append, hus, List.flatMap_append, List.flatMap_cons, List.flatMap_nil, List.append_nil, hbx] at h6
      rcases h6 with h6 | h6
      · rcases hka k h6 with h7 | h7
        · exact .inl (by simp only [List.mem_append, roB]; exact .inr (.inl h7))
        · exact .inr h7
      · exact .inl (by simp only [List.mem_append, roB]; exact .inr (.inr h6))
    · have := hc.size
      exact .inr (by omega)
theorem convAt (g : Nat) (w : World) (b : UInt8) (n : Nat) (hc : w.cell? ⟨g, 0, none⟩ = some (.int .u8 n)) (hn : b.toNat = n) : (convert 22 9 (.slice (some ⟨g, 0, none⟩) 1 1)).run Tryz.prog w = .ok (.string ⟨#[b]⟩) w := by
  refine run_convert_bytes_back w _ _ 5 ⟨g, 0, none⟩ 1 [b] Tryz.underlying22 Tryz.underlying5 Tryz.underlying9 (fun j hj => ?_)
  have h0 : j = 0 := by simpa using hj
  subst h0
  simp [Addr.add, hc, hn]
end
section
open Go.RowKit
section
variable {b : UInt8} {n : Nat}
theorem es1 (hn : b.toNat = n) (h : n = 91) : estep b = (⟨2, [-1], false, e0, e0⟩, []) := by subst hn; unfold estep; rw [if_pos h]
theorem es2 (hn : b.toNat = n) (h : n = 93) : estep b = (pst 4, []) := by subst hn; unfold estep; rw [if_neg (by omega), if_pos h]
theorem es3 (hn : b.toNat = n) (h : n = 27) : estep b = (pst 1, []) := by subst hn; unfold estep; rw [if_neg (by omega), if_neg (by omega), if_pos h]
theorem es4 (hn : b.toNat = n) (h1 : ¬ n = 91) (h2 : ¬ n = 93) (h3 : ¬ n = 27) (h4 : esc n = true) : estep b = (pz, [⟨3, n, false, [], e0⟩]) := by subst hn; unfold estep; rw [if_neg h1, if_neg h2, if_neg h3, if_pos h4]
theorem es5 (hn : b.toNat = n) (h1 : ¬ n = 91) (h2 : ¬ n = 93) (h3 : ¬ n = 27) (h4 : esc n = false) : estep b = (pz, []) := by subst hn; unfold estep; rw [if_neg h1, if_neg h2, if_neg h3, if_neg (by rw [h4]; simp)]
end
theorem fresh_one (lo : Nat) (w : World) (g : Nat) (v : Int) (hg : g = w.heap.size) (h : lo ≤ w.heap.size) : FreshIn intE 3 1 lo (w.alloc (.cells #[.int .i64 v] 3)).heap.size (.slice (some ⟨g, 0, none⟩) 1 1) [v] (w.alloc (.cells #[.int .i64 v] 3)) := by
  subst hg
  exact (Fresh.of_own (World.ownsRow_lit (base := lo) w #[.int .i64 v] 1 h (by decide) rfl) rfl rfl).here
theorem PS.cellsNew {B lo g : Nat} {p p' : PV} {ap al : Option Addr} {cp cp' cl : Nat} {L : List ActA} {w w' : World} (h : PS B lo p ap cp L al cl w) (hc : Ch (fun k => k = B) w w') (hg : w.heap.size ≤ g) (ha : FreshIn intE 3 1 lo w'.heap.size (.slice (some ⟨g, 0, none⟩) p'.args.length cp') p'.args w')
    (c0 : w'.cell? ⟨B, 0, none⟩ = some (.int .i64 p'.state)) (c1 : w'.cell? ⟨B, 1, none⟩ = some (.slice (some ⟨g, 0, none⟩) p'.args.length cp')) (c2 : w'.cell? ⟨B, 2, none⟩ = some (.bool p'.priv))
    (c3 : w'.cell? ⟨B, 3, none⟩ = some (.string p'.text)) (c4 : w'.cell? ⟨B, 4, none⟩ = some (.string p'.utf)) (fz : ∀ o, w'.frozen? ⟨B, o, none⟩ = false) : PS B lo p' (some ⟨g, 0, none⟩) cp' L al cl w' := by
  have hne : ∀ k ∈ acB al L, ¬ k = B := fun k hk e => h.nB (by rw [List.mem_append]; exact .inr (e ▸ hk))
  have hlt := h.lt
  refine ⟨c0, c1, c2, c3, c4, fz, Nat.lt_of_lt_of_le hlt hc.size, ha, h.ro.ch actL hc hne, fun hB => ?_, fun k hk1 hk2 => ?_⟩
  · rcases List.mem_append.1 hB with h1 | h1
    · simp [blkOf] at h1; omega
    · exact hne B h1 rfl
  · simp [blkOf] at hk1
    have := (h.ro.bd actL k hk2).2
    omega
end
section
open Go.RowKit
section
variable {p : PV} {b : UInt8} {n : Nat}
theorem ss1 (hn : b.toNat = n) (h : n = 27) : sstep p b = (pst 1, []) := by subst hn; unfold sstep; rw [if_pos h]
theorem ss2 (hn : b.toNat = n) (h : 64 ≤ n ∧ n ≤ 126) : sstep p b = (pz, []) := by subst hn; unfold sstep; rw [if_neg (by omega), if_pos h]
theorem ss3 (hn : b.toNat = n) (h1 : ¬ n = 27) (h : ¬ (64 ≤ n ∧ n ≤ 126)) : sstep p b = (p, []) := by subst hn; unfold sstep; rw [if_neg h1, if_neg h]
theorem os1 (hn : b.toNat = n) (h : n = 7) : ostep p b = (pz, [⟨5, 0, false, [], p.text⟩]) := by subst hn; unfold ostep; rw [if_pos h]
theorem os2 (hn : b.toNat = n) (h : n = 27) : ostep p b = ({ p with state := 5 }, []) := by subst hn; unfold ostep; rw [if_neg (by omega), if_pos h]
theorem os3 (hn : b.toNat = n) (h : (32 ≤ n ∧ n ≤ 126) ∧ p.text.size < 40) : ostep p b = ({ p with text := p.text ++ ⟨#[b]⟩ }, []) := by subst hn; unfold ostep; rw [if_neg (by omega), if_neg (by omega), if_pos h]
theorem os4 (hn : b.toNat = n) (h1 : ¬ n = 7) (h2 : ¬ n = 27) (h : ¬ ((32 ≤ n ∧ n ≤ 126) ∧ p.text.size < 40)) : ostep p b = (p, []) := by subst hn; unfold ostep; rw [if_neg h1, if_neg h2, if_neg h]
theorem qs1 (hn : b.toNat = n) (h : n = 92) : qstep p b = (pz, [⟨5, 0, false, [], p.text⟩]) := by subst hn; unfold qstep; rw [if_pos h]
theorem qs2 (hn : b.toNat = n) (h : ¬ n = 92) : qstep p b = estep b := by subst hn; unfold qstep; rw [if_neg h]
end
end
section
open Go.RowKit
theorem titB_sz {s : ByteArray} (h : titB s = true) : s.size ≤ 40 := by
  rw [titB_eq, Bool.and_eq_true, decide_eq_true_eq] at h
  exact h.1
end
section
open Go.RowKit
theorem intOne : ∀ (x : Int), ∀ u ∈ intE x, u.oneCell' = true := fun x u hu => by simp [intE] at hu; subst hu; rfl
theorem fresh_mdI (w : World) (B : Nat) (hB : B ≤ w.heap.size) : Fresh intE 3 1 B (.slice (some ⟨w.heap.size, 0, none⟩) 0 0) [] (w.alloc (.cells #[] 3)) :=
  Fresh.of_own (World.ownsRow_made (base := B) w #[] 0 hB (by decide) rfl) rfl rfl
def ParR (p : PV) (w : World) (e : Ending) (w' : World) : Prop :=
  ∃ a c, e = .returned (.agg #[.int .i64 p.state, .slice a p.args.length c, .bool p.priv, .string p.text, .string p.utf]) ∧ FreshIn intE 3 1 w.heap.size w'.heap.size (.slice a p.args.length c) p.args w' ∧ Below w.heap.size w w'
end
section
open Go.RowKit
def OutR (G : (PV × List AV) × Int) (w : World) (e : Ending) (w' : World) : Prop :=
  ∃ (ap : Option Addr) (cp : Nat) (al : Option Addr) (cl : Nat) (L : List ActA), e = .returned (.tuple #[.agg #[.int .i64 G.1.1.state, .slice ap G.1.1.args.length cp, .bool G.1.1.priv, .string G.1.1.text, .string G.1.1.utf], .slice al L.length cl, .int .i64 G.2]) ∧ FreshIn intE 3 1 w.heap.size w'.heap.size (.slice ap G.1.1.args.length cp) G.1.1.args w' ∧ ActO w.heap.size L al cl w' ∧ (∀ k ∈ blkOf ap, k ∉ acB al L) ∧ L.map (·.A) = G.1.2 ∧ Below w.heap.size w w'
theorem OutR.zero {G : (PV × List AV) × Int} {c : Int} {w w' : World} (hG : G = ((pz, []), c)) (hb : Below w.heap.size w w') : OutR G w (.returned (.tuple #[.agg #[.int .i64 0, .slice none 0 0, .bool false, .string ⟨#[]⟩, .string ⟨#[]⟩], .slice none 0 0, .int .i64 c])) w' := by
  subst hG
  exact ⟨none, 0, none, 0, [], rfl, FreshIn.nil _ _ _ _ _ _, RO.nil, by simp [blkOf], rfl, hb⟩
theorem PS.box {B lo : Nat} {p : PV} {ap : Option Addr} {cp : Nat} {w : World} (hlt : B < w.heap.size) (ha : FreshIn intE 3 1 lo w.heap.size (.slice ap p.args.length cp) p.args w)
    (c0 : w.cell? ⟨B, 0, none⟩ = some (.int .i64 p.state)) (c1 : w.cell? ⟨B, 1, none⟩ = some (.slice ap p.args.length cp)) (c2 : w.cell? ⟨B, 2, none⟩ = some (.bool p.priv))
    (c3 : w.cell? ⟨B, 3, none⟩ = some (.string p.text)) (c4 : w.cell? ⟨B, 4, none⟩ = some (.string p.utf)) (fz : ∀ o, w.frozen? ⟨B, o, none⟩ = false) (hn : ∀ k ∈ blkOf ap, k ≠ B) : PS B lo p ap cp [] none 0 w :=
  ⟨c0, c1, c2, c3, c4, fz, hlt, ha, RO.nil, fun h => by
    rcases List.mem_append.1 h with h | h
    · exact hn _ h rfl
    · simp [acB, blkOf, roB] at h, fun k _ h => by simp [acB, blkOf, roB] at h⟩
theorem prun_snoc (p : PV) (l : List UInt8) (b : UInt8) : prun p (l ++ [b]) = ((pstep (prun p l).1 b).1, (prun p l).2 ++ (pstep (prun p l).1 b).2) := by
  rw [prun_append]
  simp [prun]
theorem step_len (p : PV) (b : UInt8) : (pstep p b).2.length ≤ 2 := by
  have hg : (gstep b).2.length ≤ 1 := by unfold gstep; (repeat' split) <;> simp
  have he : (estep b).2.length ≤ 1 := by unfold estep; (repeat' split) <;> simp
  have hc : (cstep p b).2.length ≤ 1 := by unfold cstep; (repeat' split) <;> simp
  have hs : (sstep p b).2.length ≤ 1 := by unfold sstep; (repeat' split) <;> simp
  have ho : (ostep p b).2.length ≤ 1 := by unfold ostep; (repeat' split) <;> simp
  have hq : (qstep p b).2.length ≤ 1 := by unfold qstep; (repeat' split) <;> first | exact he | simp
  have hu : (ustep p b).2.length ≤ 2 := by unfold ustep; (repeat' split) <;> simp <;> omega
  unfold pstep
  (repeat' split) <;> omega
theorem run_len (l : List UInt8) (p : PV) : (prun p l).2.length ≤ 2 * l.length := by
  induction l generalizing p with
  | nil => simp [prun]
  | cons b l ih =>
    have h1 := step_len p b
    have h2 := ih (pstep p b).1
    simp only [prun, List.length_append, List.length_cons]
    omega
end
section
open Go.RowKit
structure QS (X lo : Nat) (p : PV) (ap : Option Addr) (cp : Nat) (L : List ActA) (al : Option Addr) (cl : Nat) (w : World) : Prop where
  ps : PS X lo p ap cp L al cl w
  c5 : w.cell? ⟨X, 5, none⟩ = some (.slice al L.length cl)
  lo : lo ≤ X
section
variable {X lo : Nat} {p p' : PV} {ap ap' al al' : Option Addr} {cp cp' cl cl' : Nat} {L us : List ActA} {w w' w1 : World}
theorem QS.keep (h : QS X lo p ap cp L al cl w) (hb : Below w.heap.size w w') : QS X lo p ap cp L al cl w' := ⟨h.ps.keep hb, (hb.cell (p := ⟨X, 5, none⟩) h.ps.lt).trans h.c5, h.lo⟩
theorem PS.pushX (h : PS X lo p ap cp L al cl w) {x : ActA} (hx : actOwn lo w x) (hd : ∀ k ∈ blkOf x.aa, k ≠ X ∧ k ∉ blkOf ap ∧ k ∉ acB al L) (hus : us = L ++ [x]) (hf : FreshIn actE 38 5 lo w'.heap.size (.slice al' us.length cl') us w') (hc : Ch (· ∈ blkOf al) w w')
    (hk : ∀ k ∈ blkOf al', k ∈ blkOf al ∨ k = w.heap.size) : PS X lo p ap cp us al' cl' w' := by
  have hB : X ∉ blkOf al := fun hb => h.nB (by simp [roB, hb])
  have hA : ∀ k ∈ blkOf ap, k ∉ blkOf al := fun k hk1 hk2 => h.nd k hk1 (by simp [roB, hk2])
  have hro : ActO lo us al' cl' w' := h.ro.push actL hx (fun k hk1 => (hd k hk1).2.2) hus hf hc hk
  have hin : ∀ k ∈ acB al' us, k ∈ acB al L ∨ k ∈ blkOf x.aa ∨ k = w.heap.size := by
    intro k hk1
    simp only [roB, List.mem_append] at hk1 ⊢
    rcases hk1 with hk1 | hk1
    · rcases hk k hk1 with h2 | h2
      · exact .inl (.inl h2)
      · exact .inr (.inr h2)
    · rw [hus] at hk1
      simp only [List.flatMap_append, List.flatMap_cons, List.flatMap_nil, List.append_nil, List.mem_append] at hk1
      rcases hk1 with hk1 | hk1
      · exact .inl (.inr hk1)
      · exact .inr (.inl hk1)
  refine ⟨(hc.cell (p := ⟨X, 0, none⟩) h.lt hB).trans h.c0, (hc.cell (p := ⟨X, 1, none⟩) h.lt hB).trans h.c1, (hc.cell (p := ⟨X, 2, none⟩) h.lt hB).trans h.c2, (hc.cell (p := ⟨X, 3, none⟩) h.lt hB).trans h.c3, (hc.cell (p := ⟨X, 4, none⟩) h.lt hB).trans h.c4, fun o => (hc.frozen (p := ⟨X, o, none⟩) h.lt hB).trans (h.fz o), Nat.lt_of_lt_of_le h.lt hc.size, h.args.ch hc hA, hro, fun hb => ?_, fun k hk1 hk2 => ?_⟩
  · rcases List.mem_append.1 hb with hb | hb
    · exact h.nB (by simp [hb])
    · rcases hin X hb with h2 | h2 | h2
      · exact h.nB (List.mem_append.2 (.inr h2))
      · exact (hd X h2).1 rfl
      · have := h.lt; omega
  · rcases hin k hk2 with h2 | h2 | h2
    · exact h.nd k hk1 h2
    · exact (hd k h2).2.1 hk1
    · have := (FreshIn.blks h.args k hk1).2; omega
theorem QS.list {v : Value} (h : PS X lo p ap cp us al' cl' w) {u : Value} (hl : lo ≤ X) (hv : v = .slice al' us.length cl') (h5 : w.cell? ⟨X, 5, none⟩ = some u) : QS X lo p ap cp us al' cl' (w.setCell ⟨X, 5, none⟩ v) := by
  subst hv
  have hc : Ch (fun k => k = X) w (w.setCell ⟨X, 5, none⟩ (.slice al' us.length cl')) := Ch.set1 _ _ _ _
  have k0 := h.c0
  have k1 := h.c1
  have k2 := h.c2
  have k3 := h.c3
  have k4 := h.c4
  have kf := h.fz
  refine ⟨h.cells hc ?_ ?_ ?_ ?_ ?_ ?_ (.inl ⟨rfl, rfl, rfl⟩), ?_, hl⟩
  all_goals first | (intro o; simp [go_sem, kf]; done) | (simp [go_sem, k0, k1, k2, k3, k4, h5]; done)
end
theorem fresh_zero (lo : Nat) (w : World) (g : Nat) (hg : g = w.heap.size) (h : lo ≤ w.heap.size) : FreshIn intE 3 1 lo (w.alloc (.cells #[] 3)).heap.size (.slice (some ⟨g, 0, none⟩) 0 0) [] (w.alloc (.cells #[] 3)) := by
  subst hg
  exact (fresh_mdI w lo h).here
theorem ground_r (X lo : Nat) (p : PV) (ap al : Option Addr) (cp cl : Nat) (L : List ActA) (w : World) (h : QS X lo p ap cp L al cl w) :
    Calls Tryz.prog 147 #[.pointer (some ⟨X, 0, none⟩)] w fun e w' => e = .returned (.tuple #[]) ∧ ∃ g, w.heap.size ≤ g ∧ QS X lo pz (some ⟨g, 0, none⟩) 0 L al cl w' ∧ Ch (fun k => k = X) w w' := by
  have HP := Lib.hid h
  have k_0 := h.ps.c0
  have k_1 := h.ps.c1
  have k_2 := h.ps.c2
  have k_3 := h.ps.c3
  have k_4 := h.ps.c4
  have k_5 := h.c5
  have kf := h.ps.fz
  have klt := h.ps.lt
  clear h
  go_enter Tryz.func147, Tryz.ntmps147
  go_wp2_with fail
  refine bodyPost_end (v := .tuple #[]) (by simp [results, Tryz.results147]) rfl ?_
  have hlo : lo ≤ w.heap.size := by have := HP.out.lo; omega
  refine ⟨rfl, w.heap.size, Nat.le_refl _, ⟨HP.out.ps.cellsNew ?hc (Nat.le_refl _) ?ha ?_ ?_ ?_ ?_ ?_ ?_, ?_, HP.out.lo⟩, ?hc⟩
  case hc => repeat (first | (with_reducible exact Ch.refl) | (with_reducible refine Ch.alloc ?_ _) | (with_reducible refine Ch.drew ?_) | (with_reducible refine Ch.setB ?_ _ _))
  case ha => exact fresh_zero lo _ _ (by simp [World.setCell]) (by simp [World.setCell]; omega)
  all_goals first | (intro o; simp [go_sem, kf, klt]; done) | (simp [go_sem, k_0, k_1, k_2, k_3, k_4, k_5, klt, pz]; done)
end
section
open Go.RowKit
def QR (X lo : Nat) (R : PV × List AV) (L : List ActA) (e : Ending) (w w' : World) : Prop :=
  e = .returned (.tuple #[]) ∧ ∃ (ap' : Option Addr) (cp' : Nat) (L' : List ActA) (al' : Option Addr) (cl' : Nat), QS X lo R.1 ap' cp' L' al' cl' w' ∧ L'.map (·.A) = L.map (·.A) ++ R.2 ∧ Below lo w w'
theorem QS.below {X lo : Nat} {p : PV} {ap al : Option Addr} {cp cl : Nat} {L : List ActA} {w w' : World} (h : QS X lo p ap cp L al cl w) (hc : Ch (fun k => k = X ∨ k ∈ blkOf al) w w') : Below lo w w' := by
  have hl := h.lo
  have ht := h.ps.lt
  refine hc.below (by omega) (fun k hk => ?_)
  rcases hk with hk | hk
  · omega
  · exact (h.ps.ro.bd actL k (by simp [roB, hk])).1
theorem tell_r (X lo : Nat) (p : PV) (ap al aa : Option Addr) (cp cl ca : Nat) (L : List ActA) (A : AV) (w : World) (h : QS X lo p ap cp L al cl w)
    (hA : FreshIn intE 3 1 lo w.heap.size (.slice aa A.args.length ca) A.args w) (hd : ∀ k ∈ blkOf aa, k ≠ X ∧ k ∉ blkOf ap ∧ k ∉ acB al L) (hL : L.length ≤ 1048576) (hl : A.args.length ≤ 1048576) :
    Calls Tryz.prog 148 #[.pointer (some ⟨X, 0, none⟩), .agg #[.int .i64 A.kind, .int .i64 A.n, .bool A.priv, .slice aa A.args.length ca, .string A.text]] w (fun e w' => QR X lo (p, [A]) L e w w') := by
  obtain ⟨iA, hA', hA0, hA1, hA2⟩ := info_parts Tryz.infoAction
  have HP := Lib.hid h
  have HA := Lib.hid hA
  have HD := Lib.hid hd
  have k_5 := h.c5
  have kf := h.ps.fz
  have klt := h.ps.lt
  have hXn : ¬ w.heap.size = X := by omega
  have hXm : ¬ X = w.heap.size := by omega
  have hlo : lo ≤ w.heap.size := by have := h.lo; omega
  clear h hA hd
  have hA := hA'
  clear hA'
  go_enter Tryz.func148, Tryz.ntmps148
  by_cases hz : A.args.length = 0
  case pos =>
    have HE : Hid (A.args = []) := Lib.hid (List.length_eq_zero_iff.1 hz)
    have g0 : ((A.args.length : Int) == 0) = true := by rw [hz]; rfl
    clear hz
    go_upto_region 3 with fail
    have HB1 : Hid (Below w.heap.size w ((w.alloc (.cells #[.int .i64 A.kind, .int .i64 A.n, .bool A.priv, .slice (some ⟨w.heap.size + 1, 0, none⟩) 0 0, .string A.text] 38)).alloc (.cells #[] 3))) := Lib.hid (by repeat (first | (with_reducible exact Below.refl _ _) | (with_reducible refine Below.alloc ?_ ?_ _; rotate_left; ((try simp) <;> (try omega)))))
    have HOW : Hid (actOwn lo ((w.alloc (.cells #[.int .i64 A.kind, .int .i64 A.n, .bool A.priv, .slice (some ⟨w.heap.size + 1, 0, none⟩) 0 0, .string A.text] 38)).alloc (.cells #[] 3)) ⟨A, (some ⟨w.heap.size + 1, 0, none⟩), 0⟩ ∧ ∀ k ∈ blkOf (some ⟨w.heap.size + 1, 0, none⟩), k ≠ X ∧ k ∉ blkOf ap ∧ k ∉ acB al L) := Lib.hid (by
      refine ⟨?_, fun k hk => ?_⟩
      · unfold actOwn
        show FreshIn intE 3 1 lo _ (.slice _ A.args.length 0) A.args _
        rw [HE.out]
        exact fresh_zero lo _ _ (by simp) (by simp; omega)
      · simp [blkOf] at hk
        subst hk
        refine ⟨by omega, fun h => ?_, fun h => ?_⟩
        · have := (FreshIn.blks HP.out.ps.args _ h).2; omega
        · have := (HP.out.ps.ro.bd actL _ h).2; omega)
    have z_0 : ((w.alloc (.cells #[.int .i64 A.kind, .int .i64 A.n, .bool A.priv, .slice (some ⟨w.heap.size + 1, 0, none⟩) 0 0, .string A.text] 38)).alloc (.cells #[] 3)).cell? ⟨w.heap.size, 0, none⟩ = some (.int .i64 A.kind) := by simp [go_sem]
    have z_1 : ((w.alloc (.cells #[.int .i64 A.kind, .int .i64 A.n, .bool A.priv, .slice (some ⟨w.heap.size + 1, 0, none⟩) 0 0, .string A.text] 38)).alloc (.cells #[] 3)).cell? ⟨w.heap.size, 1, none⟩ = some (.int .i64 A.n) := by simp [go_sem]
    have z_2 : ((w.alloc (.cells #[.int .i64 A.kind, .int .i64 A.n, .bool A.priv, .slice (some ⟨w.heap.size + 1, 0, none⟩) 0 0, .string A.text] 38)).alloc (.cells #[] 3)).cell? ⟨w.heap.size, 2, none⟩ = some (.bool A.priv) := by simp [go_sem]
    have z_3 : ((w.alloc (.cells #[.int .i64 A.kind, .int .i64 A.n, .bool A.priv, .slice (some ⟨w.heap.size + 1, 0, none⟩) 0 0, .string A.text] 38)).alloc (.cells #[] 3)).cell? ⟨w.heap.size, 3, none⟩ = some (.slice (some ⟨w.heap.size + 1, 0, none⟩) 0 0) := by simp [go_sem]
    have z_4 : ((w.alloc (.cells #[.int .i64 A.kind, .int .i64 A.n, .bool A.priv, .slice (some ⟨w.heap.size + 1, 0, none⟩) 0 0, .string A.text] 38)).alloc (.cells #[] 3)).cell? ⟨w.heap.size, 4, none⟩ = some (.string A.text) := by simp [go_sem]
    obtain ⟨x1, hx1⟩ : ∃ x, ((w.alloc (.cells #[.int .i64 A.kind, .int .i64 A.n, .bool A.priv, .slice (some ⟨w.heap.size + 1, 0, none⟩) 0 0, .string A.text] 38)).alloc (.cells #[] 3)) = x := ⟨_, rfl⟩
    rw [hx1] at HB1 HOW z_0 z_1 z_2 z_3 z_4 ⊢
    clear hx1
    have hz1 := HB1.out.size
    have hzH : w.heap.size < x1.heap.size := by
      rcases Nat.lt_or_ge w.heap.size x1.heap.size with h | h
      · exact h
      · have : x1.cell? ⟨w.heap.size, 0, none⟩ = none := by simp [World.cell?, Array.getElem?_eq_none h]
        rw [this] at z_0; cases z_0
    have HP1 := Lib.hid (HP.out.keep HB1.out)
    have y_5 := HP1.out.c5
    have yf := HP1.out.ps.fz
    have ylt := HP1.out.ps.lt
    have hS0 : x1.cell? ⟨X, 5, none⟩ = some (.slice al L.length cl) ∧ x1.cell? ⟨w.heap.size, 0, none⟩ = some (.int .i64 A.kind) ∧ x1.cell? ⟨w.heap.size, 1, none⟩ = some (.int .i64 A.n) ∧ x1.cell? ⟨w.heap.size, 2, none⟩ = some (.bool A.priv) ∧ x1.cell? ⟨w.heap.size, 3, none⟩ = some (.slice (some ⟨w.heap.size + 1, 0, none⟩) 0 0) ∧ x1.cell? ⟨w.heap.size, 4, none⟩ = some (.string A.text) := ⟨y_5, z_0, z_1, z_2, z_3, z_4⟩
    refine wp_region_G (fun w' => w'.cell? ⟨X, 5, none⟩ = some (.slice al L.length cl) ∧ w'.cell? ⟨w.heap.size, 0, none⟩ = some (.int .i64 A.kind) ∧ w'.cell? ⟨w.heap.size, 1, none⟩ = some (.int .i64 A.n) ∧ w'.cell? ⟨w.heap.size, 2, none⟩ = some (.bool A.priv) ∧ w'.cell? ⟨w.heap.size, 3, none⟩ = some (.slice (some ⟨w.heap.size + 1, 0, none⟩) 0 0) ∧ w'.cell? ⟨w.heap.size, 4, none⟩ = some (.string A.text)) (fun i => i == 10) (by kernel_rfl) hS0 ?_
    refine tW ?_ 0 rfl ?_ ?_; rotate_left
    · intro w' hSw; go_simp; try rfl
    try simp only [Act.put,j1,j2,j3,j4,j5,j6]
    refine tW ?_ 1 rfl ?_ ?_; rotate_left
    · intro w' hSw; go_simp; try rfl
    try simp only [Act.put,j1,j2,j3,j4,j5,j6]
    refine tW ?_ 2 rfl ?_ ?_; rotate_left
    · intro w' hSw; go_simp; try rfl
    try simp only [Act.put,j1,j2,j3,j4,j5,j6]
    refine tW ?_ 3 rfl ?_ ?_; rotate_left
    · intro w' hSw; go_simp; try rfl
    try simp only [Act.put,j1,j2,j3,j4,j5,j6]
    refine tL ?_ 4 rfl hS0 ?_ ?_; rotate_left
    · intro w' hSw; obtain ⟨s0, s1, s2, s3, s4, s5⟩ := hSw; go_simp; try rfl
    try simp only [Act.put,j1,j2,j3,j4,j5,j6]
    refine tL ?_ 5 rfl hS0 ?_ ?_; rotate_left
    · intro w' hSw; obtain ⟨s0, s1, s2, s3, s4, s5⟩ := hSw; go_simp; try rfl
    try simp only [Act.put,j1,j2,j3,j4,j5,j6]
    refine wpAnyG_one (i := 6) (by kernel_rfl) rfl hS0 (fun K' hK => ?_)
    simp only [j1,j2,j3]
    go_simp
    obtain ⟨x2, hx2⟩ : ∃ x, (x1.alloc (.cells #[.int .i64 A.kind, .int .i64 A.n, .bool A.priv, .slice (some ⟨w.heap.size + 1, 0, none⟩) 0 0, .string A.text] 38)).drew = x := ⟨_, rfl⟩
    have hx2' : x1.drew.alloc (.cells #[.int .i64 A.kind, .int .i64 A.n, .bool A.priv, .slice (some ⟨w.heap.size + 1, 0, none⟩) 0 0, .string A.text] 38) = x2 := by rw [← hx2]; rfl
    have HB2 : Hid (Below x1.heap.size x1 x2) := Lib.hid (by rw [← hx2]; exact ((Below.refl _ _).alloc (Nat.le_refl _) _).drew)
    have hsrc : Src Tryz.prog 5 48 (.slice (some ⟨x1.heap.size, 0, none⟩) 1 1) [(⟨A, (some ⟨w.heap.size + 1, 0, none⟩), 0⟩ : ActA)].length ([(⟨A, (some ⟨w.heap.size + 1, 0, none⟩), 0⟩ : ActA)].flatMap actE) x2 := by
      rw [← hx2']
      exact Src.ofBox (enc := actE) Tryz.underlying48 (fun _ => rfl) actOne (⟨A, (some ⟨w.heap.size + 1, 0, none⟩), 0⟩ : ActA) _ _ (by simp [actE, HE.out]) _ (by simp)
    have HSRC := Lib.hid hsrc
    have HP2 := Lib.hid (HP1.out.keep HB2.out)
    have HOW2 : Hid (actOwn lo x2 ⟨A, (some ⟨w.heap.size + 1, 0, none⟩), 0⟩) := Lib.hid (actL.ch (M := fun _ => False) HOW.out.1 (Ch.of_below HB2.out) (fun _ _ h => h))
    have hz2 := HB2.out.size
    have hS1 := fun (p : Addr) (hp : p.block < x1.heap.size) => HB2.out.cell (p := p) hp
    have hS2 : x2.cell? ⟨X, 5, none⟩ = some (.slice al L.length cl) ∧ x2.cell? ⟨w.heap.size, 0, none⟩ = some (.int .i64 A.kind) ∧ x2.cell? ⟨w.heap.size, 1, none⟩ = some (.int .i64 A.n) ∧ x2.cell? ⟨w.heap.size, 2, none⟩ = some (.bool A.priv) ∧ x2.cell? ⟨w.heap.size, 3, none⟩ = some (.slice (some ⟨w.heap.size + 1, 0, none⟩) 0 0) ∧ x2.cell? ⟨w.heap.size, 4, none⟩ = some (.string A.text) := ⟨(hS1 ⟨X, 5, none⟩ ylt).trans y_5, (hS1 ⟨w.heap.size, 0, none⟩ hzH).trans z_0, (hS1 ⟨w.heap.size, 1, none⟩ hzH).trans z_1, (hS1 ⟨w.heap.size, 2, none⟩ hzH).trans z_2, (hS1 ⟨w.heap.size, 3, none⟩ hzH).trans z_3, (hS1 ⟨w.heap.size, 4, none⟩ hzH).trans z_4⟩
    clear hsrc hx2' hS1
    rw [hx2]
    clear hx2
    refine hK.out _ _ (Or.inr hS2) ?_
    clear hK K'
    try simp only [Act.put,j1,j2,j3,j4,j5,j6]
    refine wpAnyG_one (i := 7) (by kernel_rfl) rfl hS2 (fun K' hK => ?_)
    simp only [j1,j2,j3]
    rw [if_pos (by rfl)]
    refine step_append_ch (.tmp 14) (.tmp 16) 48 48 lo 38 iA (.agg #[.int .i64 0, .int .i64 0, .bool false, .slice none 0 0, .string ⟨#[]⟩]) 5 64 Tryz.underlying48 hA hA0 hA1 hA2 rfl (by decide) al L.length cl L HP2.out.ps.ro.row (.slice (some ⟨x1.heap.size, 0, none⟩) 1 1) [(⟨A, (some ⟨w.heap.size + 1, 0, none⟩), 0⟩ : ActA)] HSRC.out (by simp; omega) (by omega) ?_ ?_ ?_ ?_
    · rfl
    · rfl
    · rfl
    intro a4 c4 w4 us hus hf hc hk
    have HUS := hus
    have HF := Lib.hid hf
    have HC4 := Lib.hid hc
    have HK := Lib.hid hk
    have hHal : ¬ w.heap.size ∈ blkOf al := fun hb => by
      have := (HP.out.ps.ro.bd actL w.heap.size (by simp [roB, hb])).2
      omega
    have hXal : ¬ X ∈ blkOf al := fun hb => HP.out.ps.nB (by rw [List.mem_append]; right; simp [roB, hb])
    have hS3 := fun (p : Addr) (hp : p.block < x2.heap.size) (hd : ¬ p.block ∈ blkOf al) => HC4.out.cell (p := p) hp hd
    have hS4 : w4.cell? ⟨X, 5, none⟩ = some (.slice al L.length cl) ∧ w4.cell? ⟨w.heap.size, 0, none⟩ = some (.int .i64 A.kind) ∧ w4.cell? ⟨w.heap.size, 1, none⟩ = some (.int .i64 A.n) ∧ w4.cell? ⟨w.heap.size, 2, none⟩ = some (.bool A.priv) ∧ w4.cell? ⟨w.heap.size, 3, none⟩ = some (.slice (some ⟨w.heap.size + 1, 0, none⟩) 0 0) ∧ w4.cell? ⟨w.heap.size, 4, none⟩ = some (.string A.text) := ⟨(hS3 ⟨X, 5, none⟩ (by show X < _; omega) hXal).trans hS2.1, (hS3 ⟨w.heap.size, 0, none⟩ (by show w.heap.size < _; omega) hHal).trans hS2.2.1, (hS3 ⟨w.heap.size, 1, none⟩ (by show w.heap.size < _; omega) hHal).trans hS2.2.2.1, (hS3 ⟨w.heap.size, 2, none⟩ (by show w.heap.size < _; omega) hHal).trans hS2.2.2.2.1, (hS3 ⟨w.heap.size, 3, none⟩ (by show w.heap.size < _; omega) hHal).trans hS2.2.2.2.2.1, (hS3 ⟨w.heap.size, 4, none⟩ (by show w.heap.size < _; omega) hHal).trans hS2.2.2.2.2.2⟩
    have HPS4 : Hid (PS X lo p ap cp us a4 c4 w4) := Lib.hid (HP2.out.ps.pushX (x := ⟨A, (some ⟨w.heap.size + 1, 0, none⟩), 0⟩) HOW2.out HOW.out.2 HUS.out HF.out HC4.out HK.out)
    have v_5 := hS4.1
    have vf := HPS4.out.fz
    have vlt := HPS4.out.lt
    clear hus hf hc hk hS3
    refine hK.out _ _ (Or.inr hS4) ?_
    clear hK K'
    try simp only [Act.put,j1,j2,j3,j4,j5,j6]
    refine tW ?_ 8 rfl ?_ ?_; rotate_left
    · intro w' hSw; go_simp; try rfl
    try simp only [Act.put,j1,j2,j3,j4,j5,j6]
    refine tW ?_ 9 rfl ?_ ?_; rotate_left
    · intro w' hSw; go_simp; try rfl
    try simp only [Act.put,j1,j2,j3,j4,j5,j6]
    refine wpAnyG_one (i := 10) (by kernel_rfl) rfl hS4 (fun K' hK => ?_)
    simp only [j1,j2,j3]
    go_simp
    refine hK.out _ _ (Or.inl rfl) ?_
    clear hK K'
    try simp only [Act.put,j1,j2,j3,j4,j5,j6]
    refine wpAnyG_done (by kernel_rfl) ?_ _
    go_wp2_with fail
    refine bodyPost_end (v := .tuple #[]) (by simp [results, Tryz.results148]) rfl ?_
    have hq : QS X lo p ap cp us a4 c4 (w4.setCell ⟨X, 5, none⟩ (.slice a4 us.length c4)) := QS.list HPS4.out HP.out.lo rfl v_5
    refine ⟨rfl, ap, cp, us, a4, c4, hq, by rw [HUS.out]; simp, ?_⟩
    have hc : Ch (fun k => k = X ∨ k ∈ blkOf al) w w4 := (Ch.of_below HB1.out).trans ((Ch.of_below (M := fun k => k = X ∨ k ∈ blkOf al) HB2.out).trans HC4.out (fun i hi => .inl (.inr hi))) (fun i hi => .inl hi)
    exact HP.out.below (hc.setCell (p := ⟨X, 5, none⟩) (.inl (.inl rfl)) _)
  have g0 : ((A.args.length : Int) == 0) = false := beq_eq_false_iff_ne.2 (by omega)
  go_upto_region 3 with fail
  have HB1 : Hid (Below w.heap.size w (w.alloc (.cells #[.int .i64 A.kind, .int .i64 A.n, .bool A.priv, .slice aa A.args.length ca, .string A.text] 38))) := Lib.hid (by repeat (first | (with_reducible exact Below.refl _ _) | (with_reducible refine Below.alloc ?_ ?_ _; rotate_left; ((try simp) <;> (try omega)))))
  have HOW : Hid (actOwn lo (w.alloc (.cells #[.int .i64 A.kind, .int .i64 A.n, .bool A.priv, .slice aa A.args.length ca, .string A.text] 38)) ⟨A, aa, ca⟩ ∧ ∀ k ∈ blkOf aa, k ≠ X ∧ k ∉ blkOf ap ∧ k ∉ acB al L) := Lib.hid (by
    refine ⟨?_, HD.out⟩
    exact actL.ch (M := fun _ => False) (r := ⟨A, aa, ca⟩) HA.out (Ch.refl.alloc _) (fun _ _ h => h))
  have z_0 : (w.alloc (.cells #[.int .i64 A.kind, .int .i64 A.n, .bool A.priv, .slice aa A.args.length ca, .string A.text] 38)).cell? ⟨w.heap.size, 0, none⟩ = some (.int .i64 A.kind) := by simp [go_sem]
  have z_1 : (w.alloc (.cells #[.int .i64 A.kind, .int .i64 A.n, .bool A.priv, .slice aa A.args.length ca, .string A.text] 38)).cell? ⟨w.heap.size, 1, none⟩ = some (.int .i64 A.n) := by simp [go_sem]
  have z_2 : (w.alloc (.cells #[.int .i64 A.kind, .int .i64 A.n, .bool A.priv, .slice aa A.args.length ca, .string A.text] 38)).cell? ⟨w.heap.size, 2, none⟩ = some (.bool A.priv) := by simp [go_sem]
  have z_3 : (w.alloc (.cells #[.int .i64 A.kind, .int .i64 A.n, .bool A.priv, .slice aa A.args.length ca, .string A.text] 38)).cell? ⟨w.heap.size, 3, none⟩ = some (.slice aa A.args.length ca) := by simp [go_sem]
  have z_4 : (w.alloc (.cells #[.int .i64 A.kind, .int .i64 A.n, .bool A.priv, .slice aa A.args.length ca, .string A.text] 38)).cell? ⟨w.heap.size, 4, none⟩ = some (.string A.text) := by simp [go_sem]
  obtain ⟨x1, hx1⟩ : ∃ x, (w.alloc (.cells #[.int .i64 A.kind, .int .i64 A.n, .bool A.priv, .slice aa A.args.length ca, .string A.text] 38)) = x := ⟨_, rfl⟩
  rw [hx1] at HB1 HOW z_0 z_1 z_2 z_3 z_4 ⊢
  clear hx1
  have hz1 := HB1.out.size
  have hzH : w.heap.size < x1.heap.size := by
    rcases Nat.lt_or_ge w.heap.size x1.heap.size with h | h
    · exact h
    · have : x1.cell? ⟨w.heap.size, 0, none⟩ = none := by simp [World.cell?, Array.getElem?_eq_none h]
      rw [this] at z_0; cases z_0
  have HP1 := Lib.hid (HP.out.keep HB1.out)
  have y_5 := HP1.out.c5
  have yf := HP1.out.ps.fz
  have ylt := HP1.out.ps.lt
  have hS0 : x1.cell? ⟨X, 5, none⟩ = some (.slice al L.length cl) ∧ x1.cell? ⟨w.heap.size, 0, none⟩ = some (.int .i64 A.kind) ∧ x1.cell? ⟨w.heap.size, 1, none⟩ = some (.int .i64 A.n) ∧ x1.cell? ⟨w.heap.size, 2, none⟩ = some (.bool A.priv) ∧ x1.cell? ⟨w.heap.size, 3, none⟩ = some (.slice aa A.args.length ca) ∧ x1.cell? ⟨w.heap.size, 4, none⟩ = some (.string A.text) := ⟨y_5, z_0, z_1, z_2, z_3, z_4⟩
  refine wp_region_G (fun w' => w'.cell? ⟨X, 5, none⟩ = some (.slice al L.length cl) ∧ w'.cell? ⟨w.heap.size, 0, none⟩ = some (.int .i64 A.kind) ∧ w'.cell? ⟨w.heap.size, 1, none⟩ = some (.int .i64 A.n) ∧ w'.cell? ⟨w.heap.size, 2, none⟩ = some (.bool A.priv) ∧ w'.cell? ⟨w.heap.size, 3, none⟩ = some (.slice aa A.args.length ca) ∧ w'.cell? ⟨w.heap.size, 4, none⟩ = some (.string A.text)) (fun i => i == 10) (by kernel_rfl) hS0 ?_
  refine tW ?_ 0 rfl ?_ ?_; rotate_left
  · intro w' hSw; go_simp; try rfl
  try simp only [Act.put,j1,j2,j3,j4,j5,j6]
  refine tW ?_ 1 rfl ?_ ?_; rotate_left
  · intro w' hSw; go_simp; try rfl
  try simp only [Act.put,j1,j2,j3,j4,j5,j6]
  refine tW ?_ 2 rfl ?_ ?_; rotate_left
  · intro w' hSw; go_simp; try rfl
  try simp only [Act.put,j1,j2,j3,j4,j5,j6]
  refine tW ?_ 3 rfl ?_ ?_; rotate_left
  · intro w' hSw; go_simp; try rfl
  try simp only [Act.put,j1,j2,j3,j4,j5,j6]
  refine tL ?_ 4 rfl hS0 ?_ ?_; rotate_left
  · intro w' hSw; obtain ⟨s0, s1, s2, s3, s4, s5⟩ := hSw; go_simp; try rfl
  try simp only [Act.put,j1,j2,j3,j4,j5,j6]
  refine tL ?_ 5 rfl hS0 ?_ ?_; rotate_left
  · intro w' hSw; obtain ⟨s0, s1, s2, s3, s4, s5⟩ := hSw; go_simp; try rfl
  try simp only [Act.put,j1,j2,j3,j4,j5,j6]
  refine wpAnyG_one (i := 6) (by kernel_rfl) rfl hS0 (fun K' hK => ?_)
  simp only [j1,j2,j3]
  go_simp
  obtain ⟨x2, hx2⟩ : ∃ x, (x1.alloc (.cells #[.int .i64 A.kind, .int .i64 A.n, .bool A.priv, .slice aa A.args.length ca, .string A.text] 38)).drew = x := ⟨_, rfl⟩
  have hx2' : x1.drew.alloc (.cells #[.int .i64 A.kind, .int .i64 A.n, .bool A.priv, .slice aa A.args.length ca, .string A.text] 38) = x2 := by rw [← hx2]; rfl
  have HB2 : Hid (Below x1.heap.size x1 x2) := Lib.hid (by rw [← hx2]; exact ((Below.refl _ _).alloc (Nat.le_refl _) _).drew)
  have hsrc : Src Tryz.prog 5 48 (.slice (some ⟨x1.heap.size, 0, none⟩) 1 1) [(⟨A, aa, ca⟩ : ActA)].length ([(⟨A, aa, ca⟩ : ActA)].flatMap actE) x2 := by
    rw [← hx2']
    exact Src.ofBox (enc := actE) Tryz.underlying48 (fun _ => rfl) actOne (⟨A, aa, ca⟩ : ActA) _ _ (by simp [actE]) _ (by simp)
  have HSRC := Lib.hid hsrc
  have HP2 := Lib.hid (HP1.out.keep HB2.out)
  have HOW2 : Hid (actOwn lo x2 ⟨A, aa, ca⟩) := Lib.hid (actL.ch (M := fun _ => False) HOW.out.1 (Ch.of_below HB2.out) (fun _ _ h => h))
  have hz2 := HB2.out.size
  have hS1 := fun (p : Addr) (hp : p.block < x1.heap.size) => HB2.out.cell (p := p) hp
  have hS2 : x2.cell? ⟨X, 5, none⟩ = some (.slice al L.length cl) ∧ x2.cell? ⟨w.heap.size, 0, none⟩ = some (.int .i64 A.kind) ∧ x2.cell? ⟨w.heap.size, 1, none⟩ = some (.int .i64 A.n) ∧ x2.cell? ⟨w.heap.size, 2, none⟩ = some (.bool A.priv) ∧ x2.cell? ⟨w.heap.size, 3, none⟩ = some (.slice aa A.args.length ca) ∧ x2.cell? ⟨w.heap.size, 4, none⟩ = some (.string A.text) := ⟨(hS1 ⟨X, 5, none⟩ ylt).trans y_5, (hS1 ⟨w.heap.size, 0, none⟩ hzH).trans z_0, (hS1 ⟨w.heap.size, 1, none⟩ hzH).trans z_1, (hS1 ⟨w.heap.size, 2, none⟩ hzH).trans z_2, (hS1 ⟨w.heap.size, 3, none⟩ hzH).trans z_3, (hS1 ⟨w.heap.size, 4, none⟩ hzH).trans z_4⟩
  clear hsrc hx2' hS1
  rw [hx2]
  clear hx2
  refine hK.out _ _ (Or.inr hS2) ?_
  clear hK K'
  try simp only [Act.put,j1,j2,j3,j4,j5,j6]
  refine wpAnyG_one (i := 7) (by kernel_rfl) rfl hS2 (fun K' hK => ?_)
  simp only [j1,j2,j3]
  rw [if_pos (by rfl)]
  refine step_append_ch (.tmp 14) (.tmp 16) 48 48 lo 38 iA (.agg #[.int .i64 0, .int .i64 0, .bool false, .slice none 0 0, .string ⟨#[]⟩]) 5 64 Tryz.underlying48 hA hA0 hA1 hA2 rfl (by decide) al L.length cl L HP2.out.ps.ro.row (.slice (some ⟨x1.heap.size, 0, none⟩) 1 1) [(⟨A, aa, ca⟩ : ActA)] HSRC.out (by simp; omega) (by omega) ?_ ?_ ?_ ?_
  · rfl
  · rfl
  · rfl
  intro a4 c4 w4 us hus hf hc hk
  have HUS := hus
  have HF := Lib.hid hf
  have HC4 := Lib.hid hc
  have HK := Lib.hid hk
  have hHal : ¬ w.heap.size ∈ blkOf al := fun hb => by
    have := (HP.out.ps.ro.bd actL w.heap.size (by simp [roB, hb])).2
    omega
  have hXal : ¬ X ∈ blkOf al := fun hb => HP.out.ps.nB (by rw [List.mem_append]; right; simp [roB, hb])
  have hS3 := fun (p : Addr) (hp : p.block < x2.heap.size) (hd : ¬ p.block ∈ blkOf al) => HC4.out.cell (p := p) hp hd
  have hS4 : w4.cell? ⟨X, 5, none⟩ = some (.slice al L.length cl) ∧ w4.cell? ⟨w.heap.size, 0, none⟩ = some (.int .i64 A.kind) ∧ w4.cell? ⟨w.heap.size, 1, none⟩ = some (.int .i64 A.n) ∧ w4.cell? ⟨w.heap.size, 2, none⟩ = some (.bool A.priv) ∧ w4.cell? ⟨w.heap.size, 3, none⟩ = some (.slice aa A.args.length ca) ∧ w4.cell? ⟨w.heap.size, 4, none⟩ = some (.string A.text) := ⟨(hS3 ⟨X, 5, none⟩ (by show X < _; omega) hXal).trans hS2.1, (hS3 ⟨w.heap.size, 0, none⟩ (by show w.heap.size < _; omega) hHal).trans hS2.2.1, (hS3 ⟨w.heap.size, 1, none⟩ (by show w.heap.size < _; omega) hHal).trans hS2.2.2.1, (hS3 ⟨w.heap.size, 2, none⟩ (by show w.heap.size < _; omega) hHal).trans hS2.2.2.2.1, (hS3 ⟨w.heap.size, 3, none⟩ (by show w.heap.size < _; omega) hHal).trans hS2.2.2.2.2.1, (hS3 ⟨w.heap.size, 4, none⟩ (by show w.heap.size < _; omega) hHal).trans hS2.2.2.2.2.2⟩
  have HPS4 : Hid (PS X lo p ap cp us a4 c4 w4) := Lib.hid (HP2.out.ps.pushX (x := ⟨A, aa, ca⟩) HOW2.out HOW.out.2 HUS.out HF.out HC4.out HK.out)
  have v_5 := hS4.1
  have vf := HPS4.out.fz
  have vlt := HPS4.out.lt
  clear hus hf hc hk hS3
  refine hK.out _ _ (Or.inr hS4) ?_
  clear hK K'
  try simp only [Act.put,j1,j2,j3,j4,j5,j6]
  refine tW ?_ 8 rfl ?_ ?_; rotate_left
  · intro w' hSw; go_simp; try rfl
  try simp only [Act.put,j1,j2,j3,j4,j5,j6]
  refine tW ?_ 9 rfl ?_ ?_; rotate_left
  · intro w' hSw; go_simp; try rfl
  try simp only [Act.put,j1,j2,j3,j4,j5,j6]
  refine wpAnyG_one (i := 10) (by kernel_rfl) rfl hS4 (fun K' hK => ?_)
  simp only [j1,j2,j3]
  go_simp
  refine hK.out _ _ (Or.inl rfl) ?_
  clear hK K'
  try simp only [Act.put,j1,j2,j3,j4,j5,j6]
  refine wpAnyG_done (by kernel_rfl) ?_ _
  go_wp2_with fail
  refine bodyPost_end (v := .tuple #[]) (by simp [results, Tryz.results148]) rfl ?_
  have hq : QS X lo p ap cp us a4 c4 (w4.setCell ⟨X, 5, none⟩ (.slice a4 us.length c4)) := QS.list HPS4.out HP.out.lo rfl v_5
  refine ⟨rfl, ap, cp, us, a4, c4, hq, by rw [HUS.out]; simp, ?_⟩
  have hc : Ch (fun k => k = X ∨ k ∈ blkOf al) w w4 := (Ch.of_below HB1.out).trans ((Ch.of_below (M := fun k => k = X ∨ k ∈ blkOf al) HB2.out).trans HC4.out (fun i hi => .inl (.inr hi))) (fun i hi => .inl hi)
  exact HP.out.below (hc.setCell (p := ⟨X, 5, none⟩) (.inl (.inl rfl)) _)
end
section
open Go.RowKit
theorem control_r (n : Int) (w : World) : Calls Tryz.prog 78 #[.int .i64 n] w fun e w' => e = .returned (.bool (ctlI n)) ∧ w = w' := by
  have hc : ctlI n = (n == 7 || n == 8 || n == 9 || n == 10 || n == 13) := by
    unfold ctlI inB
    rw [Bool.eq_iff_iff]
    simp only [Bool.or_eq_true, Bool.and_eq_true, decide_eq_true_eq, beq_iff_eq]
    omega
  have HC := Lib.hid hc
  clear hc
  cases q1 : (n == 7) <;> cases q2 : (n == 8) <;> cases q3 : (n == 9) <;> cases q4 : (n == 10) <;> cases q5 : (n == 13)
  all_goals
    have HC2 := HC.out
    rw [q1, q2, q3, q4, q5] at HC2
    have HC3 := Lib.hid HC2
    clear HC2 HC
    go_enter Tryz.func78, Tryz.ntmps78
    go_wp2_with fail
    go_ret
    exact ⟨ret_b (by rw [HC3.out]; rfl), rfl⟩
end
section
open Go.RowKit
def szR (b : Nat) : Nat := if b < 128 then 1 else utfLen b
theorem size_r (s : ByteArray) (w : World) (h : 0 < s.size) : Calls Tryz.prog 150 #[.string s] w fun e w' => e = .returned (.int .i64 (szR (s[0]'h).toNat : Nat)) ∧ w = w' := by
  have hne : s.toList.isEmpty = false := notEmpty (by omega)
  obtain ⟨x, hx⟩ : ∃ x, s[0]'h = x := ⟨_, rfl⟩
  have h256 : x.toNat < 256 := x.toNat_lt
  rw [hx]
  by_cases c0 : x.toNat < 128
  · have HR : Hid (szR x.toNat = 1) := Lib.hid (by unfold szR; rw [if_pos c0])
    go_enter Tryz.func150, Tryz.ntmps150
    go_wp2_with fail
    go_ret
    exact ⟨ret_i (by rw [HR.out]; rfl), rfl⟩
  obtain ⟨v1, h1⟩ : ∃ v, inB (x.toNat : Int) 194 223 = v := ⟨_, rfl⟩
  obtain ⟨v2, h2⟩ : ∃ v, inB (x.toNat : Int) 224 239 = v := ⟨_, rfl⟩
  obtain ⟨v3, h3⟩ : ∃ v, inB (x.toNat : Int) 240 244 = v := ⟨_, rfl⟩
  have H1 := Lib.hid h1
  have H2 := Lib.hid h2
  have H3 := Lib.hid h3
  have HR : Hid ((szR x.toNat : Int) = if v1 then 2 else if v2 then 3 else if v3 then 4 else 0) := Lib.hid (by
    subst h1 h2 h3
    unfold szR utfLen inB
    rw [if_neg c0]
    simp only [Bool.and_eq_true, decide_eq_true_eq]
    (repeat' split) <;> omega)
  clear h1 h2 h3
  cases v1
  all_goals cases v2
  all_goals cases v3
  all_goals
    go_enter Tryz.func150, Tryz.ntmps150
    go_wp2_with (go_at_call 60; refine (l01In_c _ _ _ _).mono ?_; (first | rw [H1.out] | rw [H2.out] | rw [H3.out]); rintro e w' ⟨rfl, rfl⟩)
    go_ret
    exact ⟨ret_i (by rw [HR.out]; rfl), rfl⟩
end
section
open Go.RowKit
section
variable {X lo : Nat} {p p' : PV} {ap ap' al : Option Addr} {cp cp' cl : Nat} {L us : List ActA} {w w' w1 : World} {R : PV × List AV} {e : Ending}
theorem QR.stay (h : QS X lo p' ap' cp' L al cl w') (h0 : QS X lo p ap cp L al cl w) (hc : Ch (fun k => k = X ∨ k ∈ blkOf al) w w') (hR : R = (p', [])) : QR X lo R L (.returned (.tuple #[])) w w' := by
  subst hR
  exact ⟨rfl, ap', cp', L, al, cl, h, by simp, h0.below hc⟩
theorem QR.only (h : QS X lo p' ap' cp' L al cl w') (h0 : QS X lo p ap cp L al cl w) (hc : Ch (fun k => k = X) w w') (hR : R = (p', [])) : QR X lo R L (.returned (.tuple #[])) w w' :=
  QR.stay h h0 (hc.mono (fun i hi => .inl (.inl hi))) hR
theorem QR.base (h : QR X lo R L e w1 w') (hb : Below lo w w1) : QR X lo R L e w w' := by
  obtain ⟨h1, ap', cp', L', al', cl', h2, h3, h4⟩ := h
  exact ⟨h1, ap', cp', L', al', cl', h2, h3, hb.trans h4⟩
theorem QR.after {acts : List AV} (h : QR X lo R us e w1 w') (hb : Below lo w w1) (hu : us.map (·.A) = L.map (·.A) ++ acts) : QR X lo (R.1, acts ++ R.2) L e w w' := by
  obtain ⟨h1, ap', cp', L', al', cl', h2, h3, h4⟩ := h
  exact ⟨h1, ap', cp', L', al', cl', h2, by rw [h3, hu]; simp, hb.trans h4⟩
theorem QS.below1 (h : QS X lo p ap cp L al cl w) (hc : Ch (fun k => k = X) w w') : Below lo w w' := h.below (hc.mono (fun i hi => .inl (.inl hi)))
theorem QS.cells (h : QS X lo p ap cp L al cl w) (hc : Ch (fun k => k = X) w w') (c0 : w'.cell? ⟨X, 0, none⟩ = some (.int .i64 p'.state)) (c1 : w'.cell? ⟨X, 1, none⟩ = some (.slice ap' p'.args.length cp')) (c2 : w'.cell? ⟨X, 2, none⟩ = some (.bool p'.priv))
    (c3 : w'.cell? ⟨X, 3, none⟩ = some (.string p'.text)) (c4 : w'.cell? ⟨X, 4, none⟩ = some (.string p'.utf)) (c5 : w'.cell? ⟨X, 5, none⟩ = some (.slice al L.length cl)) (fz : ∀ o, w'.frozen? ⟨X, o, none⟩ = false) (ha : (ap' = ap ∧ cp' = cp ∧ p'.args = p.args) ∨ (ap' = none ∧ cp' = 0 ∧ p'.args = [])) : QS X lo p' ap' cp' L al cl w' :=
  ⟨h.ps.cells hc c0 c1 c2 c3 c4 fz ha, c5, h.lo⟩
end
theorem size1_r (b : UInt8) (u : Nat) (w : World) (h : szR b.toNat = u) : Calls Tryz.prog 150 #[.string ⟨#[b]⟩] w fun e w' => e = .returned (.int .i64 u) ∧ w = w' := by
  subst h
  exact size_r ⟨#[b]⟩ w (by show 0 < 1; omega)
theorem skip_r (X lo : Nat) (ap al : Option Addr) (cp cl : Nat) (L : List ActA) (b : UInt8) (w : World) (h : QS X lo (pst 3) ap cp L al cl w) (hL : L.length ≤ 1048576) :
    Calls Tryz.prog 136 #[.pointer (some ⟨X, 0, none⟩), .int .i64 b.toNat] w (fun e w' => QR X lo (sstep (pst 3) b) L e w w') := by
  have HP := Lib.hid h
  have k_0 := h.ps.c0
  have k_1 := h.ps.c1
  have k_2 := h.ps.c2
  have k_3 := h.ps.c3
  have k_4 := h.ps.c4
  have k_5 := h.c5
  have kf := h.ps.fz
  have klt := h.ps.lt
  have hlo : lo ≤ w.heap.size := by have := h.lo; omega
  have h256 : b.toNat < 256 := b.toNat_lt
  clear h
  obtain ⟨Gr, hG⟩ : ∃ G, sstep (pst 3) b = G := ⟨_, rfl⟩
  have HGG := Lib.hid hG
  rw [hG]
  clear hG
  obtain ⟨n, hn⟩ : ∃ n, b.toNat = n := ⟨_, rfl⟩
  rw [hn] at h256 ⊢
  have HN := Lib.hid hn
  clear hn
  by_cases h27 : n = 27
  case pos =>
    have HR : Hid (Gr = (pst 1, [])) := Lib.hid (by rw [← HGG.out]; exact ss1 HN.out h27)
    have g27 : ((n : Int) == 27) = true := by subst h27; rfl
    clear h27
    go_enter Tryz.func136, Tryz.ntmps136
    go_wp2_with fail
    refine bodyPost_end (v := .tuple #[]) (by simp [results, Tryz.results136]) rfl ?_
    refine QR.only (p' := pst 1) (HP.out.cells ?hc ?_ ?_ ?_ ?_ ?_ ?_ ?_ (.inl ⟨rfl, rfl, rfl⟩)) HP.out ?hc HR.out
    case hc => repeat (first | (with_reducible exact Ch.refl) | (with_reducible refine Ch.alloc ?_ _) | (with_reducible refine Ch.drew ?_) | (with_reducible refine Ch.setB ?_ _ _))
    all_goals first | (intro o; simp [go_sem, kf, klt]; done) | (simp [go_sem, k_0, k_1, k_2, k_3, k_4, k_5, klt, pst, pz]; done)
  have g27 : ((n : Int) == 27) = false := beq_eq_false_iff_ne.2 (by omega)
  obtain ⟨v, hv⟩ : ∃ v, inB (n : Int) 64 126 = v := ⟨_, rfl⟩
  have HV := Lib.hid hv
  clear hv
  cases v
  case false =>
    have HR : Hid (Gr = (pst 3, [])) := Lib.hid (by rw [← HGG.out]; exact ss3 HN.out h27 (by have := HV.out; simp [inB] at this; omega))
    go_enter Tryz.func136, Tryz.ntmps136
    go_wp2_with (go_at_call 60; refine (l01In_c _ _ _ _).mono ?_; rw [HV.out]; rintro e w' ⟨rfl, rfl⟩)
    refine bodyPost_end (v := .tuple #[]) (by simp [results, Tryz.results136]) rfl ?_
    exact QR.only HP.out HP.out Ch.refl HR.out
  have HR : Hid (Gr = (pz, [])) := Lib.hid (by rw [← HGG.out]; exact ss2 HN.out (by have := HV.out; simp [inB] at this; omega))
  go_enter Tryz.func136, Tryz.ntmps136
  go_wp2_with (go_at_call 60; refine (l01In_c _ _ _ _).mono ?_; rw [HV.out]; rintro e w' ⟨rfl, rfl⟩)
  refine (ground_r X lo _ ap al cp cl L _ HP.out).mono ?_
  rintro e w1 ⟨rfl, g, hg, hq, hc⟩
  have HQ := Lib.hid hq
  have HC := Lib.hid hc
  clear hq hc
  go_wp2_with fail
  refine bodyPost_end (v := .tuple #[]) (by simp [results, Tryz.results136]) rfl ?_
  exact QR.only HQ.out HP.out HC.out HR.out
theorem plain_r (X lo : Nat) (ap al : Option Addr) (cp cl : Nat) (L : List ActA) (b : UInt8) (w : World) (h : QS X lo pz ap cp L al cl w) (hL : L.length ≤ 1048576) :
    Calls Tryz.prog 140 #[.pointer (some ⟨X, 0, none⟩), .int .i64 b.toNat] w (fun e w' => QR X lo (gstep b) L e w w') := by
  have HP := Lib.hid h
  have k_0 := h.ps.c0
  have k_1 := h.ps.c1
  have k_2 := h.ps.c2
  have k_3 := h.ps.c3
  have k_4 := h.ps.c4
  have k_5 := h.c5
  have kf := h.ps.fz
  have klt := h.ps.lt
  have hlo : lo ≤ w.heap.size := by have := h.lo; omega
  have h256 : b.toNat < 256 := b.toNat_lt
  clear h
  obtain ⟨Gr, hG⟩ : ∃ G, gstep b = G := ⟨_, rfl⟩
  have HGG := Lib.hid hG
  rw [hG]
  clear hG
  obtain ⟨n, hn⟩ : ∃ n, b.toNat = n := ⟨_, rfl⟩
  rw [hn] at h256 ⊢
  have HN := Lib.hid hn
  clear hn
  by_cases h27 : n = 27
  case pos =>
    have HR : Hid (Gr = (pst 1, [])) := Lib.hid (by rw [← HGG.out]; exact gs1 (HN.out.trans h27))
    have g27 : ((n : Int) == 27) = true := by subst h27; rfl
    clear h27
    go_enter Tryz.func140, Tryz.ntmps140
    go_wp2_with fail
    refine bodyPost_end (v := .tuple #[]) (by simp [results, Tryz.results140]) rfl ?_
    refine QR.only (p' := pst 1) (HP.out.cells ?hc ?_ ?_ ?_ ?_ ?_ ?_ ?_ (.inl ⟨rfl, rfl, rfl⟩)) HP.out ?hc HR.out
    case hc => repeat (first | (with_reducible exact Ch.refl) | (with_reducible refine Ch.alloc ?_ _) | (with_reducible refine Ch.drew ?_) | (with_reducible refine Ch.setB ?_ _ _))
    all_goals first | (intro o; simp [go_sem, kf, klt]; done) | (simp [go_sem, k_0, k_1, k_2, k_3, k_4, k_5, klt, pst, pz]; done)
  have g27 : ((n : Int) == 27) = false := beq_eq_false_iff_ne.2 (by omega)
  obtain ⟨c, hc⟩ : ∃ c, ctl n = c := ⟨_, rfl⟩
  have HCC := Lib.hid hc
  have HCT : Hid (ctlI (n : Int) = c) := Lib.hid (by rw [ctl_eq]; exact hc)
  clear hc
  have hne : ¬ b.toNat = 27 := by rw [HN.out]; exact h27
  have HNE := Lib.hid hne
  clear hne
  cases c
  case true =>
    have HR : Hid (Gr = (pz, [⟨2, n, false, [], e0⟩])) := Lib.hid (by rw [← HGG.out, ← HN.out]; exact gs2 HNE.out (by rw [HN.out]; exact HCC.out))
    go_enter Tryz.func140, Tryz.ntmps140
    go_wp2_with (go_at_call 78; refine (control_r _ _).mono ?_; rw [HCT.out]; rintro e w' ⟨rfl, rfl⟩)
    refine (tell_r X lo pz ap al none cp cl 0 L ⟨2, n, false, [], e0⟩ _ HP.out (FreshIn.nil _ _ _ _ _ _) (by simp [blkOf]) hL (by simp)).mono ?_
    rintro e w1 hq
    have HQ := Lib.hid hq
    obtain ⟨rfl, _⟩ := hq
    go_wp2_with fail
    refine bodyPost_end (v := .tuple #[]) (by simp [results, Tryz.results140]) rfl ?_
    rw [HR.out]
    exact HQ.out
  obtain ⟨v, hv⟩ : ∃ v, inB (n : Int) 32 126 = v := ⟨_, rfl⟩
  have HV := Lib.hid hv
  clear hv
  cases v
  case true =>
    have HR : Hid (Gr = (pz, [pr n])) := Lib.hid (by rw [← HGG.out, ← HN.out]; exact gs3 HNE.out (by rw [HN.out]; exact HCC.out) (by rw [HN.out]; have := HV.out; simp [inB] at this; omega))
    go_enter Tryz.func140, Tryz.ntmps140
    go_wp2_with (first | (go_at_call 78; refine (control_r _ _).mono ?_; rw [HCT.out]; rintro e w' ⟨rfl, rfl⟩) | (go_at_call 60; refine (l01In_c _ _ _ _).mono ?_; rw [HV.out]; rintro e w' ⟨rfl, rfl⟩))
    refine (tell_r X lo pz ap al none cp cl 0 L ⟨1, n, false, [], e0⟩ _ HP.out (FreshIn.nil _ _ _ _ _ _) (by simp [blkOf]) hL (by simp)).mono ?_
    rintro e w1 hq
    have HQ := Lib.hid hq
    obtain ⟨rfl, _⟩ := hq
    go_wp2_with fail
    refine bodyPost_end (v := .tuple #[]) (by simp [results, Tryz.results140]) rfl ?_
    rw [HR.out]
    exact HQ.out
  have hnv : ¬ (32 ≤ n ∧ n ≤ 126) := by have := HV.out; simp [inB] at this; omega
  by_cases h128 : n < 128
  case pos =>
    have HR : Hid (Gr = (pz, [])) := Lib.hid (by rw [← HGG.out]; exact gs4 HNE.out (by rw [HN.out]; exact HCC.out) (by rw [HN.out]; exact hnv) (by rw [HN.out]; exact h128))
    have g128 : decide ((n : Int) < 128) = true := decide_eq_true (by omega)
    have g128' : (n : Int) < 128 := by omega
    go_enter Tryz.func140, Tryz.ntmps140
    go_wp2_with (first | (go_at_call 78; refine (control_r _ _).mono ?_; rw [HCT.out]; rintro e w' ⟨rfl, rfl⟩) | (go_at_call 60; refine (l01In_c _ _ _ _).mono ?_; rw [HV.out]; rintro e w' ⟨rfl, rfl⟩))
    refine bodyPost_end (v := .tuple #[]) (by simp [results, Tryz.results140]) rfl ?_
    exact QR.only HP.out HP.out Ch.refl HR.out
  have g128 : ¬ (n : Int) < 128 := by omega
  have hw8 : IntKind.u8.wrap (n : Int) = n := u8_in (by omega) (by omega)
  have hcv := conv1 w b n HN.out
  by_cases hu : 0 < utfLen n
  case pos =>
    have HR : Hid (Gr = (⟨6, [], false, e0, ⟨#[b]⟩⟩, [])) := Lib.hid (by rw [← HGG.out]; exact gs5 (by rw [HN.out]; omega) (by rw [HN.out]; exact hu))
    obtain ⟨u, hu2⟩ : ∃ u, utfLen n = u := ⟨_, rfl⟩
    have HSZ : Hid (szR b.toNat = u) := Lib.hid (by rw [HN.out]; unfold szR; rw [if_neg h128]; exact hu2)
    have hu1 : (1 : Int) < (u : Int) := by have := utfLen_two hu; omega
    clear hu hu2
    go_enter Tryz.func140, Tryz.ntmps140
    go_upto_region 10 with (first | (go_at_call 78; refine (control_r _ _).mono ?_; rw [HCT.out]; rintro e w' ⟨rfl, rfl⟩) | (go_at_call 60; refine (l01In_c _ _ _ _).mono ?_; rw [HV.out]; rintro e w' ⟨rfl, rfl⟩) | (go_at_call 150; refine (size1_r b _ _ HSZ.out).mono ?_; rintro e w' ⟨rfl, rfl⟩))
    clear hcv
    obtain ⟨x, hx⟩ : ∃ x, (w.setCell ⟨X, 0, none⟩ (.int .i64 6)).alloc (.cells #[.int .u8 n] 5) = x := ⟨_, rfl⟩
    have HCX : Hid (Ch (fun k => k = X) w x) := Lib.hid (by rw [← hx]; exact (Ch.set1 _ _ _ _).alloc _)
    have x_0 : x.cell? ⟨X, 0, none⟩ = some (.int .i64 6) := by rw [← hx]; simp [go_sem, k_0, klt]
    have x_1 : x.cell? ⟨X, 1, none⟩ = some (.slice ap 0 cp) := by rw [← hx]; simp [go_sem, k_1, klt, pz]
    have x_2 : x.cell? ⟨X, 2, none⟩ = some (.bool false) := by rw [← hx]; simp [go_sem, k_2, klt, pz]
    have x_3 : x.cell? ⟨X, 3, none⟩ = some (.string e0) := by rw [← hx]; simp [go_sem, k_3, klt, pz]
    have x_4 : x.cell? ⟨X, 4, none⟩ = some (.string e0) := by rw [← hx]; simp [go_sem, k_4, klt, pz]
    have x_5 : x.cell? ⟨X, 5, none⟩ = some (.slice al L.length cl) := by rw [← hx]; simp [go_sem, k_5, klt]
    have xf : ∀ o, x.frozen? ⟨X, o, none⟩ = false := by intro o; rw [← hx]; simp [go_sem, kf, klt]
    have xlt := Nat.lt_of_lt_of_le klt HCX.out.size
    rw [hx]
    clear hx
    have hcx := conv1 x b n HN.out
    go_wp2_with fail
    clear hcx
    refine bodyPost_end (v := .tuple #[]) (by simp [results, Tryz.results140]) rfl ?_
    refine QR.only (p' := ⟨6, [], false, e0, ⟨#[b]⟩⟩) (HP.out.cells (HCX.out.trans ?hc (fun i hi => .inl hi)) ?_ ?_ ?_ ?_ ?_ ?_ ?_ (.inl ⟨rfl, rfl, rfl⟩)) HP.out (HCX.out.trans ?hc (fun i hi => .inl hi)) HR.out
    case hc => repeat (first | (with_reducible exact Ch.refl) | (with_reducible refine Ch.alloc ?_ _) | (with_reducible refine Ch.drew ?_) | (with_reducible refine Ch.setB ?_ _ _))
    all_goals first | (intro o; simp [go_sem, xf, xlt]; done) | (simp [go_sem, x_0, x_1, x_2, x_3, x_4, x_5, xlt]; done)
  have HR : Hid (Gr = (pz, [pr 65533])) := Lib.hid (by rw [← HGG.out]; exact gs6 (by rw [HN.out]; omega) (by rw [HN.out]; exact hu))
  have HSZ : Hid (szR b.toNat = 0) := Lib.hid (by rw [HN.out]; unfold szR; rw [if_neg h128]; omega)
  clear hu
  go_enter Tryz.func140, Tryz.ntmps140
  go_wp2_with (first | (go_at_call 78; refine (control_r _ _).mono ?_; rw [HCT.out]; rintro e w' ⟨rfl, rfl⟩) | (go_at_call 60; refine (l01In_c _ _ _ _).mono ?_; rw [HV.out]; rintro e w' ⟨rfl, rfl⟩) | (go_at_call 150; refine (size1_r b _ _ HSZ.out).mono ?_; rintro e w' ⟨rfl, rfl⟩))
  clear hcv
  refine (tell_r X lo pz ap al none cp cl 0 L ⟨1, 65533, false, [], e0⟩ _ (HP.out.keep ((Below.refl _ _).alloc (Nat.le_refl _) _)) (FreshIn.nil _ _ _ _ _ _) (by simp [blkOf]) hL (by simp)).mono ?_
  rintro e w1 hq
  have HQ := Lib.hid (hq.base ((Below.refl lo w).alloc hlo _))
  obtain ⟨rfl, _⟩ := hq
  go_wp2_with fail
  refine bodyPost_end (v := .tuple #[]) (by simp [results, Tryz.results140]) rfl ?_
  rw [HR.out]
  exact HQ.out
end
section
open Go.RowKit
theorem escape_r (X lo : Nat) (ap al : Option Addr) (cp cl : Nat) (L : List ActA) (b : UInt8) (w : World) (h : QS X lo (pst 1) ap cp L al cl w) (hL : L.length ≤ 1048576) :
    Calls Tryz.prog 134 #[.pointer (some ⟨X, 0, none⟩), .int .i64 b.toNat] w (fun e w' => QR X lo (estep b) L e w w') := by
  have HP := Lib.hid h
  have k_0 := h.ps.c0
  have k_1 := h.ps.c1
  have k_2 := h.ps.c2
  have k_3 := h.ps.c3
  have k_4 := h.ps.c4
  have k_5 := h.c5
  have kf := h.ps.fz
  have klt := h.ps.lt
  have hlo : lo ≤ w.heap.size := by have := h.lo; omega
  have h256 : b.toNat < 256 := b.toNat_lt
  clear h
  obtain ⟨Gr, hG⟩ : ∃ G, estep b = G := ⟨_, rfl⟩
  have HGG := Lib.hid hG
  rw [hG]
  clear hG
  obtain ⟨n, hn⟩ : ∃ n, b.toNat = n := ⟨_, rfl⟩
  rw [hn] at h256 ⊢
  have HN := Lib.hid hn
  clear hn
  by_cases h91 : n = 91
  case pos =>
    have HR : Hid (Gr = (⟨2, [-1], false, e0, e0⟩, [])) := Lib.hid (by rw [← HGG.out]; exact es1 HN.out h91)
    have g91 : ((n : Int) == 91) = true := by subst h91; rfl
    clear h91
    go_enter Tryz.func134, Tryz.ntmps134
    go_wp2_with fail
    refine bodyPost_end (v := .tuple #[]) (by simp [results, Tryz.results134]) rfl ?_
    refine QR.only (p' := ⟨2, [-1], false, e0, e0⟩) (ap' := some ⟨w.heap.size, 0, none⟩) (cp' := 1) ⟨HP.out.ps.cellsNew ?hc (Nat.le_refl _) (fresh_one _ _ _ _ (by simp [World.setCell]) (by simp [World.setCell]; omega)) ?_ ?_ ?_ ?_ ?_ ?_, ?_, HP.out.lo⟩ HP.out ?hc HR.out
    case hc => repeat (first | (with_reducible exact Ch.refl) | (with_reducible refine Ch.alloc ?_ _) | (with_reducible refine Ch.drew ?_) | (with_reducible refine Ch.setB ?_ _ _))
    all_goals first | (intro o; simp [go_sem, kf, klt]; done) | (simp [go_sem, k_0, k_1, k_2, k_3, k_4, k_5, klt, pst, pz]; done)
  have g91 : ((n : Int) == 91) = false := beq_eq_false_iff_ne.2 (by omega)
  by_cases h93 : n = 93
  case pos =>
    have HR : Hid (Gr = (pst 4, [])) := Lib.hid (by rw [← HGG.out]; exact es2 HN.out h93)
    have g93 : ((n : Int) == 93) = true := by subst h93; rfl
    clear h93
    go_enter Tryz.func134, Tryz.ntmps134
    go_wp2_with fail
    refine bodyPost_end (v := .tuple #[]) (by simp [results, Tryz.results134]) rfl ?_
    refine QR.only (p' := pst 4) (HP.out.cells ?hc ?_ ?_ ?_ ?_ ?_ ?_ ?_ (.inl ⟨rfl, rfl, rfl⟩)) HP.out ?hc HR.out
    case hc => repeat (first | (with_reducible exact Ch.refl) | (with_reducible refine Ch.alloc ?_ _) | (with_reducible refine Ch.drew ?_) | (with_reducible refine Ch.setB ?_ _ _))
    all_goals first | (intro o; simp [go_sem, kf, klt]; done) | (simp [go_sem, k_0, k_1, k_2, k_3, k_4, k_5, klt, pst, pz]; done)
  have g93 : ((n : Int) == 93) = false := beq_eq_false_iff_ne.2 (by omega)
  by_cases h27 : n = 27
  case pos =>
    have HR : Hid (Gr = (pst 1, [])) := Lib.hid (by rw [← HGG.out]; exact es3 HN.out h27)
    have g27 : ((n : Int) == 27) = true := by subst h27; rfl
    clear h27
    go_enter Tryz.func134, Tryz.ntmps134
    go_wp2_with fail
    refine bodyPost_end (v := .tuple #[]) (by simp [results, Tryz.results134]) rfl ?_
    exact QR.only HP.out HP.out Ch.refl HR.out
  have g27 : ((n : Int) == 27) = false := beq_eq_false_iff_ne.2 (by omega)
  obtain ⟨c, hc⟩ : ∃ c, esc n = c := ⟨_, rfl⟩
  have HCC := Lib.hid hc
  cases c
  case false =>
    have HR : Hid (Gr = (pz, [])) := Lib.hid (by rw [← HGG.out]; exact es5 HN.out h91 h93 h27 HCC.out)
    simp only [esc, Bool.or_eq_false_iff, beq_eq_false_iff_ne] at hc
    have q55 : ((n : Int) == 55) = false := beq_eq_false_iff_ne.2 (by omega)
    have q56 : ((n : Int) == 56) = false := beq_eq_false_iff_ne.2 (by omega)
    have q68 : ((n : Int) == 68) = false := beq_eq_false_iff_ne.2 (by omega)
    have q69 : ((n : Int) == 69) = false := beq_eq_false_iff_ne.2 (by omega)
    have q77 : ((n : Int) == 77) = false := beq_eq_false_iff_ne.2 (by omega)
    have q99 : ((n : Int) == 99) = false := beq_eq_false_iff_ne.2 (by omega)
    clear hc
    go_enter Tryz.func134, Tryz.ntmps134
    go_wp2_with fail
    refine (ground_r X lo _ ap al cp cl L _ HP.out).mono ?_
    rintro e w1 ⟨rfl, g, hg, hq, hc⟩
    have HQ := Lib.hid hq
    have HC := Lib.hid hc
    clear hq hc
    go_wp2_with fail
    refine bodyPost_end (v := .tuple #[]) (by simp [results, Tryz.results134]) rfl ?_
    exact QR.only HQ.out HP.out HC.out HR.out
  have HR : Hid (Gr = (pz, [⟨3, n, false, [], e0⟩])) := Lib.hid (by rw [← HGG.out]; exact es4 HN.out h91 h93 h27 HCC.out)
  simp only [esc, Bool.or_eq_true, beq_iff_eq] at hc
  have hcs : n = 55 ∨ n = 56 ∨ n = 68 ∨ n = 69 ∨ n = 77 ∨ n = 99 := by omega
  clear hc
  rcases hcs with hc | hc | hc | hc | hc | hc
  · have q55 : ((n : Int) == 55) = true := by rw [hc]; rfl
    have q56 : ((n : Int) == 56) = false := beq_eq_false_iff_ne.2 (by omega)
    have q68 : ((n : Int) == 68) = false := beq_eq_false_iff_ne.2 (by omega)
    have q69 : ((n : Int) == 69) = false := beq_eq_false_iff_ne.2 (by omega)
    have q77 : ((n : Int) == 77) = false := beq_eq_false_iff_ne.2 (by omega)
    have q99 : ((n : Int) == 99) = false := beq_eq_false_iff_ne.2 (by omega)
    clear hc
    go_enter Tryz.func134, Tryz.ntmps134
    go_wp2_with fail
    refine (ground_r X lo _ ap al cp cl L _ HP.out).mono ?_
    rintro e w1 ⟨rfl, g, hg, hq, hc⟩
    have HQ := Lib.hid hq
    have HC := Lib.hid hc
    clear hq hc
    go_wp2_with fail
    refine (tell_r X lo pz (some ⟨g, 0, none⟩) al none 0 cl 0 L ⟨3, n, false, [], e0⟩ _ HQ.out (FreshIn.nil _ _ _ _ _ _) (by simp [blkOf]) hL (by simp)).mono ?_
    rintro e w2 hq
    have HQ2 := Lib.hid (hq.base (HP.out.below1 HC.out))
    obtain ⟨rfl, _⟩ := hq
    go_wp2_with fail
    refine bodyPost_end (v := .tuple #[]) (by simp [results, Tryz.results134]) rfl ?_
    rw [HR.out]
    exact HQ2.out
  · have q55 : ((n : Int) == 55) = false := beq_eq_false_iff_ne.2 (by omega)
    have q56 : ((n : Int) == 56) = true := by rw [hc]; rfl
    have q68 : ((n : Int) == 68) = false := beq_eq_false_iff_ne.2 (by omega)
    have q69 : ((n : Int) == 69) = false := beq_eq_false_iff_ne.2 (by omega)
    have q77 : ((n : Int) == 77) = false := beq_eq_false_iff_ne.2 (by omega)
    have q99 : ((n : Int) == 99) = false := beq_eq_false_iff_ne.2 (by omega)
    clear hc
    go_enter Tryz.func134, Tryz.ntmps134
    go_wp2_with fail
    refine (ground_r X lo _ ap al cp cl L _ HP.out).mono ?_
    rintro e w1 ⟨rfl, g, hg, hq, hc⟩
    have HQ := Lib.hid hq
    have HC := Lib.hid hc
    clear hq hc
    go_wp2_with fail
    refine (tell_r X lo pz (some ⟨g, 0, none⟩) al none 0 cl 0 L ⟨3, n, false, [], e0⟩ _ HQ.out (FreshIn.nil _ _ _ _ _ _) (by simp [blkOf]) hL (by simp)).mono ?_
    rintro e w2 hq
    have HQ2 := Lib.hid (hq.base (HP.out.below1 HC.out))
    obtain ⟨rfl, _⟩ := hq
    go_wp2_with fail
    refine bodyPost_end (v := .tuple #[]) (by simp [results, Tryz.results134]) rfl ?_
    rw [HR.out]
    exact HQ2.out
  · have q55 : ((n : Int) == 55) = false := beq_eq_false_iff_ne.2 (by omega)
    have q56 : ((n : Int) == 56) = false := beq_eq_false_iff_ne.2 (by omega)
    have q68 : ((n : Int) == 68) = true := by rw [hc]; rfl
    have q69 : ((n : Int) == 69) = false := beq_eq_false_iff_ne.2 (by omega)
    have q77 : ((n : Int) == 77) = false := beq_eq_false_iff_ne.2 (by omega)
    have q99 : ((n : Int) == 99) = false := beq_eq_false_iff_ne.2 (by omega)
    clear hc
    go_enter Tryz.func134, Tryz.ntmps134
    go_wp2_with fail
    refine (ground_r X lo _ ap al cp cl L _ HP.out).mono ?_
    rintro e w1 ⟨rfl, g, hg, hq, hc⟩
    have HQ := Lib.hid hq
    have HC := Lib.hid hc
    clear hq hc
    go_wp2_with fail
    refine (tell_r X lo pz (some ⟨g, 0, none⟩) al none 0 cl 0 L ⟨3, n, false, [], e0⟩ _ HQ.out (FreshIn.nil _ _ _ _ _ _) (by simp [blkOf]) hL (by simp)).mono ?_
    rintro e w2 hq
    have HQ2 := Lib.hid (hq.base (HP.out.below1 HC.out))
    obtain ⟨rfl, _⟩ := hq
    go_wp2_with fail
    refine bodyPost_end (v := .tuple #[]) (by simp [results, Tryz.results134]) rfl ?_
    rw [HR.out]
    exact HQ2.out
  · have q55 : ((n : Int) == 55) = false := beq_eq_false_iff_ne.2 (by omega)
    have q56 : ((n : Int) == 56) = false := beq_eq_false_iff_ne.2 (by omega)
    have q68 : ((n : Int) == 68) = false := beq_eq_false_iff_ne.2 (by omega)
    have q69 : ((n : Int) == 69) = true := by rw [hc]; rfl
    have q77 : ((n : Int) == 77) = false := beq_eq_false_iff_ne.2 (by omega)
    have q99 : ((n : Int) == 99) = false := beq_eq_false_iff_ne.2 (by omega)
    clear hc
    go_enter Tryz.func134, Tryz.ntmps134
    go_wp2_with fail
    refine (ground_r X lo _ ap al cp cl L _ HP.out).mono ?_
    rintro e w1 ⟨rfl, g, hg, hq, hc⟩
    have HQ := Lib.hid hq
    have HC := Lib.hid hc
    clear hq hc
    go_wp2_with fail
    refine (tell_r X lo pz (some ⟨g, 0, none⟩) al none 0 cl 0 L ⟨3, n, false, [], e0⟩ _ HQ.out (FreshIn.nil _ _ _ _ _ _) (by simp [blkOf]) hL (by simp)).mono ?_
    rintro e w2 hq
    have HQ2 := Lib.hid (hq.base (HP.out.below1 HC.out))
    obtain ⟨rfl, _⟩ := hq
    go_wp2_with fail
    refine bodyPost_end (v := .tuple #[]) (by simp [results, Tryz.results134]) rfl ?_
    rw [HR.out]
    exact HQ2.out
  · have q55 : ((n : Int) == 55) = false := beq_eq_false_iff_ne.2 (by omega)
    have q56 : ((n : Int) == 56) = false := beq_eq_false_iff_ne.2 (by omega)
    have q68 : ((n : Int) == 68) = false := beq_eq_false_iff_ne.2 (by omega)
    have q69 : ((n : Int) == 69) = false := beq_eq_false_iff_ne.2 (by omega)
    have q77 : ((n : Int) == 77) = true := by rw [hc]; rfl
    have q99 : ((n : Int) == 99) = false := beq_eq_false_iff_ne.2 (by omega)
    clear hc
    go_enter Tryz.func134, Tryz.ntmps134
    go_wp2_with fail
    refine (ground_r X lo _ ap al cp cl L _ HP.out).mono ?_
    rintro e w1 ⟨rfl, g, hg, hq, hc⟩
    have HQ := Lib.hid hq
    have HC := Lib.hid hc
    clear hq hc
    go_wp2_with fail
    refine (tell_r X lo pz (some ⟨g, 0, none⟩) al none 0 cl 0 L ⟨3, n, false, [], e0⟩ _ HQ.out (FreshIn.nil _ _ _ _ _ _) (by simp [blkOf]) hL (by simp)).mono ?_
    rintro e w2 hq
    have HQ2 := Lib.hid (hq.base (HP.out.below1 HC.out))
    obtain ⟨rfl, _⟩ := hq
    go_wp2_with fail
    refine bodyPost_end (v := .tuple #[]) (by simp [results, Tryz.results134]) rfl ?_
    rw [HR.out]
    exact HQ2.out
  · have q55 : ((n : Int) == 55) = false := beq_eq_false_iff_ne.2 (by omega)
    have q56 : ((n : Int) == 56) = false := beq_eq_false_iff_ne.2 (by omega)
    have q68 : ((n : Int) == 68) = false := beq_eq_false_iff_ne.2 (by omega)
    have q69 : ((n : Int) == 69) = false := beq_eq_false_iff_ne.2 (by omega)
    have q77 : ((n : Int) == 77) = false := beq_eq_false_iff_ne.2 (by omega)
    have q99 : ((n : Int) == 99) = true := by rw [hc]; rfl
    clear hc
    go_enter Tryz.func134, Tryz.ntmps134
    go_wp2_with fail
    refine (ground_r X lo _ ap al cp cl L _ HP.out).mono ?_
    rintro e w1 ⟨rfl, g, hg, hq, hc⟩
    have HQ := Lib.hid hq
    have HC := Lib.hid hc
    clear hq hc
    go_wp2_with fail
    refine (tell_r X lo pz (some ⟨g, 0, none⟩) al none 0 cl 0 L ⟨3, n, false, [], e0⟩ _ HQ.out (FreshIn.nil _ _ _ _ _ _) (by simp [blkOf]) hL (by simp)).mono ?_
    rintro e w2 hq
    have HQ2 := Lib.hid (hq.base (HP.out.below1 HC.out))
    obtain ⟨rfl, _⟩ := hq
    go_wp2_with fail
    refine bodyPost_end (v := .tuple #[]) (by simp [results, Tryz.results134]) rfl ?_
    rw [HR.out]
    exact HQ2.out
end
section
open Go.RowKit
theorem takeG_r (X lo : Nat) (ap al : Option Addr) (cp cl : Nat) (L : List ActA) (b : UInt8) (w : World) (h : QS X lo pz ap cp L al cl w) (hL : L.length ≤ 1048576) :
    Calls Tryz.prog 106 #[.pointer (some ⟨X, 0, none⟩), .int .i64 b.toNat] w (fun e w' => QR X lo (gstep b) L e w w') := by
  have HCA := Lib.hid (plain_r X lo ap al cp cl L b w h hL)
  have k_0 : w.cell? ⟨X, 0, none⟩ = some (.int .i64 0) := h.ps.c0
  have kf := h.ps.fz
  have klt := h.ps.lt
  clear h
  go_enter Tryz.func106, Tryz.ntmps106
  go_wp2_with fail
  refine HCA.out.mono ?_
  rintro e w1 hq
  have HQ := Lib.hid hq
  obtain ⟨rfl, _⟩ := hq
  go_wp2_with fail
  refine bodyPost_end (v := .tuple #[]) (by simp [results, Tryz.results106]) rfl ?_
  exact HQ.out
theorem takeE_r (X lo : Nat) (ap al : Option Addr) (cp cl : Nat) (L : List ActA) (b : UInt8) (w : World) (h : QS X lo (pst 1) ap cp L al cl w) (hL : L.length ≤ 1048576) :
    Calls Tryz.prog 106 #[.pointer (some ⟨X, 0, none⟩), .int .i64 b.toNat] w (fun e w' => QR X lo (estep b) L e w w') := by
  have HCA := Lib.hid (escape_r X lo ap al cp cl L b w h hL)
  have k_0 : w.cell? ⟨X, 0, none⟩ = some (.int .i64 1) := h.ps.c0
  have kf := h.ps.fz
  have klt := h.ps.lt
  clear h
  go_enter Tryz.func106, Tryz.ntmps106
  go_wp2_with fail
  refine HCA.out.mono ?_
  rintro e w1 hq
  have HQ := Lib.hid hq
  obtain ⟨rfl, _⟩ := hq
  go_wp2_with fail
  refine bodyPost_end (v := .tuple #[]) (by simp [results, Tryz.results106]) rfl ?_
  exact HQ.out
theorem takeS_r (X lo : Nat) (ap al : Option Addr) (cp cl : Nat) (L : List ActA) (b : UInt8) (w : World) (h : QS X lo (pst 3) ap cp L al cl w) (hL : L.length ≤ 1048576) :
    Calls Tryz.prog 106 #[.pointer (some ⟨X, 0, none⟩), .int .i64 b.toNat] w (fun e w' => QR X lo (sstep (pst 3) b) L e w w') := by
  have HCA := Lib.hid (skip_r X lo ap al cp cl L b w h hL)
  have k_0 : w.cell? ⟨X, 0, none⟩ = some (.int .i64 3) := h.ps.c0
  have kf := h.ps.fz
  have klt := h.ps.lt
  clear h
  go_enter Tryz.func106, Tryz.ntmps106
  go_wp2_with fail
  refine HCA.out.mono ?_
  rintro e w1 hq
  have HQ := Lib.hid hq
  obtain ⟨rfl, _⟩ := hq
  go_wp2_with fail
  refine bodyPost_end (v := .tuple #[]) (by simp [results, Tryz.results106]) rfl ?_
  exact HQ.out
theorem oscEnd_r (t : ByteArray) (X lo : Nat) (ap al : Option Addr) (cp cl : Nat) (L : List ActA) (b : UInt8) (w : World) (h : QS X lo ⟨5, [], false, t, e0⟩ ap cp L al cl w) (hL : L.length ≤ 1048576) :
    Calls Tryz.prog 138 #[.pointer (some ⟨X, 0, none⟩), .int .i64 b.toNat] w (fun e w' => QR X lo (qstep ⟨5, [], false, t, e0⟩ b) L e w w') := by
  have HP := Lib.hid h
  have k_0 := h.ps.c0
  have k_1 := h.ps.c1
  have k_2 := h.ps.c2
  have k_3 := h.ps.c3
  have k_4 := h.ps.c4
  have k_5 := h.c5
  have kf := h.ps.fz
  have klt := h.ps.lt
  have hlo : lo ≤ w.heap.size := by have := h.lo; omega
  have h256 : b.toNat < 256 := b.toNat_lt
  clear h
  obtain ⟨Gr, hG⟩ : ∃ G, qstep ⟨5, [], false, t, e0⟩ b = G := ⟨_, rfl⟩
  have HGG := Lib.hid hG
  rw [hG]
  clear hG
  obtain ⟨n, hn⟩ : ∃ n, b.toNat = n := ⟨_, rfl⟩
  rw [hn] at h256 ⊢
  have HN := Lib.hid hn
  clear hn
  by_cases h92 : n = 92
  case pos =>
    have HR : Hid (Gr = (pz, [⟨5, 0, false, [], t⟩])) := Lib.hid (by rw [← HGG.out]; exact qs1 HN.out h92)
    have g92 : ((n : Int) == 92) = true := by subst h92; rfl
    clear h92
    go_enter Tryz.func138, Tryz.ntmps138
    go_wp2_with fail
    refine (ground_r X lo _ ap al cp cl L _ HP.out).mono ?_
    rintro e w1 ⟨rfl, g, hg, hq, hc⟩
    have HQ := Lib.hid hq
    have HC := Lib.hid hc
    have y_0 := hq.ps.c0
    have y_1 := hq.ps.c1
    have y_2 := hq.ps.c2
    have y_3 := hq.ps.c3
    have y_4 := hq.ps.c4
    have y_5 := hq.c5
    have yf := hq.ps.fz
    have ylt := hq.ps.lt
    clear hq hc
    go_wp2_with fail
    refine (tell_r X lo pz (some ⟨g, 0, none⟩) al none 0 cl 0 L ⟨5, 0, false, [], t⟩ _ HQ.out (FreshIn.nil _ _ _ _ _ _) (by simp [blkOf]) hL (by simp)).mono ?_
    rintro e w2 hq
    have HQ2 := Lib.hid (hq.base (HP.out.below1 HC.out))
    obtain ⟨rfl, _⟩ := hq
    go_wp2_with fail
    refine bodyPost_ret (v := .tuple #[]) (by simp [results, Tryz.results138]) rfl ?_
    rw [HR.out]
    exact HQ2.out
  have g92 : ((n : Int) == 92) = false := beq_eq_false_iff_ne.2 (by omega)
  have HR : Hid (Gr = estep b) := Lib.hid (by rw [← HGG.out]; exact qs2 HN.out h92)
  go_enter Tryz.func138, Tryz.ntmps138
  go_wp2_with fail
  refine (ground_r X lo _ ap al cp cl L _ HP.out).mono ?_
  rintro e w1 ⟨rfl, g, hg, hq, hc⟩
  have HQ := Lib.hid hq
  have HC := Lib.hid hc
  have y_0 := hq.ps.c0
  have y_1 := hq.ps.c1
  have y_2 := hq.ps.c2
  have y_3 := hq.ps.c3
  have y_4 := hq.ps.c4
  have y_5 := hq.c5
  have yf := hq.ps.fz
  have ylt := hq.ps.lt
  clear hq hc
  have HQ3 : Hid (QS X lo (pst 1) (some ⟨g, 0, none⟩) 0 L al cl (w1.setCell ⟨X, 0, none⟩ (.int .i64 1))) := Lib.hid (by
    refine HQ.out.cells (Ch.set1 _ _ _ _) ?_ ?_ ?_ ?_ ?_ ?_ ?_ (.inl ⟨rfl, rfl, rfl⟩)
    all_goals first | (intro o; simp [go_sem, yf, ylt]; done) | (simp [go_sem, y_0, y_1, y_2, y_3, y_4, y_5, ylt, pst, pz]; done))
  have HCA : Hid (Calls Tryz.prog 106 #[.pointer (some ⟨X, 0, none⟩), .int .i64 n] (w1.setCell ⟨X, 0, none⟩ (.int .i64 1)) (fun e w' => QR X lo Gr L e w w')) := Lib.hid (by
    have h1 := (takeE_r X lo (some ⟨g, 0, none⟩) al 0 cl L b _ HQ3.out hL).mono (R' := fun e w' => QR X lo (estep b) L e w w') (fun e w' h => h.base ((HP.out.below1 HC.out).trans (HQ.out.below1 (Ch.set1 _ _ _ _))))
    rw [HN.out] at h1
    rw [HR.out]
    exact h1)
  go_wp2_with fail
  refine HCA.out.mono ?_
  rintro e w2 hq
  have HQ4 := Lib.hid hq
  obtain ⟨rfl, _⟩ := hq
  go_wp2_with fail
  refine bodyPost_end (v := .tuple #[]) (by simp [results, Tryz.results138]) rfl ?_
  exact HQ4.out
end
section
open Go.RowKit
theorem osc_r (t : ByteArray) (X lo : Nat) (ap al : Option Addr) (cp cl : Nat) (L : List ActA) (b : UInt8) (w : World) (h : QS X lo ⟨4, [], false, t, e0⟩ ap cp L al cl w) (hL : L.length ≤ 1048576) (hT : t.size ≤ 40) :
    Calls Tryz.prog 137 #[.pointer (some ⟨X, 0, none⟩), .int .i64 b.toNat] w (fun e w' => QR X lo (ostep ⟨4, [], false, t, e0⟩ b) L e w w') := by
  have HP := Lib.hid h
  have k_0 := h.ps.c0
  have k_1 := h.ps.c1
  have k_2 := h.ps.c2
  have k_3 := h.ps.c3
  have k_4 := h.ps.c4
  have k_5 := h.c5
  have kf := h.ps.fz
  have klt := h.ps.lt
  have hlo : lo ≤ w.heap.size := by have := h.lo; omega
  have h256 : b.toNat < 256 := b.toNat_lt
  clear h
  obtain ⟨Gr, hG⟩ : ∃ G, ostep ⟨4, [], false, t, e0⟩ b = G := ⟨_, rfl⟩
  have HGG := Lib.hid hG
  rw [hG]
  clear hG
  obtain ⟨n, hn⟩ : ∃ n, b.toNat = n := ⟨_, rfl⟩
  rw [hn] at h256 ⊢
  have HN := Lib.hid hn
  clear hn
  by_cases h7 : n = 7
  case pos =>
    have HR : Hid (Gr = (pz, [⟨5, 0, false, [], t⟩])) := Lib.hid (by rw [← HGG.out]; exact os1 HN.out h7)
    have g7 : ((n : Int) == 7) = true := by subst h7; rfl
    clear h7
    have hb0 : Below w.heap.size w (w.alloc (.cells #[.int .i64 5, .int .i64 0, .bool false, .slice none 0 0, .string t] 38)) := (Below.refl _ _).alloc (Nat.le_refl _) _
    have HP0 := Lib.hid (HP.out.keep hb0)
    have HB0 : Hid (Below lo w (w.alloc (.cells #[.int .i64 5, .int .i64 0, .bool false, .slice none 0 0, .string t] 38))) := Lib.hid ((Below.refl _ _).alloc hlo _)
    clear hb0
    go_enter Tryz.func137, Tryz.ntmps137
    go_wp2_with fail
    refine (ground_r X lo _ ap al cp cl L _ HP0.out).mono ?_
    rintro e w1 ⟨rfl, g, hg, hq, hc⟩
    have HQ := Lib.hid hq
    have HC := Lib.hid hc
    have hz1 : w.heap.size < w1.heap.size := by have := hc.size; simp at this; omega
    have hXH : ¬ w.heap.size = X := by omega
    have b_0 : w1.cell? ⟨w.heap.size, 0, none⟩ = some (.int .i64 5) := (hc.cell (p := ⟨w.heap.size, 0, none⟩) (by simp) hXH).trans (by simp [go_sem])
    have b_1 : w1.cell? ⟨w.heap.size, 1, none⟩ = some (.int .i64 0) := (hc.cell (p := ⟨w.heap.size, 1, none⟩) (by simp) hXH).trans (by simp [go_sem])
    have b_2 : w1.cell? ⟨w.heap.size, 2, none⟩ = some (.bool false) := (hc.cell (p := ⟨w.heap.size, 2, none⟩) (by simp) hXH).trans (by simp [go_sem])
    have b_3 : w1.cell? ⟨w.heap.size, 3, none⟩ = some (.slice none 0 0) := (hc.cell (p := ⟨w.heap.size, 3, none⟩) (by simp) hXH).trans (by simp [go_sem])
    have b_4 : w1.cell? ⟨w.heap.size, 4, none⟩ = some (.string t) := (hc.cell (p := ⟨w.heap.size, 4, none⟩) (by simp) hXH).trans (by simp [go_sem])
    clear hq hc
    go_wp2_with fail
    refine (tell_r X lo pz (some ⟨g, 0, none⟩) al none 0 cl 0 L ⟨5, 0, false, [], t⟩ _ HQ.out (FreshIn.nil _ _ _ _ _ _) (by simp [blkOf]) hL (by simp)).mono ?_
    rintro e w2 hq
    have HQ2 := Lib.hid (hq.base (HB0.out.trans (HP0.out.below1 HC.out)))
    obtain ⟨rfl, _⟩ := hq
    go_wp2_with fail
    refine bodyPost_end (v := .tuple #[]) (by simp [results, Tryz.results137]) rfl ?_
    rw [HR.out]
    exact HQ2.out
  have g7 : ((n : Int) == 7) = false := beq_eq_false_iff_ne.2 (by omega)
  by_cases h27 : n = 27
  case pos =>
    have HR : Hid (Gr = (⟨5, [], false, t, e0⟩, [])) := Lib.hid (by rw [← HGG.out]; exact os2 HN.out h27)
    have g27 : ((n : Int) == 27) = true := by subst h27; rfl
    clear h27
    go_enter Tryz.func137, Tryz.ntmps137
    go_wp2_with fail
    refine bodyPost_end (v := .tuple #[]) (by simp [results, Tryz.results137]) rfl ?_
    refine QR.only (p' := ⟨5, [], false, t, e0⟩) (HP.out.cells ?hc ?_ ?_ ?_ ?_ ?_ ?_ ?_ (.inl ⟨rfl, rfl, rfl⟩)) HP.out ?hc HR.out
    case hc => repeat (first | (with_reducible exact Ch.refl) | (with_reducible refine Ch.alloc ?_ _) | (with_reducible refine Ch.drew ?_) | (with_reducible refine Ch.setB ?_ _ _))
    all_goals first | (intro o; simp [go_sem, kf, klt]; done) | (simp [go_sem, k_0, k_1, k_2, k_3, k_4, k_5, klt, pst, pz]; done)
  have g27 : ((n : Int) == 27) = false := beq_eq_false_iff_ne.2 (by omega)
  obtain ⟨v, hv⟩ : ∃ v, inB (n : Int) 32 126 = v := ⟨_, rfl⟩
  have HV := Lib.hid hv
  clear hv
  cases v
  case false =>
    have HR : Hid (Gr = (⟨4, [], false, t, e0⟩, [])) := Lib.hid (by rw [← HGG.out]; exact os4 HN.out h7 h27 (fun h => by have := HV.out; simp [inB] at this; omega))
    go_enter Tryz.func137, Tryz.ntmps137
    go_wp2_with (go_at_call 60; refine (l01In_c _ _ _ _).mono ?_; rw [HV.out]; rintro e w' ⟨rfl, rfl⟩)
    refine bodyPost_end (v := .tuple #[]) (by simp [results, Tryz.results137]) rfl ?_
    exact QR.only HP.out HP.out Ch.refl HR.out
  by_cases h40 : t.size < 40
  case neg =>
    have HR : Hid (Gr = (⟨4, [], false, t, e0⟩, [])) := Lib.hid (by rw [← HGG.out]; exact os4 HN.out h7 h27 (fun h => h40 h.2))
    have g40 : decide ((t.size : Int) < 40) = false := decide_eq_false (by omega)
    go_enter Tryz.func137, Tryz.ntmps137
    go_wp2_with (go_at_call 60; refine (l01In_c _ _ _ _).mono ?_; rw [HV.out]; rintro e w' ⟨rfl, rfl⟩)
    all_goals first
      | (exfalso; omega)
      | (refine bodyPost_end (v := .tuple #[]) (by simp [results, Tryz.results137]) rfl ?_
         exact QR.only HP.out HP.out Ch.refl HR.out)
  have HR : Hid (Gr = (⟨4, [], false, t ++ ⟨#[b]⟩, e0⟩, [])) := Lib.hid (by rw [← HGG.out]; exact os3 HN.out ⟨by have := HV.out; simp [inB] at this; omega, h40⟩)
  have g40 : (t.size : Int) < 40 := by omega
  have hbig : ¬ 9223372036854775807 < t.size + 1 := by omega
  have hw8 : IntKind.u8.wrap (n : Int) = n := u8_in (by omega) (by omega)
  have hcv := convAt w.heap.size (w.alloc (.cells #[.int .u8 n] 5)).drew b n (by simp [go_sem]) HN.out
  go_enter Tryz.func137, Tryz.ntmps137
  go_upto_region 7 with (go_at_call 60; refine (l01In_c _ _ _ _).mono ?_; rw [HV.out]; rintro e w' ⟨rfl, rfl⟩)
  refine wp_region_G (fun w' => w'.cell? ⟨X, 3, none⟩ = some (.string t)) (fun i => i == 13) (by kernel_rfl) k_3 ?_
  refine tW ?_ 0 rfl ?_ ?_; rotate_left
  · intro w' hSw; go_simp; try rfl
  try simp only [Act.put,j1,j2,j3,j4,j5,j6]
  refine tW ?_ 1 rfl ?_ ?_; rotate_left
  · intro w' hSw; go_simp; try rfl
  try simp only [Act.put,j1,j2,j3,j4,j5,j6]
  refine tW ?_ 2 rfl ?_ ?_; rotate_left
  · intro w' hSw; go_simp; try rfl
  try simp only [Act.put,j1,j2,j3,j4,j5,j6]
  refine tW ?_ 3 rfl ?_ ?_; rotate_left
  · intro w' hSw; go_simp; try rfl
  try simp only [Act.put,j1,j2,j3,j4,j5,j6]
  refine tL ?_ 4 rfl k_3 ?_ ?_; rotate_left
  · intro w' hSw; go_simp; try rfl
  try simp only [Act.put,j1,j2,j3,j4,j5,j6]
  refine tW ?_ 5 rfl ?_ ?_; rotate_left
  · intro w' hSw; go_simp; try rfl
  try simp only [Act.put,j1,j2,j3,j4,j5,j6]
  refine tW ?_ 6 rfl ?_ ?_; rotate_left
  · intro w' hSw; go_simp; try rfl
  try simp only [Act.put,j1,j2,j3,j4,j5,j6]
  refine wpAnyG_one (i := 7) (by kernel_rfl) rfl k_3 (fun K' hK => ?_)
  simp only [j1,j2,j3]
  go_simp
  have hS1 : (w.alloc (.cells #[.int .u8 n] 5)).cell? ⟨X, 3, none⟩ = some (.string t) := (World.cell?_alloc_lt _ _ _ klt).trans k_3
  refine hK.out _ _ (Or.inr hS1) ?_
  clear hK K'
  try simp only [Act.put,j1,j2,j3,j4,j5,j6]
  refine wpAnyG_one (i := 8) (by kernel_rfl) rfl hS1 (fun K' hK => ?_)
  simp only [j1,j2,j3]
  go_simp
  refine hK.out _ _ (Or.inr hS1) ?_
  clear hK K'
  try simp only [Act.put,j1,j2,j3,j4,j5,j6]
  refine tW ?_ 9 rfl ?_ ?_; rotate_left
  · intro w' hSw; go_simp; try rfl
  try simp only [Act.put,j1,j2,j3,j4,j5,j6]
  refine tW ?_ 10 rfl ?_ ?_; rotate_left
  · intro w' hSw; go_simp; try rfl
  try simp only [Act.put,j1,j2,j3,j4,j5,j6]
  refine tW ?_ 11 rfl ?_ ?_; rotate_left
  · intro w' hSw; go_simp; try rfl
  try simp only [Act.put,j1,j2,j3,j4,j5,j6]
  refine tW ?_ 12 rfl ?_ ?_; rotate_left
  · intro w' hSw; go_simp; try rfl
  try simp only [Act.put,j1,j2,j3,j4,j5,j6]
  clear hcv hbig hw8
  have hb1 : Below w.heap.size w (w.alloc (.cells #[.int .u8 n] 5)).drew := ((Below.refl _ _).alloc (Nat.le_refl _) _).drew
  obtain ⟨x, hx⟩ : ∃ x, (w.alloc (.cells #[.int .u8 n] 5)).drew = x := ⟨_, rfl⟩
  have hS2 : x.cell? ⟨X, 3, none⟩ = some (.string t) := by rw [← hx]; exact hS1
  rw [hx] at hb1 ⊢
  clear hx
  have HBX : Hid (Below w.heap.size w x) := Lib.hid hb1
  have x_0 := (hb1.cell (p := ⟨X, 0, none⟩) klt).trans k_0
  have x_1 := (hb1.cell (p := ⟨X, 1, none⟩) klt).trans k_1
  have x_2 := (hb1.cell (p := ⟨X, 2, none⟩) klt).trans k_2
  have x_3 := (hb1.cell (p := ⟨X, 3, none⟩) klt).trans k_3
  have x_4 := (hb1.cell (p := ⟨X, 4, none⟩) klt).trans k_4
  have x_5 := (hb1.cell (p := ⟨X, 5, none⟩) klt).trans k_5
  have xf := fun o => kF hb1 klt (kf o)
  have xlt := Nat.lt_of_lt_of_le klt hb1.size
  clear hb1
  refine wpAnyG_one (i := 13) (by kernel_rfl) rfl hS2 (fun K' hK => ?_)
  simp only [j1,j2,j3]
  go_simp
  refine hK.out _ _ (Or.inl rfl) ?_
  clear hK K'
  try simp only [Act.put,j1,j2,j3,j4,j5,j6]
  refine wpAnyG_done (by kernel_rfl) ?_ _
  go_wp2_with fail
  refine bodyPost_end (v := .tuple #[]) (by simp [results, Tryz.results137]) rfl ?_
  have HCX : Ch (fun k => k = X) w x := Ch.of_below HBX.out
  refine QR.only (p' := ⟨4, [], false, t ++ ⟨#[b]⟩, e0⟩) (HP.out.cells (HCX.trans ?hc (fun i hi => .inl hi)) ?_ ?_ ?_ ?_ ?_ ?_ ?_ (.inl ⟨rfl, rfl, rfl⟩)) HP.out (HCX.trans ?hc (fun i hi => .inl hi)) HR.out
  case hc => repeat (first | (with_reducible exact Ch.refl) | (with_reducible refine Ch.alloc ?_ _) | (with_reducible refine Ch.drew ?_) | (with_reducible refine Ch.setB ?_ _ _))
  all_goals first | (intro o; simp [go_sem, xf, xlt]; done) | (simp [go_sem, x_0, x_1, x_2, x_3, x_4, x_5, xlt]; done)
end
section
open Go.RowKit
theorem fit_step {l : List UInt8} {k : Nat} (h : fitK l k) (hm : mayF (l.take k) (l.getD k 0).toNat = true) : fitK l (k + 1) := by
  intro j h1 h2
  rcases Nat.lt_succ_iff_lt_or_eq.1 h2 with h3 | rfl
  · exact h j h1 h3
  · exact hm
def FitR (s : ByteArray) (w : World) (e : Ending) (w' : World) : Prop := ∃ v : Bool, e = .returned (.bool v) ∧ (v = true ↔ fitK s.data.toList s.size) ∧ w = w'
theorem inB_nat (b : Nat) (l h : Nat) : inB (b : Int) l h = (decide (l ≤ b) && decide (b ≤ h)) := by
  unfold inB
  rw [Bool.eq_iff_iff]
  simp only [Bool.and_eq_true, decide_eq_true_eq]
  omega
theorem fits_r (s : ByteArray) (w : World) (hz : s.size ≤ 1048576) : Calls Tryz.prog 149 #[.string s] w (FitR s w) := by
  go_enter Tryz.func149, Tryz.ntmps149
  go_wp2_with fail
  go_loop [3] (fun i => ∃ k : Nat, (1 ≤ k ∧ (k ≤ s.size ∨ k = 1)) ∧ i = .int .i64 k ∧ Hid (fitK s.data.toList k)) (fun i => s.size - (intOf i).toNat)
  case atStart => exact ⟨1, ⟨by omega, .inr rfl⟩, rfl, Lib.hid (fun j h1 h2 => absurd h1 (by omega))⟩
  case round =>
    obtain ⟨k, ⟨hk1, hk⟩, rfl, HP⟩ := hrel
    by_cases hlt : k < s.size
    · obtain ⟨v, hv⟩ : ∃ v, mayF (s.data.toList.take k) (s.data.toList.getD k 0).toNat = v := ⟨_, rfl⟩
      have HST : Hid (v = true → fitK s.data.toList (k + 1)) := Lib.hid (fun h => fit_step HP.out (hv.trans h))
      have HNO : Hid (v = false → ¬ fitK s.data.toList s.size) := Lib.hid (fun h hf => by
        have := hf k hk1 hlt
        rw [hv, h] at this
        cases this)
      have h0 : 0 < s.size := by omega
      obtain ⟨y, hy⟩ : ∃ y, s[0]'h0 = y := ⟨_, rfl⟩
      obtain ⟨x, hx⟩ : ∃ x, s[k] = x := ⟨_, rfl⟩
      have h256 : x.toNat < 256 := x.toNat_lt
      rw [getDL hlt, hx] at hv
      by_cases h1 : k = 1
      · have hl : s.data.toList.take k = [y] := by
          have h2 := headL h0
          rw [hy] at h2
          rw [h1]
          cases hc : s.data.toList with
          | nil => have : s.data.toList.length = s.size := rfl; rw [hc] at this; simp at this; omega
          | cons a l => rw [hc] at h2; simp at h2; subst h2; rfl
        rw [hl] at hv
        unfold mayF at hv
        rw [lowOf_one, highOf_one] at hv
        have HV := Lib.hid hv
        have gk : ((k : Int) == 1) = true := by rw [h1]; rfl
        clear hv hl h1
        by_cases c224 : y.toNat = 224
        · have q224 : ((y.toNat : Int) == 224) = true := by rw [c224]; rfl
          have d237 : ¬ y.toNat = 237 := by omega
          have q237 : ((y.toNat : Int) == 237) = false := beq_eq_false_iff_ne.2 (by omega)
          have d240 : ¬ y.toNat = 240 := by omega
          have q240 : ((y.toNat : Int) == 240) = false := beq_eq_false_iff_ne.2 (by omega)
          have d244 : ¬ y.toNat = 244 := by omega
          have q244 : ((y.toNat : Int) == 244) = false := beq_eq_false_iff_ne.2 (by omega)
          have HI : Hid (inB (x.toNat : Int) 160 191 = v) := Lib.hid (by
            refine (inB_nat x.toNat 160 191).trans ?_
            rw [← HV.out]
            try simp [*])
          have HNX : Hid (v = true ∨ ¬ fitK s.data.toList s.size) := Lib.hid (by
            cases hb : v with
            | true => exact .inl rfl
            | false => exact .inr (HNO.out hb))
          cases v
          case false =>
            go_wp2_with (go_at_call 60; refine (l01In_c _ _ _ _).mono ?_; rw [HI.out]; rintro e w' ⟨rfl, rfl⟩)
            go_ret
            exact ⟨false, rfl, ⟨fun h => (by cases h), fun h => absurd h (HNX.out.resolve_left (by simp))⟩, rfl⟩
          case true =>
            go_wp2_with (go_at_call 60; refine (l01In_c _ _ _ _).mono ?_; rw [HI.out]; rintro e w' ⟨rfl, rfl⟩)
            go_round
            case rel => exact ⟨k + 1, ⟨by omega, by omega⟩, by go_num, Lib.hid (HST.out (by simp))⟩
            case measure => simp [intOf]; omega
        have q224 : ((y.toNat : Int) == 224) = false := beq_eq_false_iff_ne.2 (by omega)
        by_cases c237 : y.toNat = 237
        · have q237 : ((y.toNat : Int) == 237) = true := by rw [c237]; rfl
          have d240 : ¬ y.toNat = 240 := by omega
          have q240 : ((y.toNat : Int) == 240) = false := beq_eq_false_iff_ne.2 (by omega)
          have d244 : ¬ y.toNat = 244 := by omega
          have q244 : ((y.toNat : Int) == 244) = false := beq_eq_false_iff_ne.2 (by omega)
          have HI : Hid (inB (x.toNat : Int) 128 159 = v) := Lib.hid (by
            refine (inB_nat x.toNat 128 159).trans ?_
            rw [← HV.out]
            try simp [*])
          have HNX : Hid (v = true ∨ ¬ fitK s.data.toList s.size) := Lib.hid (by
            cases hb : v with
            | true => exact .inl rfl
            | false => exact .inr (HNO.out hb))
          cases v
          case false =>
            go_wp2_with (go_at_call 60; refine (l01In_c _ _ _ _).mono ?_; rw [HI.out]; rintro e w' ⟨rfl, rfl⟩)
            go_ret
            exact ⟨false, rfl, ⟨fun h => (by cases h), fun h => absurd h (HNX.out.resolve_left (by simp))⟩, rfl⟩
          case true =>
            go_wp2_with (go_at_call 60; refine (l01In_c _ _ _ _).mono ?_; rw [HI.out]; rintro e w' ⟨rfl, rfl⟩)
            go_round
            case rel => exact ⟨k + 1, ⟨by omega, by omega⟩, by go_num, Lib.hid (HST.out (by simp))⟩
            case measure => simp [intOf]; omega
        have q237 : ((y.toNat : Int) == 237) = false := beq_eq_false_iff_ne.2 (by omega)
        by_cases c240 : y.toNat = 240
        · have q240 : ((y.toNat : Int) == 240) = true := by rw [c240]; rfl
          have d244 : ¬ y.toNat = 244 := by omega
          have q244 : ((y.toNat : Int) == 244) = false := beq_eq_false_iff_ne.2 (by omega)
          have HI : Hid (inB (x.toNat : Int) 144 191 = v) := Lib.hid (by
            refine (inB_nat x.toNat 144 191).trans ?_
            rw [← HV.out]
            try simp [*])
          have HNX : Hid (v = true ∨ ¬ fitK s.data.toList s.size) := Lib.hid (by
            cases hb : v with
            | true => exact .inl rfl
            | false => exact .inr (HNO.out hb))
          cases v
          case false =>
            go_wp2_with (go_at_call 60; refine (l01In_c _ _ _ _).mono ?_; rw [HI.out]; rintro e w' ⟨rfl, rfl⟩)
            go_ret
            exact ⟨false, rfl, ⟨fun h => (by cases h), fun h => absurd h (HNX.out.resolve_left (by simp))⟩, rfl⟩
          case true =>
            go_wp2_with (go_at_call 60; refine (l01In_c _ _ _ _).mono ?_; rw [HI.out]; rintro e w' ⟨rfl, rfl⟩)
            go_round
            case rel => exact ⟨k + 1, ⟨by omega, by omega⟩, by go_num, Lib.hid (HST.out (by simp))⟩
            case measure => simp [intOf]; omega
        have q240 : ((y.toNat : Int) == 240) = false := beq_eq_false_iff_ne.2 (by omega)
        by_cases c244 : y.toNat = 244
        · have q244 : ((y.toNat : Int) == 244) = true := by rw [c244]; rfl
          have HI : Hid (inB (x.toNat : Int) 128 143 = v) := Lib.hid (by
            refine (inB_nat x.toNat 128 143).trans ?_
            rw [← HV.out]
            try simp [*])
          have HNX : Hid (v = true ∨ ¬ fitK s.data.toList s.size) := Lib.hid (by
            cases hb : v with
            | true => exact .inl rfl
            | false => exact .inr (HNO.out hb))
          cases v
          case false =>
            go_wp2_with (go_at_call 60; refine (l01In_c _ _ _ _).mono ?_; rw [HI.out]; rintro e w' ⟨rfl, rfl⟩)
            go_ret
            exact ⟨false, rfl, ⟨fun h => (by cases h), fun h => absurd h (HNX.out.resolve_left (by simp))⟩, rfl⟩
          case true =>
            go_wp2_with (go_at_call 60; refine (l01In_c _ _ _ _).mono ?_; rw [HI.out]; rintro e w' ⟨rfl, rfl⟩)
            go_round
            case rel => exact ⟨k + 1, ⟨by omega, by omega⟩, by go_num, Lib.hid (HST.out (by simp))⟩
            case measure => simp [intOf]; omega
        have q244 : ((y.toNat : Int) == 244) = false := beq_eq_false_iff_ne.2 (by omega)
        have HI : Hid (inB (x.toNat : Int) 128 191 = v) := Lib.hid (by
          refine (inB_nat x.toNat 128 191).trans ?_
          rw [← HV.out]
          try simp [*])
        have HNX : Hid (v = true ∨ ¬ fitK s.data.toList s.size) := Lib.hid (by
          cases hb : v with
          | true => exact .inl rfl
          | false => exact .inr (HNO.out hb))
        cases v
        case false =>
          go_wp2_with (go_at_call 60; refine (l01In_c _ _ _ _).mono ?_; rw [HI.out]; rintro e w' ⟨rfl, rfl⟩)
          go_ret
          exact ⟨false, rfl, ⟨fun h => (by cases h), fun h => absurd h (HNX.out.resolve_left (by simp))⟩, rfl⟩
        case true =>
          go_wp2_with (go_at_call 60; refine (l01In_c _ _ _ _).mono ?_; rw [HI.out]; rintro e w' ⟨rfl, rfl⟩)
          go_round
          case rel => exact ⟨k + 1, ⟨by omega, by omega⟩, by go_num, Lib.hid (HST.out (by simp))⟩
          case measure => simp [intOf]; omega
      · have hll : (s.data.toList.take k).length ≠ 1 := by
          have : s.data.toList.length = s.size := rfl
          rw [List.length_take]; omega
        unfold mayF at hv
        rw [(low_not hll).1, (low_not hll).2] at hv
        have HV := Lib.hid hv
        have gk : ((k : Int) == 1) = false := beq_eq_false_iff_ne.2 (by omega)
        clear hv
        have HI : Hid (inB (x.toNat : Int) 128 191 = v) := Lib.hid (by
          refine (inB_nat x.toNat 128 191).trans ?_
          rw [← HV.out]
          try simp [*])
        have HNX : Hid (v = true ∨ ¬ fitK s.data.toList s.size) := Lib.hid (by
          cases hb : v with
          | true => exact .inl rfl
          | false => exact .inr (HNO.out hb))
        cases v
        case false =>
          go_wp2_with (go_at_call 60; refine (l01In_c _ _ _ _).mono ?_; rw [HI.out]; rintro e w' ⟨rfl, rfl⟩)
          go_ret
          exact ⟨false, rfl, ⟨fun h => (by cases h), fun h => absurd h (HNX.out.resolve_left (by simp))⟩, rfl⟩
        case true =>
          go_wp2_with (go_at_call 60; refine (l01In_c _ _ _ _).mono ?_; rw [HI.out]; rintro e w' ⟨rfl, rfl⟩)
          go_round
          case rel => exact ⟨k + 1, ⟨by omega, by omega⟩, by go_num, Lib.hid (HST.out (by simp))⟩
          case measure => simp [intOf]; omega
    · have HF : Hid (fitK s.data.toList s.size) := Lib.hid (fun j h1 h2 => HP.out j h1 (by omega))
      go_wp2_with fail
      go_ret
      exact ⟨true, rfl, ⟨fun _ => HF.out, fun _ => rfl⟩, rfl⟩
end
section
open Go.RowKit
def rnO (n : Nat) : Int := if n = 2 then 192 else if n = 3 then 224 else 240
def rnA (l : List UInt8) : Nat → Int
  | 0 => ((l.headD 0).toNat : Int) - rnO l.length
  | k + 1 => rnA l k * 64 + (l.getD (k + 1) 0).toNat - 128
theorem rnA_bd (l : List UInt8) (k : Nat) : -(512 * 128 ^ k) ≤ rnA l k ∧ rnA l k ≤ 512 * 128 ^ k := by
  induction k with
  | zero =>
    have h1 : (l.headD 0).toNat < 256 := (l.headD 0).toNat_lt
    unfold rnA rnO
    (repeat' split) <;> omega
  | succ k ih =>
    have h1 : (l.getD (k + 1) 0).toNat < 256 := (l.getD (k + 1) 0).toNat_lt
    have h2 : (0 : Int) < 128 ^ k := Int.pow_pos (by decide)
    rw [rnA, Int.pow_succ]
    omega
theorem rnA_end (l : List UInt8) (h : l.length = 2 ∨ l.length = 3 ∨ l.length = 4) : rnA l (l.length - 1) = rnV l := by
  match l, h with
  | [a, b], _ => simp [rnA, rnV, rnO]; omega
  | [a, b, c], _ => simp [rnA, rnV, rnO]; omega
  | [a, b, c, d], _ => simp [rnA, rnV, rnO]; omega
theorem rune_r (s : ByteArray) (w : World) (hz : s.size = 2 ∨ s.size = 3 ∨ s.size = 4) : Calls Tryz.prog 151 #[.string s] w fun e w' => e = .returned (.int .i64 (rnV s.data.toList)) ∧ w = w' := by
  have hls : s.data.toList.length = s.size := rfl
  have HLS := Lib.hid hls
  have HZ := Lib.hid hz
  have HE : Hid (rnA s.data.toList (s.size - 1) = rnV s.data.toList) := Lib.hid (rnA_end _ hz)
  have h0 : 0 < s.size := by omega
  have hs4 : s.size ≤ 4 := by omega
  obtain ⟨y, hy⟩ : ∃ y, s[0]'h0 = y := ⟨_, rfl⟩
  have hy256 : y.toNat < 256 := y.toNat_lt
  have H0 : Hid (rnA s.data.toList 0 = (y.toNat : Int) - rnO s.size) := Lib.hid (by
    rw [rnA, headL h0, hy, hls])
  clear hls hz
  have HW : Hid (s.size = 2 ∨ s.size = 3 ∨ s.size = 4) := HZ
  have hq : ∃ a b c : Bool, ((s.size : Int) == 2) = a ∧ ((s.size : Int) == 3) = b ∧ ((s.size : Int) == 4) = c ∧ rnO s.size = (if a then 192 else if b then 224 else 240) ∧ (a = false → b = false → c = true) := by
    refine ⟨_, _, _, rfl, rfl, rfl, ?_, ?_⟩
    · unfold rnO
      rcases HZ.out with h | h | h <;> rw [h] <;> rfl
    · intro h1 h2
      simp only [beq_eq_false_iff_ne, beq_iff_eq] at h1 h2 ⊢
      have := HZ.out
      omega
  obtain ⟨qa, qb, qc, q1, q2, q3, q4, q5⟩ := hq
  rw [q4] at H0
  have HQ := Lib.hid q5
  clear q4 q5
  cases qa
  all_goals cases qb
  all_goals cases qc
  all_goals first
    | (exact absurd (HQ.out rfl rfl : false = true) Bool.false_ne_true)
    | (have H1 : Hid (∃ z : Int, z = rnA s.data.toList 0) := Lib.hid ⟨_, rfl⟩
       go_enter Tryz.func151, Tryz.ntmps151
       go_wp2_with fail
       go_loop [3, 4] (fun m i => ∃ k : Nat, (1 ≤ k ∧ k ≤ s.size) ∧ i = .int .i64 k ∧ m = .int .i64 (rnA s.data.toList (k - 1))) (fun _ i => s.size - (intOf i).toNat)
       case atStart => exact ⟨1, ⟨by omega, by omega⟩, rfl, by show _ = Value.int .i64 (rnA s.data.toList 0); rw [H0.out]; rfl⟩
       case round =>
         obtain ⟨k, ⟨hk1, hk⟩, rfl, rfl⟩ := hrel
         by_cases hlt : k < s.size
         · obtain ⟨x, hx⟩ : ∃ x, s[k] = x := ⟨_, rfl⟩
           have h256 : x.toNat < 256 := x.toNat_lt
           have HN : Hid (rnA s.data.toList k = rnA s.data.toList (k - 1) * 64 + x.toNat - 128) := Lib.hid (by
             obtain ⟨j, rfl⟩ : ∃ j, k = j + 1 := ⟨k - 1, by omega⟩
             rw [rnA, getDL hlt, hx]; rfl)
           obtain ⟨m, hm⟩ : ∃ m, rnA s.data.toList (k - 1) = m := ⟨_, rfl⟩
           have hmb : -1073741824 ≤ m ∧ m ≤ 1073741824 := by
             rw [← hm]
             have h1 := rnA_bd s.data.toList (k - 1)
             have h2 : k - 1 = 0 ∨ k - 1 = 1 ∨ k - 1 = 2 := by omega
             rcases h2 with h2 | h2 | h2 <;> rw [h2] at h1 ⊢ <;> omega
           rw [hm] at HN ⊢
           clear hm
           have w1 : IntKind.i64.wrap (m * 64) = m * 64 := IntWalk.i64_in _ ⟨by omega, by omega⟩
           have w2 : IntKind.i64.wrap (m * 64 + x.toNat) = m * 64 + x.toNat := IntWalk.i64_in _ ⟨by omega, by omega⟩
           have w3 : IntKind.i64.wrap (m * 64 + x.toNat - 128) = m * 64 + x.toNat - 128 := IntWalk.i64_in _ ⟨by omega, by omega⟩
           go_wp2_with fail
           go_round
           case rel => exact ⟨k + 1, ⟨by omega, by omega⟩, by go_num, by rw [Nat.add_sub_cancel, HN.out]⟩
           case measure => simp [intOf]; omega
         · have HF : Hid (rnA s.data.toList (k - 1) = rnV s.data.toList) := Lib.hid (by
             obtain rfl : k = s.size := by omega
             exact HE.out)
           go_wp2_with fail
           go_ret
           exact ⟨ret_i HF.out, rfl⟩)
end
section
open Go.RowKit
theorem utfLen_low {b : Nat} (h : b < 128) : utfLen b = 0 := by unfold utfLen; rw [if_pos (.inl (by omega))]
end
section
open Go.RowKit
theorem fit_snoc {l : List UInt8} {b : UInt8} (h : fitK l l.length) (h0 : 0 < l.length) : fitK (l ++ [b]) (l.length + 1) ↔ mayF l b.toNat = true := by
  constructor
  · intro h1
    have h2 := h1 l.length (by omega) (by omega)
    rw [List.take_left] at h2
    simpa using h2
  · intro h1
    refine fit_step (fun j h2 h3 => ?_) (by rw [List.take_left]; simpa using h1)
    have h4 := h j h2 h3
    rw [List.take_append_of_le_length (by omega)]
    rw [List.getD_eq_getElem?_getD, List.getElem?_append_left h3, ← List.getD_eq_getElem?_getD]
    exact h4
theorem utf_r (t : ByteArray) (X lo : Nat) (ap al : Option Addr) (cp cl : Nat) (L : List ActA) (b : UInt8) (w : World) (h : QS X lo ⟨6, [], false, e0, t⟩ ap cp L al cl w) (hL : L.length ≤ 1048575) (hT : begB t.data.toList = true) :
    Calls Tryz.prog 139 #[.pointer (some ⟨X, 0, none⟩), .int .i64 b.toNat] w (fun e w' => QR X lo (ustep ⟨6, [], false, e0, t⟩ b) L e w w') := by
  have HP := Lib.hid h
  have k_0 := h.ps.c0
  have k_1 := h.ps.c1
  have k_2 := h.ps.c2
  have k_3 := h.ps.c3
  have k_4 := h.ps.c4
  have k_5 := h.c5
  have kf := h.ps.fz
  have klt := h.ps.lt
  have hlo : lo ≤ w.heap.size := by have := h.lo; omega
  have h256 : b.toNat < 256 := b.toNat_lt
  clear h
  obtain ⟨Gr, hG⟩ : ∃ G, ustep ⟨6, [], false, e0, t⟩ b = G := ⟨_, rfl⟩
  have HGG := Lib.hid hG
  rw [hG]
  clear hG
  obtain ⟨n, hn⟩ : ∃ n, b.toNat = n := ⟨_, rfl⟩
  rw [hn] at h256 ⊢
  have HN := Lib.hid hn
  clear hn
  obtain ⟨u1, u2, u3⟩ := begB_iff.1 hT
  have hls : t.data.toList.length = t.size := rfl
  have ht4 : t.size ≤ 3 := by
    have : ∀ n, utfLen n ≤ 4 := fun n => by unfold utfLen; (repeat' split) <;> omega
    have := this (t.data.toList.headD 0).toNat
    omega
  have ht0 : 0 < t.size := by omega
  have HFK : Hid (fitK (t.data.toList ++ [b]) (t.size + 1) ↔ mayF t.data.toList b.toNat = true) := Lib.hid (fit_snoc u3 u1)
  obtain ⟨U, hU⟩ : ∃ U, t ++ (⟨#[b]⟩ : ByteArray) = U := ⟨_, rfl⟩
  have HU := Lib.hid hU
  have HUL : Hid (U.data.toList = t.data.toList ++ [b]) := Lib.hid (by rw [← hU]; simp)
  have HUS : Hid (U.size = t.size + 1) := Lib.hid (by rw [← hU, ByteArray.size_append]; rfl)
  have hU4 : U.size ≤ 4 := by rw [HUS.out]; omega
  have hU0 : 0 < U.size := by rw [HUS.out]; omega
  have HU0 : Hid ((U[0]'hU0) = t.data.toList.headD 0) := Lib.hid (by
    rw [← headL hU0, HUL.out]
    cases hc : t.data.toList with
    | nil => rw [hc] at hls; simp at hls; omega
    | cons a l => rfl)
  obtain ⟨z, hz⟩ : ∃ z, utfLen (t.data.toList.headD 0).toNat = z := ⟨_, rfl⟩
  have HZ := Lib.hid hz
  have hz4 : t.size < z ∧ z ≤ 4 := by
    refine ⟨by omega, ?_⟩
    rw [← hz]
    unfold utfLen; (repeat' split) <;> omega
  have HSZ : Hid (szR (U[0]'hU0).toNat = z) := Lib.hid (by
    rw [HU0.out]
    unfold szR
    rw [if_neg, hz]
    intro h
    rw [utfLen_low h] at hz
    omega)
  have hbig : ¬ 9223372036854775807 < t.size + 1 := by omega
  have hw8 : IntKind.u8.wrap (n : Int) = n := u8_in (by omega) (by omega)
  have hcv := convAt w.heap.size (w.alloc (.cells #[.int .u8 n] 5)).drew b n (by simp [go_sem]) HN.out
  obtain ⟨v, hv⟩ : ∃ v, mayF t.data.toList b.toNat = v := ⟨_, rfl⟩
  have HV := Lib.hid hv
  have HFT : Hid (∀ w, Calls Tryz.prog 149 #[.string U] w fun e w' => e = .returned (.bool v) ∧ w = w') := Lib.hid (fun w => (fits_r U w (by omega)).mono (fun e w' h => by
    obtain ⟨v', rfl, hv', rfl⟩ := h
    refine ⟨ret_b ?_, rfl⟩
    rw [HUL.out, HUS.out, HFK.out, hv] at hv'
    exact Bool.eq_iff_iff.2 hv'))
  clear hv hz hT u1 u2 u3 hls
  go_enter Tryz.func139, Tryz.ntmps139
  go_upto_region 0 with fail
  refine wp_region_G (fun w' => w'.cell? ⟨X, 4, none⟩ = some (.string t)) (fun i => false) (by kernel_rfl) k_4 ?_
  refine tW ?_ 0 rfl ?_ ?_; rotate_left
  · intro w' hSw; go_simp; try rfl
  try simp only [Act.put,j1,j2,j3,j4,j5,j6]
  refine tW ?_ 1 rfl ?_ ?_; rotate_left
  · intro w' hSw; go_simp; try rfl
  try simp only [Act.put,j1,j2,j3,j4,j5,j6]
  refine tW ?_ 2 rfl ?_ ?_; rotate_left
  · intro w' hSw; go_simp; try rfl
  try simp only [Act.put,j1,j2,j3,j4,j5,j6]
  refine tW ?_ 3 rfl ?_ ?_; rotate_left
  · intro w' hSw; go_simp; try rfl
  try simp only [Act.put,j1,j2,j3,j4,j5,j6]
  refine tL ?_ 4 rfl k_4 ?_ ?_; rotate_left
  · intro w' hSw; go_simp; try rfl
  try simp only [Act.put,j1,j2,j3,j4,j5,j6]
  refine tW ?_ 5 rfl ?_ ?_; rotate_left
  · intro w' hSw; go_simp; try rfl
  try simp only [Act.put,j1,j2,j3,j4,j5,j6]
  refine tW ?_ 6 rfl ?_ ?_; rotate_left
  · intro w' hSw; go_simp; try rfl
  try simp only [Act.put,j1,j2,j3,j4,j5,j6]
  refine wpAnyG_one (i := 7) (by kernel_rfl) rfl k_4 (fun K' hK => ?_)
  simp only [j1,j2,j3]
  go_simp
  have hS1 : (w.alloc (.cells #[.int .u8 n] 5)).cell? ⟨X, 4, none⟩ = some (.string t) := (World.cell?_alloc_lt _ _ _ klt).trans k_4
  refine hK.out _ _ (Or.inr hS1) ?_
  clear hK K'
  try simp only [Act.put,j1,j2,j3,j4,j5,j6]
  refine wpAnyG_one (i := 8) (by kernel_rfl) rfl hS1 (fun K' hK => ?_)
  simp only [j1,j2,j3]
  go_simp
  refine hK.out _ _ (Or.inr hS1) ?_
  clear hK K'
  try simp only [Act.put,j1,j2,j3,j4,j5,j6]
  refine tW ?_ 9 rfl ?_ ?_; rotate_left
  · intro w' hSw; go_simp; try rfl
  try simp only [Act.put,j1,j2,j3,j4,j5,j6]
  refine tW ?_ 10 rfl ?_ ?_; rotate_left
  · intro w' hSw; go_simp; try rfl
  try simp only [Act.put,j1,j2,j3,j4,j5,j6]
  refine wpAnyG_done (by kernel_rfl) ?_ _
  clear hcv hbig hw8 hU
  have hb1 : Below w.heap.size w (w.alloc (.cells #[.int .u8 n] 5)).drew := ((Below.refl _ _).alloc (Nat.le_refl _) _).drew
  obtain ⟨x, hx⟩ : ∃ x, (w.alloc (.cells #[.int .u8 n] 5)).drew = x := ⟨_, rfl⟩
  rw [hx] at hb1 ⊢
  clear hx
  have HBX : Hid (Below lo w x) := Lib.hid (hb1.mono hlo)
  have HP1 := Lib.hid (HP.out.keep hb1)
  have x_0 := HP1.out.ps.c0
  have x_1 := HP1.out.ps.c1
  have x_2 := HP1.out.ps.c2
  have x_3 := HP1.out.ps.c3
  have x_4 := HP1.out.ps.c4
  have x_5 := HP1.out.c5
  have xf := HP1.out.ps.fz
  have xlt := HP1.out.ps.lt
  clear hb1
  cases v
  case false =>
    have HR : Hid (Gr = ((gstep b).1, pr 65533 :: (gstep b).2)) := Lib.hid (by rw [← HGG.out]; exact us1 HV.out)
    go_wp2_with (go_at_call 149; refine (HFT.out _).mono ?_; rintro e w' ⟨rfl, rfl⟩)
    refine (ground_r X lo _ ap al cp cl L _ HP1.out).mono ?_
    rintro e w1 ⟨rfl, g, hg, hq, hc⟩
    have HQ := Lib.hid hq
    have HC := Lib.hid hc
    clear hq hc
    go_wp2_with fail
    refine (tell_r X lo pz (some ⟨g, 0, none⟩) al none 0 cl 0 L ⟨1, 65533, false, [], e0⟩ _ HQ.out (FreshIn.nil _ _ _ _ _ _) (by simp [blkOf]) (by omega) (by simp)).mono ?_
    rintro e w2 ⟨rfl, ap', cp', L', al', cl', g1, g2, g3⟩
    have G2 := Lib.hid g2
    have hL' : L'.length ≤ 1048576 := by
      have := congrArg List.length g2
      simp at this
      omega
    have HB2 : Hid (Below lo w w2) := Lib.hid (HBX.out.trans ((HP1.out.below1 HC.out).trans g3))
    have h1 := takeG_r X lo ap' al' cp' cl' L' b _ g1 hL'
    rw [HN.out] at h1
    have H1 := Lib.hid h1
    clear g1 g2 g3 h1
    go_wp2_with fail
    refine H1.out.mono ?_
    rintro e w3 hq
    have HQ4 := Lib.hid (hq.after HB2.out G2.out)
    obtain ⟨rfl, _⟩ := hq
    go_wp2_with fail
    refine bodyPost_ret (v := .tuple #[]) (by simp [results, Tryz.results139]) rfl ?_
    rw [HR.out]
    exact HQ4.out
  by_cases hlt : U.size < z
  case pos =>
    have HR : Hid (Gr = (⟨6, [], false, e0, U⟩, [])) := Lib.hid (by
      rw [← HGG.out, ← HU.out]
      exact us2 (p := ⟨6, [], false, e0, t⟩) HV.out (by have := HUS.out; have := HZ.out; show t.size + 1 < utfLen (t.data.toList.headD 0).toNat; omega))
    have gz : (U.size : Int) < (z : Int) := by omega
    go_wp2_with (first | (go_at_call 149; refine (HFT.out _).mono ?_; rintro e w' ⟨rfl, rfl⟩) | (go_at_call 150; refine (size_r U _ hU0).mono ?_; rw [HSZ.out]; rintro e w' ⟨rfl, rfl⟩))
    refine bodyPost_ret (v := .tuple #[]) (by simp [results, Tryz.results139]) rfl ?_
    refine QR.base (QR.only (p' := ⟨6, [], false, e0, U⟩) (HP1.out.cells ?hc ?_ ?_ ?_ ?_ ?_ ?_ ?_ (.inl ⟨rfl, rfl, rfl⟩)) HP1.out ?hc HR.out) HBX.out
    case hc => repeat (first | (with_reducible exact Ch.refl) | (with_reducible refine Ch.alloc ?_ _) | (with_reducible refine Ch.drew ?_) | (with_reducible refine Ch.setB ?_ _ _))
    all_goals first | (intro o; simp [go_sem, xf, xlt]; done) | (simp [go_sem, x_0, x_1, x_2, x_3, x_4, x_5, xlt]; done)
  have HR : Hid (Gr = (pz, [⟨1, rnV U.data.toList, false, [], e0⟩])) := Lib.hid (by
    rw [← HGG.out, HUL.out]
    exact us3 (p := ⟨6, [], false, e0, t⟩) HV.out (by have := HUS.out; have := HZ.out; show ¬ t.size + 1 < utfLen (t.data.toList.headD 0).toNat; omega))
  have gz : ¬ (U.size : Int) < (z : Int) := by omega
  have HRU : Hid (U.size = 2 ∨ U.size = 3 ∨ U.size = 4) := Lib.hid (by have := HUS.out; omega)
  go_wp2_with (first | (go_at_call 149; refine (HFT.out _).mono ?_; rintro e w' ⟨rfl, rfl⟩) | (go_at_call 150; refine (size_r U _ hU0).mono ?_; rw [HSZ.out]; rintro e w' ⟨rfl, rfl⟩))
  refine (ground_r X lo _ ap al cp cl L _ HP1.out).mono ?_
  rintro e w1 ⟨rfl, g, hg, hq, hc⟩
  have HQ := Lib.hid hq
  have HC := Lib.hid hc
  clear hq hc
  go_wp2_with (go_at_call 151; refine (rune_r U _ HRU.out).mono ?_; rintro e w' ⟨rfl, rfl⟩)
  refine (tell_r X lo pz (some ⟨g, 0, none⟩) al none 0 cl 0 L ⟨1, rnV U.data.toList, false, [], e0⟩ _ HQ.out (FreshIn.nil _ _ _ _ _ _) (by simp [blkOf]) (by omega) (by simp)).mono ?_
  rintro e w2 hq
  have HQ2 := Lib.hid (hq.base (HBX.out.trans (HP1.out.below1 HC.out)))
  obtain ⟨rfl, _⟩ := hq
  go_wp2_with fail
  refine bodyPost_end (v := .tuple #[]) (by simp [results, Tryz.results139]) rfl ?_
  rw [HR.out]
  exact HQ2.out
end
section
open Go.RowKit
theorem takeO_r (t : ByteArray) (X lo : Nat) (ap al : Option Addr) (cp cl : Nat) (L : List ActA) (b : UInt8) (w : World) (h : QS X lo ⟨4, [], false, t, e0⟩ ap cp L al cl w) (hL : L.length ≤ 1048576) (hT : t.size ≤ 40) :
    Calls Tryz.prog 106 #[.pointer (some ⟨X, 0, none⟩), .int .i64 b.toNat] w (fun e w' => QR X lo (ostep ⟨4, [], false, t, e0⟩ b) L e w w') := by
  have HCA := Lib.hid (osc_r t X lo ap al cp cl L b w h hL hT)
  have k_0 : w.cell? ⟨X, 0, none⟩ = some (.int .i64 4) := h.ps.c0
  have kf := h.ps.fz
  have klt := h.ps.lt
  clear h
  go_enter Tryz.func106, Tryz.ntmps106
  go_wp2_with fail
  refine HCA.out.mono ?_
  rintro e w1 hq
  have HQ := Lib.hid hq
  obtain ⟨rfl, _⟩ := hq
  go_wp2_with fail
  refine bodyPost_end (v := .tuple #[]) (by simp [results, Tryz.results106]) rfl ?_
  exact HQ.out
theorem takeQ_r (t : ByteArray) (X lo : Nat) (ap al : Option Addr) (cp cl : Nat) (L : List ActA) (b : UInt8) (w : World) (h : QS X lo ⟨5, [], false, t, e0⟩ ap cp L al cl w) (hL : L.length ≤ 1048576) :
    Calls Tryz.prog 106 #[.pointer (some ⟨X, 0, none⟩), .int .i64 b.toNat] w (fun e w' => QR X lo (qstep ⟨5, [], false, t, e0⟩ b) L e w w') := by
  have HCA := Lib.hid (oscEnd_r t X lo ap al cp cl L b w h hL)
  have k_0 : w.cell? ⟨X, 0, none⟩ = some (.int .i64 5) := h.ps.c0
  have kf := h.ps.fz
  have klt := h.ps.lt
  clear h
  go_enter Tryz.func106, Tryz.ntmps106
  go_wp2_with fail
  refine HCA.out.mono ?_
  rintro e w1 hq
  have HQ := Lib.hid hq
  obtain ⟨rfl, _⟩ := hq
  go_wp2_with fail
  refine bodyPost_end (v := .tuple #[]) (by simp [results, Tryz.results106]) rfl ?_
  exact HQ.out
theorem takeU_r (t : ByteArray) (X lo : Nat) (ap al : Option Addr) (cp cl : Nat) (L : List ActA) (b : UInt8) (w : World) (h : QS X lo ⟨6, [], false, e0, t⟩ ap cp L al cl w) (hL : L.length ≤ 1048575) (hT : begB t.data.toList = true) :
    Calls Tryz.prog 106 #[.pointer (some ⟨X, 0, none⟩), .int .i64 b.toNat] w (fun e w' => QR X lo (ustep ⟨6, [], false, e0, t⟩ b) L e w w') := by
  have HCA := Lib.hid (utf_r t X lo ap al cp cl L b w h hL hT)
  have k_0 : w.cell? ⟨X, 0, none⟩ = some (.int .i64 6) := h.ps.c0
  have kf := h.ps.fz
  have klt := h.ps.lt
  clear h
  go_enter Tryz.func106, Tryz.ntmps106
  go_wp2_with fail
  refine HCA.out.mono ?_
  rintro e w1 hq
  have HQ := Lib.hid hq
  obtain ⟨rfl, _⟩ := hq
  go_wp2_with fail
  refine bodyPost_end (v := .tuple #[]) (by simp [results, Tryz.results106]) rfl ?_
  exact HQ.out
end
section
open Go.RowKit
theorem own_r (ap : Option Addr) (cp : Nat) (p : PV) (w : World) (ha : Sl intE 1 w ap p.args) (hl : p.args.length ≤ 1048576) :
    Calls Tryz.prog 105 #[.agg #[.int .i64 p.state, .slice ap p.args.length cp, .bool p.priv, .string p.text, .string p.utf]] w (ParR p w) := by
  obtain ⟨i0, hi, hz0, hz1, hz2⟩ := info_parts Tryz.infoInt
  have la := hl
  have HA := Lib.hid (((ha.alloc (.cells #[.int .i64 p.state, .slice ap p.args.length cp, .bool p.priv, .string p.text, .string p.utf] 42)).alloc (.cells #[.int .i64 0, .slice none 0 0, .bool false, .string ⟨#[]⟩, .string ⟨#[]⟩] 42)).alloc (.cells #[] 3))
  have h0 := (fresh_mdI ((w.alloc (.cells #[.int .i64 p.state, .slice ap p.args.length cp, .bool p.priv, .string p.text, .string p.utf] 42)).alloc (.cells #[.int .i64 0, .slice none 0 0, .bool false, .string ⟨#[]⟩, .string ⟨#[]⟩] 42)) (w.heap.size + 2) (by simp)).here
  simp only [World.size_alloc] at h0
  have HFR := Lib.hid h0
  clear h0
  go_enter Tryz.func105, Tryz.ntmps105
  go_wp2_with (first
    | (skip
       at_builtin
       refine wpList_append_fresh rfl (.tmp 3) (.tmp 5) 36 36 rfl (w.heap.size + 2) (w.heap.size + 2 + 1) 3 i0 (.int .i64 0) 1 8 Tryz.underlying36 hi hz0 hz1 hz2 rfl (by decide) (.slice (some ⟨w.heap.size + 2, 0, none⟩) 0 0) ([]) rfl (HFR.out) _ (p.args) rfl (Src.ofSl (enc := intE) (sz := 1) (xs := p.args) Tryz.underlying36 (fun _ => rfl) intOne HA.out cp) (by (try simp) <;> (try omega)) (by (try simp) <;> (try omega)) ?_
       intro a1 c1 w1 L1 hL1 hf1 hm1
       have HLL := hL1
       have hf := Lib.hid hf1
       have hmm := Lib.hid hm1
       have hz := hm1.size
       simp only [World.size_alloc] at hz
       have hl1 : w.heap.size + 1 < w1.heap.size := by omega
       have hl0 : w.heap.size < w1.heap.size := by omega
       have q0_0 : w1.cell? ⟨w.heap.size, 0, none⟩ = some (.int .i64 p.state) := (hm1.cell (p := ⟨w.heap.size, 0, none⟩) (by show w.heap.size < _; simp; try omega) (.inl (by show w.heap.size < _; omega))).trans (by simp [go_sem])
       have f0_0 : w1.frozen? ⟨w.heap.size, 0, none⟩ = false := (hm1.frozen (p := ⟨w.heap.size, 0, none⟩) (by show w.heap.size < _; simp; try omega) (.inl (by show w.heap.size < _; omega))).trans (by simp [go_sem])
       have q0_1 : w1.cell? ⟨w.heap.size, 1, none⟩ = some (.slice ap p.args.length cp) := (hm1.cell (p := ⟨w.heap.size, 1, none⟩) (by show w.heap.size < _; simp; try omega) (.inl (by show w.heap.size < _; omega))).trans (by simp [go_sem])
       have f0_1 : w1.frozen? ⟨w.heap.size, 1, none⟩ = false := (hm1.frozen (p := ⟨w.heap.size, 1, none⟩) (by show w.heap.size < _; simp; try omega) (.inl (by show w.heap.size < _; omega))).trans (by simp [go_sem])
       have q0_2 : w1.cell? ⟨w.heap.size, 2, none⟩ = some (.bool p.priv) := (hm1.cell (p := ⟨w.heap.size, 2, none⟩) (by show w.heap.size < _; simp; try omega) (.inl (by show w.heap.size < _; omega))).trans (by simp [go_sem])
       have f0_2 : w1.frozen? ⟨w.heap.size, 2, none⟩ = false := (hm1.frozen (p := ⟨w.heap.size, 2, none⟩) (by show w.heap.size < _; simp; try omega) (.inl (by show w.heap.size < _; omega))).trans (by simp [go_sem])
       have q0_3 : w1.cell? ⟨w.heap.size, 3, none⟩ = some (.string p.text) := (hm1.cell (p := ⟨w.heap.size, 3, none⟩) (by show w.heap.size < _; simp; try omega) (.inl (by show w.heap.size < _; omega))).trans (by simp [go_sem])
       have f0_3 : w1.frozen? ⟨w.heap.size, 3, none⟩ = false := (hm1.frozen (p := ⟨w.heap.size, 3, none⟩) (by show w.heap.size < _; simp; try omega) (.inl (by show w.heap.size < _; omega))).trans (by simp [go_sem])
       have q0_4 : w1.cell? ⟨w.heap.size, 4, none⟩ = some (.string p.utf) := (hm1.cell (p := ⟨w.heap.size, 4, none⟩) (by show w.heap.size < _; simp; try omega) (.inl (by show w.heap.size < _; omega))).trans (by simp [go_sem])
       have f0_4 : w1.frozen? ⟨w.heap.size, 4, none⟩ = false := (hm1.frozen (p := ⟨w.heap.size, 4, none⟩) (by show w.heap.size < _; simp; try omega) (.inl (by show w.heap.size < _; omega))).trans (by simp [go_sem])
       have q1_0 : w1.cell? ⟨w.heap.size + 1, 0, none⟩ = some (.int .i64 0) := (hm1.cell (p := ⟨w.heap.size + 1, 0, none⟩) (by show w.heap.size + 1 < _; simp; try omega) (.inl (by show w.heap.size + 1 < _; omega))).trans (by simp [go_sem])
       have f1_0 : w1.frozen? ⟨w.heap.size + 1, 0, none⟩ = false := (hm1.frozen (p := ⟨w.heap.size + 1, 0, none⟩) (by show w.heap.size + 1 < _; simp; try omega) (.inl (by show w.heap.size + 1 < _; omega))).trans (by simp [go_sem])
       have q1_1 : w1.cell? ⟨w.heap.size + 1, 1, none⟩ = some (.slice none 0 0) := (hm1.cell (p := ⟨w.heap.size + 1, 1, none⟩) (by show w.heap.size + 1 < _; simp; try omega) (.inl (by show w.heap.size + 1 < _; omega))).trans (by simp [go_sem])
       have f1_1 : w1.frozen? ⟨w.heap.size + 1, 1, none⟩ = false := (hm1.frozen (p := ⟨w.heap.size + 1, 1, none⟩) (by show w.heap.size + 1 < _; simp; try omega) (.inl (by show w.heap.size + 1 < _; omega))).trans (by simp [go_sem])
       have q1_2 : w1.cell? ⟨w.heap.size + 1, 2, none⟩ = some (.bool false) := (hm1.cell (p := ⟨w.heap.size + 1, 2, none⟩) (by show w.heap.size + 1 < _; simp; try omega) (.inl (by show w.heap.size + 1 < _; omega))).trans (by simp [go_sem])
       have f1_2 : w1.frozen? ⟨w.heap.size + 1, 2, none⟩ = false := (hm1.frozen (p := ⟨w.heap.size + 1, 2, none⟩) (by show w.heap.size + 1 < _; simp; try omega) (.inl (by show w.heap.size + 1 < _; omega))).trans (by simp [go_sem])
       have q1_3 : w1.cell? ⟨w.heap.size + 1, 3, none⟩ = some (.string ⟨#[]⟩) := (hm1.cell (p := ⟨w.heap.size + 1, 3, none⟩) (by show w.heap.size + 1 < _; simp; try omega) (.inl (by show w.heap.size + 1 < _; omega))).trans (by simp [go_sem])
       have f1_3 : w1.frozen? ⟨w.heap.size + 1, 3, none⟩ = false := (hm1.frozen (p := ⟨w.heap.size + 1, 3, none⟩) (by show w.heap.size + 1 < _; simp; try omega) (.inl (by show w.heap.size + 1 < _; omega))).trans (by simp [go_sem])
       have q1_4 : w1.cell? ⟨w.heap.size + 1, 4, none⟩ = some (.string ⟨#[]⟩) := (hm1.cell (p := ⟨w.heap.size + 1, 4, none⟩) (by show w.heap.size + 1 < _; simp; try omega) (.inl (by show w.heap.size + 1 < _; omega))).trans (by simp [go_sem])
       have f1_4 : w1.frozen? ⟨w.heap.size + 1, 4, none⟩ = false := (hm1.frozen (p := ⟨w.heap.size + 1, 4, none⟩) (by show w.heap.size + 1 < _; simp; try omega) (.inl (by show w.heap.size + 1 < _; omega))).trans (by simp [go_sem])
       clear hf1 hm1 hz
       skip))
  obtain rfl : L1 = p.args := by simpa using HLL.out
  refine bodyPost_ret (v := .agg #[.int .i64 p.state, .slice a1 p.args.length c1, .bool p.priv, .string p.text, .string p.utf]) (by simp [results, Tryz.results105, go_sem, q0_0, q0_1, q0_2, q0_3, q0_4, q1_0, q1_1, q1_2, q1_3, q1_4, hl0, hl1]) rfl ?_
  have hc : ∀ x1 y0 y1 y2 y3 y4, Ch (fun k => k = w.heap.size ∨ k = w.heap.size + 1) w1 ((((((w1.setCell ⟨w.heap.size, 1, none⟩ x1).setCell ⟨w.heap.size + 1, 0, none⟩ y0).setCell ⟨w.heap.size + 1, 1, none⟩ y1).setCell ⟨w.heap.size + 1, 2, none⟩ y2).setCell ⟨w.heap.size + 1, 3, none⟩ y3).setCell ⟨w.heap.size + 1, 4, none⟩ y4) := fun x1 y0 y1 y2 y3 y4 =>
    (((((Ch.refl.setCell (M := fun k => k = w.heap.size ∨ k = w.heap.size + 1) (p := ⟨w.heap.size, 1, none⟩) (.inl (.inl rfl)) x1).setCell (p := ⟨w.heap.size + 1, 0, none⟩) (.inl (.inr rfl)) y0).setCell (p := ⟨w.heap.size + 1, 1, none⟩) (.inl (.inr rfl)) y1).setCell (p := ⟨w.heap.size + 1, 2, none⟩) (.inl (.inr rfl)) y2).setCell (p := ⟨w.heap.size + 1, 3, none⟩) (.inl (.inr rfl)) y3).setCell (p := ⟨w.heap.size + 1, 4, none⟩) (.inl (.inr rfl)) y4
  have hB := (((((Below.refl w.heap.size w).alloc (Nat.le_refl _) _).alloc (by simp) _).alloc (by simp; omega) _).trans (hmm.out.below (by omega) (by simp; try omega)))
  have hF := hf.out.mono (lo' := w.heap.size + 2) (Nat.le_refl _) (Nat.le_refl _)
  have hcx := hc (.slice a1 p.args.length c1) (.int .i64 p.state) (.slice a1 p.args.length c1) (.bool p.priv) (.string p.text) (.string p.utf)
  refine ⟨a1, c1, rfl, ?_, ?_⟩
  · have h1 := FreshIn.ch hF hcx (fun k hk h => by
      have := (FreshIn.blks hF k hk).1
      omega)
    exact h1.mono (by omega) (Nat.le_refl _)
  · exact hB.trans (hcx.below (by omega) (fun k h => by omega))
end
section
open Go.RowKit
section
variable {P : Program} {md : Region.Mode} {ops : Array Oper} {Q : Exit → Act → World → Prop} {S : World → Prop} {ex : Nat → Bool}
theorem stepG {i : Nat} {o : Oper} {fuel : Nat} {listed : Array Bool} {a : Act} {w : World} (ho : ops[i]? = some o)
    (h : ∀ K' : Act → World → Prop, Shut (∀ a w, (ex i = true ∨ S w) → wpAnyG P md ops Q S ex fuel (listed.setIfInBounds i true) a w → K' a w) → if Region.wanted o (yielded ops a.tmps) = true then Oper.wp P o a w K' Q else K' (a.put o.dst undef) w) :
    wpOp P ops Q i (fun a' w' => (ex i = true ∨ (S w → S w')) ∧ wpAnyG P md ops Q S ex fuel (listed.setIfInBounds i true) a' w') a w :=
  wpOp_step ho (fun K' hK => h K' (fun a w h1 h2 => hK a w ⟨h1.imp id (fun h3 _ => h3), h2⟩))
theorem wpAnyG_br {rs : List Nat} {fuel : Nat} {listed : Array Bool} {a : Act} {w : World} (hr : Region.ready md ops listed = rs) (hne : rs ≠ [])
    (h : ∀ j ∈ rs, ∃ o, ops[j]? = some o ∧ ∀ K' : Act → World → Prop, Shut (∀ a w, (ex j = true ∨ S w) → wpAnyG P md ops Q S ex fuel (listed.setIfInBounds j true) a w → K' a w) → if Region.wanted o (yielded ops a.tmps) = true then Oper.wp P o a w K' Q else K' (a.put o.dst undef) w) : wpAnyG P md ops Q S ex (fuel + 1) listed a w :=
  ⟨fun h0 => absurd (hr.symm.trans h0) hne, fun j hj => by
    rw [hr] at hj
    obtain ⟨o, ho, h1⟩ := h j hj
    exact stepG ho h1⟩
end
theorem QS.arg2 {X lo : Nat} {p : PV} {ap ap' al : Option Addr} {cp cp' cl : Nat} {L : List ActA} {w w1 : World} {xs : List Int} {v : Value} (h : QS X lo p ap cp L al cl w) (hc : Ch (· ∈ blkOf ap) w w1) (ha : FreshIn intE 3 1 w.heap.size w1.heap.size (.slice ap' xs.length cp') xs w1) (hv : v = .slice ap' xs.length cp') : QS X lo { p with args := xs } ap' cp' L al cl (w1.setCell ⟨X, 1, none⟩ v) := by
  subst hv
  have hk : ∀ k ∈ blkOf ap', k ∈ blkOf ap ∨ w.heap.size ≤ k := fun k hk => .inr (FreshIn.blks ha k hk).1
  have hX : ¬ X ∈ blkOf ap := fun hb => h.ps.nB (by simp [hb])
  have h5 := (hc.cell (p := ⟨X, 5, none⟩) h.ps.lt hX).trans h.c5
  have hlt := Nat.lt_of_lt_of_le h.ps.lt hc.size
  refine ⟨h.ps.arg2 hc (ha.mono (by have := h.lo; have := h.ps.lt; omega) (Nat.le_refl _)) hk, ?_, h.lo⟩
  simp [go_sem, h5, hlt]
def CsiR (p : PV) (n m : Nat) (w : World) (s : Value) (wx : World) : Prop :=
  ∃ (H : Nat) (a : Option Addr) (c : Nat), s = .pointer (some ⟨H, 0, none⟩) ∧ w.heap.size ≤ H ∧ H < wx.heap.size ∧ H ∉ blkOf a ∧ wx.cell? ⟨H, 0, none⟩ = some (.int .i64 4) ∧ wx.cell? ⟨H, 1, none⟩ = some (.int .i64 n) ∧ wx.cell? ⟨H, 2, none⟩ = some (.bool p.priv) ∧
    wx.cell? ⟨H, 3, none⟩ = some (.slice a (m + 1) c) ∧ wx.cell? ⟨H, 4, none⟩ = some (.string ⟨#[]⟩) ∧ FreshIn intE 3 1 w.heap.size wx.heap.size (.slice a p.args.length c) p.args wx ∧ Below w.heap.size w wx
theorem csiR_store {p : PV} {n m H c : Nat} {a : Option Addr} {w w3 : World} (hH : w.heap.size ≤ H) (hlt : H < w3.heap.size) (hn : H ∉ blkOf a) (h0 : ∃ v, w3.cell? ⟨H, 0, none⟩ = some v) (h1 : ∃ v, w3.cell? ⟨H, 1, none⟩ = some v) (h2 : ∃ v, w3.cell? ⟨H, 2, none⟩ = some v) (h3 : ∃ v, w3.cell? ⟨H, 3, none⟩ = some v) (h4 : ∃ v, w3.cell? ⟨H, 4, none⟩ = some v)
    (hf : FreshIn intE 3 1 w.heap.size w3.heap.size (.slice a p.args.length c) p.args w3) (hm : p.args.length = m + 1) (hb : Below w.heap.size w w3) :
    CsiR p n m w (.pointer (some ⟨H, 0, none⟩)) (((((w3.setCell ⟨H, 0, none⟩ (.int .i64 4)).setCell ⟨H, 1, none⟩ (.int .i64 n)).setCell ⟨H, 2, none⟩ (.bool p.priv)).setCell ⟨H, 3, none⟩ (.slice a (m + 1) c)).setCell ⟨H, 4, none⟩ (.string ⟨#[]⟩)) := by
  obtain ⟨v0, h0⟩ := h0
  obtain ⟨v1, h1⟩ := h1
  obtain ⟨v2, h2⟩ := h2
  obtain ⟨v3, h3⟩ := h3
  obtain ⟨v4, h4⟩ := h4
  have hc : Ch (fun k => k = H) w3 (((((w3.setCell ⟨H, 0, none⟩ (.int .i64 4)).setCell ⟨H, 1, none⟩ (.int .i64 n)).setCell ⟨H, 2, none⟩ (.bool p.priv)).setCell ⟨H, 3, none⟩ (.slice a (m + 1) c)).setCell ⟨H, 4, none⟩ (.string ⟨#[]⟩)) := ((((Ch.set1 _ _ _ _).setB _ _).setB _ _).setB _ _).setB _ _
  refine ⟨H, a, c, rfl, hH, Nat.lt_of_lt_of_le hlt hc.size, hn, ?_, ?_, ?_, ?_, ?_, hf.ch hc (fun k hk e => hn (e ▸ hk)), hb.trans (hc.below (Nat.le_trans hH (by omega)) (fun k hk => by omega))⟩
  all_goals simp [go_sem, h0, h1, h2, h3, h4, hlt]
theorem csiR_alloc {p : PV} {n m c : Nat} {a : Option Addr} {w w3 : World} (hb : Below w.heap.size w w3) (hf : FreshIn intE 3 1 w.heap.size w3.heap.size (.slice a p.args.length c) p.args w3) (hm : p.args.length = m + 1) :
    CsiR p n m w (.pointer (some ⟨w3.heap.size, 0, none⟩)) (w3.alloc (.cells #[.int .i64 4, .int .i64 n, .bool p.priv, .slice a (m + 1) c, .string ⟨#[]⟩] 38)) := by
  have hc : Ch (fun _ => False) w3 (w3.alloc (.cells #[.int .i64 4, .int .i64 n, .bool p.priv, .slice a (m + 1) c, .string ⟨#[]⟩] 38)) := Ch.refl.alloc _
  refine ⟨w3.heap.size, a, c, rfl, hb.size, by simp, fun h => by have := (FreshIn.blks hf _ h).2; omega, ?_, ?_, ?_, ?_, ?_, hf.ch hc (fun _ _ h => h), hb.alloc hb.size _⟩
  all_goals simp [go_sem]
theorem csi_r (p : PV) (X lo : Nat) (ap al : Option Addr) (cp cl : Nat) (L : List ActA) (b : UInt8) (w : World) (h : QS X lo p ap cp L al cl w) (hL : L.length ≤ 1048576) (hs : p.state = 2) (hAA : argsB p.args = true) (hT : p.text = e0) (hU : p.utf = e0) :
    Calls Tryz.prog 135 #[.pointer (some ⟨X, 0, none⟩), .int .i64 b.toNat] w (fun e w' => QR X lo (cstep p b) L e w w') := by
  obtain ⟨iI, hI, hI0, hI1, hI2⟩ := info_parts Tryz.infoInt
  have HP := Lib.hid h
  have k_0 : w.cell? ⟨X, 0, none⟩ = some (.int .i64 2) := by rw [h.ps.c0, hs]
  have k_2 : w.cell? ⟨X, 2, none⟩ = some (.bool p.priv) := h.ps.c2
  have k_3 : w.cell? ⟨X, 3, none⟩ = some (.string ⟨#[]⟩) := by rw [h.ps.c3, hT]
  have k_4 : w.cell? ⟨X, 4, none⟩ = some (.string ⟨#[]⟩) := by rw [h.ps.c4, hU]
  have k_5 := h.c5
  simp only [argsB, Bool.and_eq_true, decide_eq_true_eq, List.all_eq_true] at hAA
  obtain ⟨⟨hl1, hl8⟩, hall⟩ := hAA
  obtain ⟨g, rfl, hg1, _, hg3, ho⟩ := h.ps.args.block (by omega)
  obtain ⟨m, hm⟩ : ∃ m, p.args.length = m + 1 := ⟨p.args.length - 1, by omega⟩
  have k_1 : w.cell? ⟨X, 1, none⟩ = some (.slice (some ⟨g, 0, none⟩) (m + 1) cp) := by rw [h.ps.c1, hm]
  have HLM := Lib.hid hm
  have HST := Lib.hid hs
  have HTX := Lib.hid hT
  have HUX := Lib.hid hU
  have hXg : ¬ X = g := fun e => h.ps.nB (by simp [blkOf, e])
  have hgX : ¬ g = X := fun e => hXg e.symm
  have hlm : m < p.args.length := by omega
  obtain ⟨x, hx⟩ : ∃ x, p.args[m]'hlm = x := ⟨_, rfl⟩
  have HXE := Lib.hid hx
  have a_m : w.cell? ⟨g, m, none⟩ = some (.int .i64 x) := by
    have := (h.ps.args.sl (fun _ => rfl) : Sl intE 1 w (some ⟨g, 0, none⟩) p.args)
    obtain ⟨b1, o1, he, _, hc⟩ := this.at hlm
    cases he
    have h2 := hc m hlm 0 (by omega)
    simpa [intE, hx] using h2
  have HSL : Hid (Sl intE 1 w (some ⟨g, 0, none⟩) p.args) := Lib.hid (h.ps.args.sl (fun _ => rfl))
  have hxb : -1 ≤ x ∧ x ≤ 9999 := by
    rw [← hx]
    exact hall _ (List.getElem_mem _)
  obtain ⟨hx1, hx2⟩ := hxb
  have HX : Hid (lastA p.args = x) := Lib.hid (by rw [last_at hm]; exact hx)
  have HX0 : Hid (m = 0 → x = -1 → p.args = [-1]) := Lib.hid (fun h0 h1 => by
    subst h0
    exact one_at hm (by rw [hx]; exact h1))
  have HX1 : Hid (p.args = [-1] → m = 0 ∧ x = -1) := Lib.hid (fun h0 => by
    have e1 : m = 0 := by rw [h0] at hm; simp at hm; omega
    subst e1
    refine ⟨rfl, ?_⟩
    rw [← hx]
    simp [h0])
  have hm7 : m ≤ 7 := by omega
  clear ho hall hs hT hU hx hl1 hm
  have kf := h.ps.fz
  have klt := h.ps.lt
  have hlo : lo ≤ w.heap.size := by have := h.lo; omega
  have h256 : b.toNat < 256 := b.toNat_lt
  clear h
  obtain ⟨Gr, hG⟩ : ∃ G, cstep p b = G := ⟨_, rfl⟩
  have HGG := Lib.hid hG
  rw [hG]
  clear hG
  obtain ⟨n, hn⟩ : ∃ n, b.toNat = n := ⟨_, rfl⟩
  rw [hn] at h256 ⊢
  have HN := Lib.hid hn
  clear hn
  by_cases h27 : n = 27
  case pos =>
    have HR : Hid (Gr = (pst 1, [])) := Lib.hid (by rw [← HGG.out]; exact cs1 HN.out h27)
    have g27 : ((n : Int) == 27) = true := by subst h27; rfl
    clear h27
    go_enter Tryz.func135, Tryz.ntmps135
    go_wp2_with fail
    refine (ground_r X lo _ (some ⟨g, 0, none⟩) al cp cl L _ HP.out).mono ?_
    rintro e w1 ⟨rfl, g', hg', hq, hc⟩
    have HQ := Lib.hid hq
    have HC := Lib.hid hc
    have y_0 := hq.ps.c0
    have y_1 := hq.ps.c1
    have y_2 := hq.ps.c2
    have y_3 := hq.ps.c3
    have y_4 := hq.ps.c4
    have y_5 := hq.c5
    have yf := hq.ps.fz
    have ylt := hq.ps.lt
    clear hq hc
    go_wp2_with fail
    refine bodyPost_end (v := .tuple #[]) (by simp [results, Tryz.results135]) rfl ?_
    refine QR.only (p' := pst 1) (HQ.out.cells ?hc ?_ ?_ ?_ ?_ ?_ ?_ ?_ (.inl ⟨rfl, rfl, rfl⟩)) HP.out (HC.out.trans ?hc (fun i hi => .inl hi)) HR.out
    case hc => repeat (first | (with_reducible exact Ch.refl) | (with_reducible refine Ch.alloc ?_ _) | (with_reducible refine Ch.drew ?_) | (with_reducible refine Ch.setB ?_ _ _))
    all_goals first | (intro o; simp [go_sem, yf, ylt]; done) | (simp [go_sem, y_0, y_1, y_2, y_3, y_4, y_5, ylt, pst, pz]; done)
  have g27 : ((n : Int) == 27) = false := beq_eq_false_iff_ne.2 (by omega)
  obtain ⟨c, hc⟩ : ∃ c, ctl n = c := ⟨_, rfl⟩
  have HCT : Hid (ctlI (n : Int) = c) := Lib.hid (by rw [ctl_eq]; exact hc)
  have HCC := Lib.hid hc
  clear hc
  cases c
  case true =>
    have HR : Hid (Gr = (p, [⟨2, n, false, [], e0⟩])) := Lib.hid (by rw [← HGG.out]; exact cs2 HN.out h27 HCC.out)
    go_enter Tryz.func135, Tryz.ntmps135
    go_wp2_with (go_at_call 78; refine (control_r _ _).mono ?_; rw [HCT.out]; rintro e w' ⟨rfl, rfl⟩)
    refine (tell_r X lo p (some ⟨g, 0, none⟩) al none cp cl 0 L ⟨2, n, false, [], e0⟩ _ HP.out (FreshIn.nil _ _ _ _ _ _) (by simp [blkOf]) hL (by simp)).mono ?_
    rintro e w1 hq
    have HQ := Lib.hid hq
    obtain ⟨rfl, _⟩ := hq
    go_wp2_with fail
    refine bodyPost_end (v := .tuple #[]) (by simp [results, Tryz.results135]) rfl ?_
    rw [HR.out]
    exact HQ.out
  obtain ⟨v8, hv8⟩ : ∃ v, inB (n : Int) 48 57 = v := ⟨_, rfl⟩
  have HV8 := Lib.hid hv8
  clear hv8
  cases v8
  case true =>
    have h3 : 48 ≤ n ∧ n ≤ 57 := by have := HV8.out; simp [inB] at this; omega
    have HR : Hid (Gr = ({ p with args := p.args.dropLast ++ [min 9999 (max 0 x * 10 + ((n : Int) - 48))] }, [])) := Lib.hid (by rw [← HGG.out, cs3 HN.out HCC.out h3, HX.out])
    obtain ⟨h31, h32⟩ := h3
    have g31 : (48 : Int) ≤ (n : Int) := by omega
    have g32 : (n : Int) ≤ 57 := by omega
    obtain ⟨y, hy⟩ : ∃ y, max 0 x = y := ⟨_, rfl⟩
    have hy0 : 0 ≤ y := by omega
    have hy1 : y ≤ 9999 := by omega
    rw [hy] at HR
    have HY := Lib.hid hy
    clear h31 h32 hy
    go_enter Tryz.func135, Tryz.ntmps135
    go_upto_region 9 with (first | (go_at_call 78; refine (control_r _ _).mono ?_; rw [HCT.out]; rintro e w' ⟨rfl, rfl⟩) | (go_at_call 60; refine (l01In_c _ _ _ _).mono ?_; (first | rw [HV8.out] | rw [HV6.out]); rintro e w' ⟨rfl, rfl⟩))
    have HSRC : Hid (Src Tryz.prog 1 36 (.slice (some ⟨g, 0, none⟩) (m + 1) cp) p.args.length (p.args.flatMap intE) (w.alloc (.cells #[] 3))) := Lib.hid (by
      have h1 := Src.ofSl (P := Tryz.prog) (tx := 36) (enc := intE) (sz := 1) (xs := p.args) Tryz.underlying36 (fun _ => rfl) intOne (HSL.out.alloc (.cells #[] 3)) cp
      rwa [HLM.out] at h1 ⊢)
    have HFZ : Hid (FreshIn intE 3 1 w.heap.size (w.alloc (.cells #[] 3)).heap.size (.slice (some ⟨w.heap.size, 0, none⟩) 0 0) ([] : List Int) (w.alloc (.cells #[] 3))) := Lib.hid (fresh_zero _ _ _ rfl (Nat.le_refl _))
    go_wp2_with (at_builtin; refine wpList_append_ch (.tmp 39) (.tmp 44) 36 36 w.heap.size 3 iI (.int .i64 0) 1 8 Tryz.underlying36 hI hI0 hI1 hI2 rfl (by decide) (some ⟨w.heap.size, 0, none⟩) 0 0 ([] : List Int) HFZ.out (.slice (some ⟨g, 0, none⟩) (m + 1) cp) p.args HSRC.out (by simp; omega) (by simp) rfl rfl rfl rfl ?_)
    intro a1 c1 w1 us hus hf hc hk
    have HUS : Hid (us = p.args) := Lib.hid (by simpa using hus.out)
    rw [HUS.out] at hf
    have HLS : Hid (us.length = m + 1) := Lib.hid (by rw [HUS.out]; exact HLM.out)
    rw [HLS.out]
    have HF := Lib.hid hf
    have HC1 : Hid (Ch (fun _ => False) w w1) := Lib.hid ((Ch.refl.alloc _).trans hc (fun i hi => .inr (by simp [blkOf] at hi; omega)))
    obtain ⟨g1, rfl, hg11, hg12, hg13, ho1⟩ := hf.block (by rw [HLM.out]; omega)
    have ym : w1.cell? ⟨g1, m, none⟩ = some (.int .i64 x) := by
      have := (hf.sl (fun _ => rfl) : Sl intE 1 w1 (some ⟨g1, 0, none⟩) p.args)
      obtain ⟨b1, o1, he, _, hc2⟩ := this.at hlm
      cases he
      have h2 := hc2 m hlm 0 (by omega)
      simpa [intE, HXE.out] using h2
    have gf1 : ∀ o, w1.frozen? ⟨g1, o, none⟩ = false := fun o => ho1.frozenAt o
    have hX1 : ¬ X = g1 := by omega
    have h1X : ¬ g1 = X := by omega
    have ylt : X < w1.heap.size := by omega
    have y_0 := (HC1.out.cell (p := ⟨X, 0, none⟩) klt (fun h => h)).trans k_0
    have y_1 := (HC1.out.cell (p := ⟨X, 1, none⟩) klt (fun h => h)).trans k_1
    have y_2 := (HC1.out.cell (p := ⟨X, 2, none⟩) klt (fun h => h)).trans k_2
    have y_5 := (HC1.out.cell (p := ⟨X, 5, none⟩) klt (fun h => h)).trans k_5
    have yf : ∀ o, w1.frozen? ⟨X, o, none⟩ = false := fun o => (HC1.out.frozen (p := ⟨X, o, none⟩) klt (fun h => h)).trans (kf o)
    have em : (m : Int) < (m : Int) + 1 := by omega
    clear hus hf hc hk ho1
    have HVE : Hid (min 9999 (max 0 x * 10 + (n : Int) - 48) = min 9999 (y * 10 + ((n : Int) - 48))) := Lib.hid (by rw [HY.out]; omega)
    go_wp2_with fail
    all_goals
      rw [HVE.out]
      have hset := set_last HLM.out (min 9999 (y * 10 + ((n : Int) - 48)))
      refine bodyPost_end (v := .tuple #[]) (by simp [results, Tryz.results135]) rfl ?_
      refine QR.only (p' := { p with args := p.args.set m (min 9999 (y * 10 + ((n : Int) - 48))) }) (HP.out.arg2 (w1 := w1.setCell ⟨g1, m, none⟩ (.int .i64 (min 9999 (y * 10 + ((n : Int) - 48))))) ((HC1.out.mono (fun i hi => hi.elim)).setCell (p := ⟨g1, m, none⟩) (.inr hg11) _) (HF.out.setI hlm _) (by rw [List.length_set, HLM.out])) HP.out ?_ (by rw [HR.out, hset])
      exact ((HC1.out.mono (M := fun k => k = X) (fun i hi => hi.elim)).setCell (p := ⟨g1, m, none⟩) (.inr hg11) _).setB 1 _
  have h3 : ¬ (48 ≤ n ∧ n ≤ 57) := by have := HV8.out; simp [inB] at this; omega
  by_cases h59 : n = 59
  case pos =>
    have g59 : ((n : Int) == 59) = true := by subst h59; rfl
    have H59 := Lib.hid h59
    have HV6 : Hid (inB (n : Int) 64 126 = false) := Lib.hid (by subst h59; rfl)
    have HH63 : Hid (¬ (n = 63 ∧ p.args = [-1] ∧ p.priv = false)) := Lib.hid (fun h => by omega)
    have HH64 : Hid (¬ (64 ≤ n ∧ n ≤ 126)) := Lib.hid (by omega)
    have g63 : ((n : Int) == 63) = false := beq_eq_false_iff_ne.2 (by omega)
    clear h59
    by_cases hm8 : m < 7
    case neg =>
      have gm8 : ¬ (m : Int) + 1 < 8 := by omega
      have HH59 : Hid (¬ (n = 59 ∧ p.args.length < 8)) := Lib.hid (fun h => by rw [HLM.out] at h; omega)
      have HR : Hid (Gr = (pst 3, [])) := Lib.hid (by rw [← HGG.out]; exact cs7 HN.out h27 HCC.out h3 HH59.out HH63.out HH64.out)
      go_enter Tryz.func135, Tryz.ntmps135
      go_wp2_with (first | (go_at_call 78; refine (control_r _ _).mono ?_; rw [HCT.out]; rintro e w' ⟨rfl, rfl⟩) | (go_at_call 60; refine (l01In_c _ _ _ _).mono ?_; (first | rw [HV8.out] | rw [HV6.out]); rintro e w' ⟨rfl, rfl⟩))
      refine (ground_r X lo _ (some ⟨g, 0, none⟩) al cp cl L _ HP.out).mono ?_
      rintro e w1 ⟨rfl, g', hg', hq, hc⟩
      have HQ := Lib.hid hq
      have HC := Lib.hid hc
      have y_0 := hq.ps.c0
      have y_1 := hq.ps.c1
      have y_2 := hq.ps.c2
      have y_3 := hq.ps.c3
      have y_4 := hq.ps.c4
      have y_5 := hq.c5
      have yf := hq.ps.fz
      have ylt := hq.ps.lt
      clear hq hc
      go_wp2_with fail
      refine bodyPost_end (v := .tuple #[]) (by simp [results, Tryz.results135]) rfl ?_
      refine QR.only (p' := pst 3) (HQ.out.cells ?hc ?_ ?_ ?_ ?_ ?_ ?_ ?_ (.inl ⟨rfl, rfl, rfl⟩)) HP.out (HC.out.trans ?hc (fun i hi => .inl hi)) HR.out
      case hc => repeat (first | (with_reducible exact Ch.refl) | (with_reducible refine Ch.alloc ?_ _) | (with_reducible refine Ch.drew ?_) | (with_reducible refine Ch.setB ?_ _ _))
      all_goals first | (intro o; simp [go_sem, yf, ylt]; done) | (simp [go_sem, y_0, y_1, y_2, y_3, y_4, y_5, ylt, pst, pz]; done)
    have HR : Hid (Gr = ({ p with args := p.args ++ [-1] }, [])) := Lib.hid (by rw [← HGG.out]; exact cs4 HN.out HCC.out ⟨H59.out, by rw [HLM.out]; omega⟩)
    have gm8 : (m : Int) + 1 < 8 := by omega
    go_enter Tryz.func135, Tryz.ntmps135
    go_upto_region 13 with (first | (go_at_call 78; refine (control_r _ _).mono ?_; rw [HCT.out]; rintro e w' ⟨rfl, rfl⟩) | (go_at_call 60; refine (l01In_c _ _ _ _).mono ?_; (first | rw [HV8.out] | rw [HV6.out]); rintro e w' ⟨rfl, rfl⟩))
    have HSRC : Hid (Src Tryz.prog 1 36 (.slice (some ⟨g, 0, none⟩) (m + 1) cp) p.args.length (p.args.flatMap intE) (w.alloc (.cells #[] 3))) := Lib.hid (by
      have h1 := Src.ofSl (P := Tryz.prog) (tx := 36) (enc := intE) (sz := 1) (xs := p.args) Tryz.underlying36 (fun _ => rfl) intOne (HSL.out.alloc (.cells #[] 3)) cp
      rwa [HLM.out] at h1 ⊢)
    have HFZ : Hid (FreshIn intE 3 1 w.heap.size (w.alloc (.cells #[] 3)).heap.size (.slice (some ⟨w.heap.size, 0, none⟩) 0 0) ([] : List Int) (w.alloc (.cells #[] 3))) := Lib.hid (fresh_zero _ _ _ rfl (Nat.le_refl _))
    go_wp2_with (at_builtin; refine wpList_append_ch (.tmp 73) (.tmp 78) 36 36 w.heap.size 3 iI (.int .i64 0) 1 8 Tryz.underlying36 hI hI0 hI1 hI2 rfl (by decide) (some ⟨w.heap.size, 0, none⟩) 0 0 ([] : List Int) HFZ.out (.slice (some ⟨g, 0, none⟩) (m + 1) cp) p.args HSRC.out (by simp; omega) (by simp) rfl rfl rfl rfl ?_)
    intro a1 c1 w1 us hus hf hc hk
    have HUS : Hid (us = p.args) := Lib.hid (by simpa using hus.out)
    rw [HUS.out] at hf
    have HLS : Hid (us.length = m + 1) := Lib.hid (by rw [HUS.out]; exact HLM.out)
    rw [HLS.out]
    have HF := Lib.hid hf
    have HC1 : Hid (Ch (fun _ => False) w w1) := Lib.hid ((Ch.refl.alloc _).trans hc (fun i hi => .inr (by simp [blkOf] at hi; omega)))
    obtain ⟨g1, rfl, hg11, hg12, hg13, ho1⟩ := hf.block (by rw [HLM.out]; omega)
    have ylt : X < w1.heap.size := by omega
    have HSR2 : Hid (Src Tryz.prog 1 36 (.slice (some ⟨w1.heap.size, 0, none⟩) 1 1) [(-1 : Int)].length ([(-1 : Int)].flatMap intE) (w1.alloc (.cells #[.int .i64 (-1)] 3))) := Lib.hid (Src.ofBox (enc := intE) Tryz.underlying36 (fun _ => rfl) intOne (-1 : Int) _ _ (by first | rfl | simp [intE]) _ rfl)
    have hrow := hf.ch (M := fun _ => False) (Ch.of_below ((Below.refl _ _).alloc (Nat.le_refl _) (.cells #[.int .i64 (-1)] 3))) (fun _ _ h => h)
    rw [HLM.out] at hrow
    have HROW := Lib.hid hrow
    clear hus hf hc hk ho1 hrow
    go_wp2_with (at_builtin; refine wpList_append_ch (.tmp 79) (.tmp 80) 36 36 w.heap.size 3 iI (.int .i64 0) 1 8 Tryz.underlying36 hI hI0 hI1 hI2 rfl (by decide) (some ⟨g1, 0, none⟩) (m + 1) c1 p.args HROW.out (.slice (some ⟨w1.heap.size, 0, none⟩) 1 1) [(-1 : Int)] HSR2.out (by rw [HLM.out]; simp; omega) (by simp; omega) rfl rfl rfl rfl ?_)
    intro a2 c2 w2 vs hus hf hc hk
    have HVS := hus
    have HF2 := Lib.hid hf
    have HC2 : Hid (Ch (fun _ => False) w w2) := Lib.hid ((HC1.out.alloc _).trans hc (fun i hi => .inr (by simp [blkOf] at hi; omega)))
    have y_1 := (HC2.out.cell (p := ⟨X, 1, none⟩) klt (fun h => h)).trans k_1
    have yf : ∀ o, w2.frozen? ⟨X, o, none⟩ = false := fun o => (HC2.out.frozen (p := ⟨X, o, none⟩) klt (fun h => h)).trans (kf o)
    have ylt2 := Nat.lt_of_lt_of_le klt HC2.out.size
    clear hus hf hc hk
    go_wp2_with fail
    refine bodyPost_end (v := .tuple #[]) (by simp [results, Tryz.results135]) rfl ?_
    refine QR.only (p' := { p with args := vs }) (HP.out.arg2 (HC2.out.mono (fun i hi => hi.elim)) HF2.out rfl) HP.out ?_ (by rw [HR.out, HVS.out])
    exact (HC2.out.mono (fun i hi => hi.elim)).setB 1 _
  have g59 : ((n : Int) == 59) = false := beq_eq_false_iff_ne.2 (by omega)
  have HH59 : Hid (¬ (n = 59 ∧ p.args.length < 8)) := Lib.hid (fun h => h59 h.1)
  by_cases h63 : n = 63
  case pos =>
    have g63 : ((n : Int) == 63) = true := by subst h63; rfl
    have HV6 : Hid (inB (n : Int) 64 126 = false) := Lib.hid (by subst h63; rfl)
    have HH64 : Hid (¬ (64 ≤ n ∧ n ≤ 126)) := Lib.hid (by omega)
    have H63 := Lib.hid h63
    clear h63
    by_cases hm0 : m = 0
    case neg =>
      have gm0 : ((m : Int) == 0) = false := beq_eq_false_iff_ne.2 (by omega)
      have HH63 : Hid (¬ (n = 63 ∧ p.args = [-1] ∧ p.priv = false)) := Lib.hid (fun h => hm0 (HX1.out h.2.1).1)
      have HR : Hid (Gr = (pst 3, [])) := Lib.hid (by rw [← HGG.out]; exact cs7 HN.out h27 HCC.out h3 HH59.out HH63.out HH64.out)
      go_enter Tryz.func135, Tryz.ntmps135
      go_wp2_with (first | (go_at_call 78; refine (control_r _ _).mono ?_; rw [HCT.out]; rintro e w' ⟨rfl, rfl⟩) | (go_at_call 60; refine (l01In_c _ _ _ _).mono ?_; (first | rw [HV8.out] | rw [HV6.out]); rintro e w' ⟨rfl, rfl⟩))
      refine (ground_r X lo _ (some ⟨g, 0, none⟩) al cp cl L _ HP.out).mono ?_
      rintro e w1 ⟨rfl, g', hg', hq, hc⟩
      have HQ := Lib.hid hq
      have HC := Lib.hid hc
      have y_0 := hq.ps.c0
      have y_1 := hq.ps.c1
      have y_2 := hq.ps.c2
      have y_3 := hq.ps.c3
      have y_4 := hq.ps.c4
      have y_5 := hq.c5
      have yf := hq.ps.fz
      have ylt := hq.ps.lt
      clear hq hc
      go_wp2_with fail
      refine bodyPost_end (v := .tuple #[]) (by simp [results, Tryz.results135]) rfl ?_
      refine QR.only (p' := pst 3) (HQ.out.cells ?hc ?_ ?_ ?_ ?_ ?_ ?_ ?_ (.inl ⟨rfl, rfl, rfl⟩)) HP.out (HC.out.trans ?hc (fun i hi => .inl hi)) HR.out
      case hc => repeat (first | (with_reducible exact Ch.refl) | (with_reducible refine Ch.alloc ?_ _) | (with_reducible refine Ch.drew ?_) | (with_reducible refine Ch.setB ?_ _ _))
      all_goals first | (intro o; simp [go_sem, yf, ylt]; done) | (simp [go_sem, y_0, y_1, y_2, y_3, y_4, y_5, ylt, pst, pz]; done)
    have gm0 : ((m : Int) == 0) = true := by subst hm0; rfl
    have a_0 : w.cell? ⟨g, 0, none⟩ = some (.int .i64 x) := by rw [← a_m, hm0]
    have HM0 := Lib.hid hm0
    clear hm0
    by_cases hxm : x = -1
    case neg =>
      have gx : ¬ x < 0 := by omega
      have HH63 : Hid (¬ (n = 63 ∧ p.args = [-1] ∧ p.priv = false)) := Lib.hid (fun h => hxm (HX1.out h.2.1).2)
      have HR : Hid (Gr = (pst 3, [])) := Lib.hid (by rw [← HGG.out]; exact cs7 HN.out h27 HCC.out h3 HH59.out HH63.out HH64.out)
      go_enter Tryz.func135, Tryz.ntmps135
      go_wp2_with (first | (go_at_call 78; refine (control_r _ _).mono ?_; rw [HCT.out]; rintro e w' ⟨rfl, rfl⟩) | (go_at_call 60; refine (l01In_c _ _ _ _).mono ?_; (first | rw [HV8.out] | rw [HV6.out]); rintro e w' ⟨rfl, rfl⟩))
      refine (ground_r X lo _ (some ⟨g, 0, none⟩) al cp cl L _ HP.out).mono ?_
      rintro e w1 ⟨rfl, g', hg', hq, hc⟩
      have HQ := Lib.hid hq
      have HC := Lib.hid hc
      have y_0 := hq.ps.c0
      have y_1 := hq.ps.c1
      have y_2 := hq.ps.c2
      have y_3 := hq.ps.c3
      have y_4 := hq.ps.c4
      have y_5 := hq.c5
      have yf := hq.ps.fz
      have ylt := hq.ps.lt
      clear hq hc
      go_wp2_with fail
      refine bodyPost_end (v := .tuple #[]) (by simp [results, Tryz.results135]) rfl ?_
      refine QR.only (p' := pst 3) (HQ.out.cells ?hc ?_ ?_ ?_ ?_ ?_ ?_ ?_ (.inl ⟨rfl, rfl, rfl⟩)) HP.out (HC.out.trans ?hc (fun i hi => .inl hi)) HR.out
      case hc => repeat (first | (with_reducible exact Ch.refl) | (with_reducible refine Ch.alloc ?_ _) | (with_reducible refine Ch.drew ?_) | (with_reducible refine Ch.setB ?_ _ _))
      all_goals first | (intro o; simp [go_sem, yf, ylt]; done) | (simp [go_sem, y_0, y_1, y_2, y_3, y_4, y_5, ylt, pst, pz]; done)
    have gx : x < 0 := by omega
    have HXM := Lib.hid hxm
    clear hxm
    obtain ⟨pv, hpv⟩ : ∃ b, p.priv = b := ⟨_, rfl⟩
    rw [hpv] at k_2
    have HPV := Lib.hid hpv
    clear hpv
    cases pv
    case true =>
      have HH63 : Hid (¬ (n = 63 ∧ p.args = [-1] ∧ p.priv = false)) := Lib.hid (fun h => by rw [HPV.out] at h; exact absurd h.2.2 (by simp))
      have HR : Hid (Gr = (pst 3, [])) := Lib.hid (by rw [← HGG.out]; exact cs7 HN.out h27 HCC.out h3 HH59.out HH63.out HH64.out)
      go_enter Tryz.func135, Tryz.ntmps135
      go_wp2_with (first | (go_at_call 78; refine (control_r _ _).mono ?_; rw [HCT.out]; rintro e w' ⟨rfl, rfl⟩) | (go_at_call 60; refine (l01In_c _ _ _ _).mono ?_; (first | rw [HV8.out] | rw [HV6.out]); rintro e w' ⟨rfl, rfl⟩))
      refine (ground_r X lo _ (some ⟨g, 0, none⟩) al cp cl L _ HP.out).mono ?_
      rintro e w1 ⟨rfl, g', hg', hq, hc⟩
      have HQ := Lib.hid hq
      have HC := Lib.hid hc
      have y_0 := hq.ps.c0
      have y_1 := hq.ps.c1
      have y_2 := hq.ps.c2
      have y_3 := hq.ps.c3
      have y_4 := hq.ps.c4
      have y_5 := hq.c5
      have yf := hq.ps.fz
      have ylt := hq.ps.lt
      clear hq hc
      go_wp2_with fail
      refine bodyPost_end (v := .tuple #[]) (by simp [results, Tryz.results135]) rfl ?_
      refine QR.only (p' := pst 3) (HQ.out.cells ?hc ?_ ?_ ?_ ?_ ?_ ?_ ?_ (.inl ⟨rfl, rfl, rfl⟩)) HP.out (HC.out.trans ?hc (fun i hi => .inl hi)) HR.out
      case hc => repeat (first | (with_reducible exact Ch.refl) | (with_reducible refine Ch.alloc ?_ _) | (with_reducible refine Ch.drew ?_) | (with_reducible refine Ch.setB ?_ _ _))
      all_goals first | (intro o; simp [go_sem, yf, ylt]; done) | (simp [go_sem, y_0, y_1, y_2, y_3, y_4, y_5, ylt, pst, pz]; done)
    have HR : Hid (Gr = ({ p with priv := true }, [])) := Lib.hid (by rw [← HGG.out]; exact cs5 HN.out HCC.out ⟨H63.out, HX0.out HM0.out HXM.out, HPV.out⟩)
    go_enter Tryz.func135, Tryz.ntmps135
    go_wp2_with (first | (go_at_call 78; refine (control_r _ _).mono ?_; rw [HCT.out]; rintro e w' ⟨rfl, rfl⟩) | (go_at_call 60; refine (l01In_c _ _ _ _).mono ?_; (first | rw [HV8.out] | rw [HV6.out]); rintro e w' ⟨rfl, rfl⟩))
    refine bodyPost_end (v := .tuple #[]) (by simp [results, Tryz.results135]) rfl ?_
    refine QR.only (p' := { p with priv := true }) (HP.out.cells ?hc ?_ ?_ ?_ ?_ ?_ ?_ ?_ (.inl ⟨rfl, rfl, rfl⟩)) HP.out ?hc HR.out
    case hc => repeat (first | (with_reducible exact Ch.refl) | (with_reducible refine Ch.alloc ?_ _) | (with_reducible refine Ch.drew ?_) | (with_reducible refine Ch.setB ?_ _ _))
    all_goals first | (intro o; simp [go_sem, kf, klt]; done) | (simp [go_sem, k_0, k_1, k_2, k_3, k_4, k_5, klt, HST.out, HTX.out, HUX.out, HLM.out]; done)
  have g63 : ((n : Int) == 63) = false := beq_eq_false_iff_ne.2 (by omega)
  have HH63 : Hid (¬ (n = 63 ∧ p.args = [-1] ∧ p.priv = false)) := Lib.hid (fun h => h63 h.1)
  obtain ⟨v6, hv6⟩ : ∃ v, inB (n : Int) 64 126 = v := ⟨_, rfl⟩
  have HV6 := Lib.hid hv6
  clear hv6
  cases v6
  case false =>
    have HH64 : Hid (¬ (64 ≤ n ∧ n ≤ 126)) := Lib.hid (by have := HV6.out; simp [inB] at this; omega)
    have HR : Hid (Gr = (pst 3, [])) := Lib.hid (by rw [← HGG.out]; exact cs7 HN.out h27 HCC.out h3 HH59.out HH63.out HH64.out)
    go_enter Tryz.func135, Tryz.ntmps135
    go_wp2_with (first | (go_at_call 78; refine (control_r _ _).mono ?_; rw [HCT.out]; rintro e w' ⟨rfl, rfl⟩) | (go_at_call 60; refine (l01In_c _ _ _ _).mono ?_; (first | rw [HV8.out] | rw [HV6.out]); rintro e w' ⟨rfl, rfl⟩))
    refine (ground_r X lo _ (some ⟨g, 0, none⟩) al cp cl L _ HP.out).mono ?_
    rintro e w1 ⟨rfl, g', hg', hq, hc⟩
    have HQ := Lib.hid hq
    have HC := Lib.hid hc
    have y_0 := hq.ps.c0
    have y_1 := hq.ps.c1
    have y_2 := hq.ps.c2
    have y_3 := hq.ps.c3
    have y_4 := hq.ps.c4
    have y_5 := hq.c5
    have yf := hq.ps.fz
    have ylt := hq.ps.lt
    clear hq hc
    go_wp2_with fail
    refine bodyPost_end (v := .tuple #[]) (by simp [results, Tryz.results135]) rfl ?_
    refine QR.only (p' := pst 3) (HQ.out.cells ?hc ?_ ?_ ?_ ?_ ?_ ?_ ?_ (.inl ⟨rfl, rfl, rfl⟩)) HP.out (HC.out.trans ?hc (fun i hi => .inl hi)) HR.out
    case hc => repeat (first | (with_reducible exact Ch.refl) | (with_reducible refine Ch.alloc ?_ _) | (with_reducible refine Ch.drew ?_) | (with_reducible refine Ch.setB ?_ _ _))
    all_goals first | (intro o; simp [go_sem, yf, ylt]; done) | (simp [go_sem, y_0, y_1, y_2, y_3, y_4, y_5, ylt, pst, pz]; done)
  have HR : Hid (Gr = (pz, [⟨4, n, p.priv, p.args, e0⟩])) := Lib.hid (by rw [← HGG.out]; exact cs6 HN.out HCC.out (by have := HV6.out; simp [inB] at this; omega))
  go_enter Tryz.func135, Tryz.ntmps135
  go_upto_region 17 with (first | (go_at_call 78; refine (control_r _ _).mono ?_; rw [HCT.out]; rintro e w' ⟨rfl, rfl⟩) | (go_at_call 60; refine (l01In_c _ _ _ _).mono ?_; (first | rw [HV8.out] | rw [HV6.out]); rintro e w' ⟨rfl, rfl⟩))
  go_cut [6] (fun s wx => CsiR p n m w s wx)
  case first =>
    have hS0 : w.cell? ⟨X, 2, none⟩ = some (.bool p.priv) ∧ w.cell? ⟨X, 1, none⟩ = some (.slice (some ⟨g, 0, none⟩) (m + 1) cp) := ⟨k_2, k_1⟩
    refine wp_region_G (fun w' => w'.cell? ⟨X, 2, none⟩ = some (.bool p.priv) ∧ w'.cell? ⟨X, 1, none⟩ = some (.slice (some ⟨g, 0, none⟩) (m + 1) cp)) (fun i => i == 15) (by kernel_rfl) hS0 ?_
    refine tW ?_ 0 rfl ?_ ?_; rotate_left
    · intro w' hSw; go_simp; try rfl
    try simp only [Act.put,j1,j2,j3,j4,j5,j6]
    refine tW ?_ 1 rfl ?_ ?_; rotate_left
    · intro w' hSw; go_simp; try rfl
    try simp only [Act.put,j1,j2,j3,j4,j5,j6]
    refine tW ?_ 2 rfl ?_ ?_; rotate_left
    · intro w' hSw; go_simp; try rfl
    try simp only [Act.put,j1,j2,j3,j4,j5,j6]
    refine tW ?_ 3 rfl ?_ ?_; rotate_left
    · intro w' hSw; go_simp; try rfl
    try simp only [Act.put,j1,j2,j3,j4,j5,j6]
    refine tW ?_ 4 rfl ?_ ?_; rotate_left
    · intro w' hSw; go_simp; try rfl
    try simp only [Act.put,j1,j2,j3,j4,j5,j6]
    refine tL ?_ 5 rfl hS0 ?_ ?_; rotate_left
    · intro w' hSw; obtain ⟨s0, s1⟩ := hSw; go_simp; try rfl
    try simp only [Act.put,j1,j2,j3,j4,j5,j6]
    refine tW ?_ 7 rfl ?_ ?_; rotate_left
    · intro w' hSw; go_simp; try rfl
    try simp only [Act.put,j1,j2,j3,j4,j5,j6]
    refine tW ?_ 8 rfl ?_ ?_; rotate_left
    · intro w' hSw; go_simp; try rfl
    try simp only [Act.put,j1,j2,j3,j4,j5,j6]
    refine tW ?_ 9 rfl ?_ ?_; rotate_left
    · intro w' hSw; go_simp; try rfl
    try simp only [Act.put,j1,j2,j3,j4,j5,j6]
    refine tW ?_ 10 rfl ?_ ?_; rotate_left
    · intro w' hSw; go_simp; try rfl
    try simp only [Act.put,j1,j2,j3,j4,j5,j6]
    refine tL ?_ 11 rfl hS0 ?_ ?_; rotate_left
    · intro w' hSw; obtain ⟨s0, s1⟩ := hSw; go_simp; try rfl
    try simp only [Act.put,j1,j2,j3,j4,j5,j6]
    refine wpAnyG_br (rs := [6, 14]) (by kernel_rfl) (by simp) ?_
    intro j hj
    simp only [List.mem_cons, List.not_mem_nil, or_false] at hj
    rcases hj with rfl | rfl
    · skip
      refine ⟨_, rfl, fun K' hK => ?_⟩
      simp only [j1,j2,j3]
      go_simp
      obtain ⟨x1, hx1⟩ : ∃ x, (w.alloc (.cells #[] 3)).drew = x := ⟨_, rfl⟩
      have HB1 : Hid (Below w.heap.size w x1) := Lib.hid (by rw [← hx1]; exact (((Below.refl _ _).alloc (Nat.le_refl _) _).drew))
      have hz1 : w.heap.size < x1.heap.size := by rw [← hx1]; simp
      have hlt1 := Nat.lt_of_lt_of_le klt HB1.out.size
      have hS1 : x1.cell? ⟨X, 2, none⟩ = some (.bool p.priv) ∧ x1.cell? ⟨X, 1, none⟩ = some (.slice (some ⟨g, 0, none⟩) (m + 1) cp) := ⟨(HB1.out.cell (p := ⟨X, 2, none⟩) klt).trans k_2, (HB1.out.cell (p := ⟨X, 1, none⟩) klt).trans k_1⟩
      have HFZ : Hid (FreshIn intE 3 1 w.heap.size x1.heap.size (.slice (some ⟨w.heap.size, 0, none⟩) 0 0) ([] : List Int) x1) := Lib.hid (by rw [← hx1]; exact (fresh_zero w.heap.size w _ rfl (by omega)).ch (M := fun _ => False) (Ch.of_below ((Below.refl _ _).drew)) (fun _ _ h => h))
      have HBW := HB1
      rw [hx1]
      clear hx1
      refine hK.out _ _ (Or.inr hS1) ?_
      clear hK K'
      try simp only [Act.put,j1,j2,j3,j4,j5,j6]
      refine wpAnyG_br (rs := [12, 14]) (by kernel_rfl) (by simp) ?_
      intro j hj
      simp only [List.mem_cons, List.not_mem_nil, or_false] at hj
      rcases hj with rfl | rfl
      · skip
        refine ⟨_, rfl, fun K' hK => ?_⟩
        simp only [j1,j2,j3]
        have HSRC : Hid (Src Tryz.prog 1 36 (.slice (some ⟨g, 0, none⟩) (m + 1) cp) p.args.length (p.args.flatMap intE) x1) := Lib.hid (by
          have h1 := Src.ofSl (P := Tryz.prog) (tx := 36) (enc := intE) (sz := 1) (xs := p.args) Tryz.underlying36 (fun _ => rfl) intOne (HSL.out.keep HBW.out) cp
          rwa [HLM.out] at h1 ⊢)
        rw [if_pos (by rfl)]
        refine step_append_ch (.tmp 123) (.tmp 128) 36 36 w.heap.size 3 iI (.int .i64 0) 1 8 Tryz.underlying36 hI hI0 hI1 hI2 rfl (by decide) (some ⟨w.heap.size, 0, none⟩) 0 0 ([] : List Int) HFZ.out (.slice (some ⟨g, 0, none⟩) (m + 1) cp) p.args HSRC.out (by simp; omega) (by omega) ?_ ?_ ?_ ?_
        · rfl
        · rfl
        · rfl
        intro a1 c1 x2 us hus hf hc hk
        have HUS : Hid (us = p.args) := Lib.hid (by simpa using hus.out)
        rw [HUS.out] at hf
        have HLS : Hid (us.length = m + 1) := Lib.hid (by rw [HUS.out]; exact HLM.out)
        rw [HLS.out]
        have HF := Lib.hid hf
        have HK := Lib.hid hk
        have HC := Lib.hid hc
        have HBX : Hid (Below w.heap.size w x2) := Lib.hid (HBW.out.trans (hc.below (by omega) (fun i hi => by simp [blkOf] at hi; omega)))
        have hz2 := hc.size
        have hlt2 : X < x2.heap.size := by omega
        have hS2 : x2.cell? ⟨X, 2, none⟩ = some (.bool p.priv) ∧ x2.cell? ⟨X, 1, none⟩ = some (.slice (some ⟨g, 0, none⟩) (m + 1) cp) := ⟨(HBX.out.cell (p := ⟨X, 2, none⟩) klt).trans k_2, (HBX.out.cell (p := ⟨X, 1, none⟩) klt).trans k_1⟩
        clear hus hf hc hk
        refine hK.out _ _ (Or.inr hS2) ?_
        clear hK K'
        try simp only [Act.put,j1,j2,j3,j4,j5,j6]
        refine tW ?_ 13 rfl ?_ ?_; rotate_left
        · intro w' hSw; go_simp; try rfl
        try simp only [Act.put,j1,j2,j3,j4,j5,j6]
        refine wpAnyG_one (i := 14) (by kernel_rfl) rfl hS2 (fun K' hK => ?_)
        simp only [j1,j2,j3]
        go_simp
        obtain ⟨x3, hx3⟩ : ∃ x, (x2.alloc (.cells #[.int .i64 0, .int .i64 0, .bool false, .slice none 0 0, .string ⟨#[]⟩] 38)) = x := ⟨_, rfl⟩
        have HB3 : Hid (Below x2.heap.size x2 x3) := Lib.hid (by rw [← hx3]; exact (((Below.refl _ _).alloc (Nat.le_refl _) _)))
        have hz3 : x2.heap.size < x3.heap.size := by rw [← hx3]; simp
        have hlt3 := Nat.lt_of_lt_of_le hlt2 HB3.out.size
        have hS3 : x3.cell? ⟨X, 2, none⟩ = some (.bool p.priv) ∧ x3.cell? ⟨X, 1, none⟩ = some (.slice (some ⟨g, 0, none⟩) (m + 1) cp) := ⟨(HB3.out.cell (p := ⟨X, 2, none⟩) hlt2).trans hS2.1, (HB3.out.cell (p := ⟨X, 1, none⟩) hlt2).trans hS2.2⟩
        have b3_0 : x3.cell? ⟨x2.heap.size, 0, none⟩ = some (.int .i64 0) := by rw [← hx3]; simp [go_sem]
        have b3_1 : x3.cell? ⟨x2.heap.size, 1, none⟩ = some (.int .i64 0) := by rw [← hx3]; simp [go_sem]
        have b3_2 : x3.cell? ⟨x2.heap.size, 2, none⟩ = some (.bool false) := by rw [← hx3]; simp [go_sem]
        have b3_3 : x3.cell? ⟨x2.heap.size, 3, none⟩ = some (.slice none 0 0) := by rw [← hx3]; simp [go_sem]
        have b3_4 : x3.cell? ⟨x2.heap.size, 4, none⟩ = some (.string ⟨#[]⟩) := by rw [← hx3]; simp [go_sem]
        have bf3 : ∀ o, x3.frozen? ⟨x2.heap.size, o, none⟩ = false := by intro o; rw [← hx3]; simp [go_sem]
        clear hx3
        refine hK.out _ _ (Or.inr ⟨by simpa [go_sem, hlt2] using hS2.1, by simpa [go_sem, hlt2] using hS2.2⟩) ?_
        clear hK K'
        try simp only [Act.put,j1,j2,j3,j4,j5,j6]
        refine wpAnyG_one (i := 15) (by kernel_rfl) rfl (⟨by simpa [go_sem, hlt2] using hS2.1, by simpa [go_sem, hlt2] using hS2.2⟩) (fun K' hK => ?_)
        simp only [j1,j2,j3]
        go_simp
        refine hK.out _ _ (Or.inl rfl) ?_
        clear hK K'
        try simp only [Act.put,j1,j2,j3,j4,j5,j6]
        refine wpAnyG_done (by kernel_rfl) ?_ _
        go_wp2_with fail
        go_meet
        exact csiR_alloc HBX.out HF.out HLM.out
      · skip
        refine ⟨_, rfl, fun K' hK => ?_⟩
        simp only [j1,j2,j3]
        go_simp
        obtain ⟨x2, hx2⟩ : ∃ x, (x1.alloc (.cells #[.int .i64 0, .int .i64 0, .bool false, .slice none 0 0, .string ⟨#[]⟩] 38)) = x := ⟨_, rfl⟩
        have HB2 : Hid (Below x1.heap.size x1 x2) := Lib.hid (by rw [← hx2]; exact (((Below.refl _ _).alloc (Nat.le_refl _) _)))
        have hz2 : x1.heap.size < x2.heap.size := by rw [← hx2]; simp
        have hlt2 := Nat.lt_of_lt_of_le hlt1 HB2.out.size
        have hS2 : x2.cell? ⟨X, 2, none⟩ = some (.bool p.priv) ∧ x2.cell? ⟨X, 1, none⟩ = some (.slice (some ⟨g, 0, none⟩) (m + 1) cp) := ⟨(HB2.out.cell (p := ⟨X, 2, none⟩) hlt1).trans hS1.1, (HB2.out.cell (p := ⟨X, 1, none⟩) hlt1).trans hS1.2⟩
        have b2_0 : x2.cell? ⟨x1.heap.size, 0, none⟩ = some (.int .i64 0) := by rw [← hx2]; simp [go_sem]
        have b2_1 : x2.cell? ⟨x1.heap.size, 1, none⟩ = some (.int .i64 0) := by rw [← hx2]; simp [go_sem]
        have b2_2 : x2.cell? ⟨x1.heap.size, 2, none⟩ = some (.bool false) := by rw [← hx2]; simp [go_sem]
        have b2_3 : x2.cell? ⟨x1.heap.size, 3, none⟩ = some (.slice none 0 0) := by rw [← hx2]; simp [go_sem]
        have b2_4 : x2.cell? ⟨x1.heap.size, 4, none⟩ = some (.string ⟨#[]⟩) := by rw [← hx2]; simp [go_sem]
        have bf2 : ∀ o, x2.frozen? ⟨x1.heap.size, o, none⟩ = false := by intro o; rw [← hx2]; simp [go_sem]
        have c2_0 := b2_0
        have c2_1 := b2_1
        have c2_2 := b2_2
        have c2_3 := b2_3
        have c2_4 := b2_4
        have cf2 := bf2
        have HBW : Hid (Below w.heap.size w x2) := Lib.hid (HB1.out.trans (HB2.out.mono (by omega)))
        have HFZ : Hid (FreshIn intE 3 1 w.heap.size x2.heap.size (.slice (some ⟨w.heap.size, 0, none⟩) 0 0) ([] : List Int) x2) := Lib.hid (HFZ.out.ch (M := fun _ => False) (Ch.of_below HB2.out) (fun _ _ h => h))
        rw [hx2]
        clear hx2
        refine hK.out _ _ (Or.inr hS2) ?_
        clear hK K'
        try simp only [Act.put,j1,j2,j3,j4,j5,j6]
        refine wpAnyG_one (i := 12) (by kernel_rfl) rfl hS2 (fun K' hK => ?_)
        simp only [j1,j2,j3]
        have HSRC : Hid (Src Tryz.prog 1 36 (.slice (some ⟨g, 0, none⟩) (m + 1) cp) p.args.length (p.args.flatMap intE) x2) := Lib.hid (by
          have h1 := Src.ofSl (P := Tryz.prog) (tx := 36) (enc := intE) (sz := 1) (xs := p.args) Tryz.underlying36 (fun _ => rfl) intOne (HSL.out.keep HBW.out) cp
          rwa [HLM.out] at h1 ⊢)
        rw [if_pos (by rfl)]
        refine step_append_ch (.tmp 123) (.tmp 128) 36 36 w.heap.size 3 iI (.int .i64 0) 1 8 Tryz.underlying36 hI hI0 hI1 hI2 rfl (by decide) (some ⟨w.heap.size, 0, none⟩) 0 0 ([] : List Int) HFZ.out (.slice (some ⟨g, 0, none⟩) (m + 1) cp) p.args HSRC.out (by simp; omega) (by omega) ?_ ?_ ?_ ?_
        · rfl
        · rfl
        · rfl
        intro a1 c1 x3 us hus hf hc hk
        have HUS : Hid (us = p.args) := Lib.hid (by simpa using hus.out)
        rw [HUS.out] at hf
        have HLS : Hid (us.length = m + 1) := Lib.hid (by rw [HUS.out]; exact HLM.out)
        rw [HLS.out]
        have HF := Lib.hid hf
        have HK := Lib.hid hk
        have HC := Lib.hid hc
        have HBX : Hid (Below w.heap.size w x3) := Lib.hid (HBW.out.trans (hc.below (by omega) (fun i hi => by simp [blkOf] at hi; omega)))
        have hz3 := hc.size
        have hlt3 : X < x3.heap.size := by omega
        have hS3 : x3.cell? ⟨X, 2, none⟩ = some (.bool p.priv) ∧ x3.cell? ⟨X, 1, none⟩ = some (.slice (some ⟨g, 0, none⟩) (m + 1) cp) := ⟨(HBX.out.cell (p := ⟨X, 2, none⟩) klt).trans k_2, (HBX.out.cell (p := ⟨X, 1, none⟩) klt).trans k_1⟩
        clear hus hf hc hk
        have hHE : ¬ x1.heap.size = w.heap.size := by omega
        have q_0 : x3.cell? ⟨x1.heap.size, 0, none⟩ = some (.int .i64 0) := (HC.out.cell (p := ⟨x1.heap.size, 0, none⟩) (by show x1.heap.size < _; omega) (by simpa [blkOf] using hHE)).trans c2_0
        have q_1 : x3.cell? ⟨x1.heap.size, 1, none⟩ = some (.int .i64 0) := (HC.out.cell (p := ⟨x1.heap.size, 1, none⟩) (by show x1.heap.size < _; omega) (by simpa [blkOf] using hHE)).trans c2_1
        have q_2 : x3.cell? ⟨x1.heap.size, 2, none⟩ = some (.bool false) := (HC.out.cell (p := ⟨x1.heap.size, 2, none⟩) (by show x1.heap.size < _; omega) (by simpa [blkOf] using hHE)).trans c2_2
        have q_3 : x3.cell? ⟨x1.heap.size, 3, none⟩ = some (.slice none 0 0) := (HC.out.cell (p := ⟨x1.heap.size, 3, none⟩) (by show x1.heap.size < _; omega) (by simpa [blkOf] using hHE)).trans c2_3
        have q_4 : x3.cell? ⟨x1.heap.size, 4, none⟩ = some (.string ⟨#[]⟩) := (HC.out.cell (p := ⟨x1.heap.size, 4, none⟩) (by show x1.heap.size < _; omega) (by simpa [blkOf] using hHE)).trans c2_4
        have qf : ∀ o, x3.frozen? ⟨x1.heap.size, o, none⟩ = false := fun o => (HC.out.frozen (p := ⟨x1.heap.size, o, none⟩) (by show x1.heap.size < _; omega) (by simpa [blkOf] using hHE)).trans (cf2 o)
        have hHlt : x1.heap.size < x3.heap.size := by omega
        refine hK.out _ _ (Or.inr hS3) ?_
        clear hK K'
        try simp only [Act.put,j1,j2,j3,j4,j5,j6]
        refine tW ?_ 13 rfl ?_ ?_; rotate_left
        · intro w' hSw; go_simp; try rfl
        try simp only [Act.put,j1,j2,j3,j4,j5,j6]
        refine wpAnyG_one (i := 15) (by kernel_rfl) rfl hS3 (fun K' hK => ?_)
        simp only [j1,j2,j3]
        go_simp
        refine hK.out _ _ (Or.inl rfl) ?_
        clear hK K'
        try simp only [Act.put,j1,j2,j3,j4,j5,j6]
        refine wpAnyG_done (by kernel_rfl) ?_ _
        go_wp2_with fail
        go_meet
        exact csiR_store (by omega) (by omega) (fun hb => by have := HK.out _ hb; simp [blkOf] at this; omega) ⟨_, q_0⟩ ⟨_, q_1⟩ ⟨_, q_2⟩ ⟨_, q_3⟩ ⟨_, q_4⟩ HF.out HLM.out HBX.out
    · skip
      refine ⟨_, rfl, fun K' hK => ?_⟩
      simp only [j1,j2,j3]
      go_simp
      obtain ⟨x1, hx1⟩ : ∃ x, (w.alloc (.cells #[.int .i64 0, .int .i64 0, .bool false, .slice none 0 0, .string ⟨#[]⟩] 38)).drew = x := ⟨_, rfl⟩
      have HB1 : Hid (Below w.heap.size w x1) := Lib.hid (by rw [← hx1]; exact (((Below.refl _ _).alloc (Nat.le_refl _) _).drew))
      have hz1 : w.heap.size < x1.heap.size := by rw [← hx1]; simp
      have hlt1 := Nat.lt_of_lt_of_le klt HB1.out.size
      have hS1 : x1.cell? ⟨X, 2, none⟩ = some (.bool p.priv) ∧ x1.cell? ⟨X, 1, none⟩ = some (.slice (some ⟨g, 0, none⟩) (m + 1) cp) := ⟨(HB1.out.cell (p := ⟨X, 2, none⟩) klt).trans k_2, (HB1.out.cell (p := ⟨X, 1, none⟩) klt).trans k_1⟩
      have b1_0 : x1.cell? ⟨w.heap.size, 0, none⟩ = some (.int .i64 0) := by rw [← hx1]; simp [go_sem]
      have b1_1 : x1.cell? ⟨w.heap.size, 1, none⟩ = some (.int .i64 0) := by rw [← hx1]; simp [go_sem]
      have b1_2 : x1.cell? ⟨w.heap.size, 2, none⟩ = some (.bool false) := by rw [← hx1]; simp [go_sem]
      have b1_3 : x1.cell? ⟨w.heap.size, 3, none⟩ = some (.slice none 0 0) := by rw [← hx1]; simp [go_sem]
      have b1_4 : x1.cell? ⟨w.heap.size, 4, none⟩ = some (.string ⟨#[]⟩) := by rw [← hx1]; simp [go_sem]
      have bf1 : ∀ o, x1.frozen? ⟨w.heap.size, o, none⟩ = false := by intro o; rw [← hx1]; simp [go_sem]
      rw [hx1]
      clear hx1
      refine hK.out _ _ (Or.inr hS1) ?_
      clear hK K'
      try simp only [Act.put,j1,j2,j3,j4,j5,j6]
      refine wpAnyG_one (i := 6) (by kernel_rfl) rfl hS1 (fun K' hK => ?_)
      simp only [j1,j2,j3]
      go_simp
      obtain ⟨x2, hx2⟩ : ∃ x, (x1.alloc (.cells #[] 3)) = x := ⟨_, rfl⟩
      have HB2 : Hid (Below x1.heap.size x1 x2) := Lib.hid (by rw [← hx2]; exact (((Below.refl _ _).alloc (Nat.le_refl _) _)))
      have hz2 : x1.heap.size < x2.heap.size := by rw [← hx2]; simp
      have hlt2 := Nat.lt_of_lt_of_le hlt1 HB2.out.size
      have hS2 : x2.cell? ⟨X, 2, none⟩ = some (.bool p.priv) ∧ x2.cell? ⟨X, 1, none⟩ = some (.slice (some ⟨g, 0, none⟩) (m + 1) cp) := ⟨(HB2.out.cell (p := ⟨X, 2, none⟩) hlt1).trans hS1.1, (HB2.out.cell (p := ⟨X, 1, none⟩) hlt1).trans hS1.2⟩
      have HFZ : Hid (FreshIn intE 3 1 w.heap.size x2.heap.size (.slice (some ⟨x1.heap.size, 0, none⟩) 0 0) ([] : List Int) x2) := Lib.hid (by rw [← hx2]; exact fresh_zero w.heap.size x1 _ rfl (by omega))
      have c2_0 := (HB2.out.cell (p := ⟨w.heap.size, 0, none⟩) (by show w.heap.size < _; omega)).trans b1_0
      have c2_1 := (HB2.out.cell (p := ⟨w.heap.size, 1, none⟩) (by show w.heap.size < _; omega)).trans b1_1
      have c2_2 := (HB2.out.cell (p := ⟨w.heap.size, 2, none⟩) (by show w.heap.size < _; omega)).trans b1_2
      have c2_3 := (HB2.out.cell (p := ⟨w.heap.size, 3, none⟩) (by show w.heap.size < _; omega)).trans b1_3
      have c2_4 := (HB2.out.cell (p := ⟨w.heap.size, 4, none⟩) (by show w.heap.size < _; omega)).trans b1_4
      have cf2 : ∀ o, x2.frozen? ⟨w.heap.size, o, none⟩ = false := fun o => (HB2.out.frozen (p := ⟨w.heap.size, o, none⟩) (by show w.heap.size < _; omega)).trans (bf1 o)
      have HBW : Hid (Below w.heap.size w x2) := Lib.hid (HB1.out.trans (HB2.out.mono (by omega)))
      rw [hx2]
      clear hx2
      refine hK.out _ _ (Or.inr hS2) ?_
      clear hK K'
      try simp only [Act.put,j1,j2,j3,j4,j5,j6]
      refine wpAnyG_one (i := 12) (by kernel_rfl) rfl hS2 (fun K' hK => ?_)
      simp only [j1,j2,j3]
      have HSRC : Hid (Src Tryz.prog 1 36 (.slice (some ⟨g, 0, none⟩) (m + 1) cp) p.args.length (p.args.flatMap intE) x2) := Lib.hid (by
        have h1 := Src.ofSl (P := Tryz.prog) (tx := 36) (enc := intE) (sz := 1) (xs := p.args) Tryz.underlying36 (fun _ => rfl) intOne (HSL.out.keep HBW.out) cp
        rwa [HLM.out] at h1 ⊢)
      rw [if_pos (by rfl)]
      refine step_append_ch (.tmp 123) (.tmp 128) 36 36 w.heap.size 3 iI (.int .i64 0) 1 8 Tryz.underlying36 hI hI0 hI1 hI2 rfl (by decide) (some ⟨x1.heap.size, 0, none⟩) 0 0 ([] : List Int) HFZ.out (.slice (some ⟨g, 0, none⟩) (m + 1) cp) p.args HSRC.out (by simp; omega) (by omega) ?_ ?_ ?_ ?_
      · rfl
      · rfl
      · rfl
      intro a1 c1 x3 us hus hf hc hk
      have HUS : Hid (us = p.args) := Lib.hid (by simpa using hus.out)
      rw [HUS.out] at hf
      have HLS : Hid (us.length = m + 1) := Lib.hid (by rw [HUS.out]; exact HLM.out)
      rw [HLS.out]
      have HF := Lib.hid hf
      have HK := Lib.hid hk
      have HC := Lib.hid hc
      have HBX : Hid (Below w.heap.size w x3) := Lib.hid (HBW.out.trans (hc.below (by omega) (fun i hi => by simp [blkOf] at hi; omega)))
      have hz3 := hc.size
      have hlt3 : X < x3.heap.size := by omega
      have hS3 : x3.cell? ⟨X, 2, none⟩ = some (.bool p.priv) ∧ x3.cell? ⟨X, 1, none⟩ = some (.slice (some ⟨g, 0, none⟩) (m + 1) cp) := ⟨(HBX.out.cell (p := ⟨X, 2, none⟩) klt).trans k_2, (HBX.out.cell (p := ⟨X, 1, none⟩) klt).trans k_1⟩
      clear hus hf hc hk
      have hHE : ¬ w.heap.size = x1.heap.size := by omega
      have q_0 : x3.cell? ⟨w.heap.size, 0, none⟩ = some (.int .i64 0) := (HC.out.cell (p := ⟨w.heap.size, 0, none⟩) (by show w.heap.size < _; omega) (by simpa [blkOf] using hHE)).trans c2_0
      have q_1 : x3.cell? ⟨w.heap.size, 1, none⟩ = some (.int .i64 0) := (HC.out.cell (p := ⟨w.heap.size, 1, none⟩) (by show w.heap.size < _; omega) (by simpa [blkOf] using hHE)).trans c2_1
      have q_2 : x3.cell? ⟨w.heap.size, 2, none⟩ = some (.bool false) := (HC.out.cell (p := ⟨w.heap.size, 2, none⟩) (by show w.heap.size < _; omega) (by simpa [blkOf] using hHE)).trans c2_2
      have q_3 : x3.cell? ⟨w.heap.size, 3, none⟩ = some (.slice none 0 0) := (HC.out.cell (p := ⟨w.heap.size, 3, none⟩) (by show w.heap.size < _; omega) (by simpa [blkOf] using hHE)).trans c2_3
      have q_4 : x3.cell? ⟨w.heap.size, 4, none⟩ = some (.string ⟨#[]⟩) := (HC.out.cell (p := ⟨w.heap.size, 4, none⟩) (by show w.heap.size < _; omega) (by simpa [blkOf] using hHE)).trans c2_4
      have qf : ∀ o, x3.frozen? ⟨w.heap.size, o, none⟩ = false := fun o => (HC.out.frozen (p := ⟨w.heap.size, o, none⟩) (by show w.heap.size < _; omega) (by simpa [blkOf] using hHE)).trans (cf2 o)
      have hHlt : w.heap.size < x3.heap.size := by omega
      refine hK.out _ _ (Or.inr hS3) ?_
      clear hK K'
      try simp only [Act.put,j1,j2,j3,j4,j5,j6]
      refine tW ?_ 13 rfl ?_ ?_; rotate_left
      · intro w' hSw; go_simp; try rfl
      try simp only [Act.put,j1,j2,j3,j4,j5,j6]
      refine wpAnyG_one (i := 15) (by kernel_rfl) rfl hS3 (fun K' hK => ?_)
      simp only [j1,j2,j3]
      go_simp
      refine hK.out _ _ (Or.inl rfl) ?_
      clear hK K'
      try simp only [Act.put,j1,j2,j3,j4,j5,j6]
      refine wpAnyG_done (by kernel_rfl) ?_ _
      go_wp2_with fail
      go_meet
      exact csiR_store (by omega) (by omega) (fun hb => by have := HK.out _ hb; simp [blkOf] at this; omega) ⟨_, q_0⟩ ⟨_, q_1⟩ ⟨_, q_2⟩ ⟨_, q_3⟩ ⟨_, q_4⟩ HF.out HLM.out HBX.out
  case rest =>
    obtain ⟨H, a1, c1, rfl, hH1, hH2, hHa, h_0, h_1, h_2, h_3, h_4, hf, hb⟩ := hcut
    have HF := Lib.hid hf
    have HB := Lib.hid hb
    have HQ0 := Lib.hid (HP.out.keep hb)
    have HHA := Lib.hid hHa
    have hHX : ¬ H = X := by omega
    clear hf hb hHa
    go_wp2_with fail
    refine (ground_r X lo _ (some ⟨g, 0, none⟩) al cp cl L _ HQ0.out).mono ?_
    rintro e w1 ⟨rfl, g', hg', hq, hc⟩
    have HQ := Lib.hid hq
    have HC := Lib.hid hc
    have hz1 := hc.size
    have hHl : H < w1.heap.size := by omega
    have b_0 : w1.cell? ⟨H, 0, none⟩ = some (.int .i64 4) := (hc.cell (p := ⟨H, 0, none⟩) hH2 hHX).trans h_0
    have b_1 : w1.cell? ⟨H, 1, none⟩ = some (.int .i64 n) := (hc.cell (p := ⟨H, 1, none⟩) hH2 hHX).trans h_1
    have b_2 : w1.cell? ⟨H, 2, none⟩ = some (.bool p.priv) := (hc.cell (p := ⟨H, 2, none⟩) hH2 hHX).trans h_2
    have b_3 : w1.cell? ⟨H, 3, none⟩ = some (.slice a1 (m + 1) c1) := (hc.cell (p := ⟨H, 3, none⟩) hH2 hHX).trans h_3
    have b_4 : w1.cell? ⟨H, 4, none⟩ = some (.string ⟨#[]⟩) := (hc.cell (p := ⟨H, 4, none⟩) hH2 hHX).trans h_4
    have hfa := HF.out.ch hc (fun k hk e => by have := (FreshIn.blks HF.out k hk).1; omega)
    have HFA : Hid (FreshIn intE 3 1 lo w1.heap.size (.slice a1 p.args.length c1) p.args w1) := Lib.hid (hfa.mono hlo (Nat.le_refl _))
    have HD : Hid (∀ k ∈ blkOf a1, k ≠ X ∧ k ∉ blkOf (some (⟨g', 0, none⟩ : Addr)) ∧ k ∉ acB al L) := Lib.hid (fun k hk => by
      have h1 := FreshIn.blks HF.out k hk
      refine ⟨by omega, fun h => ?_, fun h => ?_⟩
      · simp [blkOf] at h; omega
      · have := (HP.out.ps.ro.bd actL k h).2; omega)
    have HT : Hid (Calls Tryz.prog 148 #[.pointer (some ⟨X, 0, none⟩), .agg #[.int .i64 4, .int .i64 n, .bool p.priv, .slice a1 (m + 1) c1, .string ⟨#[]⟩]] w1 (fun e w' => QR X lo (pz, [⟨4, n, p.priv, p.args, e0⟩]) L e w1 w')) := Lib.hid (by
      have h1 := tell_r X lo pz (some ⟨g', 0, none⟩) al a1 0 cl c1 L ⟨4, n, p.priv, p.args, e0⟩ w1 HQ.out HFA.out HD.out hL (by show p.args.length ≤ _; omega)
      rw [show (⟨4, n, p.priv, p.args, e0⟩ : AV).args.length = m + 1 from HLM.out] at h1
      exact h1)
    clear hq hc hfa h_0 h_1 h_2 h_3 h_4
    go_wp2_with fail
    refine HT.out.mono ?_
    rintro e w2 hq
    have HQ2 := Lib.hid (hq.base ((HB.out.mono hlo).trans (HQ0.out.below1 HC.out)))
    obtain ⟨rfl, _⟩ := hq
    go_wp2_with fail
    refine bodyPost_end (v := .tuple #[]) (by simp [results, Tryz.results135]) rfl ?_
    rw [HR.out]
    exact HQ2.out
end
section
open Go.RowKit
theorem takeC_r (p : PV) (X lo : Nat) (ap al : Option Addr) (cp cl : Nat) (L : List ActA) (b : UInt8) (w : World) (h : QS X lo p ap cp L al cl w) (hL : L.length ≤ 1048576) (hs : p.state = 2) (hAA : argsB p.args = true) (hT : p.text = e0) (hU : p.utf = e0) :
    Calls Tryz.prog 106 #[.pointer (some ⟨X, 0, none⟩), .int .i64 b.toNat] w (fun e w' => QR X lo (cstep p b) L e w w') := by
  have HCA := Lib.hid (csi_r p X lo ap al cp cl L b w h hL hs hAA hT hU)
  have k_0 : w.cell? ⟨X, 0, none⟩ = some (.int .i64 2) := by rw [h.ps.c0, hs]
  have kf := h.ps.fz
  have klt := h.ps.lt
  clear h hs hAA hT hU
  go_enter Tryz.func106, Tryz.ntmps106
  go_wp2_with fail
  refine HCA.out.mono ?_
  rintro e w1 hq
  have HQ := Lib.hid hq
  obtain ⟨rfl, _⟩ := hq
  go_wp2_with fail
  refine bodyPost_end (v := .tuple #[]) (by simp [results, Tryz.results106]) rfl ?_
  exact HQ.out
theorem take_r (p : PV) (X lo : Nat) (ap al : Option Addr) (cp cl : Nat) (L : List ActA) (b : UInt8) (w : World) (h : QS X lo p ap cp L al cl w) (hL : L.length ≤ 1048575) (ok : PvOK p) :
    Calls Tryz.prog 106 #[.pointer (some ⟨X, 0, none⟩), .int .i64 b.toNat] w (fun e w' => QR X lo (pstep p b) L e w w') := by
  obtain ⟨k1, k2, k3, k4, k5, k6, k7⟩ := ok
  have hL' : L.length ≤ 1048576 := by omega
  unfold pstep
  obtain ⟨s, a, v, t, u⟩ := p
  simp only at k1 k2 k3 k4 k5 k6 k7 ⊢
  by_cases s0 : s = 0
  · rw [if_pos s0]
    obtain ⟨a1, a4⟩ := k3 (by omega)
    have a2 := k5 (by omega) (by omega)
    have a3 := k7 (by omega)
    subst s0 a1 a2 a3 a4
    exact takeG_r X lo ap al cp cl L b w h hL'
  rw [if_neg s0]
  by_cases s1 : s = 1
  · rw [if_pos s1]
    obtain ⟨a1, a4⟩ := k3 (by omega)
    have a2 := k5 (by omega) (by omega)
    have a3 := k7 (by omega)
    subst s1 a1 a2 a3 a4
    exact takeE_r X lo ap al cp cl L b w h hL'
  rw [if_neg s1]
  by_cases s2 : s = 2
  · rw [if_pos s2]
    exact takeC_r _ X lo ap al cp cl L b w h hL' s2 (k2 s2) (k5 (by omega) (by omega)) (k7 (by omega))
  rw [if_neg s2]
  by_cases s3 : s = 3
  · rw [if_pos s3]
    obtain ⟨a1, a4⟩ := k3 (by omega)
    have a2 := k5 (by omega) (by omega)
    have a3 := k7 (by omega)
    subst s3 a1 a2 a3 a4
    exact takeS_r X lo ap al cp cl L b w h hL'
  rw [if_neg s3]
  by_cases s4 : s = 4
  · rw [if_pos s4]
    obtain ⟨a1, a4⟩ := k3 (by omega)
    have a3 := k7 (by omega)
    have hT := titB_sz (k4 (by omega))
    subst s4 a1 a3 a4
    exact takeO_r t X lo ap al cp cl L b w h hL' hT
  rw [if_neg s4]
  by_cases s5 : s = 5
  · rw [if_pos s5]
    obtain ⟨a1, a4⟩ := k3 (by omega)
    have a3 := k7 (by omega)
    subst s5 a1 a3 a4
    exact takeQ_r t X lo ap al cp cl L b w h hL'
  rw [if_neg s5]
  have s6 : s = 6 := by omega
  obtain ⟨a1, a4⟩ := k3 (by omega)
  have a2 := k5 (by omega) (by omega)
  have hT := k6 s6
  subst s6 a1 a2 a4
  exact takeU_r u X lo ap al cp cl L b w h hL hT
end
end Go.Proofs.YtjmpgeffkdjpdaaGreatDoor
