/- Contracts of the functions that the claim reaches. No conditions but sizes. -/
import Derived.Test.YtjmpgeffkdjpdaaGreatDoorPRze
namespace Go.Proofs.YtjmpgeffkdjpdaaGreatDoor
set_option linter.unusedVariables false
set_option linter.unusedSimpArgs false
set_option maxRecDepth 100000
set_option maxHeartbeats 16000000
section
open Go.RowKit
theorem hcapE {α : Type} {enc : α → List Value} {e : TypeId} {sz lo hi n : Nat} {a : Option Addr} {c : Nat} {xs : List α} {w : World} (h : FreshIn enc e sz lo hi (.slice a n c) xs w) (hn : xs.length = n) : n ≤ c := by
  obtain ⟨⟨a', c', hv, h1, _⟩, _⟩ := h
  cases hv
  exact h1
theorem slOld {α : Type} {enc : α → List Value} {sz : Nat} {w0 w1 w2 w3 : World} {a : Option Addr} {xs : List α} {M : Nat → Prop} (h : Sl enc sz w0 a xs) (h1 : Below w0.heap.size w0 w1) (h2 : Below w1.heap.size w1 w2) (h3 : Ch M w2 w3) (hM : ∀ k, k < w0.heap.size → ¬ M k) : Sl enc sz w3 a xs := by
  rcases h with rfl | ⟨b, off, rfl, hb, hc⟩
  · exact Sl.nil
  · exact (((show Sl enc sz w0 (some ⟨b, off, none⟩) xs from .inr ⟨b, off, rfl, hb, hc⟩).keep h1).keep h2).ch h3 (fun k hk => by
      simp only [blkOf, List.mem_singleton] at hk
      rw [hk]
      exact hM b hb)
theorem min_i (a b : Nat) : min (a : Int) (b : Int) = ((min a b : Nat) : Int) := by omega
theorem resized_c (s : Scr) (ok : ScrOK s) (ac : Option Addr) (cc : Nat) (ah : Option Addr) (dh : Nat) (wd ht : Nat) (w : World) (h : ScrS s ac ah w) (hcc : s.cells.length ≤ cc) (w1 : 2 ≤ wd) (w2 : wd ≤ 24) (h1 : 2 ≤ ht) (h2 : ht ≤ 10) :
    Calls Tryz.prog 26 #[scrV s ac cc ah dh, .int .i64 wd, .int .i64 ht] w (ScrN (resS s wd ht) w) := by
  have h0 : 0 < s.cells.length := by rw [ok.cn]; exact Nat.mul_pos (by have := ok.w1; omega) (by have := ok.h1; omega)
  obtain ⟨b1, o1, rfl, hb1w, _⟩ := h.cs.at h0
  have HR := Lib.hid h
  have HOK := Lib.hid ok
  obtain ⟨sw, hsw⟩ : ∃ n, s.w = n := ⟨_, rfl⟩
  obtain ⟨sh, hsh⟩ : ∃ n, s.h = n := ⟨_, rfl⟩
  obtain ⟨nc, hnc⟩ : ∃ n, s.cells.length = n := ⟨_, rfl⟩
  have HSW := Lib.hid hsw
  have HSH := Lib.hid hsh
  have HNC := Lib.hid hnc
  have hs1 : 2 ≤ sw := by rw [← hsw]; exact ok.w1
  have hs2 : sw ≤ 24 := by rw [← hsw]; exact ok.w2
  have hs3 : 2 ≤ sh := by rw [← hsh]; exact ok.h1
  have hs4 : sh ≤ 10 := by rw [← hsh]; exact ok.h2
  have hcn : nc = sh * sw := by rw [← hnc, ok.cn, hsw, hsh, Nat.mul_comm]
  have HCN := Lib.hid hcn
  have hnc2 : nc ≤ 240 := by rw [hcn]; exact Nat.mul_le_mul hs4 hs2
  have e1 := min_i s.x wd
  have e2 := min_i s.sx wd
  have e3 : min (s.y : Int) ((ht : Int) - 1) = ((min s.y (ht - 1) : Nat) : Int) := by omega
  have e4 : min (s.sy : Int) ((ht : Int) - 1) = ((min s.sy (ht - 1) : Nat) : Int) := by omega
  have E1 := Lib.hid e1
  have E2 := Lib.hid e2
  have E3 := Lib.hid e3
  have E4 := Lib.hid e4
  have HLK : (s.look : Int) ≤ 127 := by have := ok.lk; omega
  unfold scrV
  rw [hsw, hsh, hnc]
  rw [hnc] at hcc h0
  clear ok h hsw hsh hnc hcn e1 e2 e3 e4
  go_enter Tryz.func26, Tryz.ntmps26
  go_wp2_with fail
  refine (newScreen_c wd ht _ w2 h2 (by omega) (by omega)).mono ?_
  rintro e x1 ⟨ga, gc, gh, gd, rfl, hF, hb⟩
  have s1_0 : x1.cell? ⟨w.heap.size, 0, none⟩ = some (.int .i64 (sw : Int)) := kC hb (by simp; omega) (by simp [go_sem])
  have s1_1 : x1.cell? ⟨w.heap.size, 1, none⟩ = some (.int .i64 (sh : Int)) := kC hb (by simp; omega) (by simp [go_sem])
  have s1_2 : x1.cell? ⟨w.heap.size, 2, none⟩ = some (.int .i64 (s.x : Int)) := kC hb (by simp; omega) (by simp [go_sem])
  have s1_3 : x1.cell? ⟨w.heap.size, 3, none⟩ = some (.int .i64 (s.y : Int)) := kC hb (by simp; omega) (by simp [go_sem])
  have s1_4 : x1.cell? ⟨w.heap.size, 4, none⟩ = some (.int .i64 (s.look : Int)) := kC hb (by simp; omega) (by simp [go_sem])
  have s1_5 : x1.cell? ⟨w.heap.size, 5, none⟩ = some (.int .i64 (s.top : Int)) := kC hb (by simp; omega) (by simp [go_sem])
  have s1_6 : x1.cell? ⟨w.heap.size, 6, none⟩ = some (.int .i64 (s.bot : Int)) := kC hb (by simp; omega) (by simp [go_sem])
  have s1_7 : x1.cell? ⟨w.heap.size, 7, none⟩ = some (.int .i64 (s.sx : Int)) := kC hb (by simp; omega) (by simp [go_sem])
  have s1_8 : x1.cell? ⟨w.heap.size, 8, none⟩ = some (.int .i64 (s.sy : Int)) := kC hb (by simp; omega) (by simp [go_sem])
  have s1_9 : x1.cell? ⟨w.heap.size, 9, none⟩ = some (.string s.title) := kC hb (by simp; omega) (by simp [go_sem])
  have s1_10 : x1.cell? ⟨w.heap.size, 10, none⟩ = some (.slice (some ⟨b1, o1, none⟩) nc cc) := kC hb (by simp; omega) (by simp [go_sem])
  have s1_11 : x1.cell? ⟨w.heap.size, 11, none⟩ = some (.slice ah s.hist.length dh) := kC hb (by simp; omega) (by simp [go_sem])
  have s1_l : w.heap.size < x1.heap.size := (by have := hb.size; simp at this; omega)
  have z2_0 : x1.cell? ⟨(w.heap.size + 1), 0, none⟩ = some (.int .i64 0) := kC hb (by simp) (by simp [go_sem])
  have z2_1 : x1.cell? ⟨(w.heap.size + 1), 1, none⟩ = some (.int .i64 0) := kC hb (by simp) (by simp [go_sem])
  have z2_2 : x1.cell? ⟨(w.heap.size + 1), 2, none⟩ = some (.int .i64 0) := kC hb (by simp) (by simp [go_sem])
  have z2_3 : x1.cell? ⟨(w.heap.size + 1), 3, none⟩ = some (.int .i64 0) := kC hb (by simp) (by simp [go_sem])
  have z2_4 : x1.cell? ⟨(w.heap.size + 1), 4, none⟩ = some (.int .i64 0) := kC hb (by simp) (by simp [go_sem])
  have z2_5 : x1.cell? ⟨(w.heap.size + 1), 5, none⟩ = some (.int .i64 0) := kC hb (by simp) (by simp [go_sem])
  have z2_6 : x1.cell? ⟨(w.heap.size + 1), 6, none⟩ = some (.int .i64 0) := kC hb (by simp) (by simp [go_sem])
  have z2_7 : x1.cell? ⟨(w.heap.size + 1), 7, none⟩ = some (.int .i64 0) := kC hb (by simp) (by simp [go_sem])
  have z2_8 : x1.cell? ⟨(w.heap.size + 1), 8, none⟩ = some (.int .i64 0) := kC hb (by simp) (by simp [go_sem])
  have z2_9 : x1.cell? ⟨(w.heap.size + 1), 9, none⟩ = some (.string ⟨#[]⟩) := kC hb (by simp) (by simp [go_sem])
  have z2_10 : x1.cell? ⟨(w.heap.size + 1), 10, none⟩ = some (.slice none 0 0) := kC hb (by simp) (by simp [go_sem])
  have z2_11 : x1.cell? ⟨(w.heap.size + 1), 11, none⟩ = some (.slice none 0 0) := kC hb (by simp) (by simp [go_sem])
  have z2_l : (w.heap.size + 1) < x1.heap.size := (by have := hb.size; simp at this; omega)
  have z2_f : ∀ o, x1.frozen? ⟨(w.heap.size + 1), o, none⟩ = false := fun o => (hb.frozen (p := ⟨w.heap.size + 1, o, none⟩) (by show w.heap.size + 1 < _; simp)).trans (by simp [go_sem])
  obtain ⟨g, rfl⟩ := hF.blk (by simp [newS, blanksL]; exact Nat.mul_pos (by omega) (by omega))
  have HF := Lib.hid hF
  have HB1 : Hid (Below w.heap.size w x1) := Lib.hid ((((Below.refl _ _).alloc (Nat.le_refl _) _).alloc (by simp) _).trans (hb.mono (by simp; omega)))
  clear hF hb
  unfold scrV
  have hnl : (newS wd ht).cells.length = wd * ht := by simp [newS, blanksL]
  obtain ⟨m, hm⟩ : ∃ m, wd * ht = m := ⟨_, rfl⟩
  rw [hnl, hm]
  have HM := Lib.hid hm
  have hm2 : m ≤ 240 := by rw [← hm]; exact Nat.mul_le_mul w2 h2
  clear hnl hm
  simp only [newS, List.length_nil]
  have hglo := (FreshIn.blks HF.out.row g (by simp [blkOf])).1
  have hgx := (FreshIn.blks HF.out.row g (by simp [blkOf])).2
  simp only [World.size_alloc] at hglo
  go_upto_region 2 with fail
  obtain ⟨mn, hmn⟩ : ∃ n, min ht sh = n := ⟨_, rfl⟩
  have hmin : min (ht : Int) (sh : Int) = (mn : Int) := by omega
  have hmn1 : mn ≤ ht := by omega
  have hmn2 : mn ≤ sh := by omega
  have HMN := Lib.hid hmn
  obtain ⟨x2, hx2⟩ : ∃ x, x1.alloc (.cells #[.int .i64 (wd : Int), .int .i64 (ht : Int), .int .i64 0, .int .i64 0, .int .i64 0, .int .i64 0, .int .i64 ((ht - 1 : Nat) : Int), .int .i64 0, .int .i64 0, .string e0, .slice (some ⟨g, 0, none⟩) m gc, .slice gh 0 gd] 26) = x := ⟨_, rfl⟩
  have hbx : Below x1.heap.size x1 x2 := by rw [← hx2]; exact (Below.refl _ _).alloc (Nat.le_refl _) _
  have r3_0 : x2.cell? ⟨x1.heap.size, 0, none⟩ = some (.int .i64 (wd : Int)) := (by rw [← hx2]; simp [go_sem])
  have r3_1 : x2.cell? ⟨x1.heap.size, 1, none⟩ = some (.int .i64 (ht : Int)) := (by rw [← hx2]; simp [go_sem])
  have r3_2 : x2.cell? ⟨x1.heap.size, 2, none⟩ = some (.int .i64 0) := (by rw [← hx2]; simp [go_sem])
  have r3_3 : x2.cell? ⟨x1.heap.size, 3, none⟩ = some (.int .i64 0) := (by rw [← hx2]; simp [go_sem])
  have r3_4 : x2.cell? ⟨x1.heap.size, 4, none⟩ = some (.int .i64 0) := (by rw [← hx2]; simp [go_sem])
  have r3_5 : x2.cell? ⟨x1.heap.size, 5, none⟩ = some (.int .i64 0) := (by rw [← hx2]; simp [go_sem])
  have r3_6 : x2.cell? ⟨x1.heap.size, 6, none⟩ = some (.int .i64 ((ht - 1 : Nat) : Int)) := (by rw [← hx2]; simp [go_sem])
  have r3_7 : x2.cell? ⟨x1.heap.size, 7, none⟩ = some (.int .i64 0) := (by rw [← hx2]; simp [go_sem])
  have r3_8 : x2.cell? ⟨x1.heap.size, 8, none⟩ = some (.int .i64 0) := (by rw [← hx2]; simp [go_sem])
  have r3_9 : x2.cell? ⟨x1.heap.size, 9, none⟩ = some (.string e0) := (by rw [← hx2]; simp [go_sem])
  have r3_10 : x2.cell? ⟨x1.heap.size, 10, none⟩ = some (.slice (some ⟨g, 0, none⟩) m gc) := (by rw [← hx2]; simp [go_sem])
  have r3_11 : x2.cell? ⟨x1.heap.size, 11, none⟩ = some (.slice gh 0 gd) := (by rw [← hx2]; simp [go_sem])
  have r3_l : x1.heap.size < x2.heap.size := (by rw [← hx2]; simp)
  have r3_f : ∀ o, x2.frozen? ⟨x1.heap.size, o, none⟩ = false := fun o => (by rw [← hx2]; simp [go_sem])
  have s4_0 := kC hbx s1_l s1_0
  have s4_1 := kC hbx s1_l s1_1
  have s4_2 := kC hbx s1_l s1_2
  have s4_3 := kC hbx s1_l s1_3
  have s4_4 := kC hbx s1_l s1_4
  have s4_5 := kC hbx s1_l s1_5
  have s4_6 := kC hbx s1_l s1_6
  have s4_7 := kC hbx s1_l s1_7
  have s4_8 := kC hbx s1_l s1_8
  have s4_9 := kC hbx s1_l s1_9
  have s4_10 := kC hbx s1_l s1_10
  have s4_11 := kC hbx s1_l s1_11
  have s4_l := Nat.lt_of_lt_of_le s1_l hbx.size
  clear s1_0 s1_1 s1_2 s1_3 s1_4 s1_5 s1_6 s1_7 s1_8 s1_9 s1_10 s1_11 s1_l
  have z5_0 := kC hbx z2_l z2_0
  have z5_1 := kC hbx z2_l z2_1
  have z5_2 := kC hbx z2_l z2_2
  have z5_3 := kC hbx z2_l z2_3
  have z5_4 := kC hbx z2_l z2_4
  have z5_5 := kC hbx z2_l z2_5
  have z5_6 := kC hbx z2_l z2_6
  have z5_7 := kC hbx z2_l z2_7
  have z5_8 := kC hbx z2_l z2_8
  have z5_9 := kC hbx z2_l z2_9
  have z5_10 := kC hbx z2_l z2_10
  have z5_11 := kC hbx z2_l z2_11
  have z5_l : (w.heap.size + 1) < x2.heap.size := Nat.lt_of_lt_of_le z2_l hbx.size
  have z5_f := fun o => kF hbx z2_l (z2_f o)
  clear z2_0 z2_1 z2_2 z2_3 z2_4 z2_5 z2_6 z2_7 z2_8 z2_9 z2_10 z2_11 z2_l z2_f
  have HX12 := Lib.hid r3_l
  have HBX := Lib.hid hbx
  have HF2 : Hid (FreshIn celE 87 2 (w.heap.size + 2) x2.heap.size (.slice (some ⟨g, 0, none⟩) m gc) (resK s wd ht 0) x2) := Lib.hid (by
    have h := (HF.out.row.below hbx).mono (lo' := w.heap.size + 2) (by simp) hbx.size
    have hl : (newS wd ht).cells.length = m := by rw [← HM.out]; simp [newS, blanksL]
    rw [hl] at h
    rw [resK_zero, Nat.mul_comm]
    exact h)
  have HSC : Hid (Sl celE 2 x2 (some ⟨b1, o1, none⟩) s.cells) := Lib.hid ((HR.out.cs.keep HB1.out).keep hbx)
  rw [hx2]
  clear hx2 hbx hmn
  go_wp2_with fail
  go_loopw [16] (fun i wr => ∃ k : Nat, k ≤ mn ∧ i = .int .i64 k ∧ Hid (FreshIn celE 87 2 (w.heap.size + 2) wr.heap.size (.slice (some ⟨g, 0, none⟩) m gc) (resK s wd ht k) wr ∧ Ch (· = g) x2 wr)) (fun i _ => mn - (intOf i).toNat)
  case atStart => exact ⟨0, Nat.zero_le _, rfl, Lib.hid ⟨HF2.out, Ch.refl⟩⟩
  case round =>
    obtain ⟨k, hk, rfl, HQ⟩ := hrel
    have HCH := Lib.hid HQ.out.2
    by_cases hlt : k < mn
    · have hlt' : (k : Int) < (mn : Int) := by omega
      have s_0 : wr.cell? ⟨w.heap.size, 0, none⟩ = some (.int .i64 (sw : Int)) := (HCH.out.cell (p := ⟨w.heap.size, 0, none⟩) s4_l (show ¬ w.heap.size = g from by omega)).trans s4_0
      have s_10 : wr.cell? ⟨w.heap.size, 10, none⟩ = some (.slice (some ⟨b1, o1, none⟩) nc cc) := (HCH.out.cell (p := ⟨w.heap.size, 10, none⟩) s4_l (show ¬ w.heap.size = g from by omega)).trans s4_10
      have r_10 : wr.cell? ⟨x1.heap.size, 10, none⟩ = some (.slice (some ⟨g, 0, none⟩) m gc) := (HCH.out.cell (p := ⟨x1.heap.size, 10, none⟩) r3_l (show ¬ x1.heap.size = g from by omega)).trans r3_10
      obtain ⟨pd, hpd⟩ : ∃ p, k * wd = p := ⟨_, rfl⟩
      obtain ⟨qd, hqd⟩ : ∃ q, (k + 1) * wd = q := ⟨_, rfl⟩
      obtain ⟨ps, hps⟩ : ∃ p, k * sw = p := ⟨_, rfl⟩
      obtain ⟨qs, hqs⟩ : ∃ q, (k + 1) * sw = q := ⟨_, rfl⟩
      have hpq : qd = pd + wd := by rw [← hqd, ← hpd, Nat.succ_mul]
      have hpq2 : qs = ps + sw := by rw [← hqs, ← hps, Nat.succ_mul]
      have hqm : qd ≤ m := by rw [← HM.out, ← hqd, Nat.mul_comm wd ht]; exact Nat.mul_le_mul_right _ (by omega)
      have hqn : qs ≤ nc := by rw [HCN.out, ← hqs]; exact Nat.mul_le_mul_right _ (by omega)
      have hgc : m ≤ gc := hcapE HQ.out.1 (by rw [resK_len HOK.out (by omega), Nat.mul_comm, HM.out])
      have hd1 : IntKind.i64.wrap ((k : Int) * (wd : Int)) = (pd : Int) := by rw [← Int.natCast_mul, hpd]; exact IntWalk.i64_in _ ⟨by omega, by omega⟩
      have hd2 : IntKind.i64.wrap ((k : Int) + 1) = ((k : Int) + 1) := IntWalk.i64_in _ ⟨by omega, by omega⟩
      have hd3 : IntKind.i64.wrap (((k : Int) + 1) * (wd : Int)) = (qd : Int) := by
        rw [show ((k : Int) + 1) * (wd : Int) = (qd : Int) by rw [← hqd]; exact (Int.natCast_mul (k + 1) wd).symm]
        exact IntWalk.i64_in _ ⟨by omega, by omega⟩
      have hd4 : IntKind.i64.wrap ((k : Int) * (sw : Int)) = (ps : Int) := by rw [← Int.natCast_mul, hps]; exact IntWalk.i64_in _ ⟨by omega, by omega⟩
      have hd5 : IntKind.i64.wrap (((k : Int) + 1) * (sw : Int)) = (qs : Int) := by
        rw [show ((k : Int) + 1) * (sw : Int) = (qs : Int) by rw [← hqs]; exact (Int.natCast_mul (k + 1) sw).symm]
        exact IntWalk.i64_in _ ⟨by omega, by omega⟩
      have HPD := Lib.hid hpd
      have HE1 : Hid (qd - pd = wd) := Lib.hid (by omega)
      have HE2 : Hid (qs - ps = sw) := Lib.hid (by omega)
      have HKS : Hid (k < s.h) := Lib.hid (by rw [HSH.out]; omega)
      have HYS : Hid (Sl celE 2 wr.drew (some ⟨b1, o1 + ps * 2, none⟩) ((rowC s k).take wd)) := Lib.hid (by
        refine Sl.take' ?_ wd
        unfold rowC
        rw [HSW.out, hps]
        refine Sl.sub (Sl.drew ?_) ps sw (by rw [HNC.out]; omega)
        exact HSC.out.ch HCH.out (fun b hb e => by
          simp only [blkOf, List.mem_singleton] at hb
          omega))
      have i1 : (pd : Int) ≤ (qd : Int) := by omega
      have i2 : (qd : Int) ≤ (gc : Int) := by omega
      have i3 : pd ≤ qd := by omega
      have i4 : qd ≤ gc := by omega
      have i5 : ¬ gc = pd := by omega
      have i6 : (ps : Int) ≤ (qs : Int) := by omega
      have i7 : (qs : Int) ≤ (cc : Int) := by omega
      have i8 : ps ≤ qs := by omega
      have i9 : qs ≤ cc := by omega
      have i10 : ¬ cc = ps := by omega
      have HYL : Hid (((rowC s k).take wd).length = Nat.min (qs - ps) (qd - pd)) := Lib.hid (by
        rw [List.length_take, rowC_len HOK.out HKS.out, HSW.out, HE1.out, HE2.out]
        exact Nat.min_comm _ _)
      have HFT : Hid (pd + ((rowC s k).take wd).length ≤ (resK s wd ht k).length) := Lib.hid (by
        rw [resK_len HOK.out (by omega), List.length_take, Nat.mul_comm, HM.out]
        omega)
      have hS0 : wr.cell? ⟨w.heap.size, 0, none⟩ = some (.int .i64 (sw : Int)) ∧ wr.cell? ⟨w.heap.size, 10, none⟩ = some (.slice (some ⟨b1, o1, none⟩) nc cc) ∧ wr.cell? ⟨x1.heap.size, 10, none⟩ = some (.slice (some ⟨g, 0, none⟩) m gc) := ⟨s_0, s_10, r_10⟩
      clear hpd hqd hps hqs hpq hpq2 s_0 s_10 r_10
      have hl1 := Nat.lt_of_lt_of_le s4_l HCH.out.size
      have hl2 := Nat.lt_of_lt_of_le r3_l HCH.out.size
      have HSB3 : Hid (∀ x, Ch (· = g) wr x → x.cell? ⟨w.heap.size, 0, none⟩ = some (.int .i64 (sw : Int)) ∧ x.cell? ⟨w.heap.size, 10, none⟩ = some (.slice (some ⟨b1, o1, none⟩) nc cc) ∧ x.cell? ⟨x1.heap.size, 10, none⟩ = some (.slice (some ⟨g, 0, none⟩) m gc)) := Lib.hid (fun x h => ⟨(h.cell (p := ⟨w.heap.size, 0, none⟩) hl1 (show ¬ w.heap.size = g from by omega)).trans hS0.1, (h.cell (p := ⟨w.heap.size, 10, none⟩) hl1 (show ¬ w.heap.size = g from by omega)).trans hS0.2.1, (h.cell (p := ⟨x1.heap.size, 10, none⟩) hl2 (show ¬ x1.heap.size = g from by omega)).trans hS0.2.2⟩)
      go_upto_region 5 with fail
      refine wp_region_G (fun w' => w'.cell? ⟨w.heap.size, 0, none⟩ = some (.int .i64 (sw : Int)) ∧ w'.cell? ⟨w.heap.size, 10, none⟩ = some (.slice (some ⟨b1, o1, none⟩) nc cc) ∧ w'.cell? ⟨x1.heap.size, 10, none⟩ = some (.slice (some ⟨g, 0, none⟩) m gc)) (fun i => false) (by kernel_rfl) hS0 ?_
      refine tW ?_ 0 rfl ?_ ?_; rotate_left
      · intro w' hSw; go_simp; try rfl
      try simp only [Act.put,j1,j2,j3,j4,j5,j6]
      refine tL ?_ 1 rfl hS0 ?_ ?_; rotate_left
      · intro w' hSw; obtain ⟨s0, s1, s2⟩ := hSw; go_simp; try rfl
      try simp only [Act.put,j1,j2,j3,j4,j5,j6]
      refine tW ?_ 2 rfl ?_ ?_; rotate_left
      · intro w' hSw; go_simp; try rfl
      try simp only [Act.put,j1,j2,j3,j4,j5,j6]
      refine tW ?_ 3 rfl ?_ ?_; rotate_left
      · intro w' hSw; go_simp; try rfl
      try simp only [Act.put,j1,j2,j3,j4,j5,j6]
      refine tW ?_ 4 rfl ?_ ?_; rotate_left
      · intro w' hSw; go_simp; try rfl
      try simp only [Act.put,j1,j2,j3,j4,j5,j6]
      refine tW ?_ 5 rfl ?_ ?_; rotate_left
      · intro w' hSw; go_simp; try rfl
      try simp only [Act.put,j1,j2,j3,j4,j5,j6]
      refine tW ?_ 6 rfl ?_ ?_; rotate_left
      · intro w' hSw; go_simp; try rfl
      try simp only [Act.put,j1,j2,j3,j4,j5,j6]
      refine tW ?_ 7 rfl ?_ ?_; rotate_left
      · intro w' hSw; go_simp; try rfl
      try simp only [Act.put,j1,j2,j3,j4,j5,j6]
      refine tW ?_ 8 rfl ?_ ?_; rotate_left
      · intro w' hSw; go_simp; try rfl
      try simp only [Act.put,j1,j2,j3,j4,j5,j6]
      refine tW ?_ 9 rfl ?_ ?_; rotate_left
      · intro w' hSw; go_simp; try rfl
      try simp only [Act.put,j1,j2,j3,j4,j5,j6]
      refine tW ?_ 10 rfl ?_ ?_; rotate_left
      · intro w' hSw; go_simp; try rfl
      try simp only [Act.put,j1,j2,j3,j4,j5,j6]
      refine tL ?_ 11 rfl hS0 ?_ ?_; rotate_left
      · intro w' hSw; obtain ⟨s0, s1, s2⟩ := hSw; go_simp; try rfl
      try simp only [Act.put,j1,j2,j3,j4,j5,j6]
      refine tW ?_ 12 rfl ?_ ?_; rotate_left
      · intro w' hSw; go_simp; try rfl
      try simp only [Act.put,j1,j2,j3,j4,j5,j6]
      refine tW ?_ 13 rfl ?_ ?_; rotate_left
      · intro w' hSw; go_simp; try rfl
      try simp only [Act.put,j1,j2,j3,j4,j5,j6]
      refine tL ?_ 14 rfl hS0 ?_ ?_; rotate_left
      · intro w' hSw; obtain ⟨s0, s1, s2⟩ := hSw; go_simp; try rfl
      try simp only [Act.put,j1,j2,j3,j4,j5,j6]
      refine tW ?_ 15 rfl ?_ ?_; rotate_left
      · intro w' hSw; go_simp; try rfl
      try simp only [Act.put,j1,j2,j3,j4,j5,j6]
      refine tW ?_ 16 rfl ?_ ?_; rotate_left
      · intro w' hSw; go_simp; try rfl
      try simp only [Act.put,j1,j2,j3,j4,j5,j6]
      refine tW ?_ 17 rfl ?_ ?_; rotate_left
      · intro w' hSw; go_simp; try rfl
      try simp only [Act.put,j1,j2,j3,j4,j5,j6]
      refine tW ?_ 18 rfl ?_ ?_; rotate_left
      · intro w' hSw; go_simp; try rfl
      try simp only [Act.put,j1,j2,j3,j4,j5,j6]
      refine tL ?_ 19 rfl hS0 ?_ ?_; rotate_left
      · intro w' hSw; obtain ⟨s0, s1, s2⟩ := hSw; go_simp; try rfl
      try simp only [Act.put,j1,j2,j3,j4,j5,j6]
      refine tW ?_ 20 rfl ?_ ?_; rotate_left
      · intro w' hSw; go_simp; try rfl
      try simp only [Act.put,j1,j2,j3,j4,j5,j6]
      refine tW ?_ 21 rfl ?_ ?_; rotate_left
      · intro w' hSw; go_simp; try rfl
      try simp only [Act.put,j1,j2,j3,j4,j5,j6]
      refine wpAnyG_one (i := 22) (by kernel_rfl) rfl hS0 (fun K' hK => ?_)
      simp only [j1,j2,j3]
      rw [if_pos (by rfl)]
      refine step_copy_fresh (enc := celE) (sz := 2) (.tmp 28) (.tmp 40) 23 23 87 Tryz.underlying23 (by kernel_rfl) (fun _ => rfl) celOne HQ.out.1.drew (dp := some ⟨g, pd * 2, none⟩) (dLen := qd - pd) (dCap := gc - pd) (sp := some ⟨b1, o1 + ps * 2, none⟩) (sLen := qs - ps) (sCap := cc - ps) (off := pd) ((rowC s k).take wd) HYL.out (fun _ => ⟨rfl, HYS.out⟩) HFT.out rfl rfl rfl ?_
      intro w3 hf3 hc3
      have he := resK_copy (w := wd) (h := ht) HOK.out (by omega) HKS.out
      rw [HPD.out] at he
      rw [he] at hf3
      have HC3 : Hid (Ch (· = g) wr w3) := Lib.hid ((Ch.refl.drew).trans hc3 (fun _ h => .inl h))
      have HF3 : Hid (FreshIn celE 87 2 (w.heap.size + 2) w3.heap.size (.slice (some ⟨g, 0, none⟩) m gc) (resK s wd ht (k + 1)) w3) := Lib.hid (hf3.mono (Nat.le_refl _) HC3.out.size)
      clear hf3 hc3 he
      refine hK.out _ _ (Or.inr (HSB3.out _ HC3.out)) ?_
      clear hK K'
      try simp only [Act.put,j1,j2,j3,j4,j5,j6]
      refine wpAnyG_done (by kernel_rfl) ?_ _
      go_wp2_with fail
      go_roundw
      case rel => exact ⟨k + 1, by omega, by go_num, Lib.hid ⟨HF3.out, HCH.out.trans HC3.out (fun _ h => .inl h)⟩⟩
      case measure => simp [intOf]; omega
    · obtain rfl : k = mn := by omega
      have s6_0 : wr.cell? ⟨w.heap.size, 0, none⟩ = some (.int .i64 (sw : Int)) := (HCH.out.cell (p := ⟨w.heap.size, 0, none⟩) s4_l (show ¬ w.heap.size = g from by omega)).trans s4_0
      have s6_1 : wr.cell? ⟨w.heap.size, 1, none⟩ = some (.int .i64 (sh : Int)) := (HCH.out.cell (p := ⟨w.heap.size, 1, none⟩) s4_l (show ¬ w.heap.size = g from by omega)).trans s4_1
      have s6_2 : wr.cell? ⟨w.heap.size, 2, none⟩ = some (.int .i64 (s.x : Int)) := (HCH.out.cell (p := ⟨w.heap.size, 2, none⟩) s4_l (show ¬ w.heap.size = g from by omega)).trans s4_2
      have s6_3 : wr.cell? ⟨w.heap.size, 3, none⟩ = some (.int .i64 (s.y : Int)) := (HCH.out.cell (p := ⟨w.heap.size, 3, none⟩) s4_l (show ¬ w.heap.size = g from by omega)).trans s4_3
      have s6_4 : wr.cell? ⟨w.heap.size, 4, none⟩ = some (.int .i64 (s.look : Int)) := (HCH.out.cell (p := ⟨w.heap.size, 4, none⟩) s4_l (show ¬ w.heap.size = g from by omega)).trans s4_4
      have s6_5 : wr.cell? ⟨w.heap.size, 5, none⟩ = some (.int .i64 (s.top : Int)) := (HCH.out.cell (p := ⟨w.heap.size, 5, none⟩) s4_l (show ¬ w.heap.size = g from by omega)).trans s4_5
      have s6_6 : wr.cell? ⟨w.heap.size, 6, none⟩ = some (.int .i64 (s.bot : Int)) := (HCH.out.cell (p := ⟨w.heap.size, 6, none⟩) s4_l (show ¬ w.heap.size = g from by omega)).trans s4_6
      have s6_7 : wr.cell? ⟨w.heap.size, 7, none⟩ = some (.int .i64 (s.sx : Int)) := (HCH.out.cell (p := ⟨w.heap.size, 7, none⟩) s4_l (show ¬ w.heap.size = g from by omega)).trans s4_7
      have s6_8 : wr.cell? ⟨w.heap.size, 8, none⟩ = some (.int .i64 (s.sy : Int)) := (HCH.out.cell (p := ⟨w.heap.size, 8, none⟩) s4_l (show ¬ w.heap.size = g from by omega)).trans s4_8
      have s6_9 : wr.cell? ⟨w.heap.size, 9, none⟩ = some (.string s.title) := (HCH.out.cell (p := ⟨w.heap.size, 9, none⟩) s4_l (show ¬ w.heap.size = g from by omega)).trans s4_9
      have s6_10 : wr.cell? ⟨w.heap.size, 10, none⟩ = some (.slice (some ⟨b1, o1, none⟩) nc cc) := (HCH.out.cell (p := ⟨w.heap.size, 10, none⟩) s4_l (show ¬ w.heap.size = g from by omega)).trans s4_10
      have s6_11 : wr.cell? ⟨w.heap.size, 11, none⟩ = some (.slice ah s.hist.length dh) := (HCH.out.cell (p := ⟨w.heap.size, 11, none⟩) s4_l (show ¬ w.heap.size = g from by omega)).trans s4_11
      have s6_l := Nat.lt_of_lt_of_le s4_l HCH.out.size
      clear s4_0 s4_1 s4_2 s4_3 s4_4 s4_5 s4_6 s4_7 s4_8 s4_9 s4_10 s4_11 s4_l
      have z7_0 : wr.cell? ⟨(w.heap.size + 1), 0, none⟩ = some (.int .i64 0) := (HCH.out.cell (p := ⟨(w.heap.size + 1), 0, none⟩) z5_l (show ¬ (w.heap.size + 1) = g from by omega)).trans z5_0
      have z7_1 : wr.cell? ⟨(w.heap.size + 1), 1, none⟩ = some (.int .i64 0) := (HCH.out.cell (p := ⟨(w.heap.size + 1), 1, none⟩) z5_l (show ¬ (w.heap.size + 1) = g from by omega)).trans z5_1
      have z7_2 : wr.cell? ⟨(w.heap.size + 1), 2, none⟩ = some (.int .i64 0) := (HCH.out.cell (p := ⟨(w.heap.size + 1), 2, none⟩) z5_l (show ¬ (w.heap.size + 1) = g from by omega)).trans z5_2
      have z7_3 : wr.cell? ⟨(w.heap.size + 1), 3, none⟩ = some (.int .i64 0) := (HCH.out.cell (p := ⟨(w.heap.size + 1), 3, none⟩) z5_l (show ¬ (w.heap.size + 1) = g from by omega)).trans z5_3
      have z7_4 : wr.cell? ⟨(w.heap.size + 1), 4, none⟩ = some (.int .i64 0) := (HCH.out.cell (p := ⟨(w.heap.size + 1), 4, none⟩) z5_l (show ¬ (w.heap.size + 1) = g from by omega)).trans z5_4
      have z7_5 : wr.cell? ⟨(w.heap.size + 1), 5, none⟩ = some (.int .i64 0) := (HCH.out.cell (p := ⟨(w.heap.size + 1), 5, none⟩) z5_l (show ¬ (w.heap.size + 1) = g from by omega)).trans z5_5
      have z7_6 : wr.cell? ⟨(w.heap.size + 1), 6, none⟩ = some (.int .i64 0) := (HCH.out.cell (p := ⟨(w.heap.size + 1), 6, none⟩) z5_l (show ¬ (w.heap.size + 1) = g from by omega)).trans z5_6
      have z7_7 : wr.cell? ⟨(w.heap.size + 1), 7, none⟩ = some (.int .i64 0) := (HCH.out.cell (p := ⟨(w.heap.size + 1), 7, none⟩) z5_l (show ¬ (w.heap.size + 1) = g from by omega)).trans z5_7
      have z7_8 : wr.cell? ⟨(w.heap.size + 1), 8, none⟩ = some (.int .i64 0) := (HCH.out.cell (p := ⟨(w.heap.size + 1), 8, none⟩) z5_l (show ¬ (w.heap.size + 1) = g from by omega)).trans z5_8
      have z7_9 : wr.cell? ⟨(w.heap.size + 1), 9, none⟩ = some (.string ⟨#[]⟩) := (HCH.out.cell (p := ⟨(w.heap.size + 1), 9, none⟩) z5_l (show ¬ (w.heap.size + 1) = g from by omega)).trans z5_9
      have z7_10 : wr.cell? ⟨(w.heap.size + 1), 10, none⟩ = some (.slice none 0 0) := (HCH.out.cell (p := ⟨(w.heap.size + 1), 10, none⟩) z5_l (show ¬ (w.heap.size + 1) = g from by omega)).trans z5_10
      have z7_11 : wr.cell? ⟨(w.heap.size + 1), 11, none⟩ = some (.slice none 0 0) := (HCH.out.cell (p := ⟨(w.heap.size + 1), 11, none⟩) z5_l (show ¬ (w.heap.size + 1) = g from by omega)).trans z5_11
      have z7_l : (w.heap.size + 1) < wr.heap.size := Nat.lt_of_lt_of_le z5_l HCH.out.size
      have z7_f : ∀ o, wr.frozen? ⟨(w.heap.size + 1), o, none⟩ = false := fun o => (HCH.out.frozen (p := ⟨(w.heap.size + 1), o, none⟩) z5_l (show ¬ (w.heap.size + 1) = g from by omega)).trans (z5_f o)
      clear z5_0 z5_1 z5_2 z5_3 z5_4 z5_5 z5_6 z5_7 z5_8 z5_9 z5_10 z5_11 z5_l z5_f
      have r8_0 : wr.cell? ⟨x1.heap.size, 0, none⟩ = some (.int .i64 (wd : Int)) := (HCH.out.cell (p := ⟨x1.heap.size, 0, none⟩) r3_l (show ¬ x1.heap.size = g from by omega)).trans r3_0
      have r8_1 : wr.cell? ⟨x1.heap.size, 1, none⟩ = some (.int .i64 (ht : Int)) := (HCH.out.cell (p := ⟨x1.heap.size, 1, none⟩) r3_l (show ¬ x1.heap.size = g from by omega)).trans r3_1
      have r8_2 : wr.cell? ⟨x1.heap.size, 2, none⟩ = some (.int .i64 0) := (HCH.out.cell (p := ⟨x1.heap.size, 2, none⟩) r3_l (show ¬ x1.heap.size = g from by omega)).trans r3_2
      have r8_3 : wr.cell? ⟨x1.heap.size, 3, none⟩ = some (.int .i64 0) := (HCH.out.cell (p := ⟨x1.heap.size, 3, none⟩) r3_l (show ¬ x1.heap.size = g from by omega)).trans r3_3
      have r8_4 : wr.cell? ⟨x1.heap.size, 4, none⟩ = some (.int .i64 0) := (HCH.out.cell (p := ⟨x1.heap.size, 4, none⟩) r3_l (show ¬ x1.heap.size = g from by omega)).trans r3_4
      have r8_5 : wr.cell? ⟨x1.heap.size, 5, none⟩ = some (.int .i64 0) := (HCH.out.cell (p := ⟨x1.heap.size, 5, none⟩) r3_l (show ¬ x1.heap.size = g from by omega)).trans r3_5
      have r8_6 : wr.cell? ⟨x1.heap.size, 6, none⟩ = some (.int .i64 ((ht - 1 : Nat) : Int)) := (HCH.out.cell (p := ⟨x1.heap.size, 6, none⟩) r3_l (show ¬ x1.heap.size = g from by omega)).trans r3_6
      have r8_7 : wr.cell? ⟨x1.heap.size, 7, none⟩ = some (.int .i64 0) := (HCH.out.cell (p := ⟨x1.heap.size, 7, none⟩) r3_l (show ¬ x1.heap.size = g from by omega)).trans r3_7
      have r8_8 : wr.cell? ⟨x1.heap.size, 8, none⟩ = some (.int .i64 0) := (HCH.out.cell (p := ⟨x1.heap.size, 8, none⟩) r3_l (show ¬ x1.heap.size = g from by omega)).trans r3_8
      have r8_9 : wr.cell? ⟨x1.heap.size, 9, none⟩ = some (.string e0) := (HCH.out.cell (p := ⟨x1.heap.size, 9, none⟩) r3_l (show ¬ x1.heap.size = g from by omega)).trans r3_9
      have r8_10 : wr.cell? ⟨x1.heap.size, 10, none⟩ = some (.slice (some ⟨g, 0, none⟩) m gc) := (HCH.out.cell (p := ⟨x1.heap.size, 10, none⟩) r3_l (show ¬ x1.heap.size = g from by omega)).trans r3_10
      have r8_11 : wr.cell? ⟨x1.heap.size, 11, none⟩ = some (.slice gh 0 gd) := (HCH.out.cell (p := ⟨x1.heap.size, 11, none⟩) r3_l (show ¬ x1.heap.size = g from by omega)).trans r3_11
      have r8_l := Nat.lt_of_lt_of_le r3_l HCH.out.size
      have r8_f : ∀ o, wr.frozen? ⟨x1.heap.size, o, none⟩ = false := fun o => (HCH.out.frozen (p := ⟨x1.heap.size, o, none⟩) r3_l (show ¬ x1.heap.size = g from by omega)).trans (r3_f o)
      clear r3_0 r3_1 r3_2 r3_3 r3_4 r3_5 r3_6 r3_7 r3_8 r3_9 r3_10 r3_11 r3_l r3_f
      have HRD : Hid (resK s wd ht k = resC s wd ht) := Lib.hid (resK_done (by rw [HSH.out]; exact HMN.out.symm))
      rw [HRD.out] at HQ
      have hw9 : IntKind.i64.wrap ((ht : Int) - 1) = (ht : Int) - 1 := IntWalk.i64_in _ ⟨by omega, by omega⟩
      have e1 := E1.out
      have e2 := E2.out
      have e3 := E3.out
      have e4 := E4.out
      have HS7 : Hid (∀ x, Ch (· = x1.heap.size) wr x → x.cell? ⟨w.heap.size, 2, none⟩ = some (.int .i64 (s.x : Int)) ∧ x.cell? ⟨w.heap.size, 3, none⟩ = some (.int .i64 (s.y : Int)) ∧ x.cell? ⟨w.heap.size, 7, none⟩ = some (.int .i64 (s.sx : Int)) ∧ x.cell? ⟨w.heap.size, 8, none⟩ = some (.int .i64 (s.sy : Int))) := Lib.hid (fun x h => ⟨(h.cell (p := ⟨w.heap.size, 2, none⟩) s6_l (show ¬ w.heap.size = x1.heap.size from by omega)).trans s6_2, (h.cell (p := ⟨w.heap.size, 3, none⟩) s6_l (show ¬ w.heap.size = x1.heap.size from by omega)).trans s6_3, (h.cell (p := ⟨w.heap.size, 7, none⟩) s6_l (show ¬ w.heap.size = x1.heap.size from by omega)).trans s6_7, (h.cell (p := ⟨w.heap.size, 8, none⟩) s6_l (show ¬ w.heap.size = x1.heap.size from by omega)).trans s6_8⟩)
      have hS7 := HS7.out wr Ch.refl
      go_upto_region 7 with fail
      refine wp_region_G (fun w' => w'.cell? ⟨w.heap.size, 2, none⟩ = some (.int .i64 (s.x : Int)) ∧ w'.cell? ⟨w.heap.size, 3, none⟩ = some (.int .i64 (s.y : Int)) ∧ w'.cell? ⟨w.heap.size, 7, none⟩ = some (.int .i64 (s.sx : Int)) ∧ w'.cell? ⟨w.heap.size, 8, none⟩ = some (.int .i64 (s.sy : Int))) (fun i => false) (by kernel_rfl) hS7 ?_
      refine tW ?_ 0 rfl ?_ ?_; rotate_left
      · intro w' hSw; go_simp; try rfl
      try simp only [Act.put,j1,j2,j3,j4,j5,j6]
      refine tL ?_ 1 rfl hS7 ?_ ?_; rotate_left
      · intro w' hSw; obtain ⟨s0, s1, s2, s3⟩ := hSw; go_simp; try rfl
      try simp only [Act.put,j1,j2,j3,j4,j5,j6]
      refine tW ?_ 2 rfl ?_ ?_; rotate_left
      · intro w' hSw; go_simp; try rfl
      try simp only [Act.put,j1,j2,j3,j4,j5,j6]
      refine tW ?_ 3 rfl ?_ ?_; rotate_left
      · intro w' hSw; go_simp; try rfl
      try simp only [Act.put,j1,j2,j3,j4,j5,j6]
      refine tW ?_ 4 rfl ?_ ?_; rotate_left
      · intro w' hSw; go_simp; try rfl
      try simp only [Act.put,j1,j2,j3,j4,j5,j6]
      refine tL ?_ 5 rfl hS7 ?_ ?_; rotate_left
      · intro w' hSw; obtain ⟨s0, s1, s2, s3⟩ := hSw; go_simp; try rfl
      try simp only [Act.put,j1,j2,j3,j4,j5,j6]
      refine tW ?_ 6 rfl ?_ ?_; rotate_left
      · intro w' hSw; go_simp; try rfl
      try simp only [Act.put,j1,j2,j3,j4,j5,j6]
      refine tW ?_ 7 rfl ?_ ?_; rotate_left
      · intro w' hSw; go_simp; try rfl
      try simp only [Act.put,j1,j2,j3,j4,j5,j6]
      refine tW ?_ 8 rfl ?_ ?_; rotate_left
      · intro w' hSw; go_simp; try rfl
      try simp only [Act.put,j1,j2,j3,j4,j5,j6]
      refine tL ?_ 9 rfl hS7 ?_ ?_; rotate_left
      · intro w' hSw; obtain ⟨s0, s1, s2, s3⟩ := hSw; go_simp; try rfl
      try simp only [Act.put,j1,j2,j3,j4,j5,j6]
      refine tW ?_ 10 rfl ?_ ?_; rotate_left
      · intro w' hSw; go_simp; try rfl
      try simp only [Act.put,j1,j2,j3,j4,j5,j6]
      refine tW ?_ 11 rfl ?_ ?_; rotate_left
      · intro w' hSw; go_simp; try rfl
      try simp only [Act.put,j1,j2,j3,j4,j5,j6]
      refine tW ?_ 12 rfl ?_ ?_; rotate_left
      · intro w' hSw; go_simp; try rfl
      try simp only [Act.put,j1,j2,j3,j4,j5,j6]
      refine tW ?_ 13 rfl ?_ ?_; rotate_left
      · intro w' hSw; go_simp; try rfl
      try simp only [Act.put,j1,j2,j3,j4,j5,j6]
      refine tL ?_ 14 rfl hS7 ?_ ?_; rotate_left
      · intro w' hSw; obtain ⟨s0, s1, s2, s3⟩ := hSw; go_simp; try rfl
      try simp only [Act.put,j1,j2,j3,j4,j5,j6]
      refine tW ?_ 15 rfl ?_ ?_; rotate_left
      · intro w' hSw; go_simp; try rfl
      try simp only [Act.put,j1,j2,j3,j4,j5,j6]
      refine tW ?_ 16 rfl ?_ ?_; rotate_left
      · intro w' hSw; go_simp; try rfl
      try simp only [Act.put,j1,j2,j3,j4,j5,j6]
      refine tW ?_ 17 rfl ?_ ?_; rotate_left
      · intro w' hSw; go_simp; try rfl
      try simp only [Act.put,j1,j2,j3,j4,j5,j6]
      refine tW ?_ 18 rfl ?_ ?_; rotate_left
      · intro w' hSw; go_simp; try rfl
      try simp only [Act.put,j1,j2,j3,j4,j5,j6]
      refine wpAnyG_one (i := 19) (by kernel_rfl) rfl hS7 (fun K' hK => ?_)
      simp only [j1,j2,j3]
      go_simp
      refine hK.out _ _ (Or.inr (HS7.out _ (by repeat (first | exact Ch.refl | refine Ch.drew ?_ | refine Ch.setB ?_ _ _)))) ?_
      clear hK K'
      try simp only [Act.put,j1,j2,j3,j4,j5,j6]
      refine tW ?_ 20 rfl ?_ ?_; rotate_left
      · intro w' hSw; go_simp; try rfl
      try simp only [Act.put,j1,j2,j3,j4,j5,j6]
      refine wpAnyG_one (i := 21) (by kernel_rfl) rfl ((HS7.out _ (by repeat (first | exact Ch.refl | refine Ch.drew ?_ | refine Ch.setB ?_ _ _)))) (fun K' hK => ?_)
      simp only [j1,j2,j3]
      go_simp
      refine hK.out _ _ (Or.inr (HS7.out _ (by repeat (first | exact Ch.refl | refine Ch.drew ?_ | refine Ch.setB ?_ _ _)))) ?_
      clear hK K'
      try simp only [Act.put,j1,j2,j3,j4,j5,j6]
      refine tW ?_ 22 rfl ?_ ?_; rotate_left
      · intro w' hSw; go_simp; try rfl
      try simp only [Act.put,j1,j2,j3,j4,j5,j6]
      refine wpAnyG_one (i := 23) (by kernel_rfl) rfl ((HS7.out _ (by repeat (first | exact Ch.refl | refine Ch.drew ?_ | refine Ch.setB ?_ _ _)))) (fun K' hK => ?_)
      simp only [j1,j2,j3]
      go_simp
      refine hK.out _ _ (Or.inr (HS7.out _ (by repeat (first | exact Ch.refl | refine Ch.drew ?_ | refine Ch.setB ?_ _ _)))) ?_
      clear hK K'
      try simp only [Act.put,j1,j2,j3,j4,j5,j6]
      refine tW ?_ 24 rfl ?_ ?_; rotate_left
      · intro w' hSw; go_simp; try rfl
      try simp only [Act.put,j1,j2,j3,j4,j5,j6]
      refine wpAnyG_one (i := 25) (by kernel_rfl) rfl ((HS7.out _ (by repeat (first | exact Ch.refl | refine Ch.drew ?_ | refine Ch.setB ?_ _ _)))) (fun K' hK => ?_)
      simp only [j1,j2,j3]
      go_simp
      refine hK.out _ _ (Or.inr (HS7.out _ (by repeat (first | exact Ch.refl | refine Ch.drew ?_ | refine Ch.setB ?_ _ _)))) ?_
      clear hK K'
      try simp only [Act.put,j1,j2,j3,j4,j5,j6]
      refine wpAnyG_done (by kernel_rfl) ?_ _
      obtain ⟨x7, hx7⟩ : ∃ x, ((((wr.setCell ⟨x1.heap.size, 2, none⟩ (.int .i64 ((min s.x wd : Nat) : Int))).setCell ⟨x1.heap.size, 7, none⟩ (.int .i64 ((min s.sx wd : Nat) : Int))).setCell ⟨x1.heap.size, 3, none⟩ (.int .i64 ((min s.y (ht - 1) : Nat) : Int))).setCell ⟨x1.heap.size, 8, none⟩ (.int .i64 ((min s.sy (ht - 1) : Nat) : Int))).drew = x := ⟨_, rfl⟩
      have hc7 : Ch (· = x1.heap.size) wr x7 := by rw [← hx7]; exact by repeat (first | exact Ch.refl | refine Ch.drew ?_ | refine Ch.setB ?_ _ _)
      have q9_0 : x7.cell? ⟨x1.heap.size, 0, none⟩ = some (.int .i64 (wd : Int)) := (by rw [← hx7]; simp [go_sem, r8_0, r8_1, r8_2, r8_3, r8_4, r8_5, r8_6, r8_7, r8_8, r8_9, r8_10, r8_11, r8_f])
      have q9_1 : x7.cell? ⟨x1.heap.size, 1, none⟩ = some (.int .i64 (ht : Int)) := (by rw [← hx7]; simp [go_sem, r8_0, r8_1, r8_2, r8_3, r8_4, r8_5, r8_6, r8_7, r8_8, r8_9, r8_10, r8_11, r8_f])
      have q9_2 : x7.cell? ⟨x1.heap.size, 2, none⟩ = some (.int .i64 ((min s.x wd : Nat) : Int)) := (by rw [← hx7]; simp [go_sem, r8_0, r8_1, r8_2, r8_3, r8_4, r8_5, r8_6, r8_7, r8_8, r8_9, r8_10, r8_11, r8_f])
      have q9_3 : x7.cell? ⟨x1.heap.size, 3, none⟩ = some (.int .i64 ((min s.y (ht - 1) : Nat) : Int)) := (by rw [← hx7]; simp [go_sem, r8_0, r8_1, r8_2, r8_3, r8_4, r8_5, r8_6, r8_7, r8_8, r8_9, r8_10, r8_11, r8_f])
      have q9_4 : x7.cell? ⟨x1.heap.size, 4, none⟩ = some (.int .i64 0) := (by rw [← hx7]; simp [go_sem, r8_0, r8_1, r8_2, r8_3, r8_4, r8_5, r8_6, r8_7, r8_8, r8_9, r8_10, r8_11, r8_f])
      have q9_5 : x7.cell? ⟨x1.heap.size, 5, none⟩ = some (.int .i64 0) := (by rw [← hx7]; simp [go_sem, r8_0, r8_1, r8_2, r8_3, r8_4, r8_5, r8_6, r8_7, r8_8, r8_9, r8_10, r8_11, r8_f])
      have q9_6 : x7.cell? ⟨x1.heap.size, 6, none⟩ = some (.int .i64 ((ht - 1 : Nat) : Int)) := (by rw [← hx7]; simp [go_sem, r8_0, r8_1, r8_2, r8_3, r8_4, r8_5, r8_6, r8_7, r8_8, r8_9, r8_10, r8_11, r8_f])
      have q9_7 : x7.cell? ⟨x1.heap.size, 7, none⟩ = some (.int .i64 ((min s.sx wd : Nat) : Int)) := (by rw [← hx7]; simp [go_sem, r8_0, r8_1, r8_2, r8_3, r8_4, r8_5, r8_6, r8_7, r8_8, r8_9, r8_10, r8_11, r8_f])
      have q9_8 : x7.cell? ⟨x1.heap.size, 8, none⟩ = some (.int .i64 ((min s.sy (ht - 1) : Nat) : Int)) := (by rw [← hx7]; simp [go_sem, r8_0, r8_1, r8_2, r8_3, r8_4, r8_5, r8_6, r8_7, r8_8, r8_9, r8_10, r8_11, r8_f])
      have q9_9 : x7.cell? ⟨x1.heap.size, 9, none⟩ = some (.string e0) := (by rw [← hx7]; simp [go_sem, r8_0, r8_1, r8_2, r8_3, r8_4, r8_5, r8_6, r8_7, r8_8, r8_9, r8_10, r8_11, r8_f])
      have q9_10 : x7.cell? ⟨x1.heap.size, 10, none⟩ = some (.slice (some ⟨g, 0, none⟩) m gc) := (by rw [← hx7]; simp [go_sem, r8_0, r8_1, r8_2, r8_3, r8_4, r8_5, r8_6, r8_7, r8_8, r8_9, r8_10, r8_11, r8_f])
      have q9_11 : x7.cell? ⟨x1.heap.size, 11, none⟩ = some (.slice gh 0 gd) := (by rw [← hx7]; simp [go_sem, r8_0, r8_1, r8_2, r8_3, r8_4, r8_5, r8_6, r8_7, r8_8, r8_9, r8_10, r8_11, r8_f])
      have q9_l : x1.heap.size < x7.heap.size := (Nat.lt_of_lt_of_le r8_l hc7.size)
      have q9_f : ∀ o, x7.frozen? ⟨x1.heap.size, o, none⟩ = false := fun o => (by rw [← hx7]; simp [go_sem, r8_0, r8_1, r8_2, r8_3, r8_4, r8_5, r8_6, r8_7, r8_8, r8_9, r8_10, r8_11, r8_f])
      clear r8_0 r8_1 r8_2 r8_3 r8_4 r8_5 r8_6 r8_7 r8_8 r8_9 r8_10 r8_11 r8_l r8_f
      have s10_0 : x7.cell? ⟨w.heap.size, 0, none⟩ = some (.int .i64 (sw : Int)) := (hc7.cell (p := ⟨w.heap.size, 0, none⟩) s6_l (show ¬ w.heap.size = x1.heap.size from by omega)).trans s6_0
      have s10_1 : x7.cell? ⟨w.heap.size, 1, none⟩ = some (.int .i64 (sh : Int)) := (hc7.cell (p := ⟨w.heap.size, 1, none⟩) s6_l (show ¬ w.heap.size = x1.heap.size from by omega)).trans s6_1
      have s10_2 : x7.cell? ⟨w.heap.size, 2, none⟩ = some (.int .i64 (s.x : Int)) := (hc7.cell (p := ⟨w.heap.size, 2, none⟩) s6_l (show ¬ w.heap.size = x1.heap.size from by omega)).trans s6_2
      have s10_3 : x7.cell? ⟨w.heap.size, 3, none⟩ = some (.int .i64 (s.y : Int)) := (hc7.cell (p := ⟨w.heap.size, 3, none⟩) s6_l (show ¬ w.heap.size = x1.heap.size from by omega)).trans s6_3
      have s10_4 : x7.cell? ⟨w.heap.size, 4, none⟩ = some (.int .i64 (s.look : Int)) := (hc7.cell (p := ⟨w.heap.size, 4, none⟩) s6_l (show ¬ w.heap.size = x1.heap.size from by omega)).trans s6_4
      have s10_5 : x7.cell? ⟨w.heap.size, 5, none⟩ = some (.int .i64 (s.top : Int)) := (hc7.cell (p := ⟨w.heap.size, 5, none⟩) s6_l (show ¬ w.heap.size = x1.heap.size from by omega)).trans s6_5
      have s10_6 : x7.cell? ⟨w.heap.size, 6, none⟩ = some (.int .i64 (s.bot : Int)) := (hc7.cell (p := ⟨w.heap.size, 6, none⟩) s6_l (show ¬ w.heap.size = x1.heap.size from by omega)).trans s6_6
      have s10_7 : x7.cell? ⟨w.heap.size, 7, none⟩ = some (.int .i64 (s.sx : Int)) := (hc7.cell (p := ⟨w.heap.size, 7, none⟩) s6_l (show ¬ w.heap.size = x1.heap.size from by omega)).trans s6_7
      have s10_8 : x7.cell? ⟨w.heap.size, 8, none⟩ = some (.int .i64 (s.sy : Int)) := (hc7.cell (p := ⟨w.heap.size, 8, none⟩) s6_l (show ¬ w.heap.size = x1.heap.size from by omega)).trans s6_8
      have s10_9 : x7.cell? ⟨w.heap.size, 9, none⟩ = some (.string s.title) := (hc7.cell (p := ⟨w.heap.size, 9, none⟩) s6_l (show ¬ w.heap.size = x1.heap.size from by omega)).trans s6_9
      have s10_10 : x7.cell? ⟨w.heap.size, 10, none⟩ = some (.slice (some ⟨b1, o1, none⟩) nc cc) := (hc7.cell (p := ⟨w.heap.size, 10, none⟩) s6_l (show ¬ w.heap.size = x1.heap.size from by omega)).trans s6_10
      have s10_11 : x7.cell? ⟨w.heap.size, 11, none⟩ = some (.slice ah s.hist.length dh) := (hc7.cell (p := ⟨w.heap.size, 11, none⟩) s6_l (show ¬ w.heap.size = x1.heap.size from by omega)).trans s6_11
      have s10_l := Nat.lt_of_lt_of_le s6_l hc7.size
      clear s6_0 s6_1 s6_2 s6_3 s6_4 s6_5 s6_6 s6_7 s6_8 s6_9 s6_10 s6_11 s6_l
      have z11_0 : x7.cell? ⟨(w.heap.size + 1), 0, none⟩ = some (.int .i64 0) := (hc7.cell (p := ⟨(w.heap.size + 1), 0, none⟩) z7_l (show ¬ (w.heap.size + 1) = x1.heap.size from by omega)).trans z7_0
      have z11_1 : x7.cell? ⟨(w.heap.size + 1), 1, none⟩ = some (.int .i64 0) := (hc7.cell (p := ⟨(w.heap.size + 1), 1, none⟩) z7_l (show ¬ (w.heap.size + 1) = x1.heap.size from by omega)).trans z7_1
      have z11_2 : x7.cell? ⟨(w.heap.size + 1), 2, none⟩ = some (.int .i64 0) := (hc7.cell (p := ⟨(w.heap.size + 1), 2, none⟩) z7_l (show ¬ (w.heap.size + 1) = x1.heap.size from by omega)).trans z7_2
      have z11_3 : x7.cell? ⟨(w.heap.size + 1), 3, none⟩ = some (.int .i64 0) := (hc7.cell (p := ⟨(w.heap.size + 1), 3, none⟩) z7_l (show ¬ (w.heap.size + 1) = x1.heap.size from by omega)).trans z7_3
      have z11_4 : x7.cell? ⟨(w.heap.size + 1), 4, none⟩ = some (.int .i64 0) := (hc7.cell (p := ⟨(w.heap.size + 1), 4, none⟩) z7_l (show ¬ (w.heap.size + 1) = x1.heap.size from by omega)).trans z7_4
      have z11_5 : x7.cell? ⟨(w.heap.size + 1), 5, none⟩ = some (.int .i64 0) := (hc7.cell (p := ⟨(w.heap.size + 1), 5, none⟩) z7_l (show ¬ (w.heap.size + 1) = x1.heap.size from by omega)).trans z7_5
      have z11_6 : x7.cell? ⟨(w.heap.size + 1), 6, none⟩ = some (.int .i64 0) := (hc7.cell (p := ⟨(w.heap.size + 1), 6, none⟩) z7_l (show ¬ (w.heap.size + 1) = x1.heap.size from by omega)).trans z7_6
      have z11_7 : x7.cell? ⟨(w.heap.size + 1), 7, none⟩ = some (.int .i64 0) := (hc7.cell (p := ⟨(w.heap.size + 1), 7, none⟩) z7_l (show ¬ (w.heap.size + 1) = x1.heap.size from by omega)).trans z7_7
      have z11_8 : x7.cell? ⟨(w.heap.size + 1), 8, none⟩ = some (.int .i64 0) := (hc7.cell (p := ⟨(w.heap.size + 1), 8, none⟩) z7_l (show ¬ (w.heap.size + 1) = x1.heap.size from by omega)).trans z7_8
      have z11_9 : x7.cell? ⟨(w.heap.size + 1), 9, none⟩ = some (.string ⟨#[]⟩) := (hc7.cell (p := ⟨(w.heap.size + 1), 9, none⟩) z7_l (show ¬ (w.heap.size + 1) = x1.heap.size from by omega)).trans z7_9
      have z11_10 : x7.cell? ⟨(w.heap.size + 1), 10, none⟩ = some (.slice none 0 0) := (hc7.cell (p := ⟨(w.heap.size + 1), 10, none⟩) z7_l (show ¬ (w.heap.size + 1) = x1.heap.size from by omega)).trans z7_10
      have z11_11 : x7.cell? ⟨(w.heap.size + 1), 11, none⟩ = some (.slice none 0 0) := (hc7.cell (p := ⟨(w.heap.size + 1), 11, none⟩) z7_l (show ¬ (w.heap.size + 1) = x1.heap.size from by omega)).trans z7_11
      have z11_l : (w.heap.size + 1) < x7.heap.size := Nat.lt_of_lt_of_le z7_l hc7.size
      have z11_f : ∀ o, x7.frozen? ⟨(w.heap.size + 1), o, none⟩ = false := fun o => (hc7.frozen (p := ⟨(w.heap.size + 1), o, none⟩) z7_l (show ¬ (w.heap.size + 1) = x1.heap.size from by omega)).trans (z7_f o)
      clear z7_0 z7_1 z7_2 z7_3 z7_4 z7_5 z7_6 z7_7 z7_8 z7_9 z7_10 z7_11 z7_l z7_f
      have HC7 := Lib.hid hc7
      have HCG : Hid (Ch (fun k => k = g ∨ k = x1.heap.size) x2 x7) := Lib.hid ((HCH.out.mono (fun _ h => .inl (.inl h))).trans HC7.out (fun _ h => .inl (.inr h)))
      have HSH7 : Hid (Sl strE 1 x7 ah s.hist) := Lib.hid (slOld HR.out.hs HB1.out HBX.out HCG.out (fun k hk e => by rcases e with e | e <;> omega))
      rw [hx7]
      clear hx7 hc7 hS7
      have HS8 : Hid (∀ x, Below x7.heap.size x7 x → x.cell? ⟨w.heap.size, 4, none⟩ = some (.int .i64 (s.look : Int)) ∧ x.cell? ⟨w.heap.size, 9, none⟩ = some (.string s.title) ∧ x.cell? ⟨w.heap.size, 11, none⟩ = some (.slice ah s.hist.length dh)) := Lib.hid (fun x h => ⟨(h.cell (p := ⟨w.heap.size, 4, none⟩) s10_l).trans s10_4, (h.cell (p := ⟨w.heap.size, 9, none⟩) s10_l).trans s10_9, (h.cell (p := ⟨w.heap.size, 11, none⟩) s10_l).trans s10_11⟩)
      have hS8 := HS8.out x7 (Below.refl _ _)
      go_upto_region 8 with fail
      refine wp_region_G (fun w' => w'.cell? ⟨w.heap.size, 4, none⟩ = some (.int .i64 (s.look : Int)) ∧ w'.cell? ⟨w.heap.size, 9, none⟩ = some (.string s.title) ∧ w'.cell? ⟨w.heap.size, 11, none⟩ = some (.slice ah s.hist.length dh)) (fun i => false) (by kernel_rfl) hS8 ?_
      refine tW ?_ 0 rfl ?_ ?_; rotate_left
      · intro w' hSw; go_simp; try rfl
      try simp only [Act.put,j1,j2,j3,j4,j5,j6]
      refine tL ?_ 1 rfl hS8 ?_ ?_; rotate_left
      · intro w' hSw; obtain ⟨s0, s1, s2⟩ := hSw; go_simp; try rfl
      try simp only [Act.put,j1,j2,j3,j4,j5,j6]
      refine tW ?_ 2 rfl ?_ ?_; rotate_left
      · intro w' hSw; go_simp; try rfl
      try simp only [Act.put,j1,j2,j3,j4,j5,j6]
      refine tL ?_ 3 rfl hS8 ?_ ?_; rotate_left
      · intro w' hSw; obtain ⟨s0, s1, s2⟩ := hSw; go_simp; try rfl
      try simp only [Act.put,j1,j2,j3,j4,j5,j6]
      refine tW ?_ 4 rfl ?_ ?_; rotate_left
      · intro w' hSw; go_simp; try rfl
      try simp only [Act.put,j1,j2,j3,j4,j5,j6]
      refine tL ?_ 5 rfl hS8 ?_ ?_; rotate_left
      · intro w' hSw; obtain ⟨s0, s1, s2⟩ := hSw; go_simp; try rfl
      try simp only [Act.put,j1,j2,j3,j4,j5,j6]
      refine tW ?_ 7 rfl ?_ ?_; rotate_left
      · intro w' hSw; go_simp; try rfl
      try simp only [Act.put,j1,j2,j3,j4,j5,j6]
      refine wpAnyG_one (i := 6) (by kernel_rfl) rfl hS8 (fun K' hK => ?_)
      simp only [j1,j2,j3]
      go_simp
      go_at_call 59
      refine (cloneStrs_c ah dh s.hist _ HSH7.out.drew (by have := HOK.out.hn; omega)).mono ?_
      rintro e x8 ⟨v8, rfl, hf8, hbc⟩
      have hb8 : Below x7.heap.size x7 x8 := ((Below.refl _ _).drew).trans (by simpa using hbc)
      have HF8 : Hid (FreshR strE 9 1 x7 s.hist (.returned v8) x8) := Lib.hid ⟨v8, rfl, by simpa using hf8, hb8⟩
      obtain ⟨a8, c8, rfl, _⟩ := id hf8
      have HB8 := Lib.hid hb8
      have s12_0 := kC hb8 s10_l s10_0
      have s12_1 := kC hb8 s10_l s10_1
      have s12_2 := kC hb8 s10_l s10_2
      have s12_3 := kC hb8 s10_l s10_3
      have s12_4 := kC hb8 s10_l s10_4
      have s12_5 := kC hb8 s10_l s10_5
      have s12_6 := kC hb8 s10_l s10_6
      have s12_7 := kC hb8 s10_l s10_7
      have s12_8 := kC hb8 s10_l s10_8
      have s12_9 := kC hb8 s10_l s10_9
      have s12_10 := kC hb8 s10_l s10_10
      have s12_11 := kC hb8 s10_l s10_11
      have s12_l := Nat.lt_of_lt_of_le s10_l hb8.size
      clear s10_0 s10_1 s10_2 s10_3 s10_4 s10_5 s10_6 s10_7 s10_8 s10_9 s10_10 s10_11 s10_l
      have z13_0 := kC hb8 z11_l z11_0
      have z13_1 := kC hb8 z11_l z11_1
      have z13_2 := kC hb8 z11_l z11_2
      have z13_3 := kC hb8 z11_l z11_3
      have z13_4 := kC hb8 z11_l z11_4
      have z13_5 := kC hb8 z11_l z11_5
      have z13_6 := kC hb8 z11_l z11_6
      have z13_7 := kC hb8 z11_l z11_7
      have z13_8 := kC hb8 z11_l z11_8
      have z13_9 := kC hb8 z11_l z11_9
      have z13_10 := kC hb8 z11_l z11_10
      have z13_11 := kC hb8 z11_l z11_11
      have z13_l : (w.heap.size + 1) < x8.heap.size := Nat.lt_of_lt_of_le z11_l hb8.size
      have z13_f := fun o => kF hb8 z11_l (z11_f o)
      clear z11_0 z11_1 z11_2 z11_3 z11_4 z11_5 z11_6 z11_7 z11_8 z11_9 z11_10 z11_11 z11_l z11_f
      have r14_0 := kC hb8 q9_l q9_0
      have r14_1 := kC hb8 q9_l q9_1
      have r14_2 := kC hb8 q9_l q9_2
      have r14_3 := kC hb8 q9_l q9_3
      have r14_4 := kC hb8 q9_l q9_4
      have r14_5 := kC hb8 q9_l q9_5
      have r14_6 := kC hb8 q9_l q9_6
      have r14_7 := kC hb8 q9_l q9_7
      have r14_8 := kC hb8 q9_l q9_8
      have r14_9 := kC hb8 q9_l q9_9
      have r14_10 := kC hb8 q9_l q9_10
      have r14_11 := kC hb8 q9_l q9_11
      have r14_l := Nat.lt_of_lt_of_le q9_l hb8.size
      have r14_f := fun o => kF hb8 q9_l (q9_f o)
      clear q9_0 q9_1 q9_2 q9_3 q9_4 q9_5 q9_6 q9_7 q9_8 q9_9 q9_10 q9_11 q9_l q9_f
      have HS9 : Hid (∀ x, Ch (· = x1.heap.size) x8 x → x.cell? ⟨w.heap.size, 4, none⟩ = some (.int .i64 (s.look : Int)) ∧ x.cell? ⟨w.heap.size, 9, none⟩ = some (.string s.title) ∧ x.cell? ⟨w.heap.size, 11, none⟩ = some (.slice ah s.hist.length dh)) := Lib.hid (fun x h => ⟨(h.cell (p := ⟨w.heap.size, 4, none⟩) s12_l (show ¬ w.heap.size = x1.heap.size from by omega)).trans s12_4, (h.cell (p := ⟨w.heap.size, 9, none⟩) s12_l (show ¬ w.heap.size = x1.heap.size from by omega)).trans s12_9, (h.cell (p := ⟨w.heap.size, 11, none⟩) s12_l (show ¬ w.heap.size = x1.heap.size from by omega)).trans s12_11⟩)
      clear hf8 hbc hb8
      refine hK.out _ _ (Or.inr (HS9.out _ Ch.refl)) ?_
      clear hK K'
      try simp only [Act.put,j1,j2,j3,j4,j5,j6]
      refine wpAnyG_one (i := 8) (by kernel_rfl) rfl ((HS9.out _ Ch.refl)) (fun K' hK => ?_)
      simp only [j1,j2,j3]
      go_simp
      refine hK.out _ _ (Or.inr (HS9.out _ (by repeat (first | exact Ch.refl | refine Ch.drew ?_ | refine Ch.setB ?_ _ _)))) ?_
      clear hK K'
      try simp only [Act.put,j1,j2,j3,j4,j5,j6]
      refine tW ?_ 9 rfl ?_ ?_; rotate_left
      · intro w' hSw; go_simp; try rfl
      try simp only [Act.put,j1,j2,j3,j4,j5,j6]
      refine wpAnyG_one (i := 10) (by kernel_rfl) rfl ((HS9.out _ (by repeat (first | exact Ch.refl | refine Ch.drew ?_ | refine Ch.setB ?_ _ _)))) (fun K' hK => ?_)
      simp only [j1,j2,j3]
      go_simp
      refine hK.out _ _ (Or.inr (HS9.out _ (by repeat (first | exact Ch.refl | refine Ch.drew ?_ | refine Ch.setB ?_ _ _)))) ?_
      clear hK K'
      try simp only [Act.put,j1,j2,j3,j4,j5,j6]
      refine tW ?_ 11 rfl ?_ ?_; rotate_left
      · intro w' hSw; go_simp; try rfl
      try simp only [Act.put,j1,j2,j3,j4,j5,j6]
      refine wpAnyG_one (i := 12) (by kernel_rfl) rfl ((HS9.out _ (by repeat (first | exact Ch.refl | refine Ch.drew ?_ | refine Ch.setB ?_ _ _)))) (fun K' hK => ?_)
      simp only [j1,j2,j3]
      go_simp
      refine hK.out _ _ (Or.inr (HS9.out _ (by repeat (first | exact Ch.refl | refine Ch.drew ?_ | refine Ch.setB ?_ _ _)))) ?_
      clear hK K'
      try simp only [Act.put,j1,j2,j3,j4,j5,j6]
      refine wpAnyG_done (by kernel_rfl) ?_ _
      obtain ⟨x9, hx9⟩ : ∃ x, (((x8.setCell ⟨x1.heap.size, 4, none⟩ (.int .i64 (s.look : Int))).setCell ⟨x1.heap.size, 9, none⟩ (.string s.title)).setCell ⟨x1.heap.size, 11, none⟩ (.slice a8 s.hist.length c8)) = x := ⟨_, rfl⟩
      have hc9 : Ch (· = x1.heap.size) x8 x9 := by rw [← hx9]; exact by repeat (first | exact Ch.refl | refine Ch.drew ?_ | refine Ch.setB ?_ _ _)
      clear s12_0 s12_1 s12_2 s12_3 s12_4 s12_5 s12_6 s12_7 s12_8 s12_9 s12_10 s12_11 s12_l
      have q15_0 : x9.cell? ⟨x1.heap.size, 0, none⟩ = some (.int .i64 (wd : Int)) := (by rw [← hx9]; simp [go_sem, r14_0, r14_1, r14_2, r14_3, r14_4, r14_5, r14_6, r14_7, r14_8, r14_9, r14_10, r14_11, r14_f])
      have q15_1 : x9.cell? ⟨x1.heap.size, 1, none⟩ = some (.int .i64 (ht : Int)) := (by rw [← hx9]; simp [go_sem, r14_0, r14_1, r14_2, r14_3, r14_4, r14_5, r14_6, r14_7, r14_8, r14_9, r14_10, r14_11, r14_f])
      have q15_2 : x9.cell? ⟨x1.heap.size, 2, none⟩ = some (.int .i64 ((min s.x wd : Nat) : Int)) := (by rw [← hx9]; simp [go_sem, r14_0, r14_1, r14_2, r14_3, r14_4, r14_5, r14_6, r14_7, r14_8, r14_9, r14_10, r14_11, r14_f])
      have q15_3 : x9.cell? ⟨x1.heap.size, 3, none⟩ = some (.int .i64 ((min s.y (ht - 1) : Nat) : Int)) := (by rw [← hx9]; simp [go_sem, r14_0, r14_1, r14_2, r14_3, r14_4, r14_5, r14_6, r14_7, r14_8, r14_9, r14_10, r14_11, r14_f])
      have q15_4 : x9.cell? ⟨x1.heap.size, 4, none⟩ = some (.int .i64 (s.look : Int)) := (by rw [← hx9]; simp [go_sem, r14_0, r14_1, r14_2, r14_3, r14_4, r14_5, r14_6, r14_7, r14_8, r14_9, r14_10, r14_11, r14_f])
      have q15_5 : x9.cell? ⟨x1.heap.size, 5, none⟩ = some (.int .i64 0) := (by rw [← hx9]; simp [go_sem, r14_0, r14_1, r14_2, r14_3, r14_4, r14_5, r14_6, r14_7, r14_8, r14_9, r14_10, r14_11, r14_f])
      have q15_6 : x9.cell? ⟨x1.heap.size, 6, none⟩ = some (.int .i64 ((ht - 1 : Nat) : Int)) := (by rw [← hx9]; simp [go_sem, r14_0, r14_1, r14_2, r14_3, r14_4, r14_5, r14_6, r14_7, r14_8, r14_9, r14_10, r14_11, r14_f])
      have q15_7 : x9.cell? ⟨x1.heap.size, 7, none⟩ = some (.int .i64 ((min s.sx wd : Nat) : Int)) := (by rw [← hx9]; simp [go_sem, r14_0, r14_1, r14_2, r14_3, r14_4, r14_5, r14_6, r14_7, r14_8, r14_9, r14_10, r14_11, r14_f])
      have q15_8 : x9.cell? ⟨x1.heap.size, 8, none⟩ = some (.int .i64 ((min s.sy (ht - 1) : Nat) : Int)) := (by rw [← hx9]; simp [go_sem, r14_0, r14_1, r14_2, r14_3, r14_4, r14_5, r14_6, r14_7, r14_8, r14_9, r14_10, r14_11, r14_f])
      have q15_9 : x9.cell? ⟨x1.heap.size, 9, none⟩ = some (.string s.title) := (by rw [← hx9]; simp [go_sem, r14_0, r14_1, r14_2, r14_3, r14_4, r14_5, r14_6, r14_7, r14_8, r14_9, r14_10, r14_11, r14_f])
      have q15_10 : x9.cell? ⟨x1.heap.size, 10, none⟩ = some (.slice (some ⟨g, 0, none⟩) m gc) := (by rw [← hx9]; simp [go_sem, r14_0, r14_1, r14_2, r14_3, r14_4, r14_5, r14_6, r14_7, r14_8, r14_9, r14_10, r14_11, r14_f])
      have q15_11 : x9.cell? ⟨x1.heap.size, 11, none⟩ = some (.slice a8 s.hist.length c8) := (by rw [← hx9]; simp [go_sem, r14_0, r14_1, r14_2, r14_3, r14_4, r14_5, r14_6, r14_7, r14_8, r14_9, r14_10, r14_11, r14_f])
      have q15_l : x1.heap.size < x9.heap.size := (Nat.lt_of_lt_of_le r14_l hc9.size)
      clear r14_0 r14_1 r14_2 r14_3 r14_4 r14_5 r14_6 r14_7 r14_8 r14_9 r14_10 r14_11 r14_l r14_f
      have z16_0 : x9.cell? ⟨(w.heap.size + 1), 0, none⟩ = some (.int .i64 0) := (hc9.cell (p := ⟨(w.heap.size + 1), 0, none⟩) z13_l (show ¬ (w.heap.size + 1) = x1.heap.size from by omega)).trans z13_0
      have z16_1 : x9.cell? ⟨(w.heap.size + 1), 1, none⟩ = some (.int .i64 0) := (hc9.cell (p := ⟨(w.heap.size + 1), 1, none⟩) z13_l (show ¬ (w.heap.size + 1) = x1.heap.size from by omega)).trans z13_1
      have z16_2 : x9.cell? ⟨(w.heap.size + 1), 2, none⟩ = some (.int .i64 0) := (hc9.cell (p := ⟨(w.heap.size + 1), 2, none⟩) z13_l (show ¬ (w.heap.size + 1) = x1.heap.size from by omega)).trans z13_2
      have z16_3 : x9.cell? ⟨(w.heap.size + 1), 3, none⟩ = some (.int .i64 0) := (hc9.cell (p := ⟨(w.heap.size + 1), 3, none⟩) z13_l (show ¬ (w.heap.size + 1) = x1.heap.size from by omega)).trans z13_3
      have z16_4 : x9.cell? ⟨(w.heap.size + 1), 4, none⟩ = some (.int .i64 0) := (hc9.cell (p := ⟨(w.heap.size + 1), 4, none⟩) z13_l (show ¬ (w.heap.size + 1) = x1.heap.size from by omega)).trans z13_4
      have z16_5 : x9.cell? ⟨(w.heap.size + 1), 5, none⟩ = some (.int .i64 0) := (hc9.cell (p := ⟨(w.heap.size + 1), 5, none⟩) z13_l (show ¬ (w.heap.size + 1) = x1.heap.size from by omega)).trans z13_5
      have z16_6 : x9.cell? ⟨(w.heap.size + 1), 6, none⟩ = some (.int .i64 0) := (hc9.cell (p := ⟨(w.heap.size + 1), 6, none⟩) z13_l (show ¬ (w.heap.size + 1) = x1.heap.size from by omega)).trans z13_6
      have z16_7 : x9.cell? ⟨(w.heap.size + 1), 7, none⟩ = some (.int .i64 0) := (hc9.cell (p := ⟨(w.heap.size + 1), 7, none⟩) z13_l (show ¬ (w.heap.size + 1) = x1.heap.size from by omega)).trans z13_7
      have z16_8 : x9.cell? ⟨(w.heap.size + 1), 8, none⟩ = some (.int .i64 0) := (hc9.cell (p := ⟨(w.heap.size + 1), 8, none⟩) z13_l (show ¬ (w.heap.size + 1) = x1.heap.size from by omega)).trans z13_8
      have z16_9 : x9.cell? ⟨(w.heap.size + 1), 9, none⟩ = some (.string ⟨#[]⟩) := (hc9.cell (p := ⟨(w.heap.size + 1), 9, none⟩) z13_l (show ¬ (w.heap.size + 1) = x1.heap.size from by omega)).trans z13_9
      have z16_10 : x9.cell? ⟨(w.heap.size + 1), 10, none⟩ = some (.slice none 0 0) := (hc9.cell (p := ⟨(w.heap.size + 1), 10, none⟩) z13_l (show ¬ (w.heap.size + 1) = x1.heap.size from by omega)).trans z13_10
      have z16_11 : x9.cell? ⟨(w.heap.size + 1), 11, none⟩ = some (.slice none 0 0) := (hc9.cell (p := ⟨(w.heap.size + 1), 11, none⟩) z13_l (show ¬ (w.heap.size + 1) = x1.heap.size from by omega)).trans z13_11
      have z16_l : (w.heap.size + 1) < x9.heap.size := Nat.lt_of_lt_of_le z13_l hc9.size
      have z16_f : ∀ o, x9.frozen? ⟨(w.heap.size + 1), o, none⟩ = false := fun o => (hc9.frozen (p := ⟨(w.heap.size + 1), o, none⟩) z13_l (show ¬ (w.heap.size + 1) = x1.heap.size from by omega)).trans (z13_f o)
      clear z13_0 z13_1 z13_2 z13_3 z13_4 z13_5 z13_6 z13_7 z13_8 z13_9 z13_10 z13_11 z13_l z13_f
      have HC9 := Lib.hid hc9
      rw [hx9]
      clear hx9 hc9 hS8
      have hne7 : ¬ w.heap.size + 1 = x1.heap.size := by omega
      have hne8 : ¬ x1.heap.size = w.heap.size + 1 := by omega
      go_wp2_with fail
      refine bodyPost_ret (v := .agg #[.int .i64 (wd : Int), .int .i64 (ht : Int), .int .i64 ((min s.x wd : Nat) : Int), .int .i64 ((min s.y (ht - 1) : Nat) : Int), .int .i64 (s.look : Int), .int .i64 0, .int .i64 ((ht - 1 : Nat) : Int), .int .i64 ((min s.sx wd : Nat) : Int), .int .i64 ((min s.sy (ht - 1) : Nat) : Int), .string s.title, .slice (some ⟨g, 0, none⟩) m gc, .slice a8 s.hist.length c8]) (by simp [results, Tryz.results26, go_sem, z16_0, z16_1, z16_2, z16_3, z16_4, z16_5, z16_6, z16_7, z16_8, z16_9, z16_10, z16_11, z16_f]) rfl ?_
      have hlen : (resS s wd ht).cells.length = m := by
        show (resC s wd ht).length = m
        rw [resC_len HOK.out, Nat.mul_comm]
        exact HM.out
      obtain ⟨v8, hv8, hf8, _⟩ := HF8.out
      cases hv8
      have hfin : ∀ wz, Ch (fun k => k = w.heap.size + 1) x9 wz → ScrN (resS s wd ht) w (.returned (.agg #[.int .i64 (wd : Int), .int .i64 (ht : Int), .int .i64 ((min s.x wd : Nat) : Int), .int .i64 ((min s.y (ht - 1) : Nat) : Int), .int .i64 (s.look : Int), .int .i64 0, .int .i64 ((ht - 1 : Nat) : Int), .int .i64 ((min s.sx wd : Nat) : Int), .int .i64 ((min s.sy (ht - 1) : Nat) : Int), .string s.title, .slice (some ⟨g, 0, none⟩) m gc, .slice a8 s.hist.length c8])) wz := fun wz hz => by
        have hz12 := HX12.out
        have hz1 := HB1.out.size
        have hz2 := HBX.out.size
        have hz3 := HCH.out.size
        have hz7 := HC7.out.size
        have hz8 := HB8.out.size
        have hz9 := HC9.out.size
        have hcz : Ch (fun k => k = x1.heap.size ∨ k = w.heap.size + 1) x8 wz := (HC9.out.mono (fun _ h => .inl (.inl h))).trans hz (fun _ h => .inl (.inr h))
        have hcw : Ch (fun k => k = x1.heap.size ∨ k = w.heap.size + 1) wr wz := ((HC7.out.mono (fun _ h => .inl (.inl h))).below1 HB8.out).trans hcz (fun _ h => .inl h)
        refine ⟨some ⟨g, 0, none⟩, gc, a8, c8, by unfold scrV; rw [hlen]; rfl, ⟨?_, ?_, ?_⟩, ?_⟩
        · rw [hlen]
          exact (HQ.out.1.ch hcw (fun k hk e => by
            simp only [blkOf, List.mem_singleton] at hk
            rcases e with e | e <;> omega)).mono (by omega) (Nat.le_refl _)
        · refine Win.low ((FreshIn.win hf8.here).ch hcz (fun k hk e => ?_)) (by omega)
          have h1 := (FreshIn.blks hf8.here k hk).1
          rcases e with e | e <;> omega
        · intro k hk hk2
          simp only [blkOf, List.mem_singleton] at hk2
          have h1 := (FreshIn.blks hf8.here k hk).1
          omega
        · have hb2 : Below w.heap.size w x2 := HB1.out.trans (HBX.out.mono hz1)
          have hb3 : Below w.heap.size w wr := hb2.trans (HCH.out.below (by omega) (fun k h => by omega))
          exact hb3.trans (hcw.below (by omega) (fun k h => by rcases h with h | h <;> omega))
      exact hfin _ ((((((((((((((Ch.refl (M := fun k => k = w.heap.size + 1) (w := x9))).setB 0 _).setB 1 _).setB 2 _).setB 3 _).setB 4 _).setB 5 _).setB 6 _).setB 7 _).setB 8 _).setB 9 _).setB 10 _).setB 11 _)
end
section
open Go.RowKit
theorem freshFz {α : Type} {enc : α → List Value} {sz lo hi n c g : Nat} {e : TypeId} {xs : List α} {w : World} (h : FreshIn enc e sz lo hi (.slice (some ⟨g, 0, none⟩) n c) xs w) : ∀ k, w.frozen? ⟨g, k, none⟩ = false := by
  obtain ⟨⟨a', cap', hv, h1, h2⟩, h3⟩ := h
  cases hv
  obtain ⟨hol, ho⟩ := h2
  rcases ho with ⟨hv, _⟩ | ⟨g', cap, cur, hv, hbg, hg, _⟩
  · cases hv
  · cases hv
    exact fun k => Lib.frozen_of_heap hg k
theorem freshCell {lo hi n c g : Nat} {xs : List Cl} {w : World} (h : FreshIn celE 87 2 lo hi (.slice (some ⟨g, 0, none⟩) n c) xs w) (i : Nat) (hi' : i < xs.length) : w.cell? ⟨g, i * 2, none⟩ = some (.int .i64 xs[i].1) ∧ w.cell? ⟨g, i * 2 + 1, none⟩ = some (.int .i64 xs[i].2) := by
  have hs := FreshIn.sl' (enc := celE) (sz := 2) (fun _ => rfl) h
  obtain ⟨b, o, he, _, hc⟩ := hs.at hi'
  cases he
  have c1 := hc i hi' 0 (by omega)
  have c2 := hc i hi' 1 (by omega)
  simp only [celE, Nat.add_zero, Nat.zero_add, List.getElem?_cons_zero, List.getElem?_cons_succ] at c1 c2
  exact ⟨c1, c2⟩
theorem FreshIn.setC {lo hi n c g : Nat} {xs : List Cl} {w : World} (h : FreshIn celE 87 2 lo hi (.slice (some ⟨g, 0, none⟩) n c) xs w) {i : Nat} (hi' : i < xs.length) (k : Cl) : FreshIn celE 87 2 lo hi (.slice (some ⟨g, 0, none⟩) n c) (xs.set i k) ((w.setCell ⟨g, i * 2, none⟩ (.int .i64 k.1)).setCell ⟨g, i * 2 + 1, none⟩ (.int .i64 k.2)) := by
  obtain ⟨⟨a', cap', hv, h1, h2⟩, h3⟩ := h
  cases hv
  obtain ⟨hol, ho⟩ := h2
  rcases ho with ⟨hv, _⟩ | ⟨g', cap, cur, hv, hbg, hg, hnc, hcm, hcs, htake⟩
  · cases hv
  · cases hv
    have e1 := heap_setCell_same w g (i * 2) cur _ (.int .i64 k.1) hg
    have e2 := heap_setCell_same (w.setCell ⟨g, i * 2, none⟩ (.int .i64 k.1)) g (i * 2 + 1) _ _ (.int .i64 k.2) e1
    have hn : xs.length * 2 ≤ c * 2 := Nat.mul_le_mul_right _ hnc
    refine ⟨⟨_, _, by rw [List.length_set], by rw [List.length_set]; exact h1, by rw [flat_length celE 2 (fun _ => rfl)], .inr ⟨g, c, _, rfl, hbg, e2, by rw [List.length_set]; exact hnc, hcm, by simpa using hcs, ?_⟩⟩, fun k' hk => by have := h3 k' hk; exact this⟩
    rw [List.length_set, Array.toList_setIfInBounds, Array.toList_setIfInBounds, ← flat_set xs i hi' k, ← htake, List.take_set, List.take_set]
theorem l04Resize_c (s : Scr) (ok : ScrOK s) (ac : Option Addr) (cc : Nat) (ah : Option Addr) (dh : Nat) (wd ht : Nat) (w : World) (h : ScrS s ac ah w) (w1 : 2 ≤ wd) (w2 : wd ≤ 24) (h1 : 2 ≤ ht) (h2 : ht ≤ 10) :
    Calls Tryz.prog 29 #[scrV s ac cc ah dh, .int .i64 wd, .int .i64 ht] w (ScrN (resS s wd ht) w) := by
  have h0 : 0 < s.cells.length := by rw [ok.cn]; exact Nat.mul_pos (by have := ok.w1; omega) (by have := ok.h1; omega)
  obtain ⟨b1, o1, rfl, hb1w, _⟩ := h.cs.at h0
  have HR := Lib.hid h
  have HOK := Lib.hid ok
  obtain ⟨sw, hsw⟩ : ∃ n, s.w = n := ⟨_, rfl⟩
  obtain ⟨sh, hsh⟩ : ∃ n, s.h = n := ⟨_, rfl⟩
  obtain ⟨nc, hnc⟩ : ∃ n, s.cells.length = n := ⟨_, rfl⟩
  have HSW := Lib.hid hsw
  have HSH := Lib.hid hsh
  have HNC := Lib.hid hnc
  have hs1 : 2 ≤ sw := by rw [← hsw]; exact ok.w1
  have hs2 : sw ≤ 24 := by rw [← hsw]; exact ok.w2
  have hs3 : 2 ≤ sh := by rw [← hsh]; exact ok.h1
  have hs4 : sh ≤ 10 := by rw [← hsh]; exact ok.h2
  have hcn : nc = sh * sw := by rw [← hnc, ok.cn, hsw, hsh, Nat.mul_comm]
  have HCN := Lib.hid hcn
  have hnc2 : nc ≤ 240 := by rw [hcn]; exact Nat.mul_le_mul hs4 hs2
  have e1 := min_i s.x wd
  have e2 := min_i s.sx wd
  have e3 : min (s.y : Int) ((ht : Int) - 1) = ((min s.y (ht - 1) : Nat) : Int) := by omega
  have e4 : min (s.sy : Int) ((ht : Int) - 1) = ((min s.sy (ht - 1) : Nat) : Int) := by omega
  have E1 := Lib.hid e1
  have E2 := Lib.hid e2
  have E3 := Lib.hid e3
  have E4 := Lib.hid e4
  have HLK : (s.look : Int) ≤ 127 := by have := ok.lk; omega
  unfold scrV
  rw [hsw, hsh, hnc]
  rw [hnc] at h0
  clear ok h hsw hsh hnc hcn e1 e2 e3 e4
  go_enter Tryz.func29, Tryz.ntmps29
  go_wp2_with fail
  refine (l04New_c wd ht _ w2 h2 (by omega)).mono ?_
  rintro e x1 ⟨ga, gc, gh, gd, rfl, hF, hb⟩
  have s1_0 : x1.cell? ⟨w.heap.size, 0, none⟩ = some (.int .i64 (sw : Int)) := kC hb (by simp; omega) (by simp [go_sem])
  have s1_1 : x1.cell? ⟨w.heap.size, 1, none⟩ = some (.int .i64 (sh : Int)) := kC hb (by simp; omega) (by simp [go_sem])
  have s1_2 : x1.cell? ⟨w.heap.size, 2, none⟩ = some (.int .i64 (s.x : Int)) := kC hb (by simp; omega) (by simp [go_sem])
  have s1_3 : x1.cell? ⟨w.heap.size, 3, none⟩ = some (.int .i64 (s.y : Int)) := kC hb (by simp; omega) (by simp [go_sem])
  have s1_4 : x1.cell? ⟨w.heap.size, 4, none⟩ = some (.int .i64 (s.look : Int)) := kC hb (by simp; omega) (by simp [go_sem])
  have s1_5 : x1.cell? ⟨w.heap.size, 5, none⟩ = some (.int .i64 (s.top : Int)) := kC hb (by simp; omega) (by simp [go_sem])
  have s1_6 : x1.cell? ⟨w.heap.size, 6, none⟩ = some (.int .i64 (s.bot : Int)) := kC hb (by simp; omega) (by simp [go_sem])
  have s1_7 : x1.cell? ⟨w.heap.size, 7, none⟩ = some (.int .i64 (s.sx : Int)) := kC hb (by simp; omega) (by simp [go_sem])
  have s1_8 : x1.cell? ⟨w.heap.size, 8, none⟩ = some (.int .i64 (s.sy : Int)) := kC hb (by simp; omega) (by simp [go_sem])
  have s1_9 : x1.cell? ⟨w.heap.size, 9, none⟩ = some (.string s.title) := kC hb (by simp; omega) (by simp [go_sem])
  have s1_10 : x1.cell? ⟨w.heap.size, 10, none⟩ = some (.slice (some ⟨b1, o1, none⟩) nc cc) := kC hb (by simp; omega) (by simp [go_sem])
  have s1_11 : x1.cell? ⟨w.heap.size, 11, none⟩ = some (.slice ah s.hist.length dh) := kC hb (by simp; omega) (by simp [go_sem])
  have s1_l : w.heap.size < x1.heap.size := (by have := hb.size; simp at this; omega)
  have z2_0 : x1.cell? ⟨(w.heap.size + 1), 0, none⟩ = some (.int .i64 0) := kC hb (by simp) (by simp [go_sem])
  have z2_1 : x1.cell? ⟨(w.heap.size + 1), 1, none⟩ = some (.int .i64 0) := kC hb (by simp) (by simp [go_sem])
  have z2_2 : x1.cell? ⟨(w.heap.size + 1), 2, none⟩ = some (.int .i64 0) := kC hb (by simp) (by simp [go_sem])
  have z2_3 : x1.cell? ⟨(w.heap.size + 1), 3, none⟩ = some (.int .i64 0) := kC hb (by simp) (by simp [go_sem])
  have z2_4 : x1.cell? ⟨(w.heap.size + 1), 4, none⟩ = some (.int .i64 0) := kC hb (by simp) (by simp [go_sem])
  have z2_5 : x1.cell? ⟨(w.heap.size + 1), 5, none⟩ = some (.int .i64 0) := kC hb (by simp) (by simp [go_sem])
  have z2_6 : x1.cell? ⟨(w.heap.size + 1), 6, none⟩ = some (.int .i64 0) := kC hb (by simp) (by simp [go_sem])
  have z2_7 : x1.cell? ⟨(w.heap.size + 1), 7, none⟩ = some (.int .i64 0) := kC hb (by simp) (by simp [go_sem])
  have z2_8 : x1.cell? ⟨(w.heap.size + 1), 8, none⟩ = some (.int .i64 0) := kC hb (by simp) (by simp [go_sem])
  have z2_9 : x1.cell? ⟨(w.heap.size + 1), 9, none⟩ = some (.string ⟨#[]⟩) := kC hb (by simp) (by simp [go_sem])
  have z2_10 : x1.cell? ⟨(w.heap.size + 1), 10, none⟩ = some (.slice none 0 0) := kC hb (by simp) (by simp [go_sem])
  have z2_11 : x1.cell? ⟨(w.heap.size + 1), 11, none⟩ = some (.slice none 0 0) := kC hb (by simp) (by simp [go_sem])
  have z2_l : (w.heap.size + 1) < x1.heap.size := (by have := hb.size; simp at this; omega)
  have z2_f : ∀ o, x1.frozen? ⟨(w.heap.size + 1), o, none⟩ = false := fun o => (hb.frozen (p := ⟨w.heap.size + 1, o, none⟩) (by show w.heap.size + 1 < _; simp)).trans (by simp [go_sem])
  obtain ⟨g, rfl⟩ := hF.blk (by simp [newS, blanksL]; exact Nat.mul_pos (by omega) (by omega))
  have HF := Lib.hid hF
  have HB1 : Hid (Below w.heap.size w x1) := Lib.hid ((((Below.refl _ _).alloc (Nat.le_refl _) _).alloc (by simp) _).trans (hb.mono (by simp; omega)))
  clear hF hb
  unfold scrV
  have hnl : (newS wd ht).cells.length = wd * ht := by simp [newS, blanksL]
  obtain ⟨m, hm⟩ : ∃ m, wd * ht = m := ⟨_, rfl⟩
  rw [hnl, hm]
  have HM := Lib.hid hm
  have hm2 : m ≤ 240 := by rw [← hm]; exact Nat.mul_le_mul w2 h2
  clear hnl hm
  simp only [newS, List.length_nil, Int.natCast_zero]
  have hglo := (FreshIn.blks HF.out.row g (by simp [blkOf])).1
  have hgx := (FreshIn.blks HF.out.row g (by simp [blkOf])).2
  simp only [World.size_alloc] at hglo
  go_upto_region 2 with fail
  obtain ⟨mn, hmn⟩ : ∃ n, min ht sh = n := ⟨_, rfl⟩
  have hmin : min (ht : Int) (sh : Int) = (mn : Int) := by omega
  have hmn1 : mn ≤ ht := by omega
  have hmn2 : mn ≤ sh := by omega
  have HMN := Lib.hid hmn
  obtain ⟨mx, hmx⟩ : ∃ n, min wd sw = n := ⟨_, rfl⟩
  have hminx : min (wd : Int) (sw : Int) = (mx : Int) := by omega
  have hmx1 : mx ≤ wd := by omega
  have hmx2 : mx ≤ sw := by omega
  have HMX := Lib.hid hmx
  obtain ⟨x2, hx2⟩ : ∃ x, x1.alloc (.cells #[.int .i64 (wd : Int), .int .i64 (ht : Int), .int .i64 0, .int .i64 0, .int .i64 0, .int .i64 0, .int .i64 ((ht - 1 : Nat) : Int), .int .i64 0, .int .i64 0, .string e0, .slice (some ⟨g, 0, none⟩) m gc, .slice gh 0 gd] 26) = x := ⟨_, rfl⟩
  have hbx : Below x1.heap.size x1 x2 := by rw [← hx2]; exact (Below.refl _ _).alloc (Nat.le_refl _) _
  have r3_0 : x2.cell? ⟨x1.heap.size, 0, none⟩ = some (.int .i64 (wd : Int)) := (by rw [← hx2]; simp [go_sem])
  have r3_1 : x2.cell? ⟨x1.heap.size, 1, none⟩ = some (.int .i64 (ht : Int)) := (by rw [← hx2]; simp [go_sem])
  have r3_2 : x2.cell? ⟨x1.heap.size, 2, none⟩ = some (.int .i64 0) := (by rw [← hx2]; simp [go_sem])
  have r3_3 : x2.cell? ⟨x1.heap.size, 3, none⟩ = some (.int .i64 0) := (by rw [← hx2]; simp [go_sem])
  have r3_4 : x2.cell? ⟨x1.heap.size, 4, none⟩ = some (.int .i64 0) := (by rw [← hx2]; simp [go_sem])
  have r3_5 : x2.cell? ⟨x1.heap.size, 5, none⟩ = some (.int .i64 0) := (by rw [← hx2]; simp [go_sem])
  have r3_6 : x2.cell? ⟨x1.heap.size, 6, none⟩ = some (.int .i64 ((ht - 1 : Nat) : Int)) := (by rw [← hx2]; simp [go_sem])
  have r3_7 : x2.cell? ⟨x1.heap.size, 7, none⟩ = some (.int .i64 0) := (by rw [← hx2]; simp [go_sem])
  have r3_8 : x2.cell? ⟨x1.heap.size, 8, none⟩ = some (.int .i64 0) := (by rw [← hx2]; simp [go_sem])
  have r3_9 : x2.cell? ⟨x1.heap.size, 9, none⟩ = some (.string e0) := (by rw [← hx2]; simp [go_sem])
  have r3_10 : x2.cell? ⟨x1.heap.size, 10, none⟩ = some (.slice (some ⟨g, 0, none⟩) m gc) := (by rw [← hx2]; simp [go_sem])
  have r3_11 : x2.cell? ⟨x1.heap.size, 11, none⟩ = some (.slice gh 0 gd) := (by rw [← hx2]; simp [go_sem])
  have r3_l : x1.heap.size < x2.heap.size := (by rw [← hx2]; simp)
  have r3_f : ∀ o, x2.frozen? ⟨x1.heap.size, o, none⟩ = false := fun o => (by rw [← hx2]; simp [go_sem])
  have s4_0 := kC hbx s1_l s1_0
  have s4_1 := kC hbx s1_l s1_1
  have s4_2 := kC hbx s1_l s1_2
  have s4_3 := kC hbx s1_l s1_3
  have s4_4 := kC hbx s1_l s1_4
  have s4_5 := kC hbx s1_l s1_5
  have s4_6 := kC hbx s1_l s1_6
  have s4_7 := kC hbx s1_l s1_7
  have s4_8 := kC hbx s1_l s1_8
  have s4_9 := kC hbx s1_l s1_9
  have s4_10 := kC hbx s1_l s1_10
  have s4_11 := kC hbx s1_l s1_11
  have s4_l := Nat.lt_of_lt_of_le s1_l hbx.size
  clear s1_0 s1_1 s1_2 s1_3 s1_4 s1_5 s1_6 s1_7 s1_8 s1_9 s1_10 s1_11 s1_l
  have z5_0 := kC hbx z2_l z2_0
  have z5_1 := kC hbx z2_l z2_1
  have z5_2 := kC hbx z2_l z2_2
  have z5_3 := kC hbx z2_l z2_3
  have z5_4 := kC hbx z2_l z2_4
  have z5_5 := kC hbx z2_l z2_5
  have z5_6 := kC hbx z2_l z2_6
  have z5_7 := kC hbx z2_l z2_7
  have z5_8 := kC hbx z2_l z2_8
  have z5_9 := kC hbx z2_l z2_9
  have z5_10 := kC hbx z2_l z2_10
  have z5_11 := kC hbx z2_l z2_11
  have z5_l : (w.heap.size + 1) < x2.heap.size := Nat.lt_of_lt_of_le z2_l hbx.size
  have z5_f := fun o => kF hbx z2_l (z2_f o)
  clear z2_0 z2_1 z2_2 z2_3 z2_4 z2_5 z2_6 z2_7 z2_8 z2_9 z2_10 z2_11 z2_l z2_f
  have HX12 := Lib.hid r3_l
  have HBX := Lib.hid hbx
  have HF2 : Hid (FreshIn celE 87 2 (w.heap.size + 2) x2.heap.size (.slice (some ⟨g, 0, none⟩) m gc) (resK s wd ht 0) x2) := Lib.hid (by
    have h := (HF.out.row.below hbx).mono (lo' := w.heap.size + 2) (by simp) hbx.size
    have hl : (newS wd ht).cells.length = m := by rw [← HM.out]; simp [newS, blanksL]
    rw [hl] at h
    rw [resK_zero, Nat.mul_comm]
    exact h)
  have HSC : Hid (Sl celE 2 x2 (some ⟨b1, o1, none⟩) s.cells) := Lib.hid ((HR.out.cs.keep HB1.out).keep hbx)
  rw [hx2]
  clear hx2 hbx hmn hmx
  go_wp2_with fail
  go_loopw [8] (fun i wr => ∃ k : Nat, k ≤ mn ∧ i = .int .i64 k ∧ Hid (FreshIn celE 87 2 (w.heap.size + 2) wr.heap.size (.slice (some ⟨g, 0, none⟩) m gc) (resK s wd ht k) wr ∧ Ch (· = g) x2 wr)) (fun i _ => mn - (intOf i).toNat)
  case atStart => exact ⟨0, Nat.zero_le _, rfl, Lib.hid ⟨HF2.out, Ch.refl⟩⟩
  case round =>
    rename World => wo
    obtain ⟨k, hk, rfl, HQ⟩ := hrel
    have HCH := Lib.hid HQ.out.2
    have t_1 : wo.cell? ⟨w.heap.size, 1, none⟩ = some (.int .i64 (sh : Int)) := (HCH.out.cell (p := ⟨w.heap.size, 1, none⟩) s4_l (show ¬ w.heap.size = g from by omega)).trans s4_1
    by_cases hlt : k < mn
    · have hlt' : (k : Int) < (mn : Int) := by omega
      have HKS : Hid (k < s.h) := Lib.hid (by rw [HSH.out]; omega)
      have HKT : Hid (k < ht) := Lib.hid (by omega)
      obtain ⟨pd, hpd⟩ : ∃ p, k * wd = p := ⟨_, rfl⟩
      obtain ⟨ps, hps⟩ : ∃ p, k * sw = p := ⟨_, rfl⟩
      have hqm : pd + wd ≤ m := by rw [← HM.out, ← hpd, Nat.mul_comm wd ht, ← Nat.succ_mul]; exact Nat.mul_le_mul_right _ (by omega)
      have hqn : ps + sw ≤ nc := by rw [HCN.out, ← hps, ← Nat.succ_mul]; exact Nat.mul_le_mul_right _ (by omega)
      have hpdi : (k : Int) * (wd : Int) = (pd : Int) := by rw [← hpd]; exact (Int.natCast_mul k wd).symm
      have hpsi : (k : Int) * (sw : Int) = (ps : Int) := by rw [← hps]; exact (Int.natCast_mul k sw).symm
      have hwd1 : IntKind.i64.wrap ((k : Int) * (wd : Int)) = (pd : Int) := by rw [hpdi]; exact IntWalk.i64_in _ ⟨by omega, by omega⟩
      have hws1 : IntKind.i64.wrap ((k : Int) * (sw : Int)) = (ps : Int) := by rw [hpsi]; exact IntWalk.i64_in _ ⟨by omega, by omega⟩
      have HPD := Lib.hid hpd
      have HPS := Lib.hid hps
      clear hpd hps hpdi hpsi
      go_wp2_with fail
      go_loopw [9] (fun i wr => ∃ x : Nat, x ≤ mx ∧ i = .int .i64 x ∧ Hid (FreshIn celE 87 2 (w.heap.size + 2) wr.heap.size (.slice (some ⟨g, 0, none⟩) m gc) (resX s wd ht k x) wr ∧ Ch (· = g) x2 wr)) (fun i _ => mx - (intOf i).toNat)
      case atStart => exact ⟨0, Nat.zero_le _, rfl, Lib.hid ⟨by rw [resX_zero HKT.out]; exact HQ.out.1, HQ.out.2⟩⟩
      case round =>
        obtain ⟨x, hx, rfl, HP⟩ := hrel
        have HCI := Lib.hid HP.out.2
        have s_0 : wr.cell? ⟨w.heap.size, 0, none⟩ = some (.int .i64 (sw : Int)) := (HCI.out.cell (p := ⟨w.heap.size, 0, none⟩) s4_l (show ¬ w.heap.size = g from by omega)).trans s4_0
        have s_10 : wr.cell? ⟨w.heap.size, 10, none⟩ = some (.slice (some ⟨b1, o1, none⟩) nc cc) := (HCI.out.cell (p := ⟨w.heap.size, 10, none⟩) s4_l (show ¬ w.heap.size = g from by omega)).trans s4_10
        have r_10 : wr.cell? ⟨x1.heap.size, 10, none⟩ = some (.slice (some ⟨g, 0, none⟩) m gc) := (HCI.out.cell (p := ⟨x1.heap.size, 10, none⟩) r3_l (show ¬ x1.heap.size = g from by omega)).trans r3_10
        have hl1 := Nat.lt_of_lt_of_le s4_l HCI.out.size
        have hl2 := Nat.lt_of_lt_of_le r3_l HCI.out.size
        by_cases hxl : x < mx
        · have hxl' : (x : Int) < (mx : Int) := by omega
          obtain ⟨jd, hjd⟩ : ∃ j, pd + x = j := ⟨_, rfl⟩
          obtain ⟨js, hjs⟩ : ∃ j, ps + x = j := ⟨_, rfl⟩
          have hjd2 : jd < m := by omega
          have hjs2 : js < nc := by omega
          have hwd2 : IntKind.i64.wrap ((pd : Int) + (x : Int)) = (jd : Int) := by rw [IntWalk.i64_in _ ⟨by omega, by omega⟩]; omega
          have hws2 : IntKind.i64.wrap ((ps : Int) + (x : Int)) = (js : Int) := by rw [IntWalk.i64_in _ ⟨by omega, by omega⟩]; omega
          have i1 : (jd : Int) < (m : Int) := by omega
          have i2 : (js : Int) < (nc : Int) := by omega
          have hrl := rowC_len HOK.out HKS.out
          have hxr : x < (rowC s k).length := by rw [hrl, HSW.out]; omega
          obtain ⟨c, hc⟩ : ∃ c, (rowC s k)[x] = c := ⟨_, rfl⟩
          have hjn : js < s.cells.length := by rw [HNC.out]; exact hjs2
          have hce : s.cells[js] = c := by
            rw [← hc]
            simp only [rowC, List.getElem_take, List.getElem_drop, HSW.out, HPS.out, hjs]
          obtain ⟨b', o', hae, hb1, hc1⟩ := (HSC.out.ch HCI.out (fun b hb e => by
            simp only [blkOf, List.mem_singleton] at hb
            have h1 := HB1.out.size
            omega)).at hjn
          cases hae
          have c1 := hc1 js hjn 0 (by omega)
          have c2 := hc1 js hjn 1 (by omega)
          rw [hce] at c1 c2
          simp only [celE, Nat.add_zero, List.getElem?_cons_zero, List.getElem?_cons_succ] at c1 c2
          have HRN : Hid ((resX s wd ht k x).set jd c = resX s wd ht k (x + 1)) := Lib.hid (by
            have h := resX_next (w := wd) (h := ht) HOK.out HKT.out HKS.out (x := x) (by omega) (by rw [HSW.out]; omega) c hc
            rw [HPD.out, hjd] at h
            exact h)
          have HJL : Hid (jd < (resX s wd ht k x).length) := Lib.hid (by
            rw [resX_len HOK.out HKT.out HKS.out (by rw [HSW.out]; omega), Nat.mul_comm, HM.out]
            exact hjd2)
          obtain ⟨v1, v2⟩ := c
          simp only at c1 c2
          have hgz : ∀ o, wr.frozen? ⟨g, o, none⟩ = false := freshFz HP.out.1
          have hg1 := freshCell HP.out.1 jd HJL.out
          have SS : wr.cell? ⟨x1.heap.size, 10, none⟩ = some (.slice (some ⟨g, 0, none⟩) m gc) ∧ wr.cell? ⟨w.heap.size, 10, none⟩ = some (.slice (some ⟨b1, o1, none⟩) nc cc) ∧ wr.cell? ⟨w.heap.size, 0, none⟩ = some (.int .i64 (sw : Int)) ∧ wr.cell? ⟨b1, o1 + js * 2, none⟩ = some (.int .i64 v1) ∧ wr.cell? ⟨b1, o1 + js * 2 + 1, none⟩ = some (.int .i64 v2) := ⟨r_10, s_10, s_0, c1, c2⟩
          have hb1g : ¬ b1 = g := by have h1 := HB1.out.size; omega
          have HSK : Hid (∀ x, Ch (· = g) wr x → x.cell? ⟨x1.heap.size, 10, none⟩ = some (.slice (some ⟨g, 0, none⟩) m gc) ∧ x.cell? ⟨w.heap.size, 10, none⟩ = some (.slice (some ⟨b1, o1, none⟩) nc cc) ∧ x.cell? ⟨w.heap.size, 0, none⟩ = some (.int .i64 (sw : Int)) ∧ x.cell? ⟨b1, o1 + js * 2, none⟩ = some (.int .i64 v1) ∧ x.cell? ⟨b1, o1 + js * 2 + 1, none⟩ = some (.int .i64 v2)) := Lib.hid (fun x h => ⟨(h.cell (p := ⟨x1.heap.size, 10, none⟩) hl2 (show ¬ x1.heap.size = g from by omega)).trans r_10, (h.cell (p := ⟨w.heap.size, 10, none⟩) hl1 (show ¬ w.heap.size = g from by omega)).trans s_10, (h.cell (p := ⟨w.heap.size, 0, none⟩) hl1 (show ¬ w.heap.size = g from by omega)).trans s_0, (h.cell (p := ⟨b1, o1 + js * 2, none⟩) hb1 hb1g).trans c1, (h.cell (p := ⟨b1, o1 + js * 2 + 1, none⟩) hb1 hb1g).trans c2⟩)
          clear hc1 hce hc hrl hxr hjd hjs r_10 s_10 s_0 c1 c2
          go_upto_region 8 with fail
          refine wp_region_G (fun w' => w'.cell? ⟨x1.heap.size, 10, none⟩ = some (.slice (some ⟨g, 0, none⟩) m gc) ∧ w'.cell? ⟨w.heap.size, 10, none⟩ = some (.slice (some ⟨b1, o1, none⟩) nc cc) ∧ w'.cell? ⟨w.heap.size, 0, none⟩ = some (.int .i64 (sw : Int)) ∧ w'.cell? ⟨b1, o1 + js * 2, none⟩ = some (.int .i64 v1) ∧ w'.cell? ⟨b1, o1 + js * 2 + 1, none⟩ = some (.int .i64 v2)) (fun i => false) (by kernel_rfl) SS ?_
          refine tW ?_ 0 rfl ?_ ?_; rotate_left
          · intro w' hSw; go_simp; try rfl
          try simp only [Act.put,j1,j2,j3,j4,j5,j6]
          refine tL ?_ 1 rfl SS ?_ ?_; rotate_left
          · intro w' hSw; obtain ⟨s0, s1, s2, s3, s4⟩ := hSw; go_simp; try rfl
          try simp only [Act.put,j1,j2,j3,j4,j5,j6]
          refine tW ?_ 2 rfl ?_ ?_; rotate_left
          · intro w' hSw; go_simp; try rfl
          try simp only [Act.put,j1,j2,j3,j4,j5,j6]
          refine tW ?_ 3 rfl ?_ ?_; rotate_left
          · intro w' hSw; go_simp; try rfl
          try simp only [Act.put,j1,j2,j3,j4,j5,j6]
          refine tW ?_ 4 rfl ?_ ?_; rotate_left
          · intro w' hSw; go_simp; try rfl
          try simp only [Act.put,j1,j2,j3,j4,j5,j6]
          refine tW ?_ 5 rfl ?_ ?_; rotate_left
          · intro w' hSw; go_simp; try rfl
          try simp only [Act.put,j1,j2,j3,j4,j5,j6]
          refine tW ?_ 6 rfl ?_ ?_; rotate_left
          · intro w' hSw; go_simp; try rfl
          try simp only [Act.put,j1,j2,j3,j4,j5,j6]
          refine tW ?_ 7 rfl ?_ ?_; rotate_left
          · intro w' hSw; go_simp; try rfl
          try simp only [Act.put,j1,j2,j3,j4,j5,j6]
          refine tL ?_ 8 rfl SS ?_ ?_; rotate_left
          · intro w' hSw; obtain ⟨s0, s1, s2, s3, s4⟩ := hSw; go_simp; try rfl
          try simp only [Act.put,j1,j2,j3,j4,j5,j6]
          refine tW ?_ 9 rfl ?_ ?_; rotate_left
          · intro w' hSw; go_simp; try rfl
          try simp only [Act.put,j1,j2,j3,j4,j5,j6]
          refine tW ?_ 10 rfl ?_ ?_; rotate_left
          · intro w' hSw; go_simp; try rfl
          try simp only [Act.put,j1,j2,j3,j4,j5,j6]
          refine tL ?_ 11 rfl SS ?_ ?_; rotate_left
          · intro w' hSw; obtain ⟨s0, s1, s2, s3, s4⟩ := hSw; go_simp; try rfl
          try simp only [Act.put,j1,j2,j3,j4,j5,j6]
          refine tW ?_ 12 rfl ?_ ?_; rotate_left
          · intro w' hSw; go_simp; try rfl
          try simp only [Act.put,j1,j2,j3,j4,j5,j6]
          refine tW ?_ 13 rfl ?_ ?_; rotate_left
          · intro w' hSw; go_simp; try rfl
          try simp only [Act.put,j1,j2,j3,j4,j5,j6]
          refine tW ?_ 14 rfl ?_ ?_; rotate_left
          · intro w' hSw; go_simp; try rfl
          try simp only [Act.put,j1,j2,j3,j4,j5,j6]
          refine tW ?_ 15 rfl ?_ ?_; rotate_left
          · intro w' hSw; go_simp; try rfl
          try simp only [Act.put,j1,j2,j3,j4,j5,j6]
          refine tL ?_ 16 rfl SS ?_ ?_; rotate_left
          · intro w' hSw; obtain ⟨s0, s1, s2, s3, s4⟩ := hSw; go_simp; try rfl
          try simp only [Act.put,j1,j2,j3,j4,j5,j6]
          refine tW ?_ 17 rfl ?_ ?_; rotate_left
          · intro w' hSw; go_simp; try rfl
          try simp only [Act.put,j1,j2,j3,j4,j5,j6]
          refine wpAnyG_one (i := 18) (by kernel_rfl) rfl SS (fun K' hK => ?_)
          simp only [j1,j2,j3]
          go_simp
          refine hK.out _ _ (Or.inr (HSK.out _ (by repeat (first | (with_reducible exact Ch.refl) | (with_reducible refine Ch.drew ?_) | (with_reducible refine Ch.setB ?_ _ _))))) ?_
          clear hK K'
          try simp only [Act.put,j1,j2,j3,j4,j5,j6]
          refine wpAnyG_done (by kernel_rfl) ?_ _
          obtain ⟨w3, hw3⟩ : ∃ x, ((wr.setCell ⟨g, jd * 2, none⟩ (.int .i64 v1)).setCell ⟨g, jd * 2 + 1, none⟩ (.int .i64 v2)).drew = x := ⟨_, rfl⟩
          have HF3 : Hid (FreshIn celE 87 2 (w.heap.size + 2) w3.heap.size (.slice (some ⟨g, 0, none⟩) m gc) (resX s wd ht k (x + 1)) w3) := Lib.hid (by
            rw [← hw3, ← HRN.out]
            exact ((HP.out.1.setC HJL.out (v1, v2)).drew).mono (Nat.le_refl _) (by simp [World.setCell]))
          have HC3 : Hid (Ch (· = g) x2 w3) := Lib.hid (HCI.out.trans (N := (· = g)) (by rw [← hw3]; exact (by repeat (first | (with_reducible exact Ch.refl) | (with_reducible refine Ch.drew ?_) | (with_reducible refine Ch.setB ?_ _ _)))) (fun _ h => .inl h))
          rw [hw3]
          clear hw3 SS hg1
          go_wp2_with fail
          go_roundw
          case rel => exact ⟨x + 1, by omega, by go_num, Lib.hid ⟨HF3.out, HC3.out⟩⟩
          case measure => simp [intOf]; omega
        · obtain rfl : x = mx := by omega
          have HRX : Hid (resX s wd ht k x = resK s wd ht (k + 1)) := Lib.hid (by
            rw [← resX_last HOK.out HKT.out HKS.out, HSW.out, HMX.out])
          go_wp2_with fail
          go_roundw
          case rel => exact ⟨k + 1, by omega, by go_num, Lib.hid ⟨by rw [← HRX.out]; exact HP.out.1, HP.out.2⟩⟩
          case measure => simp [intOf]; omega
    · obtain rfl : k = mn := by omega
      have s6_0 : wo.cell? ⟨w.heap.size, 0, none⟩ = some (.int .i64 (sw : Int)) := (HCH.out.cell (p := ⟨w.heap.size, 0, none⟩) s4_l (show ¬ w.heap.size = g from by omega)).trans s4_0
      have s6_1 : wo.cell? ⟨w.heap.size, 1, none⟩ = some (.int .i64 (sh : Int)) := (HCH.out.cell (p := ⟨w.heap.size, 1, none⟩) s4_l (show ¬ w.heap.size = g from by omega)).trans s4_1
      have s6_2 : wo.cell? ⟨w.heap.size, 2, none⟩ = some (.int .i64 (s.x : Int)) := (HCH.out.cell (p := ⟨w.heap.size, 2, none⟩) s4_l (show ¬ w.heap.size = g from by omega)).trans s4_2
      have s6_3 : wo.cell? ⟨w.heap.size, 3, none⟩ = some (.int .i64 (s.y : Int)) := (HCH.out.cell (p := ⟨w.heap.size, 3, none⟩) s4_l (show ¬ w.heap.size = g from by omega)).trans s4_3
      have s6_4 : wo.cell? ⟨w.heap.size, 4, none⟩ = some (.int .i64 (s.look : Int)) := (HCH.out.cell (p := ⟨w.heap.size, 4, none⟩) s4_l (show ¬ w.heap.size = g from by omega)).trans s4_4
      have s6_5 : wo.cell? ⟨w.heap.size, 5, none⟩ = some (.int .i64 (s.top : Int)) := (HCH.out.cell (p := ⟨w.heap.size, 5, none⟩) s4_l (show ¬ w.heap.size = g from by omega)).trans s4_5
      have s6_6 : wo.cell? ⟨w.heap.size, 6, none⟩ = some (.int .i64 (s.bot : Int)) := (HCH.out.cell (p := ⟨w.heap.size, 6, none⟩) s4_l (show ¬ w.heap.size = g from by omega)).trans s4_6
      have s6_7 : wo.cell? ⟨w.heap.size, 7, none⟩ = some (.int .i64 (s.sx : Int)) := (HCH.out.cell (p := ⟨w.heap.size, 7, none⟩) s4_l (show ¬ w.heap.size = g from by omega)).trans s4_7
      have s6_8 : wo.cell? ⟨w.heap.size, 8, none⟩ = some (.int .i64 (s.sy : Int)) := (HCH.out.cell (p := ⟨w.heap.size, 8, none⟩) s4_l (show ¬ w.heap.size = g from by omega)).trans s4_8
      have s6_9 : wo.cell? ⟨w.heap.size, 9, none⟩ = some (.string s.title) := (HCH.out.cell (p := ⟨w.heap.size, 9, none⟩) s4_l (show ¬ w.heap.size = g from by omega)).trans s4_9
      have s6_10 : wo.cell? ⟨w.heap.size, 10, none⟩ = some (.slice (some ⟨b1, o1, none⟩) nc cc) := (HCH.out.cell (p := ⟨w.heap.size, 10, none⟩) s4_l (show ¬ w.heap.size = g from by omega)).trans s4_10
      have s6_11 : wo.cell? ⟨w.heap.size, 11, none⟩ = some (.slice ah s.hist.length dh) := (HCH.out.cell (p := ⟨w.heap.size, 11, none⟩) s4_l (show ¬ w.heap.size = g from by omega)).trans s4_11
      have s6_l := Nat.lt_of_lt_of_le s4_l HCH.out.size
      clear s4_0 s4_1 s4_2 s4_3 s4_4 s4_5 s4_6 s4_7 s4_8 s4_9 s4_10 s4_11 s4_l
      have z7_0 : wo.cell? ⟨(w.heap.size + 1), 0, none⟩ = some (.int .i64 0) := (HCH.out.cell (p := ⟨(w.heap.size + 1), 0, none⟩) z5_l (show ¬ (w.heap.size + 1) = g from by omega)).trans z5_0
      have z7_1 : wo.cell? ⟨(w.heap.size + 1), 1, none⟩ = some (.int .i64 0) := (HCH.out.cell (p := ⟨(w.heap.size + 1), 1, none⟩) z5_l (show ¬ (w.heap.size + 1) = g from by omega)).trans z5_1
      have z7_2 : wo.cell? ⟨(w.heap.size + 1), 2, none⟩ = some (.int .i64 0) := (HCH.out.cell (p := ⟨(w.heap.size + 1), 2, none⟩) z5_l (show ¬ (w.heap.size + 1) = g from by omega)).trans z5_2
      have z7_3 : wo.cell? ⟨(w.heap.size + 1), 3, none⟩ = some (.int .i64 0) := (HCH.out.cell (p := ⟨(w.heap.size + 1), 3, none⟩) z5_l (show ¬ (w.heap.size + 1) = g from by omega)).trans z5_3
      have z7_4 : wo.cell? ⟨(w.heap.size + 1), 4, none⟩ = some (.int .i64 0) := (HCH.out.cell (p := ⟨(w.heap.size + 1), 4, none⟩) z5_l (show ¬ (w.heap.size + 1) = g from by omega)).trans z5_4
      have z7_5 : wo.cell? ⟨(w.heap.size + 1), 5, none⟩ = some (.int .i64 0) := (HCH.out.cell (p := ⟨(w.heap.size + 1), 5, none⟩) z5_l (show ¬ (w.heap.size + 1) = g from by omega)).trans z5_5
      have z7_6 : wo.cell? ⟨(w.heap.size + 1), 6, none⟩ = some (.int .i64 0) := (HCH.out.cell (p := ⟨(w.heap.size + 1), 6, none⟩) z5_l (show ¬ (w.heap.size + 1) = g from by omega)).trans z5_6
      have z7_7 : wo.cell? ⟨(w.heap.size + 1), 7, none⟩ = some (.int .i64 0) := (HCH.out.cell (p := ⟨(w.heap.size + 1), 7, none⟩) z5_l (show ¬ (w.heap.size + 1) = g from by omega)).trans z5_7
      have z7_8 : wo.cell? ⟨(w.heap.size + 1), 8, none⟩ = some (.int .i64 0) := (HCH.out.cell (p := ⟨(w.heap.size + 1), 8, none⟩) z5_l (show ¬ (w.heap.size + 1) = g from by omega)).trans z5_8
      have z7_9 : wo.cell? ⟨(w.heap.size + 1), 9, none⟩ = some (.string ⟨#[]⟩) := (HCH.out.cell (p := ⟨(w.heap.size + 1), 9, none⟩) z5_l (show ¬ (w.heap.size + 1) = g from by omega)).trans z5_9
      have z7_10 : wo.cell? ⟨(w.heap.size + 1), 10, none⟩ = some (.slice none 0 0) := (HCH.out.cell (p := ⟨(w.heap.size + 1), 10, none⟩) z5_l (show ¬ (w.heap.size + 1) = g from by omega)).trans z5_10
      have z7_11 : wo.cell? ⟨(w.heap.size + 1), 11, none⟩ = some (.slice none 0 0) := (HCH.out.cell (p := ⟨(w.heap.size + 1), 11, none⟩) z5_l (show ¬ (w.heap.size + 1) = g from by omega)).trans z5_11
      have z7_l : (w.heap.size + 1) < wo.heap.size := Nat.lt_of_lt_of_le z5_l HCH.out.size
      have z7_f : ∀ o, wo.frozen? ⟨(w.heap.size + 1), o, none⟩ = false := fun o => (HCH.out.frozen (p := ⟨(w.heap.size + 1), o, none⟩) z5_l (show ¬ (w.heap.size + 1) = g from by omega)).trans (z5_f o)
      clear z5_0 z5_1 z5_2 z5_3 z5_4 z5_5 z5_6 z5_7 z5_8 z5_9 z5_10 z5_11 z5_l z5_f
      have r8_0 : wo.cell? ⟨x1.heap.size, 0, none⟩ = some (.int .i64 (wd : Int)) := (HCH.out.cell (p := ⟨x1.heap.size, 0, none⟩) r3_l (show ¬ x1.heap.size = g from by omega)).trans r3_0
      have r8_1 : wo.cell? ⟨x1.heap.size, 1, none⟩ = some (.int .i64 (ht : Int)) := (HCH.out.cell (p := ⟨x1.heap.size, 1, none⟩) r3_l (show ¬ x1.heap.size = g from by omega)).trans r3_1
      have r8_2 : wo.cell? ⟨x1.heap.size, 2, none⟩ = some (.int .i64 0) := (HCH.out.cell (p := ⟨x1.heap.size, 2, none⟩) r3_l (show ¬ x1.heap.size = g from by omega)).trans r3_2
      have r8_3 : wo.cell? ⟨x1.heap.size, 3, none⟩ = some (.int .i64 0) := (HCH.out.cell (p := ⟨x1.heap.size, 3, none⟩) r3_l (show ¬ x1.heap.size = g from by omega)).trans r3_3
      have r8_4 : wo.cell? ⟨x1.heap.size, 4, none⟩ = some (.int .i64 0) := (HCH.out.cell (p := ⟨x1.heap.size, 4, none⟩) r3_l (show ¬ x1.heap.size = g from by omega)).trans r3_4
      have r8_5 : wo.cell? ⟨x1.heap.size, 5, none⟩ = some (.int .i64 0) := (HCH.out.cell (p := ⟨x1.heap.size, 5, none⟩) r3_l (show ¬ x1.heap.size = g from by omega)).trans r3_5
      have r8_6 : wo.cell? ⟨x1.heap.size, 6, none⟩ = some (.int .i64 ((ht - 1 : Nat) : Int)) := (HCH.out.cell (p := ⟨x1.heap.size, 6, none⟩) r3_l (show ¬ x1.heap.size = g from by omega)).trans r3_6
      have r8_7 : wo.cell? ⟨x1.heap.size, 7, none⟩ = some (.int .i64 0) := (HCH.out.cell (p := ⟨x1.heap.size, 7, none⟩) r3_l (show ¬ x1.heap.size = g from by omega)).trans r3_7
      have r8_8 : wo.cell? ⟨x1.heap.size, 8, none⟩ = some (.int .i64 0) := (HCH.out.cell (p := ⟨x1.heap.size, 8, none⟩) r3_l (show ¬ x1.heap.size = g from by omega)).trans r3_8
      have r8_9 : wo.cell? ⟨x1.heap.size, 9, none⟩ = some (.string e0) := (HCH.out.cell (p := ⟨x1.heap.size, 9, none⟩) r3_l (show ¬ x1.heap.size = g from by omega)).trans r3_9
      have r8_10 : wo.cell? ⟨x1.heap.size, 10, none⟩ = some (.slice (some ⟨g, 0, none⟩) m gc) := (HCH.out.cell (p := ⟨x1.heap.size, 10, none⟩) r3_l (show ¬ x1.heap.size = g from by omega)).trans r3_10
      have r8_11 : wo.cell? ⟨x1.heap.size, 11, none⟩ = some (.slice gh 0 gd) := (HCH.out.cell (p := ⟨x1.heap.size, 11, none⟩) r3_l (show ¬ x1.heap.size = g from by omega)).trans r3_11
      have r8_l := Nat.lt_of_lt_of_le r3_l HCH.out.size
      have r8_f : ∀ o, wo.frozen? ⟨x1.heap.size, o, none⟩ = false := fun o => (HCH.out.frozen (p := ⟨x1.heap.size, o, none⟩) r3_l (show ¬ x1.heap.size = g from by omega)).trans (r3_f o)
      clear r3_0 r3_1 r3_2 r3_3 r3_4 r3_5 r3_6 r3_7 r3_8 r3_9 r3_10 r3_11 r3_l r3_f
      have HRD : Hid (resK s wd ht k = resC s wd ht) := Lib.hid (resK_done (by rw [HSH.out]; exact HMN.out.symm))
      rw [HRD.out] at HQ
      have e1 := E1.out
      have e2 := E2.out
      have e3 := E3.out
      have e4 := E4.out
      have hne5 : ¬ w.heap.size = x1.heap.size := by omega
      have hne6 : ¬ x1.heap.size = w.heap.size := by omega
      go_upto_region 15 with fail
      obtain ⟨x7, hx7⟩ : ∃ x, ((((((wo.setCell ⟨x1.heap.size, 2, none⟩ (.int .i64 ((min s.x wd : Nat) : Int))).setCell ⟨x1.heap.size, 3, none⟩ (.int .i64 ((min s.y (ht - 1) : Nat) : Int))).setCell ⟨x1.heap.size, 7, none⟩ (.int .i64 ((min s.sx wd : Nat) : Int))).setCell ⟨x1.heap.size, 8, none⟩ (.int .i64 ((min s.sy (ht - 1) : Nat) : Int))).setCell ⟨x1.heap.size, 4, none⟩ (.int .i64 (s.look : Int))).setCell ⟨x1.heap.size, 9, none⟩ (.string s.title)) = x := ⟨_, rfl⟩
      have hc7 : Ch (· = x1.heap.size) wo x7 := by rw [← hx7]; exact by repeat (first | (with_reducible exact Ch.refl) | (with_reducible refine Ch.drew ?_) | (with_reducible refine Ch.setB ?_ _ _))
      have q9_0 : x7.cell? ⟨x1.heap.size, 0, none⟩ = some (.int .i64 (wd : Int)) := (by rw [← hx7]; simp [go_sem, r8_0, r8_1, r8_2, r8_3, r8_4, r8_5, r8_6, r8_7, r8_8, r8_9, r8_10, r8_11, r8_f])
      have q9_1 : x7.cell? ⟨x1.heap.size, 1, none⟩ = some (.int .i64 (ht : Int)) := (by rw [← hx7]; simp [go_sem, r8_0, r8_1, r8_2, r8_3, r8_4, r8_5, r8_6, r8_7, r8_8, r8_9, r8_10, r8_11, r8_f])
      have q9_2 : x7.cell? ⟨x1.heap.size, 2, none⟩ = some (.int .i64 ((min s.x wd : Nat) : Int)) := (by rw [← hx7]; simp [go_sem, r8_0, r8_1, r8_2, r8_3, r8_4, r8_5, r8_6, r8_7, r8_8, r8_9, r8_10, r8_11, r8_f])
      have q9_3 : x7.cell? ⟨x1.heap.size, 3, none⟩ = some (.int .i64 ((min s.y (ht - 1) : Nat) : Int)) := (by rw [← hx7]; simp [go_sem, r8_0, r8_1, r8_2, r8_3, r8_4, r8_5, r8_6, r8_7, r8_8, r8_9, r8_10, r8_11, r8_f])
      have q9_4 : x7.cell? ⟨x1.heap.size, 4, none⟩ = some (.int .i64 (s.look : Int)) := (by rw [← hx7]; simp [go_sem, r8_0, r8_1, r8_2, r8_3, r8_4, r8_5, r8_6, r8_7, r8_8, r8_9, r8_10, r8_11, r8_f])
      have q9_5 : x7.cell? ⟨x1.heap.size, 5, none⟩ = some (.int .i64 0) := (by rw [← hx7]; simp [go_sem, r8_0, r8_1, r8_2, r8_3, r8_4, r8_5, r8_6, r8_7, r8_8, r8_9, r8_10, r8_11, r8_f])
      have q9_6 : x7.cell? ⟨x1.heap.size, 6, none⟩ = some (.int .i64 ((ht - 1 : Nat) : Int)) := (by rw [← hx7]; simp [go_sem, r8_0, r8_1, r8_2, r8_3, r8_4, r8_5, r8_6, r8_7, r8_8, r8_9, r8_10, r8_11, r8_f])
      have q9_7 : x7.cell? ⟨x1.heap.size, 7, none⟩ = some (.int .i64 ((min s.sx wd : Nat) : Int)) := (by rw [← hx7]; simp [go_sem, r8_0, r8_1, r8_2, r8_3, r8_4, r8_5, r8_6, r8_7, r8_8, r8_9, r8_10, r8_11, r8_f])
      have q9_8 : x7.cell? ⟨x1.heap.size, 8, none⟩ = some (.int .i64 ((min s.sy (ht - 1) : Nat) : Int)) := (by rw [← hx7]; simp [go_sem, r8_0, r8_1, r8_2, r8_3, r8_4, r8_5, r8_6, r8_7, r8_8, r8_9, r8_10, r8_11, r8_f])
      have q9_9 : x7.cell? ⟨x1.heap.size, 9, none⟩ = some (.string s.title) := (by rw [← hx7]; simp [go_sem, r8_0, r8_1, r8_2, r8_3, r8_4, r8_5, r8_6, r8_7, r8_8, r8_9, r8_10, r8_11, r8_f])
      have q9_10 : x7.cell? ⟨x1.heap.size, 10, none⟩ = some (.slice (some ⟨g, 0, none⟩) m gc) := (by rw [← hx7]; simp [go_sem, r8_0, r8_1, r8_2, r8_3, r8_4, r8_5, r8_6, r8_7, r8_8, r8_9, r8_10, r8_11, r8_f])
      have q9_11 : x7.cell? ⟨x1.heap.size, 11, none⟩ = some (.slice gh 0 gd) := (by rw [← hx7]; simp [go_sem, r8_0, r8_1, r8_2, r8_3, r8_4, r8_5, r8_6, r8_7, r8_8, r8_9, r8_10, r8_11, r8_f])
      have q9_l : x1.heap.size < x7.heap.size := (Nat.lt_of_lt_of_le r8_l hc7.size)
      have q9_f : ∀ o, x7.frozen? ⟨x1.heap.size, o, none⟩ = false := fun o => (by rw [← hx7]; simp [go_sem, r8_0, r8_1, r8_2, r8_3, r8_4, r8_5, r8_6, r8_7, r8_8, r8_9, r8_10, r8_11, r8_f])
      clear r8_0 r8_1 r8_2 r8_3 r8_4 r8_5 r8_6 r8_7 r8_8 r8_9 r8_10 r8_11 r8_l r8_f
      have s10_0 : x7.cell? ⟨w.heap.size, 0, none⟩ = some (.int .i64 (sw : Int)) := (hc7.cell (p := ⟨w.heap.size, 0, none⟩) s6_l (show ¬ w.heap.size = x1.heap.size from by omega)).trans s6_0
      have s10_1 : x7.cell? ⟨w.heap.size, 1, none⟩ = some (.int .i64 (sh : Int)) := (hc7.cell (p := ⟨w.heap.size, 1, none⟩) s6_l (show ¬ w.heap.size = x1.heap.size from by omega)).trans s6_1
      have s10_2 : x7.cell? ⟨w.heap.size, 2, none⟩ = some (.int .i64 (s.x : Int)) := (hc7.cell (p := ⟨w.heap.size, 2, none⟩) s6_l (show ¬ w.heap.size = x1.heap.size from by omega)).trans s6_2
      have s10_3 : x7.cell? ⟨w.heap.size, 3, none⟩ = some (.int .i64 (s.y : Int)) := (hc7.cell (p := ⟨w.heap.size, 3, none⟩) s6_l (show ¬ w.heap.size = x1.heap.size from by omega)).trans s6_3
      have s10_4 : x7.cell? ⟨w.heap.size, 4, none⟩ = some (.int .i64 (s.look : Int)) := (hc7.cell (p := ⟨w.heap.size, 4, none⟩) s6_l (show ¬ w.heap.size = x1.heap.size from by omega)).trans s6_4
      have s10_5 : x7.cell? ⟨w.heap.size, 5, none⟩ = some (.int .i64 (s.top : Int)) := (hc7.cell (p := ⟨w.heap.size, 5, none⟩) s6_l (show ¬ w.heap.size = x1.heap.size from by omega)).trans s6_5
      have s10_6 : x7.cell? ⟨w.heap.size, 6, none⟩ = some (.int .i64 (s.bot : Int)) := (hc7.cell (p := ⟨w.heap.size, 6, none⟩) s6_l (show ¬ w.heap.size = x1.heap.size from by omega)).trans s6_6
      have s10_7 : x7.cell? ⟨w.heap.size, 7, none⟩ = some (.int .i64 (s.sx : Int)) := (hc7.cell (p := ⟨w.heap.size, 7, none⟩) s6_l (show ¬ w.heap.size = x1.heap.size from by omega)).trans s6_7
      have s10_8 : x7.cell? ⟨w.heap.size, 8, none⟩ = some (.int .i64 (s.sy : Int)) := (hc7.cell (p := ⟨w.heap.size, 8, none⟩) s6_l (show ¬ w.heap.size = x1.heap.size from by omega)).trans s6_8
      have s10_9 : x7.cell? ⟨w.heap.size, 9, none⟩ = some (.string s.title) := (hc7.cell (p := ⟨w.heap.size, 9, none⟩) s6_l (show ¬ w.heap.size = x1.heap.size from by omega)).trans s6_9
      have s10_10 : x7.cell? ⟨w.heap.size, 10, none⟩ = some (.slice (some ⟨b1, o1, none⟩) nc cc) := (hc7.cell (p := ⟨w.heap.size, 10, none⟩) s6_l (show ¬ w.heap.size = x1.heap.size from by omega)).trans s6_10
      have s10_11 : x7.cell? ⟨w.heap.size, 11, none⟩ = some (.slice ah s.hist.length dh) := (hc7.cell (p := ⟨w.heap.size, 11, none⟩) s6_l (show ¬ w.heap.size = x1.heap.size from by omega)).trans s6_11
      have s10_l := Nat.lt_of_lt_of_le s6_l hc7.size
      clear s6_0 s6_1 s6_2 s6_3 s6_4 s6_5 s6_6 s6_7 s6_8 s6_9 s6_10 s6_11 s6_l
      have z11_0 : x7.cell? ⟨(w.heap.size + 1), 0, none⟩ = some (.int .i64 0) := (hc7.cell (p := ⟨(w.heap.size + 1), 0, none⟩) z7_l (show ¬ (w.heap.size + 1) = x1.heap.size from by omega)).trans z7_0
      have z11_1 : x7.cell? ⟨(w.heap.size + 1), 1, none⟩ = some (.int .i64 0) := (hc7.cell (p := ⟨(w.heap.size + 1), 1, none⟩) z7_l (show ¬ (w.heap.size + 1) = x1.heap.size from by omega)).trans z7_1
      have z11_2 : x7.cell? ⟨(w.heap.size + 1), 2, none⟩ = some (.int .i64 0) := (hc7.cell (p := ⟨(w.heap.size + 1), 2, none⟩) z7_l (show ¬ (w.heap.size + 1) = x1.heap.size from by omega)).trans z7_2
      have z11_3 : x7.cell? ⟨(w.heap.size + 1), 3, none⟩ = some (.int .i64 0) := (hc7.cell (p := ⟨(w.heap.size + 1), 3, none⟩) z7_l (show ¬ (w.heap.size + 1) = x1.heap.size from by omega)).trans z7_3
      have z11_4 : x7.cell? ⟨(w.heap.size + 1), 4, none⟩ = some (.int .i64 0) := (hc7.cell (p := ⟨(w.heap.size + 1), 4, none⟩) z7_l (show ¬ (w.heap.size + 1) = x1.heap.size from by omega)).trans z7_4
      have z11_5 : x7.cell? ⟨(w.heap.size + 1), 5, none⟩ = some (.int .i64 0) := (hc7.cell (p := ⟨(w.heap.size + 1), 5, none⟩) z7_l (show ¬ (w.heap.size + 1) = x1.heap.size from by omega)).trans z7_5
      have z11_6 : x7.cell? ⟨(w.heap.size + 1), 6, none⟩ = some (.int .i64 0) := (hc7.cell (p := ⟨(w.heap.size + 1), 6, none⟩) z7_l (show ¬ (w.heap.size + 1) = x1.heap.size from by omega)).trans z7_6
      have z11_7 : x7.cell? ⟨(w.heap.size + 1), 7, none⟩ = some (.int .i64 0) := (hc7.cell (p := ⟨(w.heap.size + 1), 7, none⟩) z7_l (show ¬ (w.heap.size + 1) = x1.heap.size from by omega)).trans z7_7
      have z11_8 : x7.cell? ⟨(w.heap.size + 1), 8, none⟩ = some (.int .i64 0) := (hc7.cell (p := ⟨(w.heap.size + 1), 8, none⟩) z7_l (show ¬ (w.heap.size + 1) = x1.heap.size from by omega)).trans z7_8
      have z11_9 : x7.cell? ⟨(w.heap.size + 1), 9, none⟩ = some (.string ⟨#[]⟩) := (hc7.cell (p := ⟨(w.heap.size + 1), 9, none⟩) z7_l (show ¬ (w.heap.size + 1) = x1.heap.size from by omega)).trans z7_9
      have z11_10 : x7.cell? ⟨(w.heap.size + 1), 10, none⟩ = some (.slice none 0 0) := (hc7.cell (p := ⟨(w.heap.size + 1), 10, none⟩) z7_l (show ¬ (w.heap.size + 1) = x1.heap.size from by omega)).trans z7_10
      have z11_11 : x7.cell? ⟨(w.heap.size + 1), 11, none⟩ = some (.slice none 0 0) := (hc7.cell (p := ⟨(w.heap.size + 1), 11, none⟩) z7_l (show ¬ (w.heap.size + 1) = x1.heap.size from by omega)).trans z7_11
      have z11_l : (w.heap.size + 1) < x7.heap.size := Nat.lt_of_lt_of_le z7_l hc7.size
      have z11_f : ∀ o, x7.frozen? ⟨(w.heap.size + 1), o, none⟩ = false := fun o => (hc7.frozen (p := ⟨(w.heap.size + 1), o, none⟩) z7_l (show ¬ (w.heap.size + 1) = x1.heap.size from by omega)).trans (z7_f o)
      clear z7_0 z7_1 z7_2 z7_3 z7_4 z7_5 z7_6 z7_7 z7_8 z7_9 z7_10 z7_11 z7_l z7_f
      have HC7 := Lib.hid hc7
      have HCG : Hid (Ch (fun k => k = g ∨ k = x1.heap.size) x2 x7) := Lib.hid ((HCH.out.mono (fun _ h => .inl (.inl h))).trans HC7.out (fun _ h => .inl (.inr h)))
      have HSH7 : Hid (Sl strE 1 x7 ah s.hist) := Lib.hid (slOld HR.out.hs HB1.out HBX.out HCG.out (fun k hk e => by rcases e with e | e <;> omega))
      have HF0 : Hid (FreshIn strE 9 1 x7.heap.size (x7.heap.size + 1) (.slice (some ⟨x7.heap.size, 0, none⟩) 0 0) [] (x7.alloc (.cells #[] 9))) := Lib.hid (by
        have := (Fresh.of_own (enc := strE) (xs := []) (World.ownsRow_made (base := x7.heap.size) (e := 9) (size := 1) x7 #[] 0 (Nat.le_refl _) (by decide) rfl) rfl rfl).here
        simpa using this)
      have hhn := HOK.out.hn
      obtain ⟨i0, hi, hz0, hz1, hz2⟩ := info_parts Tryz.infoStr
      rw [hx7]
      clear hx7 hc7
      go_wp2_with (first
        | (skip
           at_builtin
           refine wpList_append_fresh rfl (.tmp 75) (.tmp 77) 24 24 rfl (x7.heap.size) (x7.heap.size + 1) 9 i0 (.string ⟨#[]⟩) 1 16 Tryz.underlying24 hi hz0 hz1 hz2 rfl (by decide) (.slice (some ⟨x7.heap.size, 0, none⟩) 0 0) ([]) rfl (HF0.out) _ (s.hist) rfl (Src.ofSl (enc := strE) Tryz.underlying24 (fun _ => rfl) strOne (HSH7.out.alloc _) _) (by (try simp) <;> (try omega)) (by (try simp) <;> (try omega)) ?_
           intro a3 c3 w3 L3 hL3 hf3 hm3
           have HF3 := Lib.hid hf3
           have HL3 := hL3
           have hb78 : Below x7.heap.size x7 w3 := (((Below.refl _ _).alloc (Nat.le_refl _) _)).trans (hm3.below (Nat.le_refl _) (by simp))
           have HB78 := Lib.hid hb78
           have s12_0 := kC hb78 s10_l s10_0
           have s12_1 := kC hb78 s10_l s10_1
           have s12_2 := kC hb78 s10_l s10_2
           have s12_3 := kC hb78 s10_l s10_3
           have s12_4 := kC hb78 s10_l s10_4
           have s12_5 := kC hb78 s10_l s10_5
           have s12_6 := kC hb78 s10_l s10_6
           have s12_7 := kC hb78 s10_l s10_7
           have s12_8 := kC hb78 s10_l s10_8
           have s12_9 := kC hb78 s10_l s10_9
           have s12_10 := kC hb78 s10_l s10_10
           have s12_11 := kC hb78 s10_l s10_11
           have s12_l := Nat.lt_of_lt_of_le s10_l hb78.size
           clear s10_0 s10_1 s10_2 s10_3 s10_4 s10_5 s10_6 s10_7 s10_8 s10_9 s10_10 s10_11 s10_l
           have z13_0 := kC hb78 z11_l z11_0
           have z13_1 := kC hb78 z11_l z11_1
           have z13_2 := kC hb78 z11_l z11_2
           have z13_3 := kC hb78 z11_l z11_3
           have z13_4 := kC hb78 z11_l z11_4
           have z13_5 := kC hb78 z11_l z11_5
           have z13_6 := kC hb78 z11_l z11_6
           have z13_7 := kC hb78 z11_l z11_7
           have z13_8 := kC hb78 z11_l z11_8
           have z13_9 := kC hb78 z11_l z11_9
           have z13_10 := kC hb78 z11_l z11_10
           have z13_11 := kC hb78 z11_l z11_11
           have z13_l : (w.heap.size + 1) < w3.heap.size := Nat.lt_of_lt_of_le z11_l hb78.size
           have z13_f := fun o => kF hb78 z11_l (z11_f o)
           clear z11_0 z11_1 z11_2 z11_3 z11_4 z11_5 z11_6 z11_7 z11_8 z11_9 z11_10 z11_11 z11_l z11_f
           have r14_0 := kC hb78 q9_l q9_0
           have r14_1 := kC hb78 q9_l q9_1
           have r14_2 := kC hb78 q9_l q9_2
           have r14_3 := kC hb78 q9_l q9_3
           have r14_4 := kC hb78 q9_l q9_4
           have r14_5 := kC hb78 q9_l q9_5
           have r14_6 := kC hb78 q9_l q9_6
           have r14_7 := kC hb78 q9_l q9_7
           have r14_8 := kC hb78 q9_l q9_8
           have r14_9 := kC hb78 q9_l q9_9
           have r14_10 := kC hb78 q9_l q9_10
           have r14_11 := kC hb78 q9_l q9_11
           have r14_l := Nat.lt_of_lt_of_le q9_l hb78.size
           have r14_f := fun o => kF hb78 q9_l (q9_f o)
           clear q9_0 q9_1 q9_2 q9_3 q9_4 q9_5 q9_6 q9_7 q9_8 q9_9 q9_10 q9_11 q9_l q9_f
           clear hf3 hm3 hb78
           have hl3 : L3 = s.hist := by simpa using HL3.out
           have hne7 : ¬ w.heap.size + 1 = x1.heap.size := by omega
           have hne8 : ¬ x1.heap.size = w.heap.size + 1 := by omega
           subst hl3
           skip))
      refine bodyPost_ret (v := .agg #[.int .i64 (wd : Int), .int .i64 (ht : Int), .int .i64 ((min s.x wd : Nat) : Int), .int .i64 ((min s.y (ht - 1) : Nat) : Int), .int .i64 (s.look : Int), .int .i64 0, .int .i64 ((ht - 1 : Nat) : Int), .int .i64 ((min s.sx wd : Nat) : Int), .int .i64 ((min s.sy (ht - 1) : Nat) : Int), .string s.title, .slice (some ⟨g, 0, none⟩) m gc, .slice a3 s.hist.length c3]) (by simp [results, Tryz.results29, go_sem, z13_0, z13_1, z13_2, z13_3, z13_4, z13_5, z13_6, z13_7, z13_8, z13_9, z13_10, z13_11, z13_f, r14_0, r14_1, r14_2, r14_3, r14_4, r14_5, r14_6, r14_7, r14_8, r14_9, r14_10, r14_11, r14_f]) rfl ?_
      have hlen : (resS s wd ht).cells.length = m := by
        show (resC s wd ht).length = m
        rw [resC_len HOK.out, Nat.mul_comm]
        exact HM.out
      have hfin : ∀ wz, Ch (fun k => k = x1.heap.size ∨ k = w.heap.size + 1) w3 wz → ScrN (resS s wd ht) w (.returned (.agg #[.int .i64 (wd : Int), .int .i64 (ht : Int), .int .i64 ((min s.x wd : Nat) : Int), .int .i64 ((min s.y (ht - 1) : Nat) : Int), .int .i64 (s.look : Int), .int .i64 0, .int .i64 ((ht - 1 : Nat) : Int), .int .i64 ((min s.sx wd : Nat) : Int), .int .i64 ((min s.sy (ht - 1) : Nat) : Int), .string s.title, .slice (some ⟨g, 0, none⟩) m gc, .slice a3 s.hist.length c3])) wz := fun wz hcz => by
        have hz12 := HX12.out
        have hz1 := HB1.out.size
        have hz2 := HBX.out.size
        have hz3 := HCH.out.size
        have hz7 := HC7.out.size
        have hz8 := HB78.out.size
        have hcw : Ch (fun k => k = x1.heap.size ∨ k = w.heap.size + 1) wo wz := ((HC7.out.mono (fun _ h => .inl (.inl h))).below1 HB78.out).trans hcz (fun _ h => .inl h)
        refine ⟨some ⟨g, 0, none⟩, gc, a3, c3, by unfold scrV; rw [hlen]; rfl, ⟨?_, ?_, ?_⟩, ?_⟩
        · rw [hlen]
          exact (HQ.out.1.ch hcw (fun k hk e => by
            simp only [blkOf, List.mem_singleton] at hk
            rcases e with e | e <;> omega)).mono (by omega) (Nat.le_refl _)
        · refine Win.low ((FreshIn.win HF3.out).ch hcz (fun k hk e => ?_)) (by omega)
          have h1 := (FreshIn.blks HF3.out k hk).1
          rcases e with e | e <;> omega
        · intro k hk hk2
          simp only [blkOf, List.mem_singleton] at hk2
          have h1 := (FreshIn.blks HF3.out k hk).1
          omega
        · have hb2 : Below w.heap.size w x2 := HB1.out.trans (HBX.out.mono hz1)
          have hb3 : Below w.heap.size w wo := hb2.trans (HCH.out.below (by omega) (fun k h => by omega))
          exact hb3.trans (hcw.below (by omega) (fun k h => by rcases h with h | h <;> omega))
      exact hfin _ ((((((((((((((Ch.refl (M := fun k => k = x1.heap.size ∨ k = w.heap.size + 1) (w := w3)).setCell (p := ⟨x1.heap.size, 11, none⟩) (.inl (.inl rfl)) _).setCell (p := ⟨w.heap.size + 1, 0, none⟩) (.inl (.inr rfl)) _).setCell (p := ⟨w.heap.size + 1, 1, none⟩) (.inl (.inr rfl)) _).setCell (p := ⟨w.heap.size + 1, 2, none⟩) (.inl (.inr rfl)) _).setCell (p := ⟨w.heap.size + 1, 3, none⟩) (.inl (.inr rfl)) _).setCell (p := ⟨w.heap.size + 1, 4, none⟩) (.inl (.inr rfl)) _).setCell (p := ⟨w.heap.size + 1, 5, none⟩) (.inl (.inr rfl)) _).setCell (p := ⟨w.heap.size + 1, 6, none⟩) (.inl (.inr rfl)) _).setCell (p := ⟨w.heap.size + 1, 7, none⟩) (.inl (.inr rfl)) _).setCell (p := ⟨w.heap.size + 1, 8, none⟩) (.inl (.inr rfl)) _).setCell (p := ⟨w.heap.size + 1, 9, none⟩) (.inl (.inr rfl)) _).setCell (p := ⟨w.heap.size + 1, 10, none⟩) (.inl (.inr rfl)) _).setCell (p := ⟨w.heap.size + 1, 11, none⟩) (.inl (.inr rfl)) _)
end
section
open Go.RowKit
theorem isSize_c (a b : Int) (w : World) : Calls Tryz.prog 25 #[.int .i64 a, .int .i64 b] w fun e w' => e = .returned (.bool (inB a 2 24 && inB b 2 10)) ∧ w = w' := by
  obtain ⟨u, hu⟩ : ∃ u, inB a 2 24 = u := ⟨_, rfl⟩
  obtain ⟨v, hv⟩ : ∃ v, inB b 2 10 = v := ⟨_, rfl⟩
  have HU := Lib.hid hu
  have HV := Lib.hid hv
  rw [hu, hv]
  clear hu hv
  cases u <;> cases v
  all_goals
    go_enter Tryz.func25, Tryz.ntmps25
    go_wp2_with (go_at_call 31; refine (within_c _ _ _ _).mono ?_; (first | rw [HU.out] | rw [HV.out]); rintro e w' ⟨rfl, rfl⟩)
    all_goals
      go_ret
      exact ⟨rfl, rfl⟩
def rnB (n : Int) : Bool := inB n 32 1114111 && !(n == 127) && !inB n 55296 57343
theorem isRune_c (n : Int) (w : World) : Calls Tryz.prog 57 #[.int .i64 n] w fun e w' => e = .returned (.bool (rnB n)) ∧ w = w' := by
  obtain ⟨u, hu⟩ : ∃ u, inB n 32 1114111 = u := ⟨_, rfl⟩
  obtain ⟨v, hv⟩ : ∃ v, inB n 55296 57343 = v := ⟨_, rfl⟩
  have HU := Lib.hid hu
  have HV := Lib.hid hv
  have hB : rnB n = (u && !(n == 127) && !v) := by unfold rnB; rw [hu, hv]
  rw [hB]
  clear hB hu hv
  cases h127 : (n == 127) <;> cases u <;> cases v
  all_goals
    have q127 : (n != 127) = !(n == 127) := rfl
    rw [h127] at q127
    go_enter Tryz.func57, Tryz.ntmps57
    go_wp2_with (go_at_call 31; refine (within_c _ _ _ _).mono ?_; (first | rw [HU.out] | rw [HV.out]); rintro e w' ⟨rfl, rfl⟩)
    all_goals
      go_ret
      exact ⟨rfl, rfl⟩
theorem celB_rn (c : Cl) : celB c = (rnB c.1 && inB c.2 0 127) := by
  unfold celB rnB inB
  rw [Bool.eq_iff_iff]
  simp only [Bool.and_eq_true, decide_eq_true_eq, Bool.not_eq_true', Bool.and_eq_false_iff, decide_eq_false_iff_not, beq_eq_false_iff_ne, ne_eq]
  omega
theorem isScreen2_c (c : Cl) (w : World) : Calls Tryz.prog 56 #[.agg #[.int .i64 c.1, .int .i64 c.2]] w fun e w' => e = .returned (.bool (!celB c)) ∧ Below w.heap.size w w' := by
  obtain ⟨n, k⟩ := c
  obtain ⟨u, hu⟩ : ∃ u, rnB n = u := ⟨_, rfl⟩
  obtain ⟨v, hv⟩ : ∃ v, inB k 0 127 = v := ⟨_, rfl⟩
  have HU := Lib.hid hu
  have HV := Lib.hid hv
  rw [celB_rn]
  simp only
  rw [hu, hv]
  clear hu hv
  cases u <;> cases v
  all_goals
    go_enter Tryz.func56, Tryz.ntmps56
    go_wp2_with (first | (go_at_call 57; refine (isRune_c _ _).mono ?_; rw [HU.out]; rintro e w' ⟨rfl, rfl⟩) | (go_at_call 31; refine (within_c _ _ _ _).mono ?_; rw [HV.out]; rintro e w' ⟨rfl, rfl⟩))
    all_goals
      go_ret
      exact ⟨rfl, (Below.refl _ _).alloc (Nat.le_refl _) _⟩
end
section
open Go.RowKit
theorem screenOK_no1 (s : ScrI) (ac : Option Addr) (cc : Nat) (ah : Option Addr) (dh : Nat) (w : World) (hcl : s.cells.length ≤ 1048576) (hhl : s.hist.length ≤ 1048576)  (hk : (inB s.w 2 24 && inB s.h 2 10) = false) :
    Calls Tryz.prog 27 #[.agg #[.int .i64 s.w, .int .i64 s.h, .int .i64 s.x, .int .i64 s.y, .int .i64 s.look, .int .i64 s.top, .int .i64 s.bot, .int .i64 s.sx, .int .i64 s.sy, .string s.title, .slice ac s.cells.length cc, .slice ah s.hist.length dh]] w fun e w' => e = .returned (.bool false) ∧ Below w.heap.size w w' := by
  have H1 := Lib.hid hk
  clear hk 
  obtain ⟨nc, hnc⟩ : ∃ n, s.cells.length = n := ⟨_, rfl⟩
  obtain ⟨nh, hnh⟩ : ∃ n, s.hist.length = n := ⟨_, rfl⟩
  have HNC := Lib.hid hnc
  have HNH := Lib.hid hnh
  rw [hnc, hnh]
  rw [hnc] at hcl
  rw [hnh] at hhl
  clear hnc hnh
  go_enter Tryz.func27, Tryz.ntmps27
  simp only [List.append_eq, List.cons_append, List.nil_append]
  go_wp2_with (go_at_call 28; refine (l04Size_c _ _ _).mono ?_; rw [H1.out]; rintro e w' ⟨rfl, rfl⟩)
  go_ret
  exact ⟨rfl, (Below.refl _ _).alloc (Nat.le_refl _) _⟩
theorem screenOK_no2 (s : ScrI) (ac : Option Addr) (cc : Nat) (ah : Option Addr) (dh : Nat) (w : World) (hcl : s.cells.length ≤ 1048576) (hhl : s.hist.length ≤ 1048576) (h1 : (inB s.w 2 24 && inB s.h 2 10) = true) (hk : inB s.x 0 s.w = false) :
    Calls Tryz.prog 27 #[.agg #[.int .i64 s.w, .int .i64 s.h, .int .i64 s.x, .int .i64 s.y, .int .i64 s.look, .int .i64 s.top, .int .i64 s.bot, .int .i64 s.sx, .int .i64 s.sy, .string s.title, .slice ac s.cells.length cc, .slice ah s.hist.length dh]] w fun e w' => e = .returned (.bool false) ∧ Below w.heap.size w w' := by
  have H1 := Lib.hid h1
  have H2 := Lib.hid hk
  clear hk h1
  have hw2 : 2 ≤ s.w ∧ s.w ≤ 24 := by have := H1.out; simp only [inB, Bool.and_eq_true, decide_eq_true_eq] at this; omega
  have hh2 : 2 ≤ s.h ∧ s.h ≤ 10 := by have := H1.out; simp only [inB, Bool.and_eq_true, decide_eq_true_eq] at this; omega
  obtain ⟨hw2a, hw2b⟩ := hw2
  obtain ⟨hh2a, hh2b⟩ := hh2
  obtain ⟨nc, hnc⟩ : ∃ n, s.cells.length = n := ⟨_, rfl⟩
  obtain ⟨nh, hnh⟩ : ∃ n, s.hist.length = n := ⟨_, rfl⟩
  have HNC := Lib.hid hnc
  have HNH := Lib.hid hnh
  rw [hnc, hnh]
  rw [hnc] at hcl
  rw [hnh] at hhl
  clear hnc hnh
  go_enter Tryz.func27, Tryz.ntmps27
  simp only [List.append_eq, List.cons_append, List.nil_append]
  go_wp2_with (first | (go_at_call 28; refine (l04Size_c _ _ _).mono ?_; rw [H1.out]; rintro e w' ⟨rfl, rfl⟩) | (go_at_call 60; refine (l01In_c _ _ _ _).mono ?_; (first | rw [H2.out]); rintro e w' ⟨rfl, rfl⟩))
  go_ret
  exact ⟨rfl, (Below.refl _ _).alloc (Nat.le_refl _) _⟩
theorem screenOK_no3 (s : ScrI) (ac : Option Addr) (cc : Nat) (ah : Option Addr) (dh : Nat) (w : World) (hcl : s.cells.length ≤ 1048576) (hhl : s.hist.length ≤ 1048576) (h1 : (inB s.w 2 24 && inB s.h 2 10) = true) (h2 : inB s.x 0 s.w = true) (hk : inB s.y 0 (s.h - 1) = false) :
    Calls Tryz.prog 27 #[.agg #[.int .i64 s.w, .int .i64 s.h, .int .i64 s.x, .int .i64 s.y, .int .i64 s.look, .int .i64 s.top, .int .i64 s.bot, .int .i64 s.sx, .int .i64 s.sy, .string s.title, .slice ac s.cells.length cc, .slice ah s.hist.length dh]] w fun e w' => e = .returned (.bool false) ∧ Below w.heap.size w w' := by
  have H1 := Lib.hid h1
  have H2 := Lib.hid h2
  have H3 := Lib.hid hk
  clear hk h1 h2
  have hw2 : 2 ≤ s.w ∧ s.w ≤ 24 := by have := H1.out; simp only [inB, Bool.and_eq_true, decide_eq_true_eq] at this; omega
  have hh2 : 2 ≤ s.h ∧ s.h ≤ 10 := by have := H1.out; simp only [inB, Bool.and_eq_true, decide_eq_true_eq] at this; omega
  obtain ⟨hw2a, hw2b⟩ := hw2
  obtain ⟨hh2a, hh2b⟩ := hh2
  obtain ⟨nc, hnc⟩ : ∃ n, s.cells.length = n := ⟨_, rfl⟩
  obtain ⟨nh, hnh⟩ : ∃ n, s.hist.length = n := ⟨_, rfl⟩
  have HNC := Lib.hid hnc
  have HNH := Lib.hid hnh
  rw [hnc, hnh]
  rw [hnc] at hcl
  rw [hnh] at hhl
  clear hnc hnh
  go_enter Tryz.func27, Tryz.ntmps27
  simp only [List.append_eq, List.cons_append, List.nil_append]
  go_wp2_with (first | (go_at_call 28; refine (l04Size_c _ _ _).mono ?_; rw [H1.out]; rintro e w' ⟨rfl, rfl⟩) | (go_at_call 60; refine (l01In_c _ _ _ _).mono ?_; (first | rw [H2.out] | rw [H3.out]); rintro e w' ⟨rfl, rfl⟩))
  go_ret
  exact ⟨rfl, (Below.refl _ _).alloc (Nat.le_refl _) _⟩
theorem screenOK_no4 (s : ScrI) (ac : Option Addr) (cc : Nat) (ah : Option Addr) (dh : Nat) (w : World) (hcl : s.cells.length ≤ 1048576) (hhl : s.hist.length ≤ 1048576) (h1 : (inB s.w 2 24 && inB s.h 2 10) = true) (h2 : inB s.x 0 s.w = true) (h3 : inB s.y 0 (s.h - 1) = true) (hk : inB s.look 0 127 = false) :
    Calls Tryz.prog 27 #[.agg #[.int .i64 s.w, .int .i64 s.h, .int .i64 s.x, .int .i64 s.y, .int .i64 s.look, .int .i64 s.top, .int .i64 s.bot, .int .i64 s.sx, .int .i64 s.sy, .string s.title, .slice ac s.cells.length cc, .slice ah s.hist.length dh]] w fun e w' => e = .returned (.bool false) ∧ Below w.heap.size w w' := by
  have H1 := Lib.hid h1
  have H2 := Lib.hid h2
  have H3 := Lib.hid h3
  have H4 := Lib.hid hk
  clear hk h1 h2 h3
  have hw2 : 2 ≤ s.w ∧ s.w ≤ 24 := by have := H1.out; simp only [inB, Bool.and_eq_true, decide_eq_true_eq] at this; omega
  have hh2 : 2 ≤ s.h ∧ s.h ≤ 10 := by have := H1.out; simp only [inB, Bool.and_eq_true, decide_eq_true_eq] at this; omega
  obtain ⟨hw2a, hw2b⟩ := hw2
  obtain ⟨hh2a, hh2b⟩ := hh2
  obtain ⟨nc, hnc⟩ : ∃ n, s.cells.length = n := ⟨_, rfl⟩
  obtain ⟨nh, hnh⟩ : ∃ n, s.hist.length = n := ⟨_, rfl⟩
  have HNC := Lib.hid hnc
  have HNH := Lib.hid hnh
  rw [hnc, hnh]
  rw [hnc] at hcl
  rw [hnh] at hhl
  clear hnc hnh
  go_enter Tryz.func27, Tryz.ntmps27
  simp only [List.append_eq, List.cons_append, List.nil_append]
  go_wp2_with (first | (go_at_call 28; refine (l04Size_c _ _ _).mono ?_; rw [H1.out]; rintro e w' ⟨rfl, rfl⟩) | (go_at_call 60; refine (l01In_c _ _ _ _).mono ?_; (first | rw [H2.out] | rw [H3.out] | rw [H4.out]); rintro e w' ⟨rfl, rfl⟩))
  go_ret
  exact ⟨rfl, (Below.refl _ _).alloc (Nat.le_refl _) _⟩
theorem screenOK_no5 (s : ScrI) (ac : Option Addr) (cc : Nat) (ah : Option Addr) (dh : Nat) (w : World) (hcl : s.cells.length ≤ 1048576) (hhl : s.hist.length ≤ 1048576) (h1 : (inB s.w 2 24 && inB s.h 2 10) = true) (h2 : inB s.x 0 s.w = true) (h3 : inB s.y 0 (s.h - 1) = true) (h4 : inB s.look 0 127 = true) (hk : inB s.top 0 (s.h - 2) = false) :
    Calls Tryz.prog 27 #[.agg #[.int .i64 s.w, .int .i64 s.h, .int .i64 s.x, .int .i64 s.y, .int .i64 s.look, .int .i64 s.top, .int .i64 s.bot, .int .i64 s.sx, .int .i64 s.sy, .string s.title, .slice ac s.cells.length cc, .slice ah s.hist.length dh]] w fun e w' => e = .returned (.bool false) ∧ Below w.heap.size w w' := by
  have H1 := Lib.hid h1
  have H2 := Lib.hid h2
  have H3 := Lib.hid h3
  have H4 := Lib.hid h4
  have H5 := Lib.hid hk
  clear hk h1 h2 h3 h4
  have hw2 : 2 ≤ s.w ∧ s.w ≤ 24 := by have := H1.out; simp only [inB, Bool.and_eq_true, decide_eq_true_eq] at this; omega
  have hh2 : 2 ≤ s.h ∧ s.h ≤ 10 := by have := H1.out; simp only [inB, Bool.and_eq_true, decide_eq_true_eq] at this; omega
  obtain ⟨hw2a, hw2b⟩ := hw2
  obtain ⟨hh2a, hh2b⟩ := hh2
  obtain ⟨nc, hnc⟩ : ∃ n, s.cells.length = n := ⟨_, rfl⟩
  obtain ⟨nh, hnh⟩ : ∃ n, s.hist.length = n := ⟨_, rfl⟩
  have HNC := Lib.hid hnc
  have HNH := Lib.hid hnh
  rw [hnc, hnh]
  rw [hnc] at hcl
  rw [hnh] at hhl
  clear hnc hnh
  go_enter Tryz.func27, Tryz.ntmps27
  simp only [List.append_eq, List.cons_append, List.nil_append]
  go_wp2_with (first | (go_at_call 28; refine (l04Size_c _ _ _).mono ?_; rw [H1.out]; rintro e w' ⟨rfl, rfl⟩) | (go_at_call 60; refine (l01In_c _ _ _ _).mono ?_; (first | rw [H2.out] | rw [H3.out] | rw [H4.out] | rw [H5.out]); rintro e w' ⟨rfl, rfl⟩))
  go_ret
  exact ⟨rfl, (Below.refl _ _).alloc (Nat.le_refl _) _⟩
theorem screenOK_no6 (s : ScrI) (ac : Option Addr) (cc : Nat) (ah : Option Addr) (dh : Nat) (w : World) (hcl : s.cells.length ≤ 1048576) (hhl : s.hist.length ≤ 1048576) (h1 : (inB s.w 2 24 && inB s.h 2 10) = true) (h2 : inB s.x 0 s.w = true) (h3 : inB s.y 0 (s.h - 1) = true) (h4 : inB s.look 0 127 = true) (h5 : inB s.top 0 (s.h - 2) = true) (hk : inB s.bot (s.top + 1) (s.h - 1) = false) :
    Calls Tryz.prog 27 #[.agg #[.int .i64 s.w, .int .i64 s.h, .int .i64 s.x, .int .i64 s.y, .int .i64 s.look, .int .i64 s.top, .int .i64 s.bot, .int .i64 s.sx, .int .i64 s.sy, .string s.title, .slice ac s.cells.length cc, .slice ah s.hist.length dh]] w fun e w' => e = .returned (.bool false) ∧ Below w.heap.size w w' := by
  have H1 := Lib.hid h1
  have H2 := Lib.hid h2
  have H3 := Lib.hid h3
  have H4 := Lib.hid h4
  have H5 := Lib.hid h5
  have H6 := Lib.hid hk
  clear hk h1 h2 h3 h4 h5
  have hw2 : 2 ≤ s.w ∧ s.w ≤ 24 := by have := H1.out; simp only [inB, Bool.and_eq_true, decide_eq_true_eq] at this; omega
  have hh2 : 2 ≤ s.h ∧ s.h ≤ 10 := by have := H1.out; simp only [inB, Bool.and_eq_true, decide_eq_true_eq] at this; omega
  obtain ⟨hw2a, hw2b⟩ := hw2
  obtain ⟨hh2a, hh2b⟩ := hh2
  have ht2 : 0 ≤ s.top ∧ s.top ≤ s.h - 2 := by have := H5.out; simp only [inB, Bool.and_eq_true, decide_eq_true_eq] at this; omega
  obtain ⟨ht2a, ht2b⟩ := ht2
  obtain ⟨nc, hnc⟩ : ∃ n, s.cells.length = n := ⟨_, rfl⟩
  obtain ⟨nh, hnh⟩ : ∃ n, s.hist.length = n := ⟨_, rfl⟩
  have HNC := Lib.hid hnc
  have HNH := Lib.hid hnh
  rw [hnc, hnh]
  rw [hnc] at hcl
  rw [hnh] at hhl
  clear hnc hnh
  go_enter Tryz.func27, Tryz.ntmps27
  simp only [List.append_eq, List.cons_append, List.nil_append]
  go_wp2_with (first | (go_at_call 28; refine (l04Size_c _ _ _).mono ?_; rw [H1.out]; rintro e w' ⟨rfl, rfl⟩) | (go_at_call 60; refine (l01In_c _ _ _ _).mono ?_; (first | rw [H2.out] | rw [H3.out] | rw [H4.out] | rw [H5.out] | rw [H6.out]); rintro e w' ⟨rfl, rfl⟩))
  go_ret
  exact ⟨rfl, (Below.refl _ _).alloc (Nat.le_refl _) _⟩
theorem screenOK_no7 (s : ScrI) (ac : Option Addr) (cc : Nat) (ah : Option Addr) (dh : Nat) (w : World) (hcl : s.cells.length ≤ 1048576) (hhl : s.hist.length ≤ 1048576) (h1 : (inB s.w 2 24 && inB s.h 2 10) = true) (h2 : inB s.x 0 s.w = true) (h3 : inB s.y 0 (s.h - 1) = true) (h4 : inB s.look 0 127 = true) (h5 : inB s.top 0 (s.h - 2) = true) (h6 : inB s.bot (s.top + 1) (s.h - 1) = true) (hk : inB s.sx 0 s.w = false) :
    Calls Tryz.prog 27 #[.agg #[.int .i64 s.w, .int .i64 s.h, .int .i64 s.x, .int .i64 s.y, .int .i64 s.look, .int .i64 s.top, .int .i64 s.bot, .int .i64 s.sx, .int .i64 s.sy, .string s.title, .slice ac s.cells.length cc, .slice ah s.hist.length dh]] w fun e w' => e = .returned (.bool false) ∧ Below w.heap.size w w' := by
  have H1 := Lib.hid h1
  have H2 := Lib.hid h2
  have H3 := Lib.hid h3
  have H4 := Lib.hid h4
  have H5 := Lib.hid h5
  have H6 := Lib.hid h6
  have H7 := Lib.hid hk
  clear hk h1 h2 h3 h4 h5 h6
  have hw2 : 2 ≤ s.w ∧ s.w ≤ 24 := by have := H1.out; simp only [inB, Bool.and_eq_true, decide_eq_true_eq] at this; omega
  have hh2 : 2 ≤ s.h ∧ s.h ≤ 10 := by have := H1.out; simp only [inB, Bool.and_eq_true, decide_eq_true_eq] at this; omega
  obtain ⟨hw2a, hw2b⟩ := hw2
  obtain ⟨hh2a, hh2b⟩ := hh2
  have ht2 : 0 ≤ s.top ∧ s.top ≤ s.h - 2 := by have := H5.out; simp only [inB, Bool.and_eq_true, decide_eq_true_eq] at this; omega
  obtain ⟨ht2a, ht2b⟩ := ht2
  obtain ⟨nc, hnc⟩ : ∃ n, s.cells.length = n := ⟨_, rfl⟩
  obtain ⟨nh, hnh⟩ : ∃ n, s.hist.length = n := ⟨_, rfl⟩
  have HNC := Lib.hid hnc
  have HNH := Lib.hid hnh
  rw [hnc, hnh]
  rw [hnc] at hcl
  rw [hnh] at hhl
  clear hnc hnh
  go_enter Tryz.func27, Tryz.ntmps27
  simp only [List.append_eq, List.cons_append, List.nil_append]
  go_wp2_with (first | (go_at_call 28; refine (l04Size_c _ _ _).mono ?_; rw [H1.out]; rintro e w' ⟨rfl, rfl⟩) | (go_at_call 60; refine (l01In_c _ _ _ _).mono ?_; (first | rw [H2.out] | rw [H3.out] | rw [H4.out] | rw [H5.out] | rw [H6.out] | rw [H7.out]); rintro e w' ⟨rfl, rfl⟩))
  go_ret
  exact ⟨rfl, (Below.refl _ _).alloc (Nat.le_refl _) _⟩
theorem screenOK_no8 (s : ScrI) (ac : Option Addr) (cc : Nat) (ah : Option Addr) (dh : Nat) (w : World) (hcl : s.cells.length ≤ 1048576) (hhl : s.hist.length ≤ 1048576) (h1 : (inB s.w 2 24 && inB s.h 2 10) = true) (h2 : inB s.x 0 s.w = true) (h3 : inB s.y 0 (s.h - 1) = true) (h4 : inB s.look 0 127 = true) (h5 : inB s.top 0 (s.h - 2) = true) (h6 : inB s.bot (s.top + 1) (s.h - 1) = true) (h7 : inB s.sx 0 s.w = true) (hk : inB s.sy 0 (s.h - 1) = false) :
    Calls Tryz.prog 27 #[.agg #[.int .i64 s.w, .int .i64 s.h, .int .i64 s.x, .int .i64 s.y, .int .i64 s.look, .int .i64 s.top, .int .i64 s.bot, .int .i64 s.sx, .int .i64 s.sy, .string s.title, .slice ac s.cells.length cc, .slice ah s.hist.length dh]] w fun e w' => e = .returned (.bool false) ∧ Below w.heap.size w w' := by
  have H1 := Lib.hid h1
  have H2 := Lib.hid h2
  have H3 := Lib.hid h3
  have H4 := Lib.hid h4
  have H5 := Lib.hid h5
  have H6 := Lib.hid h6
  have H7 := Lib.hid h7
  have H8 := Lib.hid hk
  clear hk h1 h2 h3 h4 h5 h6 h7
  have hw2 : 2 ≤ s.w ∧ s.w ≤ 24 := by have := H1.out; simp only [inB, Bool.and_eq_true, decide_eq_true_eq] at this; omega
  have hh2 : 2 ≤ s.h ∧ s.h ≤ 10 := by have := H1.out; simp only [inB, Bool.and_eq_true, decide_eq_true_eq] at this; omega
  obtain ⟨hw2a, hw2b⟩ := hw2
  obtain ⟨hh2a, hh2b⟩ := hh2
  have ht2 : 0 ≤ s.top ∧ s.top ≤ s.h - 2 := by have := H5.out; simp only [inB, Bool.and_eq_true, decide_eq_true_eq] at this; omega
  obtain ⟨ht2a, ht2b⟩ := ht2
  obtain ⟨nc, hnc⟩ : ∃ n, s.cells.length = n := ⟨_, rfl⟩
  obtain ⟨nh, hnh⟩ : ∃ n, s.hist.length = n := ⟨_, rfl⟩
  have HNC := Lib.hid hnc
  have HNH := Lib.hid hnh
  rw [hnc, hnh]
  rw [hnc] at hcl
  rw [hnh] at hhl
  clear hnc hnh
  go_enter Tryz.func27, Tryz.ntmps27
  simp only [List.append_eq, List.cons_append, List.nil_append]
  go_wp2_with (first | (go_at_call 28; refine (l04Size_c _ _ _).mono ?_; rw [H1.out]; rintro e w' ⟨rfl, rfl⟩) | (go_at_call 60; refine (l01In_c _ _ _ _).mono ?_; (first | rw [H2.out] | rw [H3.out] | rw [H4.out] | rw [H5.out] | rw [H6.out] | rw [H7.out] | rw [H8.out]); rintro e w' ⟨rfl, rfl⟩))
  go_ret
  exact ⟨rfl, (Below.refl _ _).alloc (Nat.le_refl _) _⟩
theorem screenOK_no9 (s : ScrI) (ac : Option Addr) (cc : Nat) (ah : Option Addr) (dh : Nat) (w : World) (hcl : s.cells.length ≤ 1048576) (hhl : s.hist.length ≤ 1048576) (h1 : (inB s.w 2 24 && inB s.h 2 10) = true) (h2 : inB s.x 0 s.w = true) (h3 : inB s.y 0 (s.h - 1) = true) (h4 : inB s.look 0 127 = true) (h5 : inB s.top 0 (s.h - 2) = true) (h6 : inB s.bot (s.top + 1) (s.h - 1) = true) (h7 : inB s.sx 0 s.w = true) (h8 : inB s.sy 0 (s.h - 1) = true) (hk : decide (s.title.size ≤ 40) = false) :
    Calls Tryz.prog 27 #[.agg #[.int .i64 s.w, .int .i64 s.h, .int .i64 s.x, .int .i64 s.y, .int .i64 s.look, .int .i64 s.top, .int .i64 s.bot, .int .i64 s.sx, .int .i64 s.sy, .string s.title, .slice ac s.cells.length cc, .slice ah s.hist.length dh]] w fun e w' => e = .returned (.bool false) ∧ Below w.heap.size w w' := by
  have H1 := Lib.hid h1
  have H2 := Lib.hid h2
  have H3 := Lib.hid h3
  have H4 := Lib.hid h4
  have H5 := Lib.hid h5
  have H6 := Lib.hid h6
  have H7 := Lib.hid h7
  have H8 := Lib.hid h8
  have H9 := Lib.hid hk
  clear hk h1 h2 h3 h4 h5 h6 h7 h8
  have hw2 : 2 ≤ s.w ∧ s.w ≤ 24 := by have := H1.out; simp only [inB, Bool.and_eq_true, decide_eq_true_eq] at this; omega
  have hh2 : 2 ≤ s.h ∧ s.h ≤ 10 := by have := H1.out; simp only [inB, Bool.and_eq_true, decide_eq_true_eq] at this; omega
  obtain ⟨hw2a, hw2b⟩ := hw2
  obtain ⟨hh2a, hh2b⟩ := hh2
  have ht2 : 0 ≤ s.top ∧ s.top ≤ s.h - 2 := by have := H5.out; simp only [inB, Bool.and_eq_true, decide_eq_true_eq] at this; omega
  obtain ⟨ht2a, ht2b⟩ := ht2
  obtain ⟨nc, hnc⟩ : ∃ n, s.cells.length = n := ⟨_, rfl⟩
  obtain ⟨nh, hnh⟩ : ∃ n, s.hist.length = n := ⟨_, rfl⟩
  have HNC := Lib.hid hnc
  have HNH := Lib.hid hnh
  rw [hnc, hnh]
  rw [hnc] at hcl
  rw [hnh] at hhl
  clear hnc hnh
  have h40 : (40 : Int) < (s.title.size : Int) := by have := H9.out; simp only [decide_eq_false_iff_not] at this; omega
  go_enter Tryz.func27, Tryz.ntmps27
  simp only [List.append_eq, List.cons_append, List.nil_append]
  go_wp2_with (first | (go_at_call 28; refine (l04Size_c _ _ _).mono ?_; rw [H1.out]; rintro e w' ⟨rfl, rfl⟩) | (go_at_call 60; refine (l01In_c _ _ _ _).mono ?_; (first | rw [H2.out] | rw [H3.out] | rw [H4.out] | rw [H5.out] | rw [H6.out] | rw [H7.out] | rw [H8.out]); rintro e w' ⟨rfl, rfl⟩))
  go_ret
  exact ⟨rfl, (Below.refl _ _).alloc (Nat.le_refl _) _⟩
theorem screenOK_no10 (s : ScrI) (ac : Option Addr) (cc : Nat) (ah : Option Addr) (dh : Nat) (w : World) (hcl : s.cells.length ≤ 1048576) (hhl : s.hist.length ≤ 1048576) (h1 : (inB s.w 2 24 && inB s.h 2 10) = true) (h2 : inB s.x 0 s.w = true) (h3 : inB s.y 0 (s.h - 1) = true) (h4 : inB s.look 0 127 = true) (h5 : inB s.top 0 (s.h - 2) = true) (h6 : inB s.bot (s.top + 1) (s.h - 1) = true) (h7 : inB s.sx 0 s.w = true) (h8 : inB s.sy 0 (s.h - 1) = true) (h9 : decide (s.title.size ≤ 40) = true) (hk : decide ((s.cells.length : Int) = s.w * s.h) = false) :
    Calls Tryz.prog 27 #[.agg #[.int .i64 s.w, .int .i64 s.h, .int .i64 s.x, .int .i64 s.y, .int .i64 s.look, .int .i64 s.top, .int .i64 s.bot, .int .i64 s.sx, .int .i64 s.sy, .string s.title, .slice ac s.cells.length cc, .slice ah s.hist.length dh]] w fun e w' => e = .returned (.bool false) ∧ Below w.heap.size w w' := by
  have H1 := Lib.hid h1
  have H2 := Lib.hid h2
  have H3 := Lib.hid h3
  have H4 := Lib.hid h4
  have H5 := Lib.hid h5
  have H6 := Lib.hid h6
  have H7 := Lib.hid h7
  have H8 := Lib.hid h8
  have H9 := Lib.hid h9
  have H10 := Lib.hid hk
  clear hk h1 h2 h3 h4 h5 h6 h7 h8 h9
  have hw2 : 2 ≤ s.w ∧ s.w ≤ 24 := by have := H1.out; simp only [inB, Bool.and_eq_true, decide_eq_true_eq] at this; omega
  have hh2 : 2 ≤ s.h ∧ s.h ≤ 10 := by have := H1.out; simp only [inB, Bool.and_eq_true, decide_eq_true_eq] at this; omega
  obtain ⟨hw2a, hw2b⟩ := hw2
  obtain ⟨hh2a, hh2b⟩ := hh2
  have ht2 : 0 ≤ s.top ∧ s.top ≤ s.h - 2 := by have := H5.out; simp only [inB, Bool.and_eq_true, decide_eq_true_eq] at this; omega
  obtain ⟨ht2a, ht2b⟩ := ht2
  obtain ⟨pr, hpr⟩ : ∃ p, s.w * s.h = p := ⟨_, rfl⟩
  have hpr0 : 0 ≤ pr := by rw [← hpr]; exact Int.mul_nonneg (by omega) (by omega)
  have hpr1 : pr ≤ 240 := by rw [← hpr]; exact Int.le_trans (Int.mul_le_mul_of_nonneg_right hw2b (by omega)) (by omega)
  obtain ⟨nc, hnc⟩ : ∃ n, s.cells.length = n := ⟨_, rfl⟩
  obtain ⟨nh, hnh⟩ : ∃ n, s.hist.length = n := ⟨_, rfl⟩
  have HNC := Lib.hid hnc
  have HNH := Lib.hid hnh
  rw [hnc, hnh]
  rw [hnc] at hcl
  rw [hnh] at hhl
  clear hnc hnh
  have h40 : ¬ (s.title.size : Int) > 40 := by have := H9.out; simp only [decide_eq_true_eq] at this; omega
  have hq : ((nc : Int) != pr) = true := by have := H10.out; rw [HNC.out, hpr] at this; simp only [decide_eq_false_iff_not] at this; simp [this]
  go_enter Tryz.func27, Tryz.ntmps27
  simp only [List.append_eq, List.cons_append, List.nil_append]
  go_wp2_with (first | (go_at_call 28; refine (l04Size_c _ _ _).mono ?_; rw [H1.out]; rintro e w' ⟨rfl, rfl⟩) | (go_at_call 60; refine (l01In_c _ _ _ _).mono ?_; (first | rw [H2.out] | rw [H3.out] | rw [H4.out] | rw [H5.out] | rw [H6.out] | rw [H7.out] | rw [H8.out]); rintro e w' ⟨rfl, rfl⟩))
  go_ret
  exact ⟨rfl, (Below.refl _ _).alloc (Nat.le_refl _) _⟩
theorem screenOK_no11 (s : ScrI) (ac : Option Addr) (cc : Nat) (ah : Option Addr) (dh : Nat) (w : World) (hcl : s.cells.length ≤ 1048576) (hhl : s.hist.length ≤ 1048576) (h1 : (inB s.w 2 24 && inB s.h 2 10) = true) (h2 : inB s.x 0 s.w = true) (h3 : inB s.y 0 (s.h - 1) = true) (h4 : inB s.look 0 127 = true) (h5 : inB s.top 0 (s.h - 2) = true) (h6 : inB s.bot (s.top + 1) (s.h - 1) = true) (h7 : inB s.sx 0 s.w = true) (h8 : inB s.sy 0 (s.h - 1) = true) (h9 : decide (s.title.size ≤ 40) = true) (h10 : decide ((s.cells.length : Int) = s.w * s.h) = true) (hk : decide (s.hist.length ≤ 6) = false) :
    Calls Tryz.prog 27 #[.agg #[.int .i64 s.w, .int .i64 s.h, .int .i64 s.x, .int .i64 s.y, .int .i64 s.look, .int .i64 s.top, .int .i64 s.bot, .int .i64 s.sx, .int .i64 s.sy, .string s.title, .slice ac s.cells.length cc, .slice ah s.hist.length dh]] w fun e w' => e = .returned (.bool false) ∧ Below w.heap.size w w' := by
  have H1 := Lib.hid h1
  have H2 := Lib.hid h2
  have H3 := Lib.hid h3
  have H4 := Lib.hid h4
  have H5 := Lib.hid h5
  have H6 := Lib.hid h6
  have H7 := Lib.hid h7
  have H8 := Lib.hid h8
  have H9 := Lib.hid h9
  have H10 := Lib.hid h10
  have H11 := Lib.hid hk
  clear hk h1 h2 h3 h4 h5 h6 h7 h8 h9 h10
  have hw2 : 2 ≤ s.w ∧ s.w ≤ 24 := by have := H1.out; simp only [inB, Bool.and_eq_true, decide_eq_true_eq] at this; omega
  have hh2 : 2 ≤ s.h ∧ s.h ≤ 10 := by have := H1.out; simp only [inB, Bool.and_eq_true, decide_eq_true_eq] at this; omega
  obtain ⟨hw2a, hw2b⟩ := hw2
  obtain ⟨hh2a, hh2b⟩ := hh2
  have ht2 : 0 ≤ s.top ∧ s.top ≤ s.h - 2 := by have := H5.out; simp only [inB, Bool.and_eq_true, decide_eq_true_eq] at this; omega
  obtain ⟨ht2a, ht2b⟩ := ht2
  obtain ⟨pr, hpr⟩ : ∃ p, s.w * s.h = p := ⟨_, rfl⟩
  have hpr0 : 0 ≤ pr := by rw [← hpr]; exact Int.mul_nonneg (by omega) (by omega)
  have hpr1 : pr ≤ 240 := by rw [← hpr]; exact Int.le_trans (Int.mul_le_mul_of_nonneg_right hw2b (by omega)) (by omega)
  obtain ⟨nc, hnc⟩ : ∃ n, s.cells.length = n := ⟨_, rfl⟩
  obtain ⟨nh, hnh⟩ : ∃ n, s.hist.length = n := ⟨_, rfl⟩
  have HNC := Lib.hid hnc
  have HNH := Lib.hid hnh
  rw [hnc, hnh]
  rw [hnc] at hcl
  rw [hnh] at hhl
  clear hnc hnh
  have h40 : ¬ (s.title.size : Int) > 40 := by have := H9.out; simp only [decide_eq_true_eq] at this; omega
  have hq : ((nc : Int) != pr) = false := by have := H10.out; rw [HNC.out, hpr] at this; simp only [decide_eq_true_eq] at this; simp [this]
  have h6 : (6 : Int) < (nh : Int) := by have := H11.out; rw [HNH.out] at this; simp only [decide_eq_false_iff_not] at this; omega
  go_enter Tryz.func27, Tryz.ntmps27
  simp only [List.append_eq, List.cons_append, List.nil_append]
  go_wp2_with (first | (go_at_call 28; refine (l04Size_c _ _ _).mono ?_; rw [H1.out]; rintro e w' ⟨rfl, rfl⟩) | (go_at_call 60; refine (l01In_c _ _ _ _).mono ?_; (first | rw [H2.out] | rw [H3.out] | rw [H4.out] | rw [H5.out] | rw [H6.out] | rw [H7.out] | rw [H8.out]); rintro e w' ⟨rfl, rfl⟩))
  go_ret
  exact ⟨rfl, (Below.refl _ _).alloc (Nat.le_refl _) _⟩
end
section
open Go.RowKit
theorem all_take_next {α : Type} {p : α → Bool} {l : List α} {k : Nat} (hk : k < l.length) : (l.take (k + 1)).all p = ((l.take k).all p && p l[k]) := by
  rw [List.take_succ_eq_append_getElem hk, List.all_append]
  simp
theorem all_no {α : Type} {p : α → Bool} {l : List α} {k : Nat} (hk : k < l.length) (h : p l[k] = false) : l.all p = false := by
  rw [List.all_eq_false]
  exact ⟨l[k], List.getElem_mem hk, by simp [h]⟩
theorem screenOK_yes (s : ScrI) (ac : Option Addr) (cc : Nat) (ah : Option Addr) (dh : Nat) (w : World) (ha : Sl celE 2 w ac s.cells) (hb : Sl strE 1 w ah s.hist) (h1 : (inB s.w 2 24 && inB s.h 2 10) = true) (h2 : inB s.x 0 s.w = true) (h3 : inB s.y 0 (s.h - 1) = true) (h4 : inB s.look 0 127 = true) (h5 : inB s.top 0 (s.h - 2) = true) (h6 : inB s.bot (s.top + 1) (s.h - 1) = true) (h7 : inB s.sx 0 s.w = true) (h8 : inB s.sy 0 (s.h - 1) = true) (h9 : decide (s.title.size ≤ 40) = true) (h10 : decide ((s.cells.length : Int) = s.w * s.h) = true) (h11 : decide (s.hist.length ≤ 6) = true) :
    Calls Tryz.prog 27 #[.agg #[.int .i64 s.w, .int .i64 s.h, .int .i64 s.x, .int .i64 s.y, .int .i64 s.look, .int .i64 s.top, .int .i64 s.bot, .int .i64 s.sx, .int .i64 s.sy, .string s.title, .slice ac s.cells.length cc, .slice ah s.hist.length dh]] w fun e w' => e = .returned (.bool (tiB s.title.data.toList && s.cells.all celB && s.hist.all fun t => decide (t.size ≤ 96))) ∧ Below w.heap.size w w' := by
  have H1 := Lib.hid h1
  have H2 := Lib.hid h2
  have H3 := Lib.hid h3
  have H4 := Lib.hid h4
  have H5 := Lib.hid h5
  have H6 := Lib.hid h6
  have H7 := Lib.hid h7
  have H8 := Lib.hid h8
  have H9 := Lib.hid h9
  have H10 := Lib.hid h10
  have H11 := Lib.hid h11
  clear h1 h2 h3 h4 h5 h6 h7 h8 h9 h10 h11
  have HA := Lib.hid ha
  have HBB := Lib.hid hb
  have hw2 : 2 ≤ s.w ∧ s.w ≤ 24 := by have := H1.out; simp only [inB, Bool.and_eq_true, decide_eq_true_eq] at this; omega
  have hh2 : 2 ≤ s.h ∧ s.h ≤ 10 := by have := H1.out; simp only [inB, Bool.and_eq_true, decide_eq_true_eq] at this; omega
  obtain ⟨hw2a, hw2b⟩ := hw2
  obtain ⟨hh2a, hh2b⟩ := hh2
  have ht2 : 0 ≤ s.top ∧ s.top ≤ s.h - 2 := by have := H5.out; simp only [inB, Bool.and_eq_true, decide_eq_true_eq] at this; omega
  obtain ⟨ht2a, ht2b⟩ := ht2
  obtain ⟨pr, hpr⟩ : ∃ p, s.w * s.h = p := ⟨_, rfl⟩
  have hpr0 : 0 ≤ pr := by rw [← hpr]; exact Int.mul_nonneg (by omega) (by omega)
  have hpr1 : pr ≤ 240 := by rw [← hpr]; exact Int.le_trans (Int.mul_le_mul_of_nonneg_right hw2b (by omega)) (by omega)
  obtain ⟨nc, hnc⟩ : ∃ n, s.cells.length = n := ⟨_, rfl⟩
  obtain ⟨nh, hnh⟩ : ∃ n, s.hist.length = n := ⟨_, rfl⟩
  have HNC := Lib.hid hnc
  have HNH := Lib.hid hnh
  rw [hnc, hnh]
  clear hnc hnh ha hb
  have h40 : ¬ (s.title.size : Int) > 40 := by have := H9.out; simp only [decide_eq_true_eq] at this; omega
  have hq : ((nc : Int) != pr) = false := by have := H10.out; rw [HNC.out, hpr] at this; simp only [decide_eq_true_eq] at this; simp [this]
  have h6 : ¬ (nh : Int) > 6 := by have := H11.out; rw [HNH.out] at this; simp only [decide_eq_true_eq] at this; omega
  have hnc240 : (nc : Int) ≤ 240 := by have := H10.out; rw [HNC.out, hpr] at this; simp only [decide_eq_true_eq] at this; omega
  obtain ⟨T, hT⟩ : ∃ T, s.title = T := ⟨_, rfl⟩
  have HT := Lib.hid hT
  rw [hT] at h40 ⊢
  clear hT
  obtain ⟨W1, hW1⟩ : ∃ x, w.alloc (.cells #[.int .i64 s.w, .int .i64 s.h, .int .i64 s.x, .int .i64 s.y, .int .i64 s.look, .int .i64 s.top, .int .i64 s.bot, .int .i64 s.sx, .int .i64 s.sy, .string T, .slice ac nc cc, .slice ah nh dh] 26) = x := ⟨_, rfl⟩
  have HB1 : Hid (Below w.heap.size w W1) := Lib.hid (by rw [← hW1]; exact (Below.refl _ _).alloc (Nat.le_refl _) _)
  have k_0 : W1.cell? ⟨w.heap.size, 0, none⟩ = some (.int .i64 s.w) := by rw [← hW1]; simp [go_sem]
  have k_1 : W1.cell? ⟨w.heap.size, 1, none⟩ = some (.int .i64 s.h) := by rw [← hW1]; simp [go_sem]
  have k_2 : W1.cell? ⟨w.heap.size, 2, none⟩ = some (.int .i64 s.x) := by rw [← hW1]; simp [go_sem]
  have k_3 : W1.cell? ⟨w.heap.size, 3, none⟩ = some (.int .i64 s.y) := by rw [← hW1]; simp [go_sem]
  have k_4 : W1.cell? ⟨w.heap.size, 4, none⟩ = some (.int .i64 s.look) := by rw [← hW1]; simp [go_sem]
  have k_5 : W1.cell? ⟨w.heap.size, 5, none⟩ = some (.int .i64 s.top) := by rw [← hW1]; simp [go_sem]
  have k_6 : W1.cell? ⟨w.heap.size, 6, none⟩ = some (.int .i64 s.bot) := by rw [← hW1]; simp [go_sem]
  have k_7 : W1.cell? ⟨w.heap.size, 7, none⟩ = some (.int .i64 s.sx) := by rw [← hW1]; simp [go_sem]
  have k_8 : W1.cell? ⟨w.heap.size, 8, none⟩ = some (.int .i64 s.sy) := by rw [← hW1]; simp [go_sem]
  have k_9 : W1.cell? ⟨w.heap.size, 9, none⟩ = some (.string T) := by rw [← hW1]; simp [go_sem]
  have k_10 : W1.cell? ⟨w.heap.size, 10, none⟩ = some (.slice ac nc cc) := by rw [← hW1]; simp [go_sem]
  have k_11 : W1.cell? ⟨w.heap.size, 11, none⟩ = some (.slice ah nh dh) := by rw [← hW1]; simp [go_sem]
  have k_l : w.heap.size < W1.heap.size := by rw [← hW1]; simp
  obtain ⟨R, hR⟩ : ∃ R, (tiB T.data.toList && s.cells.all celB && s.hist.all fun t => decide (t.size ≤ 96)) = R := ⟨_, rfl⟩
  have HRR := Lib.hid hR
  rw [hR]
  clear hR
  go_enter Tryz.func27, Tryz.ntmps27
  simp only [List.append_eq, List.cons_append, List.nil_append]
  go_upto_region 3 with (first | (go_at_call 28; refine (l04Size_c _ _ _).mono ?_; rw [H1.out]; rintro e w' ⟨rfl, rfl⟩) | (go_at_call 60; refine (l01In_c _ _ _ _).mono ?_; (first | rw [H2.out] | rw [H3.out] | rw [H4.out] | rw [H5.out] | rw [H6.out] | rw [H7.out] | rw [H8.out]); rintro e w' ⟨rfl, rfl⟩))
  clear hW1 k_0 k_1 k_2 k_3 k_4 k_5 k_6 k_7 k_8
  go_wp2_with fail
  go_loopw [3] (fun iv wr => ∃ k : Nat, iv = .int .i64 k ∧ k ≤ T.size ∧ Hid (tiB (T.data.toList.take k) = true) ∧ W1 = wr) (fun iv _ => T.size - (intOf iv).toNat)
  case atStart => exact ⟨0, rfl, Nat.zero_le _, rfl, rfl⟩
  case round =>
    obtain ⟨k, rfl, hk, hall, rfl⟩ := hrel
    by_cases hlt : k < T.size
    · have hlt' : (k : Int) < (T.size : Int) := by omega
      have hi0 : (0 : Int) ≤ (k : Int) := by omega
      have hkl : k < T.data.toList.length := hlt
      obtain ⟨n, hn⟩ : ∃ n, n = (T[k]'hlt).toNat := ⟨_, rfl⟩
      have hb2 : (T[k]'hlt).toNat = n := hn.symm
      have HN : Hid ((T.data.toList[k]'hkl).toNat = n) := Lib.hid (by rw [← hb2]; rfl)
      obtain ⟨u, hu⟩ : ∃ u, inB (n : Int) 32 126 = u := ⟨_, rfl⟩
      have HU := Lib.hid hu
      have hp : (decide (32 ≤ (T.data.toList[k]'hkl).toNat) && decide ((T.data.toList[k]'hkl).toNat ≤ 126)) = u := by
        rw [HN.out, ← hu]
        unfold inB
        congr 1 <;> simp only [decide_eq_decide] <;> omega
      have HP := Lib.hid hp
      have hn256 : n < 256 := by rw [← hb2]; exact (T[k]'hlt).toNat_lt
      clear hn hu hp
      cases u with
      | true =>
        have HNX : Hid (tiB (T.data.toList.take (k + 1)) = true) := Lib.hid (by
          unfold tiB
          rw [all_take_next hkl, HP.out]
          exact (Bool.and_eq_true _ _).mpr ⟨hall.out, rfl⟩)
        go_wp2_with (go_at_call 60; refine (l01In_c _ _ _ _).mono ?_; rw [HU.out]; rintro e w' ⟨rfl, rfl⟩)
        go_roundw
        case rel => exact ⟨k + 1, by go_num, by omega, HNX, trivial⟩
        case measure => simp [intOf]; omega
      | false =>
        have HNO : Hid (R = false) := Lib.hid (by
          rw [← HRR.out]
          have : tiB T.data.toList = false := all_no hkl HP.out
          rw [this]
          rfl)
        go_wp2_with (go_at_call 60; refine (l01In_c _ _ _ _).mono ?_; rw [HU.out]; rintro e w' ⟨rfl, rfl⟩)
        go_ret
        exact ⟨by rw [HNO.out]; rfl, HB1.out⟩
    · obtain rfl : k = T.size := by omega
      have HTI : Hid (tiB T.data.toList = true) := Lib.hid (by
        have := hall.out
        have e : T.data.toList.take T.size = T.data.toList := List.take_of_length_le (Nat.le_refl T.data.toList.length)
        rwa [e] at this)
      go_wp2_with fail
      go_loopw [4] (fun iv wr => ∃ k : Nat, iv = .int .i64 k ∧ k ≤ nc ∧ Hid ((s.cells.take k).all celB = true ∧ Below W1.heap.size W1 wr)) (fun iv _ => nc - (intOf iv).toNat)
      case atStart => exact ⟨0, rfl, Nat.zero_le _, Lib.hid ⟨rfl, Below.refl _ _⟩⟩
      case round =>
        obtain ⟨k, rfl, hk2, HQ⟩ := hrel
        have q_10 : wr.cell? ⟨w.heap.size, 10, none⟩ = some (.slice ac nc cc) := (HQ.out.2.cell (p := ⟨w.heap.size, 10, none⟩) k_l).trans k_10
        have q_11 : wr.cell? ⟨w.heap.size, 11, none⟩ = some (.slice ah nh dh) := (HQ.out.2.cell (p := ⟨w.heap.size, 11, none⟩) k_l).trans k_11
        by_cases hlt2 : k < nc
        · have hlt' : (k : Int) < (nc : Int) := by omega
          have hkl : k < s.cells.length := by rw [HNC.out]; exact hlt2
          obtain ⟨b1, o1, rfl, hb1, hc1⟩ := ((HA.out.keep HB1.out).keep HQ.out.2).at hkl
          obtain ⟨c, hc⟩ : ∃ c, s.cells[k] = c := ⟨_, rfl⟩
          have c1 := hc1 k hkl 0 (by omega)
          have c2 := hc1 k hkl 1 (by omega)
          rw [hc] at c1 c2
          simp only [celE, Nat.add_zero, List.getElem?_cons_zero, List.getElem?_cons_succ] at c1 c2
          obtain ⟨u, hu⟩ : ∃ u, celB c = u := ⟨_, rfl⟩
          have HU := Lib.hid hu
          have HP : Hid (celB (s.cells[k]'hkl) = u) := Lib.hid (by rw [hc]; exact hu)
          clear hc1 hc hu
          go_wp2_with fail
          refine (l04Cell_c c _).mono ?_
          rw [HU.out]
          rintro e w2 ⟨rfl, hb2⟩
          have HB2 : Hid (Below W1.heap.size W1 w2) := Lib.hid (HQ.out.2.trans (hb2.mono HQ.out.2.size))
          clear hb2 HU
          cases u with
          | true =>
            go_wp2_with fail
            go_roundw
            case rel => exact ⟨k + 1, by go_num, by omega, Lib.hid ⟨by rw [all_take_next hkl, HP.out, HQ.out.1]; rfl, HB2.out⟩⟩
            case measure => simp [intOf]; omega
          | false =>
            have HNO : Hid (R = false) := Lib.hid (by
              rw [← HRR.out, all_no hkl HP.out]
              simp)
            go_wp2_with fail
            go_ret
            exact ⟨by rw [HNO.out]; rfl, HB1.out.trans (HB2.out.mono HB1.out.size)⟩
        · obtain rfl : k = nc := by omega
          have HCE : Hid (s.cells.all celB = true) := Lib.hid (by
            have := HQ.out.1
            rwa [List.take_of_length_le (by rw [HNC.out]; exact Nat.le_refl _)] at this)
          obtain ⟨W2, hW2⟩ : ∃ x, x = wr := ⟨_, rfl⟩
          subst hW2
          go_wp2_with fail
          go_loopw [5] (fun iv wr => ∃ k : Nat, iv = .int .i64 k ∧ k ≤ nh ∧ Hid ((s.hist.take k).all (fun t => decide (t.size ≤ 96)) = true) ∧ W2 = wr) (fun iv _ => nh - (intOf iv).toNat)
          case atStart => exact ⟨0, rfl, Nat.zero_le _, rfl, rfl⟩
          case round =>
            obtain ⟨j, rfl, hj2, HJ, rfl⟩ := hrel
            by_cases hlt3 : j < nh
            · have hlt' : (j : Int) < (nh : Int) := by omega
              have hkl : j < s.hist.length := by rw [HNH.out]; exact hlt3
              obtain ⟨b1, o1, rfl, hb1, hc1⟩ := ((HBB.out.keep HB1.out).keep HQ.out.2).at hkl
              obtain ⟨t, ht⟩ : ∃ t, s.hist[j] = t := ⟨_, rfl⟩
              have c1 := hc1 j hkl 0 (by omega)
              rw [ht] at c1
              simp only [strE, Nat.mul_one, Nat.add_zero, List.getElem?_cons_zero] at c1
              have HTT : Hid ((s.hist[j]'hkl).size = t.size) := Lib.hid (by rw [ht])
              clear hc1 ht
              by_cases h96 : t.size ≤ 96
              · have h96' : ¬ (t.size : Int) > 96 := by omega
                go_wp2_with fail
                go_roundw
                case rel => exact ⟨j + 1, by go_num, by omega, Lib.hid (by rw [all_take_next hkl, HTT.out, HJ.out]; simp [h96]), trivial⟩
                case measure => simp [intOf]; omega
              · have h96' : (96 : Int) < (t.size : Int) := by omega
                have HNO : Hid (R = false) := Lib.hid (by
                  rw [← HRR.out, all_no hkl (by rw [HTT.out]; simp [h96])]
                  simp)
                go_wp2_with fail
                go_ret
                exact ⟨by rw [HNO.out]; rfl, HB1.out.trans (HQ.out.2.mono HB1.out.size)⟩
            · obtain rfl : j = nh := by omega
              have HHI : Hid (s.hist.all (fun t => decide (t.size ≤ 96)) = true) := Lib.hid (by
                have := HJ.out
                rwa [List.take_of_length_le (by rw [HNH.out]; exact Nat.le_refl _)] at this)
              go_wp2_with fail
              go_ret
              exact ⟨by rw [← HRR.out, HTI.out, HCE.out, HHI.out]; rfl, HB1.out.trans (HQ.out.2.mono HB1.out.size)⟩
theorem specScreenOK_c (s : ScrI) (ac : Option Addr) (cc : Nat) (ah : Option Addr) (dh : Nat) (w : World) (ha : Sl celE 2 w ac s.cells) (hb : Sl strE 1 w ah s.hist) (hcl : s.cells.length ≤ 1048576) (hhl : s.hist.length ≤ 1048576) :
    Calls Tryz.prog 27 #[.agg #[.int .i64 s.w, .int .i64 s.h, .int .i64 s.x, .int .i64 s.y, .int .i64 s.look, .int .i64 s.top, .int .i64 s.bot, .int .i64 s.sx, .int .i64 s.sy, .string s.title, .slice ac s.cells.length cc, .slice ah s.hist.length dh]] w fun e w' => e = .returned (.bool (scrB s)) ∧ Below w.heap.size w w' := by
  cases h1 : (inB s.w 2 24 && inB s.h 2 10)
  · have e : scrB s = false := by unfold scrB scrH; rw [h1]; simp
    rw [e]
    exact screenOK_no1 s ac cc ah dh w hcl hhl h1
  cases h2 : inB s.x 0 s.w
  · have e : scrB s = false := by unfold scrB scrH; rw [h1, h2]; simp
    rw [e]
    exact screenOK_no2 s ac cc ah dh w hcl hhl h1 h2
  cases h3 : inB s.y 0 (s.h - 1)
  · have e : scrB s = false := by unfold scrB scrH; rw [h1, h2, h3]; simp
    rw [e]
    exact screenOK_no3 s ac cc ah dh w hcl hhl h1 h2 h3
  cases h4 : inB s.look 0 127
  · have e : scrB s = false := by unfold scrB scrH; rw [h1, h2, h3, h4]; simp
    rw [e]
    exact screenOK_no4 s ac cc ah dh w hcl hhl h1 h2 h3 h4
  cases h5 : inB s.top 0 (s.h - 2)
  · have e : scrB s = false := by unfold scrB scrH; rw [h1, h2, h3, h4, h5]; simp
    rw [e]
    exact screenOK_no5 s ac cc ah dh w hcl hhl h1 h2 h3 h4 h5
  cases h6 : inB s.bot (s.top + 1) (s.h - 1)
  · have e : scrB s = false := by unfold scrB scrH; rw [h1, h2, h3, h4, h5, h6]; simp
    rw [e]
    exact screenOK_no6 s ac cc ah dh w hcl hhl h1 h2 h3 h4 h5 h6
  cases h7 : inB s.sx 0 s.w
  · have e : scrB s = false := by unfold scrB scrH; rw [h1, h2, h3, h4, h5, h6, h7]; simp
    rw [e]
    exact screenOK_no7 s ac cc ah dh w hcl hhl h1 h2 h3 h4 h5 h6 h7
  cases h8 : inB s.sy 0 (s.h - 1)
  · have e : scrB s = false := by unfold scrB scrH; rw [h1, h2, h3, h4, h5, h6, h7, h8]; simp
    rw [e]
    exact screenOK_no8 s ac cc ah dh w hcl hhl h1 h2 h3 h4 h5 h6 h7 h8
  cases h9 : decide (s.title.size ≤ 40)
  · have e : scrB s = false := by unfold scrB scrH; rw [h1, h2, h3, h4, h5, h6, h7, h8, h9]; simp
    rw [e]
    exact screenOK_no9 s ac cc ah dh w hcl hhl h1 h2 h3 h4 h5 h6 h7 h8 h9
  cases h10 : decide ((s.cells.length : Int) = s.w * s.h)
  · have e : scrB s = false := by unfold scrB scrH; rw [h1, h2, h3, h4, h5, h6, h7, h8, h9, h10]; simp
    rw [e]
    exact screenOK_no10 s ac cc ah dh w hcl hhl h1 h2 h3 h4 h5 h6 h7 h8 h9 h10
  cases h11 : decide (s.hist.length ≤ 6)
  · have e : scrB s = false := by unfold scrB scrH; rw [h1, h2, h3, h4, h5, h6, h7, h8, h9, h10, h11]; simp
    rw [e]
    exact screenOK_no11 s ac cc ah dh w hcl hhl h1 h2 h3 h4 h5 h6 h7 h8 h9 h10 h11
  have e : scrB s = (tiB s.title.data.toList && s.cells.all celB && s.hist.all fun t => decide (t.size ≤ 96)) := by unfold scrB scrH; rw [h1, h2, h3, h4, h5, h6, h7, h8, h9, h10, h11]; simp
  rw [e]
  exact screenOK_yes s ac cc ah dh w ha hb h1 h2 h3 h4 h5 h6 h7 h8 h9 h10 h11
end
section
open Go.RowKit
def ncB (c : Cl) : Bool := !celB c
def bigH (t : ByteArray) : Bool := decide (96 < t.size)
theorem index_cel (a : Option Addr) (ca : Nat) (xs : List Cl) (w : World) (ha : Sl celE 2 w a xs) (la : xs.length ≤ 1048576) :
    Calls Tryz.prog 94 #[.slice a xs.length ca, .func (.func 56) #[] #[]] w fun e w' => (∃ i : Int, e = .returned (.int .i64 i) ∧ Hid (decide (0 ≤ i) = xs.any ncB)) ∧ Below w.heap.size w w' := by
  have HA := Lib.hid ha
  obtain ⟨nc, hnc⟩ : ∃ n, xs.length = n := ⟨_, rfl⟩
  have HNC := Lib.hid hnc
  rw [hnc] at la ⊢
  clear hnc ha
  go_enter Tryz.func94, Tryz.ntmps94
  go_wp2_with fail
  go_loopw [5, 8] (fun _ i wr => ∃ k : Nat, k ≤ nc ∧ i = .int .i64 k ∧ Hid ((xs.take k).any ncB = false ∧ Below w.heap.size w wr)) (fun _ i _ => nc - (intOf i).toNat)
  case atStart => exact ⟨0, Nat.zero_le _, rfl, Lib.hid ⟨rfl, Below.refl _ _⟩⟩
  case round =>
    obtain ⟨k, hk, rfl, HQ⟩ := hrel
    by_cases hlt : k < nc
    · have hlt' : (k : Int) < (nc : Int) := by omega
      have hkl : k < xs.length := by rw [HNC.out]; exact hlt
      obtain ⟨b1, o1, rfl, hb1, hc1⟩ := (HA.out.keep HQ.out.2).at hkl
      obtain ⟨c, hc⟩ : ∃ c, xs[k] = c := ⟨_, rfl⟩
      have c1 := hc1 k hkl 0 (by omega)
      have c2 := hc1 k hkl 1 (by omega)
      rw [hc] at c1 c2
      simp only [celE, Nat.add_zero, List.getElem?_cons_zero, List.getElem?_cons_succ] at c1 c2
      obtain ⟨u, hu⟩ : ∃ u, celB c = u := ⟨_, rfl⟩
      have HCALL : ∀ W, Calls Tryz.prog 56 #[.agg #[.int .i64 c.1, .int .i64 c.2]] W fun e w' => e = .returned (.bool (!u)) ∧ Below W.heap.size W w' := fun W => by rw [← hu]; exact isScreen2_c c W
      have HP : Hid (ncB (xs[k]'hkl) = !u) := Lib.hid (by unfold ncB; rw [hc, hu])
      clear hc1 hc hu
      go_wp2_with fail
      refine (HCALL _).mono ?_
      rintro e w2 ⟨rfl, hb2⟩
      have HB2 : Hid (Below w.heap.size w w2) := Lib.hid (HQ.out.2.trans (hb2.mono HQ.out.2.size))
      clear hb2
      cases u with
      | true =>
        go_wp2_with fail
        go_roundw
        case rel => exact ⟨k + 1, by omega, by go_num, Lib.hid ⟨by rw [List.take_succ_eq_append_getElem hkl, List.any_append, HQ.out.1, List.any_cons, HP.out]; rfl, HB2.out⟩⟩
        case measure => simp [intOf]; omega
      | false =>
        go_wp2_with fail
        go_ret
        exact ⟨⟨_, rfl, Lib.hid (by rw [any_at hkl HP.out]; show decide _ = _; simp)⟩, HB2.out⟩
    · obtain rfl : k = nc := by omega
      go_wp2_with fail
      go_ret
      refine ⟨⟨_, rfl, Lib.hid ?_⟩, HQ.out.2⟩
      have := HQ.out.1
      rw [List.take_of_length_le (by rw [HNC.out]; exact Nat.le_refl _)] at this
      rw [this]
      rfl
theorem contains_cel (a : Option Addr) (ca : Nat) (xs : List Cl) (w : World) (ha : Sl celE 2 w a xs) (la : xs.length ≤ 1048576) :
    Calls Tryz.prog 55 #[.slice a xs.length ca, .func (.func 56) #[] #[]] w fun e w' => e = .returned (.bool (xs.any ncB)) ∧ Below w.heap.size w w' := by
  have HA := Lib.hid ha
  clear ha
  go_enter Tryz.func55, Tryz.ntmps55
  go_wp2_with fail
  refine (index_cel a ca xs _ HA.out la).mono ?_
  rintro e w' ⟨⟨i, rfl, hi⟩, hb⟩
  have HB := Lib.hid hb
  clear hb
  go_wp2_with fail
  go_ret
  exact ⟨by rw [← hi.out]; rfl, HB.out⟩
def sz_impl_isScreen_1 (_ : ByteArray) : Prop := True
theorem f_impl_isScreen_1 (r : ByteArray) (w : World) (_ : sz_impl_isScreen_1 r) : Calls Tryz.prog 54 #[.string r] w fun e w' => e = .returned (.bool (bigH r)) ∧ w = w' := by
  by_cases h : 96 < r.size
  all_goals
    go_enter Tryz.func54, Tryz.ntmps54
    go_wp2_with fail
    go_ret
    exact ⟨by simp [bigH]; try omega, rfl⟩
theorem index_impl_isScreen_1 (a : Option Addr) (ca : Nat) (xs : List ByteArray) (w : World) (ha : Sl strE 1 w a xs) (la : xs.length ≤ 1099511627776) (hq : ∀ x ∈ xs, sz_impl_isScreen_1 x) :
    Calls Tryz.prog 93 #[.slice a xs.length ca, .func (.func 54) #[] #[]] w fun e w' => (∃ i : Int, e = .returned (.int .i64 i) ∧ Hid (decide (0 ≤ i) = xs.any bigH)) ∧ w = w' := by
  have HQ := Lib.hid hq
  clear hq
  go_enter Tryz.func93, Tryz.ntmps93
  go_wp2_with fail
  go_loop [5, 8] (fun _ i => ∃ k : Nat, k ≤ xs.length ∧ i = .int .i64 k ∧ ∀ j (hj : j < xs.length), j < k → bigH xs[j] = false) (fun _ i => xs.length - (intOf i).toNat)
  case atStart => exact ⟨0, Nat.zero_le _, rfl, fun j _ h => absurd h (Nat.not_lt_zero _)⟩
  case round =>
    obtain ⟨k, hk, rfl, hp⟩ := hrel
    have HP := Lib.hid hp
    clear hp
    by_cases hlt : k < xs.length
    · obtain ⟨b1, o1, rfl, hb1, hc1⟩ := ha.at hlt
      have c1 := hc1 k hlt 0 (by omega)
      simp only [strE, Nat.mul_one, Nat.add_zero, List.getElem?_cons_zero] at c1
      have hx := HQ.out xs[k] (List.getElem_mem _)
      clear hc1
      cases hpk : bigH xs[k]
      · have HPK := Lib.hid hpk
        clear hpk
        go_wp2_with (go_at_call 54; refine (f_impl_isScreen_1 xs[k] _ hx).mono ?_; rw [HPK.out]; rintro e w' ⟨rfl, rfl⟩)
        go_round
        case rel => exact ⟨k + 1, by omega, by go_num, fun j hj h => by
          rcases Nat.lt_succ_iff_lt_or_eq.1 h with h | rfl
          · exact HP.out j hj h
          · exact HPK.out⟩
        case measure => simp [intOf]; omega
      · have HPK := Lib.hid hpk
        clear hpk
        go_wp2_with (go_at_call 54; refine (f_impl_isScreen_1 xs[k] _ hx).mono ?_; rw [HPK.out]; rintro e w' ⟨rfl, rfl⟩)
        go_ret
        exact ⟨⟨_, rfl, by rw [any_at hlt HPK.out]; show decide _ = _; simp⟩, rfl⟩
    · obtain rfl : k = xs.length := by omega
      go_wp2_with fail
      go_ret
      exact ⟨⟨_, rfl, by rw [take_none HP.out (Nat.le_refl _)]; rfl⟩, rfl⟩
theorem contains_impl_isScreen_1 (a : Option Addr) (ca : Nat) (xs : List ByteArray) (w : World) (ha : Sl strE 1 w a xs) (la : xs.length ≤ 1099511627776) (hq : ∀ x ∈ xs, sz_impl_isScreen_1 x) :
    Calls Tryz.prog 53 #[.slice a xs.length ca, .func (.func 54) #[] #[]] w fun e w' => e = .returned (.bool (xs.any bigH)) ∧ w = w' := by
  have HQ := Lib.hid hq
  clear hq
  go_enter Tryz.func53, Tryz.ntmps53
  go_wp2_with fail
  refine (index_impl_isScreen_1 a ca xs _ ha la HQ.out).mono ?_
  rintro e w' ⟨⟨i, rfl, hi⟩, rfl⟩
  go_wp2_with fail
  go_ret
  exact ⟨by rw [← hi.out]; rfl, rfl⟩
end
section
open Go.RowKit
theorem isScreen_no1 (s : ScrI) (ac : Option Addr) (cc : Nat) (ah : Option Addr) (dh : Nat) (w : World) (ha : Sl celE 2 w ac s.cells) (hb : Sl strE 1 w ah s.hist) (hcl : s.cells.length ≤ 1048576) (hhl : s.hist.length ≤ 1048576) (htl : s.title.size ≤ 1099511627776)  (hk : (inB s.w 2 24 && inB s.h 2 10) = false) :
    Calls Tryz.prog 24 #[.agg #[.int .i64 s.w, .int .i64 s.h, .int .i64 s.x, .int .i64 s.y, .int .i64 s.look, .int .i64 s.top, .int .i64 s.bot, .int .i64 s.sx, .int .i64 s.sy, .string s.title, .slice ac s.cells.length cc, .slice ah s.hist.length dh]] w fun e w' => e = .returned (.bool false) ∧ Below w.heap.size w w' := by
  have H1 := Lib.hid hk
  have HA := Lib.hid ha
  have HBB := Lib.hid hb
  clear ha hb hk 
  obtain ⟨nc, hnc⟩ : ∃ n, s.cells.length = n := ⟨_, rfl⟩
  obtain ⟨nh, hnh⟩ : ∃ n, s.hist.length = n := ⟨_, rfl⟩
  have HNC := Lib.hid hnc
  have HNH := Lib.hid hnh
  rw [hnc, hnh]
  rw [hnc] at hcl
  rw [hnh] at hhl
  clear hnc hnh
  obtain ⟨T, hT⟩ : ∃ T, s.title = T := ⟨_, rfl⟩
  rw [hT] at htl ⊢
  clear hT
  have HB1 : ∀ x, Hid (Below w.heap.size w (w.alloc x)) := fun x => Lib.hid ((Below.refl _ _).alloc (Nat.le_refl _) _)
  go_enter Tryz.func24, Tryz.ntmps24
  try simp only [List.append_eq, List.cons_append, List.nil_append]
  go_wp2_with (first | (go_at_call 25; refine (isSize_c _ _ _).mono ?_; rw [H1.out]; rintro e w' ⟨rfl, rfl⟩))
  go_ret
  exact ⟨rfl, (Below.refl _ _).alloc (Nat.le_refl _) _⟩
theorem isScreen_no2 (s : ScrI) (ac : Option Addr) (cc : Nat) (ah : Option Addr) (dh : Nat) (w : World) (ha : Sl celE 2 w ac s.cells) (hb : Sl strE 1 w ah s.hist) (hcl : s.cells.length ≤ 1048576) (hhl : s.hist.length ≤ 1048576) (htl : s.title.size ≤ 1099511627776) (h1 : (inB s.w 2 24 && inB s.h 2 10) = true) (hk : inB s.x 0 s.w = false) :
    Calls Tryz.prog 24 #[.agg #[.int .i64 s.w, .int .i64 s.h, .int .i64 s.x, .int .i64 s.y, .int .i64 s.look, .int .i64 s.top, .int .i64 s.bot, .int .i64 s.sx, .int .i64 s.sy, .string s.title, .slice ac s.cells.length cc, .slice ah s.hist.length dh]] w fun e w' => e = .returned (.bool false) ∧ Below w.heap.size w w' := by
  have H1 := Lib.hid h1
  have H2 := Lib.hid hk
  have HA := Lib.hid ha
  have HBB := Lib.hid hb
  clear ha hb hk h1
  have hw2 : 2 ≤ s.w ∧ s.w ≤ 24 := by have := H1.out; simp only [inB, Bool.and_eq_true, decide_eq_true_eq] at this; omega
  have hh2 : 2 ≤ s.h ∧ s.h ≤ 10 := by have := H1.out; simp only [inB, Bool.and_eq_true, decide_eq_true_eq] at this; omega
  obtain ⟨hw2a, hw2b⟩ := hw2
  obtain ⟨hh2a, hh2b⟩ := hh2
  obtain ⟨nc, hnc⟩ : ∃ n, s.cells.length = n := ⟨_, rfl⟩
  obtain ⟨nh, hnh⟩ : ∃ n, s.hist.length = n := ⟨_, rfl⟩
  have HNC := Lib.hid hnc
  have HNH := Lib.hid hnh
  rw [hnc, hnh]
  rw [hnc] at hcl
  rw [hnh] at hhl
  clear hnc hnh
  obtain ⟨T, hT⟩ : ∃ T, s.title = T := ⟨_, rfl⟩
  rw [hT] at htl ⊢
  clear hT
  have HB1 : ∀ x, Hid (Below w.heap.size w (w.alloc x)) := fun x => Lib.hid ((Below.refl _ _).alloc (Nat.le_refl _) _)
  go_enter Tryz.func24, Tryz.ntmps24
  try simp only [List.append_eq, List.cons_append, List.nil_append]
  go_wp2_with (first | (go_at_call 25; refine (isSize_c _ _ _).mono ?_; rw [H1.out]; rintro e w' ⟨rfl, rfl⟩) | (go_at_call 31; refine (within_c _ _ _ _).mono ?_; (first | rw [H2.out]); rintro e w' ⟨rfl, rfl⟩))
  go_ret
  exact ⟨rfl, (Below.refl _ _).alloc (Nat.le_refl _) _⟩
theorem isScreen_no3 (s : ScrI) (ac : Option Addr) (cc : Nat) (ah : Option Addr) (dh : Nat) (w : World) (ha : Sl celE 2 w ac s.cells) (hb : Sl strE 1 w ah s.hist) (hcl : s.cells.length ≤ 1048576) (hhl : s.hist.length ≤ 1048576) (htl : s.title.size ≤ 1099511627776) (h1 : (inB s.w 2 24 && inB s.h 2 10) = true) (h2 : inB s.x 0 s.w = true) (hk : inB s.y 0 (s.h - 1) = false) :
    Calls Tryz.prog 24 #[.agg #[.int .i64 s.w, .int .i64 s.h, .int .i64 s.x, .int .i64 s.y, .int .i64 s.look, .int .i64 s.top, .int .i64 s.bot, .int .i64 s.sx, .int .i64 s.sy, .string s.title, .slice ac s.cells.length cc, .slice ah s.hist.length dh]] w fun e w' => e = .returned (.bool false) ∧ Below w.heap.size w w' := by
  have H1 := Lib.hid h1
  have H2 := Lib.hid h2
  have H3 := Lib.hid hk
  have HA := Lib.hid ha
  have HBB := Lib.hid hb
  clear ha hb hk h1 h2
  have hw2 : 2 ≤ s.w ∧ s.w ≤ 24 := by have := H1.out; simp only [inB, Bool.and_eq_true, decide_eq_true_eq] at this; omega
  have hh2 : 2 ≤ s.h ∧ s.h ≤ 10 := by have := H1.out; simp only [inB, Bool.and_eq_true, decide_eq_true_eq] at this; omega
  obtain ⟨hw2a, hw2b⟩ := hw2
  obtain ⟨hh2a, hh2b⟩ := hh2
  obtain ⟨nc, hnc⟩ : ∃ n, s.cells.length = n := ⟨_, rfl⟩
  obtain ⟨nh, hnh⟩ : ∃ n, s.hist.length = n := ⟨_, rfl⟩
  have HNC := Lib.hid hnc
  have HNH := Lib.hid hnh
  rw [hnc, hnh]
  rw [hnc] at hcl
  rw [hnh] at hhl
  clear hnc hnh
  obtain ⟨T, hT⟩ : ∃ T, s.title = T := ⟨_, rfl⟩
  rw [hT] at htl ⊢
  clear hT
  have HB1 : ∀ x, Hid (Below w.heap.size w (w.alloc x)) := fun x => Lib.hid ((Below.refl _ _).alloc (Nat.le_refl _) _)
  go_enter Tryz.func24, Tryz.ntmps24
  try simp only [List.append_eq, List.cons_append, List.nil_append]
  go_wp2_with (first | (go_at_call 25; refine (isSize_c _ _ _).mono ?_; rw [H1.out]; rintro e w' ⟨rfl, rfl⟩) | (go_at_call 31; refine (within_c _ _ _ _).mono ?_; (first | rw [H2.out] | rw [H3.out]); rintro e w' ⟨rfl, rfl⟩))
  go_ret
  exact ⟨rfl, (Below.refl _ _).alloc (Nat.le_refl _) _⟩
theorem isScreen_no4 (s : ScrI) (ac : Option Addr) (cc : Nat) (ah : Option Addr) (dh : Nat) (w : World) (ha : Sl celE 2 w ac s.cells) (hb : Sl strE 1 w ah s.hist) (hcl : s.cells.length ≤ 1048576) (hhl : s.hist.length ≤ 1048576) (htl : s.title.size ≤ 1099511627776) (h1 : (inB s.w 2 24 && inB s.h 2 10) = true) (h2 : inB s.x 0 s.w = true) (h3 : inB s.y 0 (s.h - 1) = true) (hk : inB s.look 0 127 = false) :
    Calls Tryz.prog 24 #[.agg #[.int .i64 s.w, .int .i64 s.h, .int .i64 s.x, .int .i64 s.y, .int .i64 s.look, .int .i64 s.top, .int .i64 s.bot, .int .i64 s.sx, .int .i64 s.sy, .string s.title, .slice ac s.cells.length cc, .slice ah s.hist.length dh]] w fun e w' => e = .returned (.bool false) ∧ Below w.heap.size w w' := by
  have H1 := Lib.hid h1
  have H2 := Lib.hid h2
  have H3 := Lib.hid h3
  have H4 := Lib.hid hk
  have HA := Lib.hid ha
  have HBB := Lib.hid hb
  clear ha hb hk h1 h2 h3
  have hw2 : 2 ≤ s.w ∧ s.w ≤ 24 := by have := H1.out; simp only [inB, Bool.and_eq_true, decide_eq_true_eq] at this; omega
  have hh2 : 2 ≤ s.h ∧ s.h ≤ 10 := by have := H1.out; simp only [inB, Bool.and_eq_true, decide_eq_true_eq] at this; omega
  obtain ⟨hw2a, hw2b⟩ := hw2
  obtain ⟨hh2a, hh2b⟩ := hh2
  obtain ⟨nc, hnc⟩ : ∃ n, s.cells.length = n := ⟨_, rfl⟩
  obtain ⟨nh, hnh⟩ : ∃ n, s.hist.length = n := ⟨_, rfl⟩
  have HNC := Lib.hid hnc
  have HNH := Lib.hid hnh
  rw [hnc, hnh]
  rw [hnc] at hcl
  rw [hnh] at hhl
  clear hnc hnh
  obtain ⟨T, hT⟩ : ∃ T, s.title = T := ⟨_, rfl⟩
  rw [hT] at htl ⊢
  clear hT
  have HB1 : ∀ x, Hid (Below w.heap.size w (w.alloc x)) := fun x => Lib.hid ((Below.refl _ _).alloc (Nat.le_refl _) _)
  go_enter Tryz.func24, Tryz.ntmps24
  try simp only [List.append_eq, List.cons_append, List.nil_append]
  go_wp2_with (first | (go_at_call 25; refine (isSize_c _ _ _).mono ?_; rw [H1.out]; rintro e w' ⟨rfl, rfl⟩) | (go_at_call 31; refine (within_c _ _ _ _).mono ?_; (first | rw [H2.out] | rw [H3.out] | rw [H4.out]); rintro e w' ⟨rfl, rfl⟩))
  go_ret
  exact ⟨rfl, (Below.refl _ _).alloc (Nat.le_refl _) _⟩
theorem isScreen_no5 (s : ScrI) (ac : Option Addr) (cc : Nat) (ah : Option Addr) (dh : Nat) (w : World) (ha : Sl celE 2 w ac s.cells) (hb : Sl strE 1 w ah s.hist) (hcl : s.cells.length ≤ 1048576) (hhl : s.hist.length ≤ 1048576) (htl : s.title.size ≤ 1099511627776) (h1 : (inB s.w 2 24 && inB s.h 2 10) = true) (h2 : inB s.x 0 s.w = true) (h3 : inB s.y 0 (s.h - 1) = true) (h4 : inB s.look 0 127 = true) (hk : inB s.top 0 (s.h - 2) = false) :
    Calls Tryz.prog 24 #[.agg #[.int .i64 s.w, .int .i64 s.h, .int .i64 s.x, .int .i64 s.y, .int .i64 s.look, .int .i64 s.top, .int .i64 s.bot, .int .i64 s.sx, .int .i64 s.sy, .string s.title, .slice ac s.cells.length cc, .slice ah s.hist.length dh]] w fun e w' => e = .returned (.bool false) ∧ Below w.heap.size w w' := by
  have H1 := Lib.hid h1
  have H2 := Lib.hid h2
  have H3 := Lib.hid h3
  have H4 := Lib.hid h4
  have H5 := Lib.hid hk
  have HA := Lib.hid ha
  have HBB := Lib.hid hb
  clear ha hb hk h1 h2 h3 h4
  have hw2 : 2 ≤ s.w ∧ s.w ≤ 24 := by have := H1.out; simp only [inB, Bool.and_eq_true, decide_eq_true_eq] at this; omega
  have hh2 : 2 ≤ s.h ∧ s.h ≤ 10 := by have := H1.out; simp only [inB, Bool.and_eq_true, decide_eq_true_eq] at this; omega
  obtain ⟨hw2a, hw2b⟩ := hw2
  obtain ⟨hh2a, hh2b⟩ := hh2
  obtain ⟨nc, hnc⟩ : ∃ n, s.cells.length = n := ⟨_, rfl⟩
  obtain ⟨nh, hnh⟩ : ∃ n, s.hist.length = n := ⟨_, rfl⟩
  have HNC := Lib.hid hnc
  have HNH := Lib.hid hnh
  rw [hnc, hnh]
  rw [hnc] at hcl
  rw [hnh] at hhl
  clear hnc hnh
  obtain ⟨T, hT⟩ : ∃ T, s.title = T := ⟨_, rfl⟩
  rw [hT] at htl ⊢
  clear hT
  have HB1 : ∀ x, Hid (Below w.heap.size w (w.alloc x)) := fun x => Lib.hid ((Below.refl _ _).alloc (Nat.le_refl _) _)
  go_enter Tryz.func24, Tryz.ntmps24
  try simp only [List.append_eq, List.cons_append, List.nil_append]
  go_wp2_with (first | (go_at_call 25; refine (isSize_c _ _ _).mono ?_; rw [H1.out]; rintro e w' ⟨rfl, rfl⟩) | (go_at_call 31; refine (within_c _ _ _ _).mono ?_; (first | rw [H2.out] | rw [H3.out] | rw [H4.out] | rw [H5.out]); rintro e w' ⟨rfl, rfl⟩))
  go_ret
  exact ⟨rfl, (Below.refl _ _).alloc (Nat.le_refl _) _⟩
theorem isScreen_no6 (s : ScrI) (ac : Option Addr) (cc : Nat) (ah : Option Addr) (dh : Nat) (w : World) (ha : Sl celE 2 w ac s.cells) (hb : Sl strE 1 w ah s.hist) (hcl : s.cells.length ≤ 1048576) (hhl : s.hist.length ≤ 1048576) (htl : s.title.size ≤ 1099511627776) (h1 : (inB s.w 2 24 && inB s.h 2 10) = true) (h2 : inB s.x 0 s.w = true) (h3 : inB s.y 0 (s.h - 1) = true) (h4 : inB s.look 0 127 = true) (h5 : inB s.top 0 (s.h - 2) = true) (hk : inB s.bot (s.top + 1) (s.h - 1) = false) :
    Calls Tryz.prog 24 #[.agg #[.int .i64 s.w, .int .i64 s.h, .int .i64 s.x, .int .i64 s.y, .int .i64 s.look, .int .i64 s.top, .int .i64 s.bot, .int .i64 s.sx, .int .i64 s.sy, .string s.title, .slice ac s.cells.length cc, .slice ah s.hist.length dh]] w fun e w' => e = .returned (.bool false) ∧ Below w.heap.size w w' := by
  have H1 := Lib.hid h1
  have H2 := Lib.hid h2
  have H3 := Lib.hid h3
  have H4 := Lib.hid h4
  have H5 := Lib.hid h5
  have H6 := Lib.hid hk
  have HA := Lib.hid ha
  have HBB := Lib.hid hb
  clear ha hb hk h1 h2 h3 h4 h5
  have hw2 : 2 ≤ s.w ∧ s.w ≤ 24 := by have := H1.out; simp only [inB, Bool.and_eq_true, decide_eq_true_eq] at this; omega
  have hh2 : 2 ≤ s.h ∧ s.h ≤ 10 := by have := H1.out; simp only [inB, Bool.and_eq_true, decide_eq_true_eq] at this; omega
  obtain ⟨hw2a, hw2b⟩ := hw2
  obtain ⟨hh2a, hh2b⟩ := hh2
  have ht2 : 0 ≤ s.top ∧ s.top ≤ s.h - 2 := by have := H5.out; simp only [inB, Bool.and_eq_true, decide_eq_true_eq] at this; omega
  obtain ⟨ht2a, ht2b⟩ := ht2
  obtain ⟨nc, hnc⟩ : ∃ n, s.cells.length = n := ⟨_, rfl⟩
  obtain ⟨nh, hnh⟩ : ∃ n, s.hist.length = n := ⟨_, rfl⟩
  have HNC := Lib.hid hnc
  have HNH := Lib.hid hnh
  rw [hnc, hnh]
  rw [hnc] at hcl
  rw [hnh] at hhl
  clear hnc hnh
  obtain ⟨T, hT⟩ : ∃ T, s.title = T := ⟨_, rfl⟩
  rw [hT] at htl ⊢
  clear hT
  have HB1 : ∀ x, Hid (Below w.heap.size w (w.alloc x)) := fun x => Lib.hid ((Below.refl _ _).alloc (Nat.le_refl _) _)
  go_enter Tryz.func24, Tryz.ntmps24
  try simp only [List.append_eq, List.cons_append, List.nil_append]
  go_wp2_with (first | (go_at_call 25; refine (isSize_c _ _ _).mono ?_; rw [H1.out]; rintro e w' ⟨rfl, rfl⟩) | (go_at_call 31; refine (within_c _ _ _ _).mono ?_; (first | rw [H2.out] | rw [H3.out] | rw [H4.out] | rw [H5.out] | rw [H6.out]); rintro e w' ⟨rfl, rfl⟩))
  go_ret
  exact ⟨rfl, (Below.refl _ _).alloc (Nat.le_refl _) _⟩
theorem isScreen_no7 (s : ScrI) (ac : Option Addr) (cc : Nat) (ah : Option Addr) (dh : Nat) (w : World) (ha : Sl celE 2 w ac s.cells) (hb : Sl strE 1 w ah s.hist) (hcl : s.cells.length ≤ 1048576) (hhl : s.hist.length ≤ 1048576) (htl : s.title.size ≤ 1099511627776) (h1 : (inB s.w 2 24 && inB s.h 2 10) = true) (h2 : inB s.x 0 s.w = true) (h3 : inB s.y 0 (s.h - 1) = true) (h4 : inB s.look 0 127 = true) (h5 : inB s.top 0 (s.h - 2) = true) (h6 : inB s.bot (s.top + 1) (s.h - 1) = true) (hk : inB s.sx 0 s.w = false) :
    Calls Tryz.prog 24 #[.agg #[.int .i64 s.w, .int .i64 s.h, .int .i64 s.x, .int .i64 s.y, .int .i64 s.look, .int .i64 s.top, .int .i64 s.bot, .int .i64 s.sx, .int .i64 s.sy, .string s.title, .slice ac s.cells.length cc, .slice ah s.hist.length dh]] w fun e w' => e = .returned (.bool false) ∧ Below w.heap.size w w' := by
  have H1 := Lib.hid h1
  have H2 := Lib.hid h2
  have H3 := Lib.hid h3
  have H4 := Lib.hid h4
  have H5 := Lib.hid h5
  have H6 := Lib.hid h6
  have H7 := Lib.hid hk
  have HA := Lib.hid ha
  have HBB := Lib.hid hb
  clear ha hb hk h1 h2 h3 h4 h5 h6
  have hw2 : 2 ≤ s.w ∧ s.w ≤ 24 := by have := H1.out; simp only [inB, Bool.and_eq_true, decide_eq_true_eq] at this; omega
  have hh2 : 2 ≤ s.h ∧ s.h ≤ 10 := by have := H1.out; simp only [inB, Bool.and_eq_true, decide_eq_true_eq] at this; omega
  obtain ⟨hw2a, hw2b⟩ := hw2
  obtain ⟨hh2a, hh2b⟩ := hh2
  have ht2 : 0 ≤ s.top ∧ s.top ≤ s.h - 2 := by have := H5.out; simp only [inB, Bool.and_eq_true, decide_eq_true_eq] at this; omega
  obtain ⟨ht2a, ht2b⟩ := ht2
  obtain ⟨nc, hnc⟩ : ∃ n, s.cells.length = n := ⟨_, rfl⟩
  obtain ⟨nh, hnh⟩ : ∃ n, s.hist.length = n := ⟨_, rfl⟩
  have HNC := Lib.hid hnc
  have HNH := Lib.hid hnh
  rw [hnc, hnh]
  rw [hnc] at hcl
  rw [hnh] at hhl
  clear hnc hnh
  obtain ⟨T, hT⟩ : ∃ T, s.title = T := ⟨_, rfl⟩
  rw [hT] at htl ⊢
  clear hT
  have HB1 : ∀ x, Hid (Below w.heap.size w (w.alloc x)) := fun x => Lib.hid ((Below.refl _ _).alloc (Nat.le_refl _) _)
  go_enter Tryz.func24, Tryz.ntmps24
  try simp only [List.append_eq, List.cons_append, List.nil_append]
  go_wp2_with (first | (go_at_call 25; refine (isSize_c _ _ _).mono ?_; rw [H1.out]; rintro e w' ⟨rfl, rfl⟩) | (go_at_call 31; refine (within_c _ _ _ _).mono ?_; (first | rw [H2.out] | rw [H3.out] | rw [H4.out] | rw [H5.out] | rw [H6.out] | rw [H7.out]); rintro e w' ⟨rfl, rfl⟩))
  go_ret
  exact ⟨rfl, (Below.refl _ _).alloc (Nat.le_refl _) _⟩
theorem isScreen_no8 (s : ScrI) (ac : Option Addr) (cc : Nat) (ah : Option Addr) (dh : Nat) (w : World) (ha : Sl celE 2 w ac s.cells) (hb : Sl strE 1 w ah s.hist) (hcl : s.cells.length ≤ 1048576) (hhl : s.hist.length ≤ 1048576) (htl : s.title.size ≤ 1099511627776) (h1 : (inB s.w 2 24 && inB s.h 2 10) = true) (h2 : inB s.x 0 s.w = true) (h3 : inB s.y 0 (s.h - 1) = true) (h4 : inB s.look 0 127 = true) (h5 : inB s.top 0 (s.h - 2) = true) (h6 : inB s.bot (s.top + 1) (s.h - 1) = true) (h7 : inB s.sx 0 s.w = true) (hk : inB s.sy 0 (s.h - 1) = false) :
    Calls Tryz.prog 24 #[.agg #[.int .i64 s.w, .int .i64 s.h, .int .i64 s.x, .int .i64 s.y, .int .i64 s.look, .int .i64 s.top, .int .i64 s.bot, .int .i64 s.sx, .int .i64 s.sy, .string s.title, .slice ac s.cells.length cc, .slice ah s.hist.length dh]] w fun e w' => e = .returned (.bool false) ∧ Below w.heap.size w w' := by
  have H1 := Lib.hid h1
  have H2 := Lib.hid h2
  have H3 := Lib.hid h3
  have H4 := Lib.hid h4
  have H5 := Lib.hid h5
  have H6 := Lib.hid h6
  have H7 := Lib.hid h7
  have H8 := Lib.hid hk
  have HA := Lib.hid ha
  have HBB := Lib.hid hb
  clear ha hb hk h1 h2 h3 h4 h5 h6 h7
  have hw2 : 2 ≤ s.w ∧ s.w ≤ 24 := by have := H1.out; simp only [inB, Bool.and_eq_true, decide_eq_true_eq] at this; omega
  have hh2 : 2 ≤ s.h ∧ s.h ≤ 10 := by have := H1.out; simp only [inB, Bool.and_eq_true, decide_eq_true_eq] at this; omega
  obtain ⟨hw2a, hw2b⟩ := hw2
  obtain ⟨hh2a, hh2b⟩ := hh2
  have ht2 : 0 ≤ s.top ∧ s.top ≤ s.h - 2 := by have := H5.out; simp only [inB, Bool.and_eq_true, decide_eq_true_eq] at this; omega
  obtain ⟨ht2a, ht2b⟩ := ht2
  obtain ⟨nc, hnc⟩ : ∃ n, s.cells.length = n := ⟨_, rfl⟩
  obtain ⟨nh, hnh⟩ : ∃ n, s.hist.length = n := ⟨_, rfl⟩
  have HNC := Lib.hid hnc
  have HNH := Lib.hid hnh
  rw [hnc, hnh]
  rw [hnc] at hcl
  rw [hnh] at hhl
  clear hnc hnh
  obtain ⟨T, hT⟩ : ∃ T, s.title = T := ⟨_, rfl⟩
  rw [hT] at htl ⊢
  clear hT
  have HB1 : ∀ x, Hid (Below w.heap.size w (w.alloc x)) := fun x => Lib.hid ((Below.refl _ _).alloc (Nat.le_refl _) _)
  go_enter Tryz.func24, Tryz.ntmps24
  try simp only [List.append_eq, List.cons_append, List.nil_append]
  go_wp2_with (first | (go_at_call 25; refine (isSize_c _ _ _).mono ?_; rw [H1.out]; rintro e w' ⟨rfl, rfl⟩) | (go_at_call 31; refine (within_c _ _ _ _).mono ?_; (first | rw [H2.out] | rw [H3.out] | rw [H4.out] | rw [H5.out] | rw [H6.out] | rw [H7.out] | rw [H8.out]); rintro e w' ⟨rfl, rfl⟩))
  go_ret
  exact ⟨rfl, (Below.refl _ _).alloc (Nat.le_refl _) _⟩
theorem isScreen_no9 (s : ScrI) (ac : Option Addr) (cc : Nat) (ah : Option Addr) (dh : Nat) (w : World) (ha : Sl celE 2 w ac s.cells) (hb : Sl strE 1 w ah s.hist) (hcl : s.cells.length ≤ 1048576) (hhl : s.hist.length ≤ 1048576) (htl : s.title.size ≤ 1099511627776) (h1 : (inB s.w 2 24 && inB s.h 2 10) = true) (h2 : inB s.x 0 s.w = true) (h3 : inB s.y 0 (s.h - 1) = true) (h4 : inB s.look 0 127 = true) (h5 : inB s.top 0 (s.h - 2) = true) (h6 : inB s.bot (s.top + 1) (s.h - 1) = true) (h7 : inB s.sx 0 s.w = true) (h8 : inB s.sy 0 (s.h - 1) = true) (hk : titB s.title = false) :
    Calls Tryz.prog 24 #[.agg #[.int .i64 s.w, .int .i64 s.h, .int .i64 s.x, .int .i64 s.y, .int .i64 s.look, .int .i64 s.top, .int .i64 s.bot, .int .i64 s.sx, .int .i64 s.sy, .string s.title, .slice ac s.cells.length cc, .slice ah s.hist.length dh]] w fun e w' => e = .returned (.bool false) ∧ Below w.heap.size w w' := by
  have H1 := Lib.hid h1
  have H2 := Lib.hid h2
  have H3 := Lib.hid h3
  have H4 := Lib.hid h4
  have H5 := Lib.hid h5
  have H6 := Lib.hid h6
  have H7 := Lib.hid h7
  have H8 := Lib.hid h8
  have H9 := Lib.hid hk
  have HA := Lib.hid ha
  have HBB := Lib.hid hb
  clear ha hb hk h1 h2 h3 h4 h5 h6 h7 h8
  have hw2 : 2 ≤ s.w ∧ s.w ≤ 24 := by have := H1.out; simp only [inB, Bool.and_eq_true, decide_eq_true_eq] at this; omega
  have hh2 : 2 ≤ s.h ∧ s.h ≤ 10 := by have := H1.out; simp only [inB, Bool.and_eq_true, decide_eq_true_eq] at this; omega
  obtain ⟨hw2a, hw2b⟩ := hw2
  obtain ⟨hh2a, hh2b⟩ := hh2
  have ht2 : 0 ≤ s.top ∧ s.top ≤ s.h - 2 := by have := H5.out; simp only [inB, Bool.and_eq_true, decide_eq_true_eq] at this; omega
  obtain ⟨ht2a, ht2b⟩ := ht2
  obtain ⟨nc, hnc⟩ : ∃ n, s.cells.length = n := ⟨_, rfl⟩
  obtain ⟨nh, hnh⟩ : ∃ n, s.hist.length = n := ⟨_, rfl⟩
  have HNC := Lib.hid hnc
  have HNH := Lib.hid hnh
  rw [hnc, hnh]
  rw [hnc] at hcl
  rw [hnh] at hhl
  clear hnc hnh
  obtain ⟨T, hT⟩ : ∃ T, s.title = T := ⟨_, rfl⟩
  rw [hT] at htl ⊢
  rw [hT] at H9
  clear hT
  have HB1 : ∀ x, Hid (Below w.heap.size w (w.alloc x)) := fun x => Lib.hid ((Below.refl _ _).alloc (Nat.le_refl _) _)
  go_enter Tryz.func24, Tryz.ntmps24
  try simp only [List.append_eq, List.cons_append, List.nil_append]
  go_wp2_with (first | (go_at_call 25; refine (isSize_c _ _ _).mono ?_; rw [H1.out]; rintro e w' ⟨rfl, rfl⟩) | (go_at_call 31; refine (within_c _ _ _ _).mono ?_; (first | rw [H2.out] | rw [H3.out] | rw [H4.out] | rw [H5.out] | rw [H6.out] | rw [H7.out] | rw [H8.out]); rintro e w' ⟨rfl, rfl⟩) | (go_at_call 52; refine (isTitle_c T _ htl).mono ?_; rw [H9.out]; rintro e w' ⟨rfl, rfl⟩))
  go_ret
  exact ⟨rfl, (Below.refl _ _).alloc (Nat.le_refl _) _⟩
theorem isScreen_no10 (s : ScrI) (ac : Option Addr) (cc : Nat) (ah : Option Addr) (dh : Nat) (w : World) (ha : Sl celE 2 w ac s.cells) (hb : Sl strE 1 w ah s.hist) (hcl : s.cells.length ≤ 1048576) (hhl : s.hist.length ≤ 1048576) (htl : s.title.size ≤ 1099511627776) (h1 : (inB s.w 2 24 && inB s.h 2 10) = true) (h2 : inB s.x 0 s.w = true) (h3 : inB s.y 0 (s.h - 1) = true) (h4 : inB s.look 0 127 = true) (h5 : inB s.top 0 (s.h - 2) = true) (h6 : inB s.bot (s.top + 1) (s.h - 1) = true) (h7 : inB s.sx 0 s.w = true) (h8 : inB s.sy 0 (s.h - 1) = true) (h9 : titB s.title = true) (hk : decide (s.hist.length ≤ 6) = false) :
    Calls Tryz.prog 24 #[.agg #[.int .i64 s.w, .int .i64 s.h, .int .i64 s.x, .int .i64 s.y, .int .i64 s.look, .int .i64 s.top, .int .i64 s.bot, .int .i64 s.sx, .int .i64 s.sy, .string s.title, .slice ac s.cells.length cc, .slice ah s.hist.length dh]] w fun e w' => e = .returned (.bool false) ∧ Below w.heap.size w w' := by
  have H1 := Lib.hid h1
  have H2 := Lib.hid h2
  have H3 := Lib.hid h3
  have H4 := Lib.hid h4
  have H5 := Lib.hid h5
  have H6 := Lib.hid h6
  have H7 := Lib.hid h7
  have H8 := Lib.hid h8
  have H9 := Lib.hid h9
  have H10 := Lib.hid hk
  have HA := Lib.hid ha
  have HBB := Lib.hid hb
  clear ha hb hk h1 h2 h3 h4 h5 h6 h7 h8 h9
  have hw2 : 2 ≤ s.w ∧ s.w ≤ 24 := by have := H1.out; simp only [inB, Bool.and_eq_true, decide_eq_true_eq] at this; omega
  have hh2 : 2 ≤ s.h ∧ s.h ≤ 10 := by have := H1.out; simp only [inB, Bool.and_eq_true, decide_eq_true_eq] at this; omega
  obtain ⟨hw2a, hw2b⟩ := hw2
  obtain ⟨hh2a, hh2b⟩ := hh2
  have ht2 : 0 ≤ s.top ∧ s.top ≤ s.h - 2 := by have := H5.out; simp only [inB, Bool.and_eq_true, decide_eq_true_eq] at this; omega
  obtain ⟨ht2a, ht2b⟩ := ht2
  obtain ⟨nc, hnc⟩ : ∃ n, s.cells.length = n := ⟨_, rfl⟩
  obtain ⟨nh, hnh⟩ : ∃ n, s.hist.length = n := ⟨_, rfl⟩
  have HNC := Lib.hid hnc
  have HNH := Lib.hid hnh
  rw [hnc, hnh]
  rw [hnc] at hcl
  rw [hnh] at hhl
  clear hnc hnh
  obtain ⟨T, hT⟩ : ∃ T, s.title = T := ⟨_, rfl⟩
  rw [hT] at htl ⊢
  rw [hT] at H9
  clear hT
  have h6 : ¬ (nh : Int) ≤ 6 := by have := H10.out; rw [HNH.out] at this; simp only [decide_eq_false_iff_not] at this; omega
  have HB1 : ∀ x, Hid (Below w.heap.size w (w.alloc x)) := fun x => Lib.hid ((Below.refl _ _).alloc (Nat.le_refl _) _)
  go_enter Tryz.func24, Tryz.ntmps24
  try simp only [List.append_eq, List.cons_append, List.nil_append]
  go_wp2_with (first | (go_at_call 25; refine (isSize_c _ _ _).mono ?_; rw [H1.out]; rintro e w' ⟨rfl, rfl⟩) | (go_at_call 31; refine (within_c _ _ _ _).mono ?_; (first | rw [H2.out] | rw [H3.out] | rw [H4.out] | rw [H5.out] | rw [H6.out] | rw [H7.out] | rw [H8.out]); rintro e w' ⟨rfl, rfl⟩) | (go_at_call 52; refine (isTitle_c T _ htl).mono ?_; rw [H9.out]; rintro e w' ⟨rfl, rfl⟩))
  go_ret
  exact ⟨rfl, (Below.refl _ _).alloc (Nat.le_refl _) _⟩
theorem isScreen_no11 (s : ScrI) (ac : Option Addr) (cc : Nat) (ah : Option Addr) (dh : Nat) (w : World) (ha : Sl celE 2 w ac s.cells) (hb : Sl strE 1 w ah s.hist) (hcl : s.cells.length ≤ 1048576) (hhl : s.hist.length ≤ 1048576) (htl : s.title.size ≤ 1099511627776) (h1 : (inB s.w 2 24 && inB s.h 2 10) = true) (h2 : inB s.x 0 s.w = true) (h3 : inB s.y 0 (s.h - 1) = true) (h4 : inB s.look 0 127 = true) (h5 : inB s.top 0 (s.h - 2) = true) (h6 : inB s.bot (s.top + 1) (s.h - 1) = true) (h7 : inB s.sx 0 s.w = true) (h8 : inB s.sy 0 (s.h - 1) = true) (h9 : titB s.title = true) (h10 : decide (s.hist.length ≤ 6) = true) (hk : decide ((s.cells.length : Int) = s.w * s.h) = false) :
    Calls Tryz.prog 24 #[.agg #[.int .i64 s.w, .int .i64 s.h, .int .i64 s.x, .int .i64 s.y, .int .i64 s.look, .int .i64 s.top, .int .i64 s.bot, .int .i64 s.sx, .int .i64 s.sy, .string s.title, .slice ac s.cells.length cc, .slice ah s.hist.length dh]] w fun e w' => e = .returned (.bool false) ∧ Below w.heap.size w w' := by
  have H1 := Lib.hid h1
  have H2 := Lib.hid h2
  have H3 := Lib.hid h3
  have H4 := Lib.hid h4
  have H5 := Lib.hid h5
  have H6 := Lib.hid h6
  have H7 := Lib.hid h7
  have H8 := Lib.hid h8
  have H9 := Lib.hid h9
  have H10 := Lib.hid h10
  have H11 := Lib.hid hk
  have HA := Lib.hid ha
  have HBB := Lib.hid hb
  clear ha hb hk h1 h2 h3 h4 h5 h6 h7 h8 h9 h10
  have hw2 : 2 ≤ s.w ∧ s.w ≤ 24 := by have := H1.out; simp only [inB, Bool.and_eq_true, decide_eq_true_eq] at this; omega
  have hh2 : 2 ≤ s.h ∧ s.h ≤ 10 := by have := H1.out; simp only [inB, Bool.and_eq_true, decide_eq_true_eq] at this; omega
  obtain ⟨hw2a, hw2b⟩ := hw2
  obtain ⟨hh2a, hh2b⟩ := hh2
  have ht2 : 0 ≤ s.top ∧ s.top ≤ s.h - 2 := by have := H5.out; simp only [inB, Bool.and_eq_true, decide_eq_true_eq] at this; omega
  obtain ⟨ht2a, ht2b⟩ := ht2
  obtain ⟨pr, hpr⟩ : ∃ p, s.w * s.h = p := ⟨_, rfl⟩
  have hpr0 : 0 ≤ pr := by rw [← hpr]; exact Int.mul_nonneg (by omega) (by omega)
  have hpr1 : pr ≤ 240 := by rw [← hpr]; exact Int.le_trans (Int.mul_le_mul_of_nonneg_right hw2b (by omega)) (by omega)
  obtain ⟨nc, hnc⟩ : ∃ n, s.cells.length = n := ⟨_, rfl⟩
  obtain ⟨nh, hnh⟩ : ∃ n, s.hist.length = n := ⟨_, rfl⟩
  have HNC := Lib.hid hnc
  have HNH := Lib.hid hnh
  rw [hnc, hnh]
  rw [hnc] at hcl
  rw [hnh] at hhl
  clear hnc hnh
  obtain ⟨T, hT⟩ : ∃ T, s.title = T := ⟨_, rfl⟩
  rw [hT] at htl ⊢
  rw [hT] at H9
  clear hT
  have h6 : (nh : Int) ≤ 6 := by have := H10.out; rw [HNH.out] at this; simp only [decide_eq_true_eq] at this; omega
  have hq : ((nc : Int) == pr) = false := by have := H11.out; rw [HNC.out, hpr] at this; simp only [decide_eq_false_iff_not] at this; simp [this]
  have HB1 : ∀ x, Hid (Below w.heap.size w (w.alloc x)) := fun x => Lib.hid ((Below.refl _ _).alloc (Nat.le_refl _) _)
  go_enter Tryz.func24, Tryz.ntmps24
  try simp only [List.append_eq, List.cons_append, List.nil_append]
  go_wp2_with (first | (go_at_call 25; refine (isSize_c _ _ _).mono ?_; rw [H1.out]; rintro e w' ⟨rfl, rfl⟩) | (go_at_call 31; refine (within_c _ _ _ _).mono ?_; (first | rw [H2.out] | rw [H3.out] | rw [H4.out] | rw [H5.out] | rw [H6.out] | rw [H7.out] | rw [H8.out]); rintro e w' ⟨rfl, rfl⟩) | (go_at_call 52; refine (isTitle_c T _ htl).mono ?_; rw [H9.out]; rintro e w' ⟨rfl, rfl⟩))
  go_ret
  exact ⟨rfl, (Below.refl _ _).alloc (Nat.le_refl _) _⟩
theorem isScreen_no12 (s : ScrI) (ac : Option Addr) (cc : Nat) (ah : Option Addr) (dh : Nat) (w : World) (ha : Sl celE 2 w ac s.cells) (hb : Sl strE 1 w ah s.hist) (hcl : s.cells.length ≤ 1048576) (hhl : s.hist.length ≤ 1048576) (htl : s.title.size ≤ 1099511627776) (h1 : (inB s.w 2 24 && inB s.h 2 10) = true) (h2 : inB s.x 0 s.w = true) (h3 : inB s.y 0 (s.h - 1) = true) (h4 : inB s.look 0 127 = true) (h5 : inB s.top 0 (s.h - 2) = true) (h6 : inB s.bot (s.top + 1) (s.h - 1) = true) (h7 : inB s.sx 0 s.w = true) (h8 : inB s.sy 0 (s.h - 1) = true) (h9 : titB s.title = true) (h10 : decide (s.hist.length ≤ 6) = true) (h11 : decide ((s.cells.length : Int) = s.w * s.h) = true) (hk : (!s.hist.any bigH) = false) :
    Calls Tryz.prog 24 #[.agg #[.int .i64 s.w, .int .i64 s.h, .int .i64 s.x, .int .i64 s.y, .int .i64 s.look, .int .i64 s.top, .int .i64 s.bot, .int .i64 s.sx, .int .i64 s.sy, .string s.title, .slice ac s.cells.length cc, .slice ah s.hist.length dh]] w fun e w' => e = .returned (.bool false) ∧ Below w.heap.size w w' := by
  have H1 := Lib.hid h1
  have H2 := Lib.hid h2
  have H3 := Lib.hid h3
  have H4 := Lib.hid h4
  have H5 := Lib.hid h5
  have H6 := Lib.hid h6
  have H7 := Lib.hid h7
  have H8 := Lib.hid h8
  have H9 := Lib.hid h9
  have H10 := Lib.hid h10
  have H11 := Lib.hid h11
  have H12 := Lib.hid hk
  have HA := Lib.hid ha
  have HBB := Lib.hid hb
  clear ha hb hk h1 h2 h3 h4 h5 h6 h7 h8 h9 h10 h11
  have hw2 : 2 ≤ s.w ∧ s.w ≤ 24 := by have := H1.out; simp only [inB, Bool.and_eq_true, decide_eq_true_eq] at this; omega
  have hh2 : 2 ≤ s.h ∧ s.h ≤ 10 := by have := H1.out; simp only [inB, Bool.and_eq_true, decide_eq_true_eq] at this; omega
  obtain ⟨hw2a, hw2b⟩ := hw2
  obtain ⟨hh2a, hh2b⟩ := hh2
  have ht2 : 0 ≤ s.top ∧ s.top ≤ s.h - 2 := by have := H5.out; simp only [inB, Bool.and_eq_true, decide_eq_true_eq] at this; omega
  obtain ⟨ht2a, ht2b⟩ := ht2
  obtain ⟨pr, hpr⟩ : ∃ p, s.w * s.h = p := ⟨_, rfl⟩
  have hpr0 : 0 ≤ pr := by rw [← hpr]; exact Int.mul_nonneg (by omega) (by omega)
  have hpr1 : pr ≤ 240 := by rw [← hpr]; exact Int.le_trans (Int.mul_le_mul_of_nonneg_right hw2b (by omega)) (by omega)
  have HCH : Hid (∀ W, Below w.heap.size w W → Calls Tryz.prog 53 #[.slice ah s.hist.length dh, .func (.func 54) #[] #[]] W fun e w' => e = .returned (.bool true) ∧ W = w') := Lib.hid (fun W hB => by
    have := H12.out
    simp only [Bool.not_eq_true', Bool.not_eq_false'] at this
    rw [← this]
    exact contains_impl_isScreen_1 ah dh s.hist W (HBB.out.keep hB) (by omega) (fun _ _ => trivial))
  obtain ⟨nc, hnc⟩ : ∃ n, s.cells.length = n := ⟨_, rfl⟩
  obtain ⟨nh, hnh⟩ : ∃ n, s.hist.length = n := ⟨_, rfl⟩
  have HNC := Lib.hid hnc
  have HNH := Lib.hid hnh
  rw [hnh] at HCH
  rw [hnc, hnh]
  rw [hnc] at hcl
  rw [hnh] at hhl
  clear hnc hnh
  obtain ⟨T, hT⟩ : ∃ T, s.title = T := ⟨_, rfl⟩
  rw [hT] at htl ⊢
  rw [hT] at H9
  clear hT
  have h6 : (nh : Int) ≤ 6 := by have := H10.out; rw [HNH.out] at this; simp only [decide_eq_true_eq] at this; omega
  have hq : ((nc : Int) == pr) = true := by have := H11.out; rw [HNC.out, hpr] at this; simp only [decide_eq_true_eq] at this; simp [this]
  have HB1 : ∀ x, Hid (Below w.heap.size w (w.alloc x)) := fun x => Lib.hid ((Below.refl _ _).alloc (Nat.le_refl _) _)
  go_enter Tryz.func24, Tryz.ntmps24
  try simp only [List.append_eq, List.cons_append, List.nil_append]
  go_wp2_with (first | (go_at_call 25; refine (isSize_c _ _ _).mono ?_; rw [H1.out]; rintro e w' ⟨rfl, rfl⟩) | (go_at_call 31; refine (within_c _ _ _ _).mono ?_; (first | rw [H2.out] | rw [H3.out] | rw [H4.out] | rw [H5.out] | rw [H6.out] | rw [H7.out] | rw [H8.out]); rintro e w' ⟨rfl, rfl⟩) | (go_at_call 52; refine (isTitle_c T _ htl).mono ?_; rw [H9.out]; rintro e w' ⟨rfl, rfl⟩) | (go_at_call 53; refine (HCH.out _ (HB1 _).out).mono ?_; rintro e w' ⟨rfl, rfl⟩))
  go_ret
  exact ⟨rfl, (Below.refl _ _).alloc (Nat.le_refl _) _⟩
theorem isScreen_no13 (s : ScrI) (ac : Option Addr) (cc : Nat) (ah : Option Addr) (dh : Nat) (w : World) (ha : Sl celE 2 w ac s.cells) (hb : Sl strE 1 w ah s.hist) (hcl : s.cells.length ≤ 1048576) (hhl : s.hist.length ≤ 1048576) (htl : s.title.size ≤ 1099511627776) (h1 : (inB s.w 2 24 && inB s.h 2 10) = true) (h2 : inB s.x 0 s.w = true) (h3 : inB s.y 0 (s.h - 1) = true) (h4 : inB s.look 0 127 = true) (h5 : inB s.top 0 (s.h - 2) = true) (h6 : inB s.bot (s.top + 1) (s.h - 1) = true) (h7 : inB s.sx 0 s.w = true) (h8 : inB s.sy 0 (s.h - 1) = true) (h9 : titB s.title = true) (h10 : decide (s.hist.length ≤ 6) = true) (h11 : decide ((s.cells.length : Int) = s.w * s.h) = true) (h12 : (!s.hist.any bigH) = true) (hk : (!s.cells.any ncB) = false) :
    Calls Tryz.prog 24 #[.agg #[.int .i64 s.w, .int .i64 s.h, .int .i64 s.x, .int .i64 s.y, .int .i64 s.look, .int .i64 s.top, .int .i64 s.bot, .int .i64 s.sx, .int .i64 s.sy, .string s.title, .slice ac s.cells.length cc, .slice ah s.hist.length dh]] w fun e w' => e = .returned (.bool false) ∧ Below w.heap.size w w' := by
  have H1 := Lib.hid h1
  have H2 := Lib.hid h2
  have H3 := Lib.hid h3
  have H4 := Lib.hid h4
  have H5 := Lib.hid h5
  have H6 := Lib.hid h6
  have H7 := Lib.hid h7
  have H8 := Lib.hid h8
  have H9 := Lib.hid h9
  have H10 := Lib.hid h10
  have H11 := Lib.hid h11
  have H12 := Lib.hid h12
  have H13 := Lib.hid hk
  have HA := Lib.hid ha
  have HBB := Lib.hid hb
  clear ha hb hk h1 h2 h3 h4 h5 h6 h7 h8 h9 h10 h11 h12
  have hw2 : 2 ≤ s.w ∧ s.w ≤ 24 := by have := H1.out; simp only [inB, Bool.and_eq_true, decide_eq_true_eq] at this; omega
  have hh2 : 2 ≤ s.h ∧ s.h ≤ 10 := by have := H1.out; simp only [inB, Bool.and_eq_true, decide_eq_true_eq] at this; omega
  obtain ⟨hw2a, hw2b⟩ := hw2
  obtain ⟨hh2a, hh2b⟩ := hh2
  have ht2 : 0 ≤ s.top ∧ s.top ≤ s.h - 2 := by have := H5.out; simp only [inB, Bool.and_eq_true, decide_eq_true_eq] at this; omega
  obtain ⟨ht2a, ht2b⟩ := ht2
  obtain ⟨pr, hpr⟩ : ∃ p, s.w * s.h = p := ⟨_, rfl⟩
  have hpr0 : 0 ≤ pr := by rw [← hpr]; exact Int.mul_nonneg (by omega) (by omega)
  have hpr1 : pr ≤ 240 := by rw [← hpr]; exact Int.le_trans (Int.mul_le_mul_of_nonneg_right hw2b (by omega)) (by omega)
  have HCH : Hid (∀ W, Below w.heap.size w W → Calls Tryz.prog 53 #[.slice ah s.hist.length dh, .func (.func 54) #[] #[]] W fun e w' => e = .returned (.bool false) ∧ W = w') := Lib.hid (fun W hB => by
    have := H12.out
    simp only [Bool.not_eq_true', Bool.not_eq_false'] at this
    rw [← this]
    exact contains_impl_isScreen_1 ah dh s.hist W (HBB.out.keep hB) (by omega) (fun _ _ => trivial))
  have HCC : Hid (∀ W, Below w.heap.size w W → Calls Tryz.prog 55 #[.slice ac s.cells.length cc, .func (.func 56) #[] #[]] W fun e w' => e = .returned (.bool true) ∧ Below W.heap.size W w') := Lib.hid (fun W hB => by
    have := H13.out
    simp only [Bool.not_eq_true', Bool.not_eq_false'] at this
    rw [← this]
    exact contains_cel ac cc s.cells W (HA.out.keep hB) (by omega))
  obtain ⟨nc, hnc⟩ : ∃ n, s.cells.length = n := ⟨_, rfl⟩
  obtain ⟨nh, hnh⟩ : ∃ n, s.hist.length = n := ⟨_, rfl⟩
  have HNC := Lib.hid hnc
  have HNH := Lib.hid hnh
  rw [hnh] at HCH
  rw [hnc] at HCC
  rw [hnc, hnh]
  rw [hnc] at hcl
  rw [hnh] at hhl
  clear hnc hnh
  obtain ⟨T, hT⟩ : ∃ T, s.title = T := ⟨_, rfl⟩
  rw [hT] at htl ⊢
  rw [hT] at H9
  clear hT
  have h6 : (nh : Int) ≤ 6 := by have := H10.out; rw [HNH.out] at this; simp only [decide_eq_true_eq] at this; omega
  have hq : ((nc : Int) == pr) = true := by have := H11.out; rw [HNC.out, hpr] at this; simp only [decide_eq_true_eq] at this; simp [this]
  have HB1 : ∀ x, Hid (Below w.heap.size w (w.alloc x)) := fun x => Lib.hid ((Below.refl _ _).alloc (Nat.le_refl _) _)
  go_enter Tryz.func24, Tryz.ntmps24
  try simp only [List.append_eq, List.cons_append, List.nil_append]
  go_wp2_with (first | (go_at_call 25; refine (isSize_c _ _ _).mono ?_; rw [H1.out]; rintro e w' ⟨rfl, rfl⟩) | (go_at_call 31; refine (within_c _ _ _ _).mono ?_; (first | rw [H2.out] | rw [H3.out] | rw [H4.out] | rw [H5.out] | rw [H6.out] | rw [H7.out] | rw [H8.out]); rintro e w' ⟨rfl, rfl⟩) | (go_at_call 52; refine (isTitle_c T _ htl).mono ?_; rw [H9.out]; rintro e w' ⟨rfl, rfl⟩) | (go_at_call 53; refine (HCH.out _ (HB1 _).out).mono ?_; rintro e w' ⟨rfl, rfl⟩) | (go_at_call 55; refine (HCC.out _ (HB1 _).out).mono ?_; rintro e wz ⟨rfl, hbz⟩; have HBZ := Lib.hid ((HB1 _).out.trans (hbz.mono (HB1 _).out.size)); clear hbz))
  go_ret
  exact ⟨rfl, HBZ.out⟩
theorem isScreen_yes (s : ScrI) (ac : Option Addr) (cc : Nat) (ah : Option Addr) (dh : Nat) (w : World) (ha : Sl celE 2 w ac s.cells) (hb : Sl strE 1 w ah s.hist) (hcl : s.cells.length ≤ 1048576) (hhl : s.hist.length ≤ 1048576) (htl : s.title.size ≤ 1099511627776) (h1 : (inB s.w 2 24 && inB s.h 2 10) = true) (h2 : inB s.x 0 s.w = true) (h3 : inB s.y 0 (s.h - 1) = true) (h4 : inB s.look 0 127 = true) (h5 : inB s.top 0 (s.h - 2) = true) (h6 : inB s.bot (s.top + 1) (s.h - 1) = true) (h7 : inB s.sx 0 s.w = true) (h8 : inB s.sy 0 (s.h - 1) = true) (h9 : titB s.title = true) (h10 : decide (s.hist.length ≤ 6) = true) (h11 : decide ((s.cells.length : Int) = s.w * s.h) = true) (h12 : (!s.hist.any bigH) = true) (h13 : (!s.cells.any ncB) = true) :
    Calls Tryz.prog 24 #[.agg #[.int .i64 s.w, .int .i64 s.h, .int .i64 s.x, .int .i64 s.y, .int .i64 s.look, .int .i64 s.top, .int .i64 s.bot, .int .i64 s.sx, .int .i64 s.sy, .string s.title, .slice ac s.cells.length cc, .slice ah s.hist.length dh]] w fun e w' => e = .returned (.bool true) ∧ Below w.heap.size w w' := by
  have H1 := Lib.hid h1
  have H2 := Lib.hid h2
  have H3 := Lib.hid h3
  have H4 := Lib.hid h4
  have H5 := Lib.hid h5
  have H6 := Lib.hid h6
  have H7 := Lib.hid h7
  have H8 := Lib.hid h8
  have H9 := Lib.hid h9
  have H10 := Lib.hid h10
  have H11 := Lib.hid h11
  have H12 := Lib.hid h12
  have H13 := Lib.hid h13
  have HA := Lib.hid ha
  have HBB := Lib.hid hb
  clear ha hb h1 h2 h3 h4 h5 h6 h7 h8 h9 h10 h11 h12 h13
  have hw2 : 2 ≤ s.w ∧ s.w ≤ 24 := by have := H1.out; simp only [inB, Bool.and_eq_true, decide_eq_true_eq] at this; omega
  have hh2 : 2 ≤ s.h ∧ s.h ≤ 10 := by have := H1.out; simp only [inB, Bool.and_eq_true, decide_eq_true_eq] at this; omega
  obtain ⟨hw2a, hw2b⟩ := hw2
  obtain ⟨hh2a, hh2b⟩ := hh2
  have ht2 : 0 ≤ s.top ∧ s.top ≤ s.h - 2 := by have := H5.out; simp only [inB, Bool.and_eq_true, decide_eq_true_eq] at this; omega
  obtain ⟨ht2a, ht2b⟩ := ht2
  obtain ⟨pr, hpr⟩ : ∃ p, s.w * s.h = p := ⟨_, rfl⟩
  have hpr0 : 0 ≤ pr := by rw [← hpr]; exact Int.mul_nonneg (by omega) (by omega)
  have hpr1 : pr ≤ 240 := by rw [← hpr]; exact Int.le_trans (Int.mul_le_mul_of_nonneg_right hw2b (by omega)) (by omega)
  have HCH : Hid (∀ W, Below w.heap.size w W → Calls Tryz.prog 53 #[.slice ah s.hist.length dh, .func (.func 54) #[] #[]] W fun e w' => e = .returned (.bool false) ∧ W = w') := Lib.hid (fun W hB => by
    have := H12.out
    simp only [Bool.not_eq_true', Bool.not_eq_false'] at this
    rw [← this]
    exact contains_impl_isScreen_1 ah dh s.hist W (HBB.out.keep hB) (by omega) (fun _ _ => trivial))
  have HCC : Hid (∀ W, Below w.heap.size w W → Calls Tryz.prog 55 #[.slice ac s.cells.length cc, .func (.func 56) #[] #[]] W fun e w' => e = .returned (.bool false) ∧ Below W.heap.size W w') := Lib.hid (fun W hB => by
    have := H13.out
    simp only [Bool.not_eq_true', Bool.not_eq_false'] at this
    rw [← this]
    exact contains_cel ac cc s.cells W (HA.out.keep hB) (by omega))
  obtain ⟨nc, hnc⟩ : ∃ n, s.cells.length = n := ⟨_, rfl⟩
  obtain ⟨nh, hnh⟩ : ∃ n, s.hist.length = n := ⟨_, rfl⟩
  have HNC := Lib.hid hnc
  have HNH := Lib.hid hnh
  rw [hnh] at HCH
  rw [hnc] at HCC
  rw [hnc, hnh]
  rw [hnc] at hcl
  rw [hnh] at hhl
  clear hnc hnh
  obtain ⟨T, hT⟩ : ∃ T, s.title = T := ⟨_, rfl⟩
  rw [hT] at htl ⊢
  rw [hT] at H9
  clear hT
  have h6 : (nh : Int) ≤ 6 := by have := H10.out; rw [HNH.out] at this; simp only [decide_eq_true_eq] at this; omega
  have hq : ((nc : Int) == pr) = true := by have := H11.out; rw [HNC.out, hpr] at this; simp only [decide_eq_true_eq] at this; simp [this]
  have HB1 : ∀ x, Hid (Below w.heap.size w (w.alloc x)) := fun x => Lib.hid ((Below.refl _ _).alloc (Nat.le_refl _) _)
  go_enter Tryz.func24, Tryz.ntmps24
  try simp only [List.append_eq, List.cons_append, List.nil_append]
  go_wp2_with (first | (go_at_call 25; refine (isSize_c _ _ _).mono ?_; rw [H1.out]; rintro e w' ⟨rfl, rfl⟩) | (go_at_call 31; refine (within_c _ _ _ _).mono ?_; (first | rw [H2.out] | rw [H3.out] | rw [H4.out] | rw [H5.out] | rw [H6.out] | rw [H7.out] | rw [H8.out]); rintro e w' ⟨rfl, rfl⟩) | (go_at_call 52; refine (isTitle_c T _ htl).mono ?_; rw [H9.out]; rintro e w' ⟨rfl, rfl⟩) | (go_at_call 53; refine (HCH.out _ (HB1 _).out).mono ?_; rintro e w' ⟨rfl, rfl⟩) | (go_at_call 55; refine (HCC.out _ (HB1 _).out).mono ?_; rintro e wz ⟨rfl, hbz⟩; have HBZ := Lib.hid ((HB1 _).out.trans (hbz.mono (HB1 _).out.size)); clear hbz))
  go_ret
  exact ⟨rfl, HBZ.out⟩
end
section
open Go.RowKit
theorem scrB_impl (s : ScrI) : scrB s = ((inB s.w 2 24 && inB s.h 2 10) && inB s.x 0 s.w && inB s.y 0 (s.h - 1) && inB s.look 0 127 && inB s.top 0 (s.h - 2) && inB s.bot (s.top + 1) (s.h - 1) && inB s.sx 0 s.w && inB s.sy 0 (s.h - 1) && titB s.title && decide (s.hist.length ≤ 6) && decide ((s.cells.length : Int) = s.w * s.h) && (!s.hist.any bigH) && (!s.cells.any ncB)) := by
  have e1 : (!s.hist.any bigH) = s.hist.all fun t => decide (t.size ≤ 96) := by
    rw [List.not_any_eq_all_not]
    congr 1
    funext t
    unfold bigH
    rw [← decide_not]
    simp
  have e2 : (!s.cells.any ncB) = s.cells.all celB := by
    rw [List.not_any_eq_all_not]
    congr 1
    funext c
    unfold ncB
    simp
  rw [e1, e2]
  unfold scrB scrH titB tiB
  rw [Bool.eq_iff_iff]
  simp only [Bool.and_eq_true]
  constructor
  · rintro ⟨⟨⟨⟨⟨⟨⟨⟨⟨⟨⟨⟨⟨a1, b⟩, c⟩, d⟩, e⟩, f⟩, g⟩, h⟩, j⟩, k⟩, l⟩, m⟩, n⟩, o⟩
    exact ⟨⟨⟨⟨⟨⟨⟨⟨⟨⟨⟨⟨a1, b⟩, c⟩, d⟩, e⟩, f⟩, g⟩, h⟩, j, m⟩, l⟩, k⟩, o⟩, n⟩
  · rintro ⟨⟨⟨⟨⟨⟨⟨⟨⟨⟨⟨⟨a1, b⟩, c⟩, d⟩, e⟩, f⟩, g⟩, h⟩, j, m⟩, l⟩, k⟩, o⟩, n⟩
    exact ⟨⟨⟨⟨⟨⟨⟨⟨⟨⟨⟨⟨⟨a1, b⟩, c⟩, d⟩, e⟩, f⟩, g⟩, h⟩, j⟩, k⟩, l⟩, m⟩, n⟩, o⟩
theorem isScreen_c (s : ScrI) (ac : Option Addr) (cc : Nat) (ah : Option Addr) (dh : Nat) (w : World) (ha : Sl celE 2 w ac s.cells) (hb : Sl strE 1 w ah s.hist) (hcl : s.cells.length ≤ 1048576) (hhl : s.hist.length ≤ 1048576) (htl : s.title.size ≤ 1099511627776) :
    Calls Tryz.prog 24 #[.agg #[.int .i64 s.w, .int .i64 s.h, .int .i64 s.x, .int .i64 s.y, .int .i64 s.look, .int .i64 s.top, .int .i64 s.bot, .int .i64 s.sx, .int .i64 s.sy, .string s.title, .slice ac s.cells.length cc, .slice ah s.hist.length dh]] w fun e w' => e = .returned (.bool (scrB s)) ∧ Below w.heap.size w w' := by
  have E := scrB_impl s
  cases h1 : (inB s.w 2 24 && inB s.h 2 10)
  · have e : scrB s = false := by rw [E, h1]; simp
    rw [e]
    exact isScreen_no1 s ac cc ah dh w ha hb hcl hhl htl h1
  cases h2 : inB s.x 0 s.w
  · have e : scrB s = false := by rw [E, h1, h2]; simp
    rw [e]
    exact isScreen_no2 s ac cc ah dh w ha hb hcl hhl htl h1 h2
  cases h3 : inB s.y 0 (s.h - 1)
  · have e : scrB s = false := by rw [E, h1, h2, h3]; simp
    rw [e]
    exact isScreen_no3 s ac cc ah dh w ha hb hcl hhl htl h1 h2 h3
  cases h4 : inB s.look 0 127
  · have e : scrB s = false := by rw [E, h1, h2, h3, h4]; simp
    rw [e]
    exact isScreen_no4 s ac cc ah dh w ha hb hcl hhl htl h1 h2 h3 h4
  cases h5 : inB s.top 0 (s.h - 2)
  · have e : scrB s = false := by rw [E, h1, h2, h3, h4, h5]; simp
    rw [e]
    exact isScreen_no5 s ac cc ah dh w ha hb hcl hhl htl h1 h2 h3 h4 h5
  cases h6 : inB s.bot (s.top + 1) (s.h - 1)
  · have e : scrB s = false := by rw [E, h1, h2, h3, h4, h5, h6]; simp
    rw [e]
    exact isScreen_no6 s ac cc ah dh w ha hb hcl hhl htl h1 h2 h3 h4 h5 h6
  cases h7 : inB s.sx 0 s.w
  · have e : scrB s = false := by rw [E, h1, h2, h3, h4, h5, h6, h7]; simp
    rw [e]
    exact isScreen_no7 s ac cc ah dh w ha hb hcl hhl htl h1 h2 h3 h4 h5 h6 h7
  cases h8 : inB s.sy 0 (s.h - 1)
  · have e : scrB s = false := by rw [E, h1, h2, h3, h4, h5, h6, h7, h8]; simp
    rw [e]
    exact isScreen_no8 s ac cc ah dh w ha hb hcl hhl htl h1 h2 h3 h4 h5 h6 h7 h8
  cases h9 : titB s.title
  · have e : scrB s = false := by rw [E, h1, h2, h3, h4, h5, h6, h7, h8, h9]; simp
    rw [e]
    exact isScreen_no9 s ac cc ah dh w ha hb hcl hhl htl h1 h2 h3 h4 h5 h6 h7 h8 h9
  cases h10 : decide (s.hist.length ≤ 6)
  · have e : scrB s = false := by rw [E, h1, h2, h3, h4, h5, h6, h7, h8, h9, h10]; simp
    rw [e]
    exact isScreen_no10 s ac cc ah dh w ha hb hcl hhl htl h1 h2 h3 h4 h5 h6 h7 h8 h9 h10
  cases h11 : decide ((s.cells.length : Int) = s.w * s.h)
  · have e : scrB s = false := by rw [E, h1, h2, h3, h4, h5, h6, h7, h8, h9, h10, h11]; simp
    rw [e]
    exact isScreen_no11 s ac cc ah dh w ha hb hcl hhl htl h1 h2 h3 h4 h5 h6 h7 h8 h9 h10 h11
  cases h12 : (!s.hist.any bigH)
  · have e : scrB s = false := by rw [E, h1, h2, h3, h4, h5, h6, h7, h8, h9, h10, h11, h12]; simp
    rw [e]
    exact isScreen_no12 s ac cc ah dh w ha hb hcl hhl htl h1 h2 h3 h4 h5 h6 h7 h8 h9 h10 h11 h12
  cases h13 : (!s.cells.any ncB)
  · have e : scrB s = false := by rw [E, h1, h2, h3, h4, h5, h6, h7, h8, h9, h10, h11, h12, h13]; simp
    rw [e]
    exact isScreen_no13 s ac cc ah dh w ha hb hcl hhl htl h1 h2 h3 h4 h5 h6 h7 h8 h9 h10 h11 h12 h13
  have e : scrB s = true := by rw [E, h1, h2, h3, h4, h5, h6, h7, h8, h9, h10, h11, h12, h13]; simp
  rw [e]
  exact isScreen_yes s ac cc ah dh w ha hb hcl hhl htl h1 h2 h3 h4 h5 h6 h7 h8 h9 h10 h11 h12 h13
end
section
open Go.RowKit
theorem convT {a : Option Addr} {ca : Nat} {xs : List UInt8} {w : World} (ha : Sl byteE 1 w a xs) : (convert 22 9 (.slice a xs.length ca)).run Tryz.prog w = .ok (.string (strOf xs)) w := convS ha
theorem l04Bytes_c (s : Scr) (HO : ScrOK s) (ac : Option Addr) (cc : Nat) (ah : Option Addr) (dh : Nat) (w : World) (h : ScrS s ac ah w) :
    Calls Tryz.prog 62 #[scrV s ac cc ah dh] w fun e w' => e = .returned (.string (strOf (scrText s.i))) ∧ Below w.heap.size w w' := by
  obtain ⟨ha, hb⟩ := id h
  have HRS := Lib.hid h
  unfold scrV
  have HA := Lib.hid ha
  have HBB := Lib.hid hb
  have HOK := Lib.hid HO
  have HBS := Lib.hid ((scrB_iff _).1 HO.b)
  have HN9 : Hid (∀ x ∈ nineL s.i, -1 ≤ x ∧ x ≤ 1099511627775) := Lib.hid (fun x hx => by have := HBS.out.nine x hx; omega)
  obtain ⟨NL, hNL⟩ : ∃ t, numL (nineL s.i) = t := ⟨_, rfl⟩
  obtain ⟨HL, hHL⟩ : ∃ t, fldL s.hist = t := ⟨_, rfl⟩
  obtain ⟨N9, hN9⟩ : ∃ t, strOf NL = t := ⟨_, rfl⟩
  obtain ⟨HH, hHH⟩ : ∃ t, strOf HL = t := ⟨_, rfl⟩
  have hnl : NL.length ≤ 27 := by rw [← hNL, numL_length]; simp [nineL]
  have hhl : HL.length ≤ 600 := by rw [← hHL]; have := HBS.out.histLen; simp only [Scr.i] at this; omega
  have HNU : Hid (∀ W a, Sl intE 1 W a (nineL s.i) → Calls Tryz.prog 96 #[.slice a 9 9] W (FreshR byteE 5 1 W NL)) := Lib.hid (fun W a h => by rw [← hNL]; exact l02Numbers_c a 9 (nineL s.i) W h (by simp [nineL]) HN9.out)
  have HFI : Hid (∀ W, Below w.heap.size w W → Calls Tryz.prog 97 #[.slice ah s.hist.length dh] W (FreshR byteE 5 1 W HL)) := Lib.hid (fun W h => by
    rw [← hHL]
    exact l02Fields_c ah dh s.hist W (HBB.out.keep h) (by have := HOK.out.hn; omega) (fun r hr => by have := HOK.out.hs r hr; omega))
  have HFS : Hid (∀ r ∈ N9 :: s.title :: HH :: rowsL s.i s.h, r.size ≤ 600) := Lib.hid (by
    rw [← hN9, ← hHH, ← hNL, ← hHL]
    exact HBS.out.fs)
  have HX : Hid (scrText s.i = fldL (N9 :: s.title :: HH :: rowsL s.i s.h)) := Lib.hid (by rw [← hN9, ← hHH, ← hNL, ← hHL]; rfl)
  have HNS := Lib.hid hN9
  have HHS := Lib.hid hHH
  rw [HX.out]
  clear ha hb HO hN9 hHH hNL hHL h
  obtain ⟨i0, hi, hz0, hz1, hz2⟩ := info_parts Tryz.infoString
  go_enter Tryz.func62, Tryz.ntmps62
  go_upto_region 1 with fail
  obtain ⟨x0, hx0⟩ : ∃ x, w.alloc (.cells #[.int .i64 (s.w : Int), .int .i64 (s.h : Int), .int .i64 (s.x : Int), .int .i64 (s.y : Int), .int .i64 (s.look : Int), .int .i64 (s.top : Int), .int .i64 (s.bot : Int), .int .i64 (s.sx : Int), .int .i64 (s.sy : Int), .string s.title, .slice ac s.cells.length cc, .slice ah s.hist.length dh] 26) = x := ⟨_, rfl⟩
  have HB0 : Hid (Below w.heap.size w x0) := Lib.hid (by rw [← hx0]; exact (Below.refl _ _).alloc (Nat.le_refl _) _)
  have k_0 : x0.cell? ⟨w.heap.size, 0, none⟩ = some (.int .i64 (s.w : Int)) := by rw [← hx0]; simp [go_sem]
  have k_1 : x0.cell? ⟨w.heap.size, 1, none⟩ = some (.int .i64 (s.h : Int)) := by rw [← hx0]; simp [go_sem]
  have k_2 : x0.cell? ⟨w.heap.size, 2, none⟩ = some (.int .i64 (s.x : Int)) := by rw [← hx0]; simp [go_sem]
  have k_3 : x0.cell? ⟨w.heap.size, 3, none⟩ = some (.int .i64 (s.y : Int)) := by rw [← hx0]; simp [go_sem]
  have k_4 : x0.cell? ⟨w.heap.size, 4, none⟩ = some (.int .i64 (s.look : Int)) := by rw [← hx0]; simp [go_sem]
  have k_5 : x0.cell? ⟨w.heap.size, 5, none⟩ = some (.int .i64 (s.top : Int)) := by rw [← hx0]; simp [go_sem]
  have k_6 : x0.cell? ⟨w.heap.size, 6, none⟩ = some (.int .i64 (s.bot : Int)) := by rw [← hx0]; simp [go_sem]
  have k_7 : x0.cell? ⟨w.heap.size, 7, none⟩ = some (.int .i64 (s.sx : Int)) := by rw [← hx0]; simp [go_sem]
  have k_8 : x0.cell? ⟨w.heap.size, 8, none⟩ = some (.int .i64 (s.sy : Int)) := by rw [← hx0]; simp [go_sem]
  have k_9 : x0.cell? ⟨w.heap.size, 9, none⟩ = some (.string s.title) := by rw [← hx0]; simp [go_sem]
  have k_10 : x0.cell? ⟨w.heap.size, 10, none⟩ = some (.slice ac s.cells.length cc) := by rw [← hx0]; simp [go_sem]
  have k_11 : x0.cell? ⟨w.heap.size, 11, none⟩ = some (.slice ah s.hist.length dh) := by rw [← hx0]; simp [go_sem]
  have k_l : w.heap.size < x0.heap.size := by rw [← hx0]; simp
  have HXS : Hid (x0.heap.size = w.heap.size + 1) := Lib.hid (by rw [← hx0]; simp)
  rw [hx0]
  clear hx0
  have HSB : Hid (∀ x, Below x0.heap.size x0 x → x.cell? ⟨w.heap.size, 0, none⟩ = some (.int .i64 (s.w : Int)) ∧ x.cell? ⟨w.heap.size, 1, none⟩ = some (.int .i64 (s.h : Int)) ∧ x.cell? ⟨w.heap.size, 2, none⟩ = some (.int .i64 (s.x : Int)) ∧ x.cell? ⟨w.heap.size, 3, none⟩ = some (.int .i64 (s.y : Int)) ∧ x.cell? ⟨w.heap.size, 4, none⟩ = some (.int .i64 (s.look : Int)) ∧ x.cell? ⟨w.heap.size, 5, none⟩ = some (.int .i64 (s.top : Int)) ∧ x.cell? ⟨w.heap.size, 6, none⟩ = some (.int .i64 (s.bot : Int)) ∧ x.cell? ⟨w.heap.size, 7, none⟩ = some (.int .i64 (s.sx : Int)) ∧ x.cell? ⟨w.heap.size, 8, none⟩ = some (.int .i64 (s.sy : Int)) ∧ x.cell? ⟨w.heap.size, 9, none⟩ = some (.string s.title) ∧ x.cell? ⟨w.heap.size, 11, none⟩ = some (.slice ah s.hist.length dh)) := Lib.hid (fun x h => ⟨(h.cell (p := ⟨w.heap.size, 0, none⟩) k_l).trans k_0, (h.cell (p := ⟨w.heap.size, 1, none⟩) k_l).trans k_1, (h.cell (p := ⟨w.heap.size, 2, none⟩) k_l).trans k_2, (h.cell (p := ⟨w.heap.size, 3, none⟩) k_l).trans k_3, (h.cell (p := ⟨w.heap.size, 4, none⟩) k_l).trans k_4, (h.cell (p := ⟨w.heap.size, 5, none⟩) k_l).trans k_5, (h.cell (p := ⟨w.heap.size, 6, none⟩) k_l).trans k_6, (h.cell (p := ⟨w.heap.size, 7, none⟩) k_l).trans k_7, (h.cell (p := ⟨w.heap.size, 8, none⟩) k_l).trans k_8, (h.cell (p := ⟨w.heap.size, 9, none⟩) k_l).trans k_9, (h.cell (p := ⟨w.heap.size, 11, none⟩) k_l).trans k_11⟩)
  have hS0 := HSB.out x0 (Below.refl _ _)
  have HSX : Hid (∀ x, Below x0.heap.size x0 x → x.cell? ⟨w.heap.size, 0, none⟩ = some (.int .i64 (s.w : Int)) ∧ x.cell? ⟨w.heap.size, 1, none⟩ = some (.int .i64 (s.h : Int)) ∧ x.cell? ⟨w.heap.size, 2, none⟩ = some (.int .i64 (s.x : Int)) ∧ x.cell? ⟨w.heap.size, 3, none⟩ = some (.int .i64 (s.y : Int)) ∧ x.cell? ⟨w.heap.size, 4, none⟩ = some (.int .i64 (s.look : Int)) ∧ x.cell? ⟨w.heap.size, 5, none⟩ = some (.int .i64 (s.top : Int)) ∧ x.cell? ⟨w.heap.size, 6, none⟩ = some (.int .i64 (s.bot : Int)) ∧ x.cell? ⟨w.heap.size, 7, none⟩ = some (.int .i64 (s.sx : Int)) ∧ x.cell? ⟨w.heap.size, 8, none⟩ = some (.int .i64 (s.sy : Int)) ∧ x.cell? ⟨w.heap.size, 9, none⟩ = some (.string s.title) ∧ x.cell? ⟨w.heap.size, 10, none⟩ = some (.slice ac s.cells.length cc) ∧ x.cell? ⟨w.heap.size, 11, none⟩ = some (.slice ah s.hist.length dh)) := Lib.hid (fun x h => ⟨(h.cell (p := ⟨w.heap.size, 0, none⟩) k_l).trans k_0, (h.cell (p := ⟨w.heap.size, 1, none⟩) k_l).trans k_1, (h.cell (p := ⟨w.heap.size, 2, none⟩) k_l).trans k_2, (h.cell (p := ⟨w.heap.size, 3, none⟩) k_l).trans k_3, (h.cell (p := ⟨w.heap.size, 4, none⟩) k_l).trans k_4, (h.cell (p := ⟨w.heap.size, 5, none⟩) k_l).trans k_5, (h.cell (p := ⟨w.heap.size, 6, none⟩) k_l).trans k_6, (h.cell (p := ⟨w.heap.size, 7, none⟩) k_l).trans k_7, (h.cell (p := ⟨w.heap.size, 8, none⟩) k_l).trans k_8, (h.cell (p := ⟨w.heap.size, 9, none⟩) k_l).trans k_9, (h.cell (p := ⟨w.heap.size, 10, none⟩) k_l).trans k_10, (h.cell (p := ⟨w.heap.size, 11, none⟩) k_l).trans k_11⟩)
  have HSR : Hid (∀ x, Below x0.heap.size x0 x → ScrS s ac ah x ∧ w.heap.size < x.heap.size) := Lib.hid (fun x h => ⟨HRS.out.below (HB0.out.trans (h.mono HB0.out.size)), Nat.lt_of_lt_of_le k_l h.size⟩)
  go_cut [3] (fun v wx => ∃ g, v = .slice (some ⟨g, 0, none⟩) 3 3 ∧ Hid (Below x0.heap.size x0 wx ∧ FreshIn strE 9 1 (w.heap.size + 1) wx.heap.size (.slice (some ⟨g, 0, none⟩) 3 3) [N9, s.title, HH] wx))
  case first =>
    refine wp_region_G (fun w' => w'.cell? ⟨w.heap.size, 0, none⟩ = some (.int .i64 (s.w : Int)) ∧ w'.cell? ⟨w.heap.size, 1, none⟩ = some (.int .i64 (s.h : Int)) ∧ w'.cell? ⟨w.heap.size, 2, none⟩ = some (.int .i64 (s.x : Int)) ∧ w'.cell? ⟨w.heap.size, 3, none⟩ = some (.int .i64 (s.y : Int)) ∧ w'.cell? ⟨w.heap.size, 4, none⟩ = some (.int .i64 (s.look : Int)) ∧ w'.cell? ⟨w.heap.size, 5, none⟩ = some (.int .i64 (s.top : Int)) ∧ w'.cell? ⟨w.heap.size, 6, none⟩ = some (.int .i64 (s.bot : Int)) ∧ w'.cell? ⟨w.heap.size, 7, none⟩ = some (.int .i64 (s.sx : Int)) ∧ w'.cell? ⟨w.heap.size, 8, none⟩ = some (.int .i64 (s.sy : Int)) ∧ w'.cell? ⟨w.heap.size, 9, none⟩ = some (.string s.title) ∧ w'.cell? ⟨w.heap.size, 11, none⟩ = some (.slice ah s.hist.length dh)) (fun i => false) (by kernel_rfl) hS0 ?_
    refine tW ?_ 0 rfl ?_ ?_; rotate_left
    · intro w' hSw; go_simp; try rfl
    try simp only [Act.put,j1,j2,j3,j4,j5,j6]
    refine tL ?_ 1 rfl hS0 ?_ ?_; rotate_left
    · intro w' hSw; obtain ⟨s0, s1, s2, s3, s4, s5, s6, s7, s8, s9, s11⟩ := hSw; go_simp; try rfl
    try simp only [Act.put,j1,j2,j3,j4,j5,j6]
    refine tW ?_ 2 rfl ?_ ?_; rotate_left
    · intro w' hSw; go_simp; try rfl
    try simp only [Act.put,j1,j2,j3,j4,j5,j6]
    refine tL ?_ 3 rfl hS0 ?_ ?_; rotate_left
    · intro w' hSw; obtain ⟨s0, s1, s2, s3, s4, s5, s6, s7, s8, s9, s11⟩ := hSw; go_simp; try rfl
    try simp only [Act.put,j1,j2,j3,j4,j5,j6]
    refine tW ?_ 4 rfl ?_ ?_; rotate_left
    · intro w' hSw; go_simp; try rfl
    try simp only [Act.put,j1,j2,j3,j4,j5,j6]
    refine tL ?_ 5 rfl hS0 ?_ ?_; rotate_left
    · intro w' hSw; obtain ⟨s0, s1, s2, s3, s4, s5, s6, s7, s8, s9, s11⟩ := hSw; go_simp; try rfl
    try simp only [Act.put,j1,j2,j3,j4,j5,j6]
    refine tW ?_ 6 rfl ?_ ?_; rotate_left
    · intro w' hSw; go_simp; try rfl
    try simp only [Act.put,j1,j2,j3,j4,j5,j6]
    refine tL ?_ 7 rfl hS0 ?_ ?_; rotate_left
    · intro w' hSw; obtain ⟨s0, s1, s2, s3, s4, s5, s6, s7, s8, s9, s11⟩ := hSw; go_simp; try rfl
    try simp only [Act.put,j1,j2,j3,j4,j5,j6]
    refine tW ?_ 8 rfl ?_ ?_; rotate_left
    · intro w' hSw; go_simp; try rfl
    try simp only [Act.put,j1,j2,j3,j4,j5,j6]
    refine tL ?_ 9 rfl hS0 ?_ ?_; rotate_left
    · intro w' hSw; obtain ⟨s0, s1, s2, s3, s4, s5, s6, s7, s8, s9, s11⟩ := hSw; go_simp; try rfl
    try simp only [Act.put,j1,j2,j3,j4,j5,j6]
    refine tW ?_ 10 rfl ?_ ?_; rotate_left
    · intro w' hSw; go_simp; try rfl
    try simp only [Act.put,j1,j2,j3,j4,j5,j6]
    refine tL ?_ 11 rfl hS0 ?_ ?_; rotate_left
    · intro w' hSw; obtain ⟨s0, s1, s2, s3, s4, s5, s6, s7, s8, s9, s11⟩ := hSw; go_simp; try rfl
    try simp only [Act.put,j1,j2,j3,j4,j5,j6]
    refine tW ?_ 12 rfl ?_ ?_; rotate_left
    · intro w' hSw; go_simp; try rfl
    try simp only [Act.put,j1,j2,j3,j4,j5,j6]
    refine tL ?_ 13 rfl hS0 ?_ ?_; rotate_left
    · intro w' hSw; obtain ⟨s0, s1, s2, s3, s4, s5, s6, s7, s8, s9, s11⟩ := hSw; go_simp; try rfl
    try simp only [Act.put,j1,j2,j3,j4,j5,j6]
    refine tW ?_ 14 rfl ?_ ?_; rotate_left
    · intro w' hSw; go_simp; try rfl
    try simp only [Act.put,j1,j2,j3,j4,j5,j6]
    refine tL ?_ 15 rfl hS0 ?_ ?_; rotate_left
    · intro w' hSw; obtain ⟨s0, s1, s2, s3, s4, s5, s6, s7, s8, s9, s11⟩ := hSw; go_simp; try rfl
    try simp only [Act.put,j1,j2,j3,j4,j5,j6]
    refine tW ?_ 16 rfl ?_ ?_; rotate_left
    · intro w' hSw; go_simp; try rfl
    try simp only [Act.put,j1,j2,j3,j4,j5,j6]
    refine tL ?_ 17 rfl hS0 ?_ ?_; rotate_left
    · intro w' hSw; obtain ⟨s0, s1, s2, s3, s4, s5, s6, s7, s8, s9, s11⟩ := hSw; go_simp; try rfl
    try simp only [Act.put,j1,j2,j3,j4,j5,j6]
    refine tW ?_ 21 rfl ?_ ?_; rotate_left
    · intro w' hSw; go_simp; try rfl
    try simp only [Act.put,j1,j2,j3,j4,j5,j6]
    refine tL ?_ 22 rfl hS0 ?_ ?_; rotate_left
    · intro w' hSw; obtain ⟨s0, s1, s2, s3, s4, s5, s6, s7, s8, s9, s11⟩ := hSw; go_simp; try rfl
    try simp only [Act.put,j1,j2,j3,j4,j5,j6]
    refine tW ?_ 23 rfl ?_ ?_; rotate_left
    · intro w' hSw; go_simp; try rfl
    try simp only [Act.put,j1,j2,j3,j4,j5,j6]
    refine tL ?_ 24 rfl hS0 ?_ ?_; rotate_left
    · intro w' hSw; obtain ⟨s0, s1, s2, s3, s4, s5, s6, s7, s8, s9, s11⟩ := hSw; go_simp; try rfl
    try simp only [Act.put,j1,j2,j3,j4,j5,j6]
    refine wpAnyG_one (i := 18) (by kernel_rfl) rfl hS0 (fun K' hK => ?_)
    simp only [j1,j2,j3]
    go_simp
    obtain ⟨x1, hx1⟩ : ∃ x, (x0.alloc (.cells #[.int .i64 (s.w : Int), .int .i64 (s.h : Int), .int .i64 (s.x : Int), .int .i64 (s.y : Int), .int .i64 (s.look : Int), .int .i64 (s.top : Int), .int .i64 (s.bot : Int), .int .i64 (s.sx : Int), .int .i64 (s.sy : Int)] 3)).drew = x := ⟨_, rfl⟩
    have HB1 : Hid (Below x0.heap.size x0 x1) := Lib.hid (by rw [← hx1]; exact ((Below.refl _ _).alloc (Nat.le_refl _) _).drew)
    have HS1 : Hid (Sl intE 1 x1 (some ⟨x0.heap.size, 0, none⟩) (nineL s.i)) := Lib.hid (by rw [← hx1]; exact boxL' (enc := intE) (w := x0.drew) (fun _ => rfl) (nineL s.i) _ _ (by simp [nineL, intE, Scr.i]) _ (by simp))
    rw [hx1]
    clear hx1
    refine hK.out _ _ (Or.inr (HSB.out x1 HB1.out)) ?_
    clear hK K'
    try simp only [Act.put,j1,j2,j3,j4,j5,j6]
    refine wpAnyG_one (i := 19) (by kernel_rfl) rfl ((HSB.out x1 HB1.out)) (fun K' hK => ?_)
    simp only [j1,j2,j3]
    go_simp
    go_at_call 96
    refine (HNU.out _ _ HS1.out).mono ?_
    rintro e x2 ⟨v2, rfl, hf2, hbc⟩
    obtain ⟨a2, c2, rfl, hc2, ho2⟩ := id hf2
    have HT : Hid (Sl byteE 1 x2 a2 NL) := Lib.hid (Sl.of_own (fun _ => rfl) ho2)
    have HB2 : Hid (Below x0.heap.size x0 x2) := Lib.hid (HB1.out.trans (hbc.mono HB1.out.size))
    clear hf2 hc2 ho2 hbc
    refine hK.out _ _ (Or.inr (HSB.out x2 HB2.out)) ?_
    clear hK K'
    try simp only [Act.put,j1,j2,j3,j4,j5,j6]
    refine wpAnyG_br (rs := [20, 25]) (by kernel_rfl) (by simp) ?_
    intro j hj
    simp only [List.mem_cons, List.not_mem_nil, or_false] at hj
    rcases hj with rfl | rfl
    · skip
      have hcv : (convert 22 9 (.slice a2 NL.length c2)).run Tryz.prog x2 = .ok (.string N9) x2 := by rw [← HNS.out]; exact convT HT.out
      refine ⟨_, rfl, fun K' hK => ?_⟩
      simp only [j1,j2,j3]
      go_simp
      try simp only [hcv, Result.andThen_ok]
      clear hcv
      refine hK.out _ _ (Or.inr (HSB.out x2 HB2.out)) ?_
      clear hK K'
      try simp only [Act.put,j1,j2,j3,j4,j5,j6]
      refine wpAnyG_one (i := 25) (by kernel_rfl) rfl ((HSB.out x2 HB2.out)) (fun K' hK => ?_)
      simp only [j1,j2,j3]
      go_simp
      go_at_call 97
      refine (HFI.out _ (HB0.out.trans (HB2.out.mono HB0.out.size))).mono ?_
      rintro e x3 ⟨v3, rfl, hf3, hbc⟩
      obtain ⟨a3, c3, rfl, hc3, ho3⟩ := id hf3
      have HT3 : Hid (Sl byteE 1 x3 a3 HL) := Lib.hid (Sl.of_own (fun _ => rfl) ho3)
      have HB3 : Hid (Below x0.heap.size x0 x3) := Lib.hid (HB2.out.trans (hbc.mono HB2.out.size))
      have HT2 : Hid (Sl byteE 1 x3 a2 NL) := Lib.hid (HT.out.keep hbc)
      clear hf3 hc3 ho3 hbc
      refine hK.out _ _ (Or.inr (HSB.out x3 HB3.out)) ?_
      clear hK K'
      try simp only [Act.put,j1,j2,j3,j4,j5,j6]
      have hcv : (convert 22 9 (.slice a3 HL.length c3)).run Tryz.prog x3 = .ok (.string HH) x3 := by rw [← HHS.out]; exact convT HT3.out
      refine wpAnyG_one (i := 26) (by kernel_rfl) rfl ((HSB.out x3 HB3.out)) (fun K' hK => ?_)
      simp only [j1,j2,j3]
      go_simp
      try simp only [hcv, Result.andThen_ok]
      clear hcv
      refine hK.out _ _ (Or.inr (HSB.out x3 HB3.out)) ?_
      clear hK K'
      try simp only [Act.put,j1,j2,j3,j4,j5,j6]
      refine wpAnyG_one (i := 27) (by kernel_rfl) rfl ((HSB.out x3 HB3.out)) (fun K' hK => ?_)
      simp only [j1,j2,j3]
      go_simp
      obtain ⟨x4, hx4⟩ : ∃ x, x3.alloc (.cells #[.string N9, .string s.title, .string HH] 9) = x := ⟨_, rfl⟩
      have HB4 : Hid (Below x0.heap.size x0 x4) := Lib.hid (by rw [← hx4]; exact HB3.out.alloc HB3.out.size _)
      have HF4 : Hid (FreshIn strE 9 1 (w.heap.size + 1) x4.heap.size (.slice (some ⟨x3.heap.size, 0, none⟩) 3 3) [N9, s.title, HH] x4) := Lib.hid (by rw [← hx4]; exact FreshIn.of_owns (cs := [.string N9, .string s.title, .string HH]) ⟨rfl, .inr ⟨x3.heap.size, 3, _, rfl, by have := HB3.out.size; omega, heap_alloc_new x3 _, Nat.le_refl _, by unfold maxLen; omega, rfl, by simp⟩⟩ rfl (by simp [strE]) (by simp))
      rw [hx4]
      clear hx4
      refine hK.out _ _ (Or.inr (HSB.out x4 HB4.out)) ?_
      clear hK K'
      try simp only [Act.put,j1,j2,j3,j4,j5,j6]
      refine tW ?_ 28 rfl ?_ ?_; rotate_left
      · intro w' hSw; go_simp; try rfl
      try simp only [Act.put,j1,j2,j3,j4,j5,j6]
      refine wpAnyG_done (by kernel_rfl) ?_ _
      go_wp2_with fail
      go_meet
      exact ⟨_, rfl, Lib.hid ⟨HB4.out, HF4.out⟩⟩
    · skip
      refine ⟨_, rfl, fun K' hK => ?_⟩
      simp only [j1,j2,j3]
      go_simp
      go_at_call 97
      refine (HFI.out _ (HB0.out.trans (HB2.out.mono HB0.out.size))).mono ?_
      rintro e x3 ⟨v3, rfl, hf3, hbc⟩
      obtain ⟨a3, c3, rfl, hc3, ho3⟩ := id hf3
      have HT3 : Hid (Sl byteE 1 x3 a3 HL) := Lib.hid (Sl.of_own (fun _ => rfl) ho3)
      have HB3 : Hid (Below x0.heap.size x0 x3) := Lib.hid (HB2.out.trans (hbc.mono HB2.out.size))
      have HT2 : Hid (Sl byteE 1 x3 a2 NL) := Lib.hid (HT.out.keep hbc)
      clear hf3 hc3 ho3 hbc
      refine hK.out _ _ (Or.inr (HSB.out x3 HB3.out)) ?_
      clear hK K'
      try simp only [Act.put,j1,j2,j3,j4,j5,j6]
      refine wpAnyG_br (rs := [20, 26]) (by kernel_rfl) (by simp) ?_
      intro j hj
      simp only [List.mem_cons, List.not_mem_nil, or_false] at hj
      rcases hj with rfl | rfl
      · skip
        have hcv : (convert 22 9 (.slice a2 NL.length c2)).run Tryz.prog x3 = .ok (.string N9) x3 := by rw [← HNS.out]; exact convT HT2.out
        refine ⟨_, rfl, fun K' hK => ?_⟩
        simp only [j1,j2,j3]
        go_simp
        try simp only [hcv, Result.andThen_ok]
        clear hcv
        refine hK.out _ _ (Or.inr (HSB.out x3 HB3.out)) ?_
        clear hK K'
        try simp only [Act.put,j1,j2,j3,j4,j5,j6]
        have hcv : (convert 22 9 (.slice a3 HL.length c3)).run Tryz.prog x3 = .ok (.string HH) x3 := by rw [← HHS.out]; exact convT HT3.out
        refine wpAnyG_one (i := 26) (by kernel_rfl) rfl ((HSB.out x3 HB3.out)) (fun K' hK => ?_)
        simp only [j1,j2,j3]
        go_simp
        try simp only [hcv, Result.andThen_ok]
        clear hcv
        refine hK.out _ _ (Or.inr (HSB.out x3 HB3.out)) ?_
        clear hK K'
        try simp only [Act.put,j1,j2,j3,j4,j5,j6]
        refine wpAnyG_one (i := 27) (by kernel_rfl) rfl ((HSB.out x3 HB3.out)) (fun K' hK => ?_)
        simp only [j1,j2,j3]
        go_simp
        obtain ⟨x4, hx4⟩ : ∃ x, x3.alloc (.cells #[.string N9, .string s.title, .string HH] 9) = x := ⟨_, rfl⟩
        have HB4 : Hid (Below x0.heap.size x0 x4) := Lib.hid (by rw [← hx4]; exact HB3.out.alloc HB3.out.size _)
        have HF4 : Hid (FreshIn strE 9 1 (w.heap.size + 1) x4.heap.size (.slice (some ⟨x3.heap.size, 0, none⟩) 3 3) [N9, s.title, HH] x4) := Lib.hid (by rw [← hx4]; exact FreshIn.of_owns (cs := [.string N9, .string s.title, .string HH]) ⟨rfl, .inr ⟨x3.heap.size, 3, _, rfl, by have := HB3.out.size; omega, heap_alloc_new x3 _, Nat.le_refl _, by unfold maxLen; omega, rfl, by simp⟩⟩ rfl (by simp [strE]) (by simp))
        rw [hx4]
        clear hx4
        refine hK.out _ _ (Or.inr (HSB.out x4 HB4.out)) ?_
        clear hK K'
        try simp only [Act.put,j1,j2,j3,j4,j5,j6]
        refine tW ?_ 28 rfl ?_ ?_; rotate_left
        · intro w' hSw; go_simp; try rfl
        try simp only [Act.put,j1,j2,j3,j4,j5,j6]
        refine wpAnyG_done (by kernel_rfl) ?_ _
        go_wp2_with fail
        go_meet
        exact ⟨_, rfl, Lib.hid ⟨HB4.out, HF4.out⟩⟩
      · skip
        have hcv : (convert 22 9 (.slice a3 HL.length c3)).run Tryz.prog x3 = .ok (.string HH) x3 := by rw [← HHS.out]; exact convT HT3.out
        refine ⟨_, rfl, fun K' hK => ?_⟩
        simp only [j1,j2,j3]
        go_simp
        try simp only [hcv, Result.andThen_ok]
        clear hcv
        refine hK.out _ _ (Or.inr (HSB.out x3 HB3.out)) ?_
        clear hK K'
        try simp only [Act.put,j1,j2,j3,j4,j5,j6]
        have hcv : (convert 22 9 (.slice a2 NL.length c2)).run Tryz.prog x3 = .ok (.string N9) x3 := by rw [← HNS.out]; exact convT HT2.out
        refine wpAnyG_one (i := 20) (by kernel_rfl) rfl ((HSB.out x3 HB3.out)) (fun K' hK => ?_)
        simp only [j1,j2,j3]
        go_simp
        try simp only [hcv, Result.andThen_ok]
        clear hcv
        refine hK.out _ _ (Or.inr (HSB.out x3 HB3.out)) ?_
        clear hK K'
        try simp only [Act.put,j1,j2,j3,j4,j5,j6]
        refine wpAnyG_one (i := 27) (by kernel_rfl) rfl ((HSB.out x3 HB3.out)) (fun K' hK => ?_)
        simp only [j1,j2,j3]
        go_simp
        obtain ⟨x4, hx4⟩ : ∃ x, x3.alloc (.cells #[.string N9, .string s.title, .string HH] 9) = x := ⟨_, rfl⟩
        have HB4 : Hid (Below x0.heap.size x0 x4) := Lib.hid (by rw [← hx4]; exact HB3.out.alloc HB3.out.size _)
        have HF4 : Hid (FreshIn strE 9 1 (w.heap.size + 1) x4.heap.size (.slice (some ⟨x3.heap.size, 0, none⟩) 3 3) [N9, s.title, HH] x4) := Lib.hid (by rw [← hx4]; exact FreshIn.of_owns (cs := [.string N9, .string s.title, .string HH]) ⟨rfl, .inr ⟨x3.heap.size, 3, _, rfl, by have := HB3.out.size; omega, heap_alloc_new x3 _, Nat.le_refl _, by unfold maxLen; omega, rfl, by simp⟩⟩ rfl (by simp [strE]) (by simp))
        rw [hx4]
        clear hx4
        refine hK.out _ _ (Or.inr (HSB.out x4 HB4.out)) ?_
        clear hK K'
        try simp only [Act.put,j1,j2,j3,j4,j5,j6]
        refine tW ?_ 28 rfl ?_ ?_; rotate_left
        · intro w' hSw; go_simp; try rfl
        try simp only [Act.put,j1,j2,j3,j4,j5,j6]
        refine wpAnyG_done (by kernel_rfl) ?_ _
        go_wp2_with fail
        go_meet
        exact ⟨_, rfl, Lib.hid ⟨HB4.out, HF4.out⟩⟩
  case rest =>
    obtain ⟨g, rfl, HC⟩ := hcut
    have HXS : Hid (x0.heap.size = w.heap.size + 1) := HXS
    have k_lx : w.heap.size < x0.heap.size := k_l
    clear hS0 HSB k_0 k_1 k_2 k_3 k_4 k_5 k_6 k_7 k_8 k_9 k_10 k_11 k_l
    obtain ⟨ht, hht⟩ : ∃ n, s.h = n := ⟨_, rfl⟩
    have hh2 : ht ≤ 10 := by rw [← hht]; exact HOK.out.h2
    have HHT := Lib.hid hht
    obtain ⟨e_1, hzc⟩ : wc.cell? ⟨w.heap.size, 1, none⟩ = some (.int .i64 (ht : Int)) ∧ x0.heap.size ≤ wc.heap.size := ⟨by rw [← hht]; exact (HSX.out wc HC.out.1).2.1, HC.out.1.size⟩
    have HCL : Hid (∀ k, k < s.h → ∀ W, ScrS s ac ah W → Calls Tryz.prog 98 #[scrV s ac cc ah dh, .int .i64 k] W fun e w' => e = .returned (.string (strOf (celL (rowI s.i k)))) ∧ Below W.heap.size W w') := Lib.hid (fun k hk W hW => l04Cells_c s ac cc ah dh k W hW (by have := HOK.out.w1; omega) HOK.out.w2 HOK.out.h2 hk HOK.out.cn HOK.out.cs)
    unfold scrV at HCL
    rw [hht] at HSX HCL ⊢
    clear hht
    go_wp2_with fail
    go_loopw [3, 4] (fun v i wr => ∃ (k : Nat) (av : Option Addr) (cv : Nat) (L : List ByteArray), k ≤ ht ∧ i = .int .i64 k ∧ v = .slice av L.length cv ∧ L.length ≤ 13 ∧ Hid (L = [N9, s.title, HH] ++ rowsL s.i k ∧ FreshIn strE 9 1 (w.heap.size + 1) wr.heap.size (.slice av L.length cv) L wr ∧ Below x0.heap.size x0 wr)) (fun _ i _ => ht - (intOf i).toNat)
    case atStart => exact ⟨0, _, _, [N9, s.title, HH], Nat.zero_le _, rfl, rfl, by simp, Lib.hid ⟨by simp [rowsL], HC.out.2, HC.out.1⟩⟩
    case round =>
      obtain ⟨k, av, cv, L, hk, rfl, rfl, hL13, HQ⟩ := hrel
      obtain ⟨k_0, k_1, k_2, k_3, k_4, k_5, k_6, k_7, k_8, k_9, k_10, k_11⟩ := HSX.out wr HQ.out.2.2
      by_cases hlt : k < ht
      · have hlt' : (k : Int) < (ht : Int) := by omega
        have HRW : Hid (rowsL s.i (k + 1) = rowsL s.i k ++ [strOf (celL (rowI s.i k))]) := Lib.hid (by simp [rowsL, List.range_succ])
        obtain ⟨R, hR⟩ : ∃ R, strOf (celL (rowI s.i k)) = R := ⟨_, rfl⟩
        have HCT : Hid (∀ W, Below wr.heap.size wr W → Calls Tryz.prog 98 #[.agg #[.int .i64 (s.w : Int), .int .i64 (ht : Int), .int .i64 (s.x : Int), .int .i64 (s.y : Int), .int .i64 (s.look : Int), .int .i64 (s.top : Int), .int .i64 (s.bot : Int), .int .i64 (s.sx : Int), .int .i64 (s.sy : Int), .string s.title, .slice ac s.cells.length cc, .slice ah s.hist.length dh], .int .i64 k] W fun e w' => e = .returned (.string R) ∧ Below W.heap.size W w') := Lib.hid (fun W hW => by rw [← hR]; exact HCL.out k hlt W (((HSR.out wr HQ.out.2.2).1).below hW))
        rw [hR] at HRW
        clear hR
        have HZ : Hid (L.length + 1 ≤ 13) := Lib.hid (by rw [HQ.out.1]; simp [rowsL]; omega)
        go_upto_region 5 with fail
        go_wp2_with fail
        refine (HCT.out wr (Below.refl _ _)).mono ?_
        rintro e w2 ⟨rfl, hb2⟩
        have HB2' := Lib.hid hb2
        have hzq := hb2.size
        have hzb := HQ.out.2.2.size
        have HF2 : Hid (FreshIn strE 9 1 (w.heap.size + 1) w2.heap.size (.slice av L.length cv) L w2) := Lib.hid ((HQ.out.2.1.below hb2).mono (Nat.le_refl _) hzq)
        clear hb2
        go_wp2_with (first
          | (skip
             at_builtin
             refine wpList_append_fresh rfl (.tmp 39) (.tmp 43) 24 24 rfl (w.heap.size + 1) (w2.heap.size) 9 i0 (.string ⟨#[]⟩) 1 16 Tryz.underlying24 hi hz0 hz1 hz2 rfl (by decide) (.slice av L.length cv) (L) rfl (HF2.out.alloc _) _ ([R]) rfl (Src.ofBox (enc := strE) (w := w2) Tryz.underlying24 (fun _ => rfl) strOneC R #[.string R] 9 rfl w2.heap.size rfl) (by (try simp) <;> (try omega)) (by (try simp) <;> (try omega)) ?_
             intro a3 c3 w3 L3 hL3 hf3 hm3
             skip))
        go_roundw
        case rel =>
          have e3 : L3 = [N9, s.title, HH] ++ rowsL s.i (k + 1) := by rw [hL3.out, HQ.out.1, HRW.out, List.append_assoc]
          refine ⟨k + 1, a3, c3, L3, by omega, by go_num, rfl, by rw [hL3.out, List.length_append]; exact HZ.out, Lib.hid ⟨e3, hf3.1.here, ?_⟩⟩
          exact (HQ.out.2.2.trans ((HB2'.out.alloc hzq _).mono hzb)).trans (hm3.below (B := x0.heap.size) (by have := HXS.out; omega) (by simp; omega))
        case measure => simp [intOf]; omega
      · obtain rfl : k = ht := by omega
        have HLE : Hid (L = N9 :: s.title :: HH :: rowsL s.i s.h) := Lib.hid (by rw [HQ.out.1, HHT.out]; rfl)
        obtain ⟨T, hT⟩ : ∃ T, fldL L = T := ⟨_, rfl⟩
        have HT : Hid (fldL (N9 :: s.title :: HH :: rowsL s.i s.h) = T) := Lib.hid (by rw [← HLE.out]; exact hT)
        have HFC : Hid (Calls Tryz.prog 97 #[.slice av L.length cv] wr (FreshR byteE 5 1 wr T)) := Lib.hid (by
          rw [← hT]
          refine l02Fields_c av cv L wr (HQ.out.2.1.sl (fun _ => rfl)) (by omega) (fun r hr => ?_)
          rw [HLE.out] at hr
          have := HFS.out r hr
          omega)
        clear hT
        go_wp2_with fail
        refine HFC.out.mono ?_
        rintro e w2 ⟨v2, rfl, hf2, hb2⟩
        obtain ⟨a2, c2, rfl, hc2, ho2⟩ := id hf2
        have HT2 : Hid (Sl byteE 1 w2 a2 T) := Lib.hid (Sl.of_own (fun _ => rfl) ho2)
        have HB2' := Lib.hid hb2
        have hcv : (convert 22 9 (.slice a2 T.length c2)).run Tryz.prog w2 = .ok (.string (strOf T)) w2 := convT HT2.out
        clear hf2 hc2 ho2 hb2
        go_wp2_with fail
        go_ret
        exact ⟨by rw [HT.out]; rfl, HB0.out.trans ((HQ.out.2.2.trans (HB2'.out.mono HQ.out.2.2.size)).mono HB0.out.size)⟩
end
end Go.Proofs.YtjmpgeffkdjpdaaGreatDoor
